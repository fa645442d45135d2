/- Texts of this seat, merged: part 5. -/
import Derived.Test.YtcidgbjgeegepaaMg4
/- net and journal: wakes. Printed by a program of this seat's prover. -/
namespace Go.Proofs.Ytcidgbjgeegepaa
open Go Go.RowKit
set_option maxRecDepth 10000
/-- The nets of wakes. -/
def wk0 : NV := ([⟨0, [1#8, 2#8], false⟩, ⟨4, [3#8], false⟩], 0)
def wk1 : NV := (doV wk0 ⟨4, 0, 0, 1#32⟩).2.1
def wk2 : NV := (doV wk1 ⟨3, 0, 0, 0#32⟩).2.1
def wk3 : NV := (doV wk2 ⟨1, 2, 0, 0#32⟩).2.1
theorem chk_of {x : Hd × List (RowG By)} {n : NV} (h : x.1.nv = n) (hc : checkV n.1 n.2 = true) : checkV (pvs x.1.n.l) x.1.lost = true := by subst h; exact hc
theorem doe_of {x : Hd × List (RowG By)} {n : NV} {t : Trk} {e : Int} (h : x.1.nv = n) (hc : (doV n t).1 = e) : (doV (pvs x.1.n.l, x.1.lost) t).1 = e := by subst h; exact hc
theorem netis_of {x y : Hd × List (RowG By)} {n : NV} {t : Trk} (h : x.1.nv = n) (hk : NetIs (doV (pvs x.1.n.l, x.1.lost) t).2.1 y) : NetIs (doV n t).2.1 y := by subst h; exact hk
theorem told_of {x : Hd × List (RowG By)} {n : NV} {t : Trk} {q : Pcl} (h : x.1.nv = n) (hk : q.pv = toldV (doV (pvs x.1.n.l, x.1.lost) t).2.2) : q.pv = toldV (doV n t).2.2 := by subst h; exact hk
theorem net_len {x : Hd × List (RowG By)} {n : NV} {k : Nat} (h : x.1.nv = n) (hc : n.1.length = k) : x.1.n.l.length = k := by subst h; rw [← hc]; exact (pvs_len _).symm
theorem told_at {w : World} {bs : List (RowG By)} {q : Pcl} (h : poolH 5 1 byc bs w) (hq : q.r ∈ bs ∧ q.r.l.length ≤ 10000 ∨ q.r = ⟨none, 0, []⟩) : SliceAt w q.r.a q.r.cap 1 byc q.r.l :=
  hq.elim (fun h1 => poolAt byc_len h h1.1) fun e => by rw [e]; exact sliceNil w
theorem told_cap {w : World} {bs : List (RowG By)} {q : Pcl} (h : poolH 5 1 byc bs w) (hq : q.r ∈ bs ∧ q.r.l.length ≤ 10000 ∨ q.r = ⟨none, 0, []⟩) : q.r.cap ≤ Go.maxLen :=
  hq.elim (fun h1 => poolCap h h1.1) fun e => by rw [e]; decide
theorem toV_eq (ps : List Pcl) (to : Int) : toV ps to = (List.range (pvs ps).length).filter fun i => decide (((pvs ps)[i]?).map PV.to = some to) := by
  unfold toV phiT
  rw [pvs_len]
  congr 1
  funext i
  unfold pvs
  rw [List.getElem?_map]
  cases ps[i]? <;> rfl
theorem toV_of {x : Hd × List (RowG By)} {n : NV} {to : Int} {k : Nat} (h : x.1.nv = n) (hc : ((List.range n.1.length).filter fun i => decide ((n.1[i]?).map PV.to = some to))[0]? = some k) : (toV x.1.n.l to)[0]? = some k := by
  subst h; rw [toV_eq]; exact hc
theorem first_of {l : List Nat} {k : Nat} (h : l[0]? = some k) : Value.tuple #[.int .i64 ((l[0]?.getD 0 : Nat) : Int), .bool (l[0]?).isSome] = .tuple #[.int .i64 (k : Int), .bool true] := by rw [h]; rfl

set_option maxHeartbeats 1000000 in
theorem nwakes_c (w : World) : Calls Try.prog 11 #[] w fun e w' => e = .returned (.bool true) ∧ Below w.heap.size w w' := by
  refine calls_of_T (l := []) 137 Try.func11 rfl rfl rfl ?_
  show T _ _ _ [] []
  refine T_seq (T_region ?_)
  refine TL_q (.bool false) (fun _ _ hρ _ => r_assign (hρ _ _ rfl)) rfl rfl rfl (w_n rfl) ?_
  refine TL_seq ?_
  refine T_seq (T_region ?_)
  refine TL_call (.agg #[.slice none 0 0, .int .u64 0]) (fun _ _ hρ _ => r_call (args := []) (enters_of Try.func14 (by kernel_rfl) rfl) (hρ _ _ rfl) (by rfl) rfl) (fun w _ => nnew_c w) rfl rfl rfl (w_n rfl) ?_
  refine TL_new 1 (.cells #[.int .u8 1, .int .u8 2] 5) (fun B => .slice (some ⟨B, 0, none⟩) 2 2) (fun _ _ hρ _ => r_buildSlice (vs := [(0, .int .u8 1), (1, .int .u8 2)]) (by kernel_rfl) (cons2 (pair2 (hρ _ _ rfl)) (cons2 (pair2 (hρ _ _ rfl)) rfl))) rfl rfl rfl (w_n rfl) ?_
  intro B1
  refine TL_q (.agg #[.int .i64 0, .slice (some ⟨B1, 0, none⟩) 2 2, .bool false]) (fun _ _ hρ _ => r_build (vs := [(1, .slice (some ⟨B1, 0, none⟩) 2 2)]) (by kernel_rfl) (cons2 (pair2 (hρ _ _ rfl)) rfl)) rfl rfl rfl (w_n rfl) ?_
  refine TL_new 2 (.cells #[.int .u8 3] 5) (fun B => .slice (some ⟨B, 0, none⟩) 1 1) (fun _ _ hρ _ => r_buildSlice (vs := [(0, .int .u8 3)]) (by kernel_rfl) (cons2 (pair2 (hρ _ _ rfl)) rfl)) rfl rfl rfl (w_n rfl) ?_
  intro B2
  refine TL_q (.agg #[.int .i64 4, .slice (some ⟨B2, 0, none⟩) 1 1, .bool false]) (fun _ _ hρ _ => r_build (vs := [(0, .int .i64 4), (1, .slice (some ⟨B2, 0, none⟩) 1 1)]) (by kernel_rfl) (cons2 (pair2 (hρ _ _ rfl)) (cons2 (pair2 (hρ _ _ rfl)) rfl))) rfl rfl rfl (w_n rfl) ?_
  refine TL_new 3 (.cells #[.int .i64 0, .slice (some ⟨B1, 0, none⟩) 2 2, .bool false, .int .i64 4, .slice (some ⟨B2, 0, none⟩) 1 1, .bool false] 36) (fun B => .slice (some ⟨B, 0, none⟩) 2 2) (fun _ _ hρ _ => r_buildSlice (vs := [(0, .agg #[.int .i64 0, .slice (some ⟨B1, 0, none⟩) 2 2, .bool false]), (1, .agg #[.int .i64 4, .slice (some ⟨B2, 0, none⟩) 1 1, .bool false])]) (by kernel_rfl) (cons2 (pair2 (hρ _ _ rfl)) (cons2 (pair2 (hρ _ _ rfl)) rfl))) rfl rfl rfl (w_n rfl) ?_
  intro B3
  refine TL_callN (fun x : Hd × List (RowG By) => NetIs wk0 x) (fun (h4, bs4) => .tuple #[.agg #[.slice h4.n.a h4.n.l.length h4.n.cap, .int .u64 h4.lost], .int .i64 0]) (fun (h4, bs4) => [(4, .row (.slice h4.n.a h4.n.l.length h4.n.cap) 36 3 h4.n.l.length (h4.n.l.flatMap Pcl.cells)), (5, .pool 5 1 byc bs4)]) (fun _ _ hρ _ => r_call (args := [.agg #[.slice none 0 0, .int .u64 0], .slice (some ⟨B3, 0, none⟩) 2 2]) (enters_of Try.func13 (by kernel_rfl) rfl) (hρ _ _ rfl) ((cons2 (hρ _ _ rfl) (cons2 (hρ _ _ rfl) rfl))) rfl) (fun w hm => (send_ok [] none 0 0 ([⟨0, ⟨(some ⟨B1, 0, none⟩), 2, [1#8, 2#8]⟩, false⟩, ⟨4, ⟨(some ⟨B2, 0, none⟩), 1, [3#8]⟩, false⟩] : List Pcl) (some ⟨B3, 0, none⟩) 2 w (sliceNil w) (by decide) (pcsNil w) ⟨Nat.le_of_ble_eq_true rfl, (fun e => by cases e), .inr ⟨_, 0, _, _, _, rfl, (hm.at 3 rfl), row_of_take (fun _ => rfl) rfl⟩⟩ (Nat.le_of_ble_eq_true rfl) (List.forall_mem_cons.2 ⟨⟨⟨Nat.le_of_ble_eq_true rfl, (fun e => by cases e), .inr ⟨_, 0, _, _, _, rfl, (hm.at 1 rfl), row_of_take (fun _ => rfl) rfl⟩⟩, (Nat.le_of_ble_eq_true rfl), Nat.le_of_ble_eq_true rfl⟩, (List.forall_mem_cons.2 ⟨⟨⟨Nat.le_of_ble_eq_true rfl, (fun e => by cases e), .inr ⟨_, 0, _, _, _, rfl, (hm.at 2 rfl), row_of_take (fun _ => rfl) rfl⟩⟩, (Nat.le_of_ble_eq_true rfl), Nat.le_of_ble_eq_true rfl⟩, (fun _ h => nomatch h)⟩)⟩) (Int.le_refl _) rfl rfl).mono fun e w' ⟨⟨h, bs⟩, hk, he, hb, hn⟩ => ⟨(h, bs), hk, he, hb, newOk2 4 5 hn.row hn.pool hn.sep⟩) rfl rfl rfl (w_n rfl) ?_
  rintro ⟨h4, bs4⟩ hk4
  refine TL_q (.tuple #[.agg #[.slice h4.n.a h4.n.l.length h4.n.cap, .int .u64 h4.lost], .int .i64 0]) (fun _ _ hρ _ => r_move (hρ _ _ rfl)) rfl rfl rfl (w_n rfl) ?_
  refine TL_q (.agg #[.slice h4.n.a h4.n.l.length h4.n.cap, .int .u64 h4.lost]) (fun _ _ hρ _ => r_extract (hρ _ _ rfl) rfl) rfl rfl rfl (w_n rfl) ?_
  refine TL_q (.int .i64 0) (fun _ _ hρ _ => r_extract (hρ _ _ rfl) rfl) rfl rfl rfl (w_n rfl) ?_
  refine TL_new 6 (.cells #[.slice none 0 0, .int .u64 0] 27) (fun B => .pointer (some ⟨B, 0, none⟩)) (fun _ _ _ _ => r_alloc (v := .agg #[.slice none 0 0, .int .u64 0]) (by kernel_rfl) rfl) rfl rfl rfl (w_n rfl) ?_
  intro B5
  refine TL_store 6 (.cells #[.slice h4.n.a h4.n.l.length h4.n.cap, .int .u64 h4.lost] 27) rfl (fun _ _ hρ hm => r_store sz27 (hρ _ _ rfl) (hρ _ _ rfl) (hm.at 6 rfl) rfl rfl rfl rfl) rfl rfl (w_n rfl) ?_
  refine TL_q (.int .i64 0) (fun _ _ hρ _ => r_assign (hρ _ _ rfl)) rfl rfl rfl (w_n rfl) ?_
  refine TL_seq ?_
  refine T_seq (T_region ?_)
  refine TL_q (.agg #[.slice h4.n.a h4.n.l.length h4.n.cap, .int .u64 h4.lost]) (fun _ _ hρ hm => r_loadA ag27 sz27 (hρ _ _ rfl) (hm.at 6 rfl) rfl rfl) rfl rfl rfl (w_n rfl) ?_
  refine TL_call (.tuple #[.int .i64 1, .bool true]) (fun _ _ hρ _ => r_call (args := [.agg #[.slice h4.n.a h4.n.l.length h4.n.cap, .int .u64 h4.lost], .int .i64 4]) (enters_of Try.func17 (by kernel_rfl) rfl) (hρ _ _ rfl) ((cons2 (hρ _ _ rfl) (cons2 (hρ _ _ rfl) rfl))) rfl) (fun w hm => (first_ok h4.n.l h4.n.a h4.n.cap h4.lost 4 w (SliceAt.own Pcl.cells_len (hm.row 4 rfl) rfl rfl) (row_cap (hm.row 4 rfl)) (pcs_pool (hm.pool 5 rfl) hk4.ok.inN) (chk_of hk4.nv (by decide +kernel))).mono fun _ _ h => ⟨h.1.trans (congrArg Ending.returned (first_of (toV_of hk4.nv (by decide +kernel)))), h.2⟩) rfl rfl rfl (w_n rfl) ?_
  refine TL_q (.tuple #[.int .i64 1, .bool true]) (fun _ _ hρ _ => r_move (hρ _ _ rfl)) rfl rfl rfl (w_n rfl) ?_
  refine TL_q (.int .i64 1) (fun _ _ hρ _ => r_extract (hρ _ _ rfl) rfl) rfl rfl rfl (w_n rfl) ?_
  refine TL_q (.bool true) (fun _ _ hρ _ => r_extract (hρ _ _ rfl) rfl) rfl rfl rfl (w_n rfl) ?_
  refine TL_q (.int .i64 1) (fun _ _ hρ _ => r_assign (hρ _ _ rfl)) rfl rfl rfl (w_n rfl) ?_
  refine TL_q (.bool true) (fun _ _ hρ _ => r_assign (hρ _ _ rfl)) rfl rfl rfl (w_n rfl) ?_
  refine TL_seq ?_
  refine T_seq (T_region ?_)
  refine TL_q (.agg #[.slice h4.n.a h4.n.l.length h4.n.cap, .int .u64 h4.lost]) (fun _ _ hρ hm => r_loadA ag27 sz27 (hρ _ _ rfl) (hm.at 6 rfl) rfl rfl) rfl rfl rfl (w_n rfl) ?_
  refine TL_q (.agg #[.int .i64 4, .int .i64 0, .int .i64 0, .int .u32 1]) (fun _ _ hρ _ => r_build (vs := [(0, .int .i64 4), (3, .int .u32 1)]) (by kernel_rfl) (cons2 (pair2 (hρ _ _ rfl)) (cons2 (pair2 (hρ _ _ rfl)) rfl))) rfl rfl rfl (w_n rfl) ?_
  refine TL_callN (fun x : Hd × List (RowG By) × Pcl => NetIs wk1 (x.1, x.2.1) ∧ x.2.2.pv = toldV (doV wk0 ⟨4, 0, 0, 1#32⟩).2.2 ∧ (x.2.2.r ∈ x.2.1 ∧ x.2.2.r.l.length ≤ 10000 ∨ x.2.2.r = ⟨none, 0, []⟩)) (fun (h6, bs6, q6) => .tuple #[.agg #[.slice h6.n.a h6.n.l.length h6.n.cap, .int .u64 h6.lost], .agg #[.int .i64 q6.to, .slice q6.r.a q6.r.l.length q6.r.cap, .bool q6.sp], .int .i64 0]) (fun (h6, bs6, q6) => [(7, .row (.slice h6.n.a h6.n.l.length h6.n.cap) 36 3 h6.n.l.length (h6.n.l.flatMap Pcl.cells)), (8, .pool 5 1 byc bs6)]) (fun _ _ hρ _ => r_call (args := [.agg #[.slice h4.n.a h4.n.l.length h4.n.cap, .int .u64 h4.lost], .agg #[.int .i64 4, .int .i64 0, .int .i64 0, .int .u32 1]]) (enters_of Try.func23 (by kernel_rfl) rfl) (hρ _ _ rfl) ((cons2 (hρ _ _ rfl) (cons2 (hρ _ _ rfl) rfl))) rfl) (fun w hm => (do_ok h4.n.l h4.n.a h4.n.cap h4.lost 4 0 0 (1#32) w (SliceAt.own Pcl.cells_len (hm.row 4 rfl) rfl rfl) (row_cap (hm.row 4 rfl)) (pcs_pool (hm.pool 5 rfl) hk4.ok.inN) hk4.ok.lost0 (chk_of hk4.nv (by decide +kernel)) (doe_of hk4.nv (by decide +kernel))).mono fun e w' ⟨⟨h, bs⟩, q, hk, ht, hi, he, hb, hn⟩ => ⟨(h, bs, q), ⟨netis_of hk4.nv hk, told_of hk4.nv ht, hi⟩, he, hb, newOk2 7 8 hn.row hn.pool hn.sep⟩) rfl rfl rfl (w_n rfl) ?_
  rintro ⟨h6, bs6, q6⟩ ⟨hk6, hq6, hi6⟩
  refine TL_q (.tuple #[.agg #[.slice h6.n.a h6.n.l.length h6.n.cap, .int .u64 h6.lost], .agg #[.int .i64 q6.to, .slice q6.r.a q6.r.l.length q6.r.cap, .bool q6.sp], .int .i64 0]) (fun _ _ hρ _ => r_move (hρ _ _ rfl)) rfl rfl rfl (w_n rfl) ?_
  refine TL_q (.agg #[.slice h6.n.a h6.n.l.length h6.n.cap, .int .u64 h6.lost]) (fun _ _ hρ _ => r_extract (hρ _ _ rfl) rfl) rfl rfl rfl (w_n rfl) ?_
  refine TL_q (.agg #[.int .i64 q6.to, .slice q6.r.a q6.r.l.length q6.r.cap, .bool q6.sp]) (fun _ _ hρ _ => r_extract (hρ _ _ rfl) rfl) rfl rfl rfl (w_n rfl) ?_
  refine TL_q (.int .i64 0) (fun _ _ hρ _ => r_extract (hρ _ _ rfl) rfl) rfl rfl rfl (w_n rfl) ?_
  refine TL_new 9 (.cells #[.int .i64 0, .slice none 0 0, .bool false] 36) (fun B => .pointer (some ⟨B, 0, none⟩)) (fun _ _ _ _ => r_alloc (v := .agg #[.int .i64 0, .slice none 0 0, .bool false]) (by kernel_rfl) rfl) rfl rfl rfl (w_n rfl) ?_
  intro B7
  refine TL_store 6 (.cells #[.slice h6.n.a h6.n.l.length h6.n.cap, .int .u64 h6.lost] 27) rfl (fun _ _ hρ hm => r_store sz27 (hρ _ _ rfl) (hρ _ _ rfl) (hm.at 6 rfl) rfl rfl rfl rfl) rfl rfl (w_n rfl) ?_
  refine TL_store 9 (.cells #[.int .i64 q6.to, .slice q6.r.a q6.r.l.length q6.r.cap, .bool q6.sp] 36) rfl (fun _ _ hρ hm => r_store sz36 (hρ _ _ rfl) (hρ _ _ rfl) (hm.at 9 rfl) rfl rfl rfl rfl) rfl rfl (w_n rfl) ?_
  refine TL_q (.int .i64 0) (fun _ _ hρ _ => r_assign (hρ _ _ rfl)) rfl rfl rfl (w_n rfl) ?_
  refine TL_seq ?_
  refine T_seq (T_region ?_)
  refine TL_q (.agg #[.slice h6.n.a h6.n.l.length h6.n.cap, .int .u64 h6.lost]) (fun _ _ hρ hm => r_loadA ag27 sz27 (hρ _ _ rfl) (hm.at 6 rfl) rfl rfl) rfl rfl rfl (w_n rfl) ?_
  refine TL_q (.agg #[.int .i64 4, .int .i64 0, .int .i64 0, .int .u32 1]) (fun _ _ hρ _ => r_build (vs := [(0, .int .i64 4), (3, .int .u32 1)]) (by kernel_rfl) (cons2 (pair2 (hρ _ _ rfl)) (cons2 (pair2 (hρ _ _ rfl)) rfl))) rfl rfl rfl (w_n rfl) ?_
  refine TL_call (.tuple #[.agg #[.slice none 0 0, .int .u64 0], .agg #[.int .i64 0, .slice none 0 0, .bool false], .int .i64 5]) (fun _ _ hρ _ => r_call (args := [.agg #[.slice h6.n.a h6.n.l.length h6.n.cap, .int .u64 h6.lost], .agg #[.int .i64 4, .int .i64 0, .int .i64 0, .int .u32 1]]) (enters_of Try.func23 (by kernel_rfl) rfl) (hρ _ _ rfl) ((cons2 (hρ _ _ rfl) (cons2 (hρ _ _ rfl) rfl))) rfl) (fun w hm => do_err h6.n.l h6.n.a h6.n.cap h6.lost 4 0 0 (1#32) w (SliceAt.own Pcl.cells_len (hm.row 7 rfl) rfl rfl) (row_cap (hm.row 7 rfl)) (pcs_pool (hm.pool 8 rfl) hk6.ok.inN) 5 hk6.ok.lost0 (chk_of hk6.nv (by decide +kernel)) (doe_of hk6.nv (by decide +kernel)) (by decide)) rfl rfl rfl (w_n rfl) ?_
  refine TL_q (.tuple #[.agg #[.slice none 0 0, .int .u64 0], .agg #[.int .i64 0, .slice none 0 0, .bool false], .int .i64 5]) (fun _ _ hρ _ => r_move (hρ _ _ rfl)) rfl rfl rfl (w_n rfl) ?_
  refine TL_q (.agg #[.slice none 0 0, .int .u64 0]) (fun _ _ hρ _ => r_extract (hρ _ _ rfl) rfl) rfl rfl rfl (w_n rfl) ?_
  refine TL_q (.agg #[.int .i64 0, .slice none 0 0, .bool false]) (fun _ _ hρ _ => r_extract (hρ _ _ rfl) rfl) rfl rfl rfl (w_n rfl) ?_
  refine TL_q (.int .i64 5) (fun _ _ hρ _ => r_extract (hρ _ _ rfl) rfl) rfl rfl rfl (w_n rfl) ?_
  refine TL_new 10 (.cells #[.slice none 0 0, .int .u64 0] 27) (fun B => .pointer (some ⟨B, 0, none⟩)) (fun _ _ _ _ => r_alloc (v := .agg #[.slice none 0 0, .int .u64 0]) (by kernel_rfl) rfl) rfl rfl rfl (w_n rfl) ?_
  intro B8
  refine TL_new 11 (.cells #[.int .i64 0, .slice none 0 0, .bool false] 36) (fun B => .pointer (some ⟨B, 0, none⟩)) (fun _ _ _ _ => r_alloc (v := .agg #[.int .i64 0, .slice none 0 0, .bool false]) (by kernel_rfl) rfl) rfl rfl rfl (w_n rfl) ?_
  intro B9
  refine TL_store 10 (.cells #[.slice none 0 0, .int .u64 0] 27) rfl (fun _ _ hρ hm => r_store sz27 (hρ _ _ rfl) (hρ _ _ rfl) (hm.at 10 rfl) rfl rfl rfl rfl) rfl rfl (w_n rfl) ?_
  refine TL_store 11 (.cells #[.int .i64 0, .slice none 0 0, .bool false] 36) rfl (fun _ _ hρ hm => r_store sz36 (hρ _ _ rfl) (hρ _ _ rfl) (hm.at 11 rfl) rfl rfl rfl rfl) rfl rfl (w_n rfl) ?_
  refine TL_q (.int .i64 5) (fun _ _ hρ _ => r_assign (hρ _ _ rfl)) rfl rfl rfl (w_n rfl) ?_
  refine TL_seq ?_
  refine T_sub [(0, .bool false), (1, .pointer (some ⟨B5, 0, none⟩)), (2, .int .i64 0), (3, .int .i64 1), (4, .bool true), (6, .int .i64 0), (9, .int .i64 5)] [(7, .row (.slice h6.n.a h6.n.l.length h6.n.cap) 36 3 h6.n.l.length (h6.n.l.flatMap Pcl.cells)), (8, .pool 5 1 byc bs6), (4, .row (.slice h4.n.a h4.n.l.length h4.n.cap) 36 3 h4.n.l.length (h4.n.l.flatMap Pcl.cells)), (5, .pool 5 1 byc bs4), (1, .blk B1 (.cells #[.int .u8 1, .int .u8 2] 5)), (2, .blk B2 (.cells #[.int .u8 3] 5)), (3, .blk B3 (.cells #[.int .i64 0, .slice (some ⟨B1, 0, none⟩) 2 2, .bool false, .int .i64 4, .slice (some ⟨B2, 0, none⟩) 1 1, .bool false] 36)), (6, .blk B5 (.cells #[.slice h6.n.a h6.n.l.length h6.n.cap, .int .u64 h6.lost] 27)), (9, .blk B7 (.cells #[.int .i64 q6.to, .slice q6.r.a q6.r.l.length q6.r.cap, .bool q6.sp] 36)), (10, .blk B8 (.cells #[.slice none 0 0, .int .u64 0] 27)), (11, .blk B9 (.cells #[.int .i64 0, .slice none 0 0, .bool false] 36))] (sub_cons rfl (sub_cons rfl (sub_cons rfl (sub_cons rfl (sub_cons rfl (sub_cons rfl (sub_cons rfl sub_nil))))))) (sub_cons rfl (sub_cons rfl (sub_cons rfl (sub_cons rfl (sub_cons rfl (sub_cons rfl (sub_cons rfl (sub_cons rfl (sub_cons rfl (sub_cons rfl (sub_cons rfl sub_nil))))))))))) ?_
  refine T_seq (T_region ?_)
  refine TL_q (.agg #[.slice h6.n.a h6.n.l.length h6.n.cap, .int .u64 h6.lost]) (fun _ _ hρ hm => r_loadA ag27 sz27 (hρ _ _ rfl) (hm.at 6 rfl) rfl rfl) rfl rfl rfl (w_n rfl) ?_
  refine TL_q (.agg #[.int .i64 3, .int .i64 0, .int .i64 0, .int .u32 0]) (fun _ _ hρ _ => r_build (vs := [(0, .int .i64 3)]) (by kernel_rfl) (cons2 (pair2 (hρ _ _ rfl)) rfl)) rfl rfl rfl (w_n rfl) ?_
  refine TL_callN (fun x : Hd × List (RowG By) × Pcl => NetIs wk2 (x.1, x.2.1) ∧ x.2.2.pv = toldV (doV wk1 ⟨3, 0, 0, 0#32⟩).2.2 ∧ (x.2.2.r ∈ x.2.1 ∧ x.2.2.r.l.length ≤ 10000 ∨ x.2.2.r = ⟨none, 0, []⟩)) (fun (h10, bs10, q10) => .tuple #[.agg #[.slice h10.n.a h10.n.l.length h10.n.cap, .int .u64 h10.lost], .agg #[.int .i64 q10.to, .slice q10.r.a q10.r.l.length q10.r.cap, .bool q10.sp], .int .i64 0]) (fun (h10, bs10, q10) => [(12, .row (.slice h10.n.a h10.n.l.length h10.n.cap) 36 3 h10.n.l.length (h10.n.l.flatMap Pcl.cells)), (13, .pool 5 1 byc bs10)]) (fun _ _ hρ _ => r_call (args := [.agg #[.slice h6.n.a h6.n.l.length h6.n.cap, .int .u64 h6.lost], .agg #[.int .i64 3, .int .i64 0, .int .i64 0, .int .u32 0]]) (enters_of Try.func23 (by kernel_rfl) rfl) (hρ _ _ rfl) ((cons2 (hρ _ _ rfl) (cons2 (hρ _ _ rfl) rfl))) rfl) (fun w hm => (do_ok h6.n.l h6.n.a h6.n.cap h6.lost 3 0 0 (0#32) w (SliceAt.own Pcl.cells_len (hm.row 7 rfl) rfl rfl) (row_cap (hm.row 7 rfl)) (pcs_pool (hm.pool 8 rfl) hk6.ok.inN) hk6.ok.lost0 (chk_of hk6.nv (by decide +kernel)) (doe_of hk6.nv (by decide +kernel))).mono fun e w' ⟨⟨h, bs⟩, q, hk, ht, hi, he, hb, hn⟩ => ⟨(h, bs, q), ⟨netis_of hk6.nv hk, told_of hk6.nv ht, hi⟩, he, hb, newOk2 12 13 hn.row hn.pool hn.sep⟩) rfl rfl rfl (w_n rfl) ?_
  rintro ⟨h10, bs10, q10⟩ ⟨hk10, hq10, hi10⟩
  refine TL_q (.tuple #[.agg #[.slice h10.n.a h10.n.l.length h10.n.cap, .int .u64 h10.lost], .agg #[.int .i64 q10.to, .slice q10.r.a q10.r.l.length q10.r.cap, .bool q10.sp], .int .i64 0]) (fun _ _ hρ _ => r_move (hρ _ _ rfl)) rfl rfl rfl (w_n rfl) ?_
  refine TL_q (.agg #[.slice h10.n.a h10.n.l.length h10.n.cap, .int .u64 h10.lost]) (fun _ _ hρ _ => r_extract (hρ _ _ rfl) rfl) rfl rfl rfl (w_n rfl) ?_
  refine TL_q (.agg #[.int .i64 q10.to, .slice q10.r.a q10.r.l.length q10.r.cap, .bool q10.sp]) (fun _ _ hρ _ => r_extract (hρ _ _ rfl) rfl) rfl rfl rfl (w_n rfl) ?_
  refine TL_q (.int .i64 0) (fun _ _ hρ _ => r_extract (hρ _ _ rfl) rfl) rfl rfl rfl (w_n rfl) ?_
  refine TL_new 14 (.cells #[.int .i64 0, .slice none 0 0, .bool false] 36) (fun B => .pointer (some ⟨B, 0, none⟩)) (fun _ _ _ _ => r_alloc (v := .agg #[.int .i64 0, .slice none 0 0, .bool false]) (by kernel_rfl) rfl) rfl rfl rfl (w_n rfl) ?_
  intro B11
  refine TL_store 6 (.cells #[.slice h10.n.a h10.n.l.length h10.n.cap, .int .u64 h10.lost] 27) rfl (fun _ _ hρ hm => r_store sz27 (hρ _ _ rfl) (hρ _ _ rfl) (hm.at 6 rfl) rfl rfl rfl rfl) rfl rfl (w_n rfl) ?_
  refine TL_store 14 (.cells #[.int .i64 q10.to, .slice q10.r.a q10.r.l.length q10.r.cap, .bool q10.sp] 36) rfl (fun _ _ hρ hm => r_store sz36 (hρ _ _ rfl) (hρ _ _ rfl) (hm.at 14 rfl) rfl rfl rfl rfl) rfl rfl (w_n rfl) ?_
  refine TL_q (.int .i64 0) (fun _ _ hρ _ => r_assign (hρ _ _ rfl)) rfl rfl rfl (w_n rfl) ?_
  refine TL_seq ?_
  refine T_seq (T_region ?_)
  refine TL_q (.agg #[.slice h10.n.a h10.n.l.length h10.n.cap, .int .u64 h10.lost]) (fun _ _ hρ hm => r_loadA ag27 sz27 (hρ _ _ rfl) (hm.at 6 rfl) rfl rfl) rfl rfl rfl (w_n rfl) ?_
  refine TL_q (.agg #[.int .i64 1, .int .i64 2, .int .i64 0, .int .u32 0]) (fun _ _ hρ _ => r_build (vs := [(0, .int .i64 1), (1, .int .i64 2)]) (by kernel_rfl) (cons2 (pair2 (hρ _ _ rfl)) (cons2 (pair2 (hρ _ _ rfl)) rfl))) rfl rfl rfl (w_n rfl) ?_
  refine TL_callN (fun x : Hd × List (RowG By) × Pcl => NetIs wk3 (x.1, x.2.1) ∧ x.2.2.pv = toldV (doV wk2 ⟨1, 2, 0, 0#32⟩).2.2 ∧ (x.2.2.r ∈ x.2.1 ∧ x.2.2.r.l.length ≤ 10000 ∨ x.2.2.r = ⟨none, 0, []⟩)) (fun (h12, bs12, q12) => .tuple #[.agg #[.slice h12.n.a h12.n.l.length h12.n.cap, .int .u64 h12.lost], .agg #[.int .i64 q12.to, .slice q12.r.a q12.r.l.length q12.r.cap, .bool q12.sp], .int .i64 0]) (fun (h12, bs12, q12) => [(15, .row (.slice h12.n.a h12.n.l.length h12.n.cap) 36 3 h12.n.l.length (h12.n.l.flatMap Pcl.cells)), (16, .pool 5 1 byc bs12)]) (fun _ _ hρ _ => r_call (args := [.agg #[.slice h10.n.a h10.n.l.length h10.n.cap, .int .u64 h10.lost], .agg #[.int .i64 1, .int .i64 2, .int .i64 0, .int .u32 0]]) (enters_of Try.func23 (by kernel_rfl) rfl) (hρ _ _ rfl) ((cons2 (hρ _ _ rfl) (cons2 (hρ _ _ rfl) rfl))) rfl) (fun w hm => (do_ok h10.n.l h10.n.a h10.n.cap h10.lost 1 2 0 (0#32) w (SliceAt.own Pcl.cells_len (hm.row 12 rfl) rfl rfl) (row_cap (hm.row 12 rfl)) (pcs_pool (hm.pool 13 rfl) hk10.ok.inN) hk10.ok.lost0 (chk_of hk10.nv (by decide +kernel)) (doe_of hk10.nv (by decide +kernel))).mono fun e w' ⟨⟨h, bs⟩, q, hk, ht, hi, he, hb, hn⟩ => ⟨(h, bs, q), ⟨netis_of hk10.nv hk, told_of hk10.nv ht, hi⟩, he, hb, newOk2 15 16 hn.row hn.pool hn.sep⟩) rfl rfl rfl (w_n rfl) ?_
  rintro ⟨h12, bs12, q12⟩ ⟨hk12, hq12, hi12⟩
  refine TL_q (.tuple #[.agg #[.slice h12.n.a h12.n.l.length h12.n.cap, .int .u64 h12.lost], .agg #[.int .i64 q12.to, .slice q12.r.a q12.r.l.length q12.r.cap, .bool q12.sp], .int .i64 0]) (fun _ _ hρ _ => r_move (hρ _ _ rfl)) rfl rfl rfl (w_n rfl) ?_
  refine TL_q (.agg #[.slice h12.n.a h12.n.l.length h12.n.cap, .int .u64 h12.lost]) (fun _ _ hρ _ => r_extract (hρ _ _ rfl) rfl) rfl rfl rfl (w_n rfl) ?_
  refine TL_q (.agg #[.int .i64 q12.to, .slice q12.r.a q12.r.l.length q12.r.cap, .bool q12.sp]) (fun _ _ hρ _ => r_extract (hρ _ _ rfl) rfl) rfl rfl rfl (w_n rfl) ?_
  refine TL_q (.int .i64 0) (fun _ _ hρ _ => r_extract (hρ _ _ rfl) rfl) rfl rfl rfl (w_n rfl) ?_
  refine TL_new 17 (.cells #[.slice none 0 0, .int .u64 0] 27) (fun B => .pointer (some ⟨B, 0, none⟩)) (fun _ _ _ _ => r_alloc (v := .agg #[.slice none 0 0, .int .u64 0]) (by kernel_rfl) rfl) rfl rfl rfl (w_n rfl) ?_
  intro B13
  refine TL_new 18 (.cells #[.int .i64 0, .slice none 0 0, .bool false] 36) (fun B => .pointer (some ⟨B, 0, none⟩)) (fun _ _ _ _ => r_alloc (v := .agg #[.int .i64 0, .slice none 0 0, .bool false]) (by kernel_rfl) rfl) rfl rfl rfl (w_n rfl) ?_
  intro B14
  refine TL_store 17 (.cells #[.slice h12.n.a h12.n.l.length h12.n.cap, .int .u64 h12.lost] 27) rfl (fun _ _ hρ hm => r_store sz27 (hρ _ _ rfl) (hρ _ _ rfl) (hm.at 17 rfl) rfl rfl rfl rfl) rfl rfl (w_n rfl) ?_
  refine TL_store 18 (.cells #[.int .i64 q12.to, .slice q12.r.a q12.r.l.length q12.r.cap, .bool q12.sp] 36) rfl (fun _ _ hρ hm => r_store sz36 (hρ _ _ rfl) (hρ _ _ rfl) (hm.at 18 rfl) rfl rfl rfl rfl) rfl rfl (w_n rfl) ?_
  refine TL_q (.int .i64 0) (fun _ _ hρ _ => r_assign (hρ _ _ rfl)) rfl rfl rfl (w_n rfl) ?_
  refine TL_seq ?_
  refine T_seq (T_region ?_)
  refine TL_q (.agg #[.slice h10.n.a h10.n.l.length h10.n.cap, .int .u64 h10.lost]) (fun _ _ hρ hm => r_loadA ag27 sz27 (hρ _ _ rfl) (hm.at 6 rfl) rfl rfl) rfl rfl rfl (w_n rfl) ?_
  refine TL_q (.agg #[.int .i64 2, .int .i64 9, .int .i64 0, .int .u32 0]) (fun _ _ hρ _ => r_build (vs := [(0, .int .i64 2), (1, .int .i64 9)]) (by kernel_rfl) (cons2 (pair2 (hρ _ _ rfl)) (cons2 (pair2 (hρ _ _ rfl)) rfl))) rfl rfl rfl (w_n rfl) ?_
  refine TL_call (.tuple #[.agg #[.slice none 0 0, .int .u64 0], .agg #[.int .i64 0, .slice none 0 0, .bool false], .int .i64 4]) (fun _ _ hρ _ => r_call (args := [.agg #[.slice h10.n.a h10.n.l.length h10.n.cap, .int .u64 h10.lost], .agg #[.int .i64 2, .int .i64 9, .int .i64 0, .int .u32 0]]) (enters_of Try.func23 (by kernel_rfl) rfl) (hρ _ _ rfl) ((cons2 (hρ _ _ rfl) (cons2 (hρ _ _ rfl) rfl))) rfl) (fun w hm => do_err h10.n.l h10.n.a h10.n.cap h10.lost 2 9 0 (0#32) w (SliceAt.own Pcl.cells_len (hm.row 12 rfl) rfl rfl) (row_cap (hm.row 12 rfl)) (pcs_pool (hm.pool 13 rfl) hk10.ok.inN) 4 hk10.ok.lost0 (chk_of hk10.nv (by decide +kernel)) (doe_of hk10.nv (by decide +kernel)) (by decide)) rfl rfl rfl (w_n rfl) ?_
  refine TL_q (.tuple #[.agg #[.slice none 0 0, .int .u64 0], .agg #[.int .i64 0, .slice none 0 0, .bool false], .int .i64 4]) (fun _ _ hρ _ => r_move (hρ _ _ rfl)) rfl rfl rfl (w_n rfl) ?_
  refine TL_q (.agg #[.slice none 0 0, .int .u64 0]) (fun _ _ hρ _ => r_extract (hρ _ _ rfl) rfl) rfl rfl rfl (w_n rfl) ?_
  refine TL_q (.agg #[.int .i64 0, .slice none 0 0, .bool false]) (fun _ _ hρ _ => r_extract (hρ _ _ rfl) rfl) rfl rfl rfl (w_n rfl) ?_
  refine TL_q (.int .i64 4) (fun _ _ hρ _ => r_extract (hρ _ _ rfl) rfl) rfl rfl rfl (w_n rfl) ?_
  refine TL_new 19 (.cells #[.slice none 0 0, .int .u64 0] 27) (fun B => .pointer (some ⟨B, 0, none⟩)) (fun _ _ _ _ => r_alloc (v := .agg #[.slice none 0 0, .int .u64 0]) (by kernel_rfl) rfl) rfl rfl rfl (w_n rfl) ?_
  intro B15
  refine TL_new 20 (.cells #[.int .i64 0, .slice none 0 0, .bool false] 36) (fun B => .pointer (some ⟨B, 0, none⟩)) (fun _ _ _ _ => r_alloc (v := .agg #[.int .i64 0, .slice none 0 0, .bool false]) (by kernel_rfl) rfl) rfl rfl rfl (w_n rfl) ?_
  intro B16
  refine TL_store 19 (.cells #[.slice none 0 0, .int .u64 0] 27) rfl (fun _ _ hρ hm => r_store sz27 (hρ _ _ rfl) (hρ _ _ rfl) (hm.at 19 rfl) rfl rfl rfl rfl) rfl rfl (w_n rfl) ?_
  refine TL_store 20 (.cells #[.int .i64 0, .slice none 0 0, .bool false] 36) rfl (fun _ _ hρ hm => r_store sz36 (hρ _ _ rfl) (hρ _ _ rfl) (hm.at 20 rfl) rfl rfl rfl rfl) rfl rfl (w_n rfl) ?_
  refine TL_q (.int .i64 4) (fun _ _ hρ _ => r_assign (hρ _ _ rfl)) rfl rfl rfl (w_n rfl) ?_
  refine TL_seq ?_
  refine T_seq (T_region ?_)
  refine TL_q (.agg #[.slice h10.n.a h10.n.l.length h10.n.cap, .int .u64 h10.lost]) (fun _ _ hρ hm => r_loadA ag27 sz27 (hρ _ _ rfl) (hm.at 6 rfl) rfl rfl) rfl rfl rfl (w_n rfl) ?_
  refine TL_callN (fun x : Hd × List (RowG By) => Emptied h10.n.l h10.lost x) (fun (h17, bs17) => .tuple #[.agg #[.slice h17.n.a h17.n.l.length h17.n.cap, .int .u64 h17.lost], .slice h17.t.a h17.t.l.length h17.t.cap, .int .i64 0]) (fun (h17, bs17) => [(21, .row (.slice h17.n.a h17.n.l.length h17.n.cap) 36 3 h17.n.l.length (h17.n.l.flatMap Pcl.cells)), (22, .row (.slice h17.t.a h17.t.l.length h17.t.cap) 36 3 h17.t.l.length (h17.t.l.flatMap Pcl.cells)), (23, .pool 5 1 byc bs17)]) (fun _ _ hρ _ => r_call (args := [.agg #[.slice h10.n.a h10.n.l.length h10.n.cap, .int .u64 h10.lost]]) (enters_of Try.func15 (by kernel_rfl) rfl) (hρ _ _ rfl) ((cons2 (hρ _ _ rfl) rfl)) rfl) (fun w hm => (empty_ok h10.n.l h10.n.a h10.n.cap h10.lost w (SliceAt.own Pcl.cells_len (hm.row 12 rfl) rfl rfl) (row_cap (hm.row 12 rfl)) (pcs_pool (hm.pool 13 rfl) hk10.ok.inN) hk10.ok.lost0 (chk_of hk10.nv (by decide +kernel))).mono fun e w' ⟨x, hx, he, hb, r1, r2, r3, s1, s2, s3⟩ => ⟨x, hx, he, hb, newOk3 21 22 23 r1 r2 r3 s1 s2 s3⟩) rfl rfl rfl (w_n rfl) ?_
  rintro ⟨h17, bs17⟩ hem17
  refine TL_q (.tuple #[.agg #[.slice h17.n.a h17.n.l.length h17.n.cap, .int .u64 h17.lost], .slice h17.t.a h17.t.l.length h17.t.cap, .int .i64 0]) (fun _ _ hρ _ => r_move (hρ _ _ rfl)) rfl rfl rfl (w_n rfl) ?_
  refine TL_q (.agg #[.slice h17.n.a h17.n.l.length h17.n.cap, .int .u64 h17.lost]) (fun _ _ hρ _ => r_extract (hρ _ _ rfl) rfl) rfl rfl rfl (w_n rfl) ?_
  refine TL_q (.slice h17.t.a h17.t.l.length h17.t.cap) (fun _ _ hρ _ => r_extract (hρ _ _ rfl) rfl) rfl rfl rfl (w_n rfl) ?_
  refine TL_q (.int .i64 0) (fun _ _ hρ _ => r_extract (hρ _ _ rfl) rfl) rfl rfl rfl (w_n rfl) ?_
  refine TL_new 24 (.cells #[.slice none 0 0, .int .u64 0] 27) (fun B => .pointer (some ⟨B, 0, none⟩)) (fun _ _ _ _ => r_alloc (v := .agg #[.slice none 0 0, .int .u64 0]) (by kernel_rfl) rfl) rfl rfl rfl (w_n rfl) ?_
  intro B18
  refine TL_store 24 (.cells #[.slice h17.n.a h17.n.l.length h17.n.cap, .int .u64 h17.lost] 27) rfl (fun _ _ hρ hm => r_store sz27 (hρ _ _ rfl) (hρ _ _ rfl) (hm.at 24 rfl) rfl rfl rfl rfl) rfl rfl (w_n rfl) ?_
  refine TL_q (.slice h17.t.a h17.t.l.length h17.t.cap) (fun _ _ hρ _ => r_assign (hρ _ _ rfl)) rfl rfl rfl (w_n rfl) ?_
  refine TL_q (.int .i64 0) (fun _ _ hρ _ => r_assign (hρ _ _ rfl)) rfl rfl rfl (w_n rfl) ?_
  refine TL_seq ?_
  refine T_sub [(0, .bool false), (1, .pointer (some ⟨B5, 0, none⟩)), (2, .int .i64 0), (3, .int .i64 1), (4, .bool true), (6, .int .i64 0), (9, .int .i64 5), (11, .int .i64 0), (12, .pointer (some ⟨B13, 0, none⟩)), (13, .pointer (some ⟨B14, 0, none⟩)), (14, .int .i64 0), (17, .int .i64 4), (19, .slice h17.t.a h17.t.l.length h17.t.cap), (20, .int .i64 0)] [(21, .row (.slice h17.n.a h17.n.l.length h17.n.cap) 36 3 h17.n.l.length (h17.n.l.flatMap Pcl.cells)), (22, .row (.slice h17.t.a h17.t.l.length h17.t.cap) 36 3 h17.t.l.length (h17.t.l.flatMap Pcl.cells)), (23, .pool 5 1 byc bs17), (15, .row (.slice h12.n.a h12.n.l.length h12.n.cap) 36 3 h12.n.l.length (h12.n.l.flatMap Pcl.cells)), (16, .pool 5 1 byc bs12), (12, .row (.slice h10.n.a h10.n.l.length h10.n.cap) 36 3 h10.n.l.length (h10.n.l.flatMap Pcl.cells)), (13, .pool 5 1 byc bs10), (7, .row (.slice h6.n.a h6.n.l.length h6.n.cap) 36 3 h6.n.l.length (h6.n.l.flatMap Pcl.cells)), (8, .pool 5 1 byc bs6), (4, .row (.slice h4.n.a h4.n.l.length h4.n.cap) 36 3 h4.n.l.length (h4.n.l.flatMap Pcl.cells)), (5, .pool 5 1 byc bs4), (1, .blk B1 (.cells #[.int .u8 1, .int .u8 2] 5)), (2, .blk B2 (.cells #[.int .u8 3] 5)), (3, .blk B3 (.cells #[.int .i64 0, .slice (some ⟨B1, 0, none⟩) 2 2, .bool false, .int .i64 4, .slice (some ⟨B2, 0, none⟩) 1 1, .bool false] 36)), (9, .blk B7 (.cells #[.int .i64 q6.to, .slice q6.r.a q6.r.l.length q6.r.cap, .bool q6.sp] 36)), (10, .blk B8 (.cells #[.slice none 0 0, .int .u64 0] 27)), (11, .blk B9 (.cells #[.int .i64 0, .slice none 0 0, .bool false] 36)), (6, .blk B5 (.cells #[.slice h10.n.a h10.n.l.length h10.n.cap, .int .u64 h10.lost] 27)), (14, .blk B11 (.cells #[.int .i64 q10.to, .slice q10.r.a q10.r.l.length q10.r.cap, .bool q10.sp] 36)), (17, .blk B13 (.cells #[.slice h12.n.a h12.n.l.length h12.n.cap, .int .u64 h12.lost] 27)), (18, .blk B14 (.cells #[.int .i64 q12.to, .slice q12.r.a q12.r.l.length q12.r.cap, .bool q12.sp] 36)), (19, .blk B15 (.cells #[.slice none 0 0, .int .u64 0] 27)), (20, .blk B16 (.cells #[.int .i64 0, .slice none 0 0, .bool false] 36)), (24, .blk B18 (.cells #[.slice h17.n.a h17.n.l.length h17.n.cap, .int .u64 h17.lost] 27))] (sub_cons rfl (sub_cons rfl (sub_cons rfl (sub_cons rfl (sub_cons rfl (sub_cons rfl (sub_cons rfl (sub_cons rfl (sub_cons rfl (sub_cons rfl (sub_cons rfl (sub_cons rfl (sub_cons rfl (sub_cons rfl sub_nil)))))))))))))) (sub_cons rfl (sub_cons rfl (sub_cons rfl (sub_cons rfl (sub_cons rfl (sub_cons rfl (sub_cons rfl (sub_cons rfl (sub_cons rfl (sub_cons rfl (sub_cons rfl (sub_cons rfl (sub_cons rfl (sub_cons rfl (sub_cons rfl (sub_cons rfl (sub_cons rfl (sub_cons rfl (sub_cons rfl (sub_cons rfl (sub_cons rfl (sub_cons rfl (sub_cons rfl (sub_cons rfl sub_nil)))))))))))))))))))))))) ?_
  have hl3 : h10.n.l.length = 3 := net_len hk10.nv (show wk2.1.length = 3 from by decide +kernel)
  have hl2 : h12.n.l.length = 2 := net_len hk12.nv (show wk3.1.length = 2 from by decide +kernel)
  have hle : h17.t.l.length = 3 := by rw [← pvs_len, hem17.told, pvs_len]; exact hl3
  have hqv : q12.pv = ⟨0, [0#8, 2#8], true⟩ := hq12.trans (by decide +kernel)
  have hqs : q12.sp = true := congrArg PV.sp hqv
  have hqb : q12.r.l = [0#8, 2#8] := congrArg PV.l hqv
  have hqn : q12.r.l.length = 2 := by rw [hqb]; rfl
  refine T_seq (T_region ?_)
  refine TL_q (.int .i64 0) (fun _ _ hρ _ => r_move (hρ _ _ rfl)) rfl rfl rfl (w_n rfl) ?_
  refine TL_q (.bool true) (fun _ _ hρ _ => r_as (r_eql (hρ _ _ rfl) (hρ _ _ rfl)) (by rfl)) rfl rfl rfl (w_n rfl) ?_
  refine TL_q (.bool true) (fun _ _ hρ _ => r_move (hρ _ _ rfl)) rfl rfl rfl (w_n rfl) ?_
  refine TL_q (.int .i64 0) (fun _ _ hρ _ => r_move (hρ _ _ rfl)) rfl rfl rfl (want_y 79 rfl rfl rfl) ?_
  refine TL_q (.bool true) (fun _ _ hρ _ => r_as (r_eql (hρ _ _ rfl) (hρ _ _ rfl)) (by rfl)) rfl rfl rfl (want_y 79 rfl rfl rfl) ?_
  refine TL_q (.bool true) (fun _ _ hρ _ => r_pick_t (hρ _ _ rfl) (hρ _ _ rfl)) rfl rfl rfl (w_n rfl) ?_
  refine TL_q (.bool true) (fun _ _ hρ _ => r_move (hρ _ _ rfl)) rfl rfl rfl (w_n rfl) ?_
  refine TL_q (.int .i64 0) (fun _ _ hρ _ => r_move (hρ _ _ rfl)) rfl rfl rfl (want_y 83 rfl rfl rfl) ?_
  refine TL_q (.bool true) (fun _ _ hρ _ => r_as (r_eql (hρ _ _ rfl) (hρ _ _ rfl)) (by rfl)) rfl rfl rfl (want_y 83 rfl rfl rfl) ?_
  refine TL_q (.bool true) (fun _ _ hρ _ => r_pick_t (hρ _ _ rfl) (hρ _ _ rfl)) rfl rfl rfl (w_n rfl) ?_
  refine TL_q (.bool true) (fun _ _ hρ _ => r_move (hρ _ _ rfl)) rfl rfl rfl (w_n rfl) ?_
  refine TL_q (.int .i64 0) (fun _ _ hρ _ => r_move (hρ _ _ rfl)) rfl rfl rfl (want_y 87 rfl rfl rfl) ?_
  refine TL_q (.bool true) (fun _ _ hρ _ => r_as (r_eql (hρ _ _ rfl) (hρ _ _ rfl)) (by rfl)) rfl rfl rfl (want_y 87 rfl rfl rfl) ?_
  refine TL_q (.bool true) (fun _ _ hρ _ => r_pick_t (hρ _ _ rfl) (hρ _ _ rfl)) rfl rfl rfl (w_n rfl) ?_
  refine TL_q (.bool true) (fun _ _ hρ _ => r_move (hρ _ _ rfl)) rfl rfl rfl (w_n rfl) ?_
  refine TL_q (.int .i64 0) (fun _ _ hρ _ => r_move (hρ _ _ rfl)) rfl rfl rfl (want_y 91 rfl rfl rfl) ?_
  refine TL_q (.bool true) (fun _ _ hρ _ => r_as (r_eql (hρ _ _ rfl) (hρ _ _ rfl)) (by rfl)) rfl rfl rfl (want_y 91 rfl rfl rfl) ?_
  refine TL_q (.bool true) (fun _ _ hρ _ => r_pick_t (hρ _ _ rfl) (hρ _ _ rfl)) rfl rfl rfl (w_n rfl) ?_
  refine TL_q (.bool true) (fun _ _ hρ _ => r_move (hρ _ _ rfl)) rfl rfl rfl (w_n rfl) ?_
  refine TL_q (.int .i64 5) (fun _ _ hρ _ => r_move (hρ _ _ rfl)) rfl rfl rfl (want_y 95 rfl rfl rfl) ?_
  refine TL_q (.bool true) (fun _ _ hρ _ => r_as (r_eql (hρ _ _ rfl) (hρ _ _ rfl)) (by rfl)) rfl rfl rfl (want_y 95 rfl rfl rfl) ?_
  refine TL_q (.bool true) (fun _ _ hρ _ => r_pick_t (hρ _ _ rfl) (hρ _ _ rfl)) rfl rfl rfl (w_n rfl) ?_
  refine TL_q (.bool true) (fun _ _ hρ _ => r_move (hρ _ _ rfl)) rfl rfl rfl (w_n rfl) ?_
  refine TL_q (.int .i64 4) (fun _ _ hρ _ => r_move (hρ _ _ rfl)) rfl rfl rfl (want_y 99 rfl rfl rfl) ?_
  refine TL_q (.bool true) (fun _ _ hρ _ => r_as (r_eql (hρ _ _ rfl) (hρ _ _ rfl)) (by rfl)) rfl rfl rfl (want_y 99 rfl rfl rfl) ?_
  refine TL_q (.bool true) (fun _ _ hρ _ => r_pick_t (hρ _ _ rfl) (hρ _ _ rfl)) rfl rfl rfl (w_n rfl) ?_
  refine TL_q (.bool true) (fun _ _ hρ _ => r_move (hρ _ _ rfl)) rfl rfl rfl (w_n rfl) ?_
  refine TL_q (.int .i64 1) (fun _ _ hρ _ => r_move (hρ _ _ rfl)) rfl rfl rfl (want_y 103 rfl rfl rfl) ?_
  refine TL_q (.bool true) (fun _ _ hρ _ => r_as (r_eql (hρ _ _ rfl) (hρ _ _ rfl)) (by rfl)) rfl rfl rfl (want_y 103 rfl rfl rfl) ?_
  refine TL_q (.bool true) (fun _ _ hρ _ => r_pick_t (hρ _ _ rfl) (hρ _ _ rfl)) rfl rfl rfl (w_n rfl) ?_
  refine TL_q (.bool true) (fun _ _ hρ _ => r_move (hρ _ _ rfl)) rfl rfl rfl (w_n rfl) ?_
  refine TL_q (.bool true) (fun _ _ hρ _ => r_move (hρ _ _ rfl)) rfl rfl rfl (want_y 107 rfl rfl rfl) ?_
  refine TL_q (.bool true) (fun _ _ hρ _ => r_pick_t (hρ _ _ rfl) (hρ _ _ rfl)) rfl rfl rfl (w_n rfl) ?_
  refine TL_q (.bool true) (fun _ _ hρ _ => r_move (hρ _ _ rfl)) rfl rfl rfl (w_n rfl) ?_
  refine TL_q (.pointer (some ⟨B5, 0, none⟩)) (fun _ _ hρ _ => r_fieldAddr fl27_0 sz22 (hρ _ _ rfl)) rfl rfl rfl (want_y 110 rfl rfl rfl) ?_
  refine TL_q (.slice h10.n.a h10.n.l.length h10.n.cap) (fun _ _ hρ hm => r_load ag22 (hρ _ _ rfl) (hm.at 6 rfl) rfl) rfl rfl rfl (want_y 110 rfl rfl rfl) ?_
  refine TL_q (.int .i64 ((h10.n.l.length : Nat) : Int)) (fun _ _ hρ _ => r_len sl22 (hρ _ _ rfl)) rfl rfl rfl (want_y 110 rfl rfl rfl) ?_
  refine TL_q (.bool true) (fun _ _ hρ _ => r_as (r_eql (hρ _ _ rfl) (hρ _ _ rfl)) (bool_as (decide_eq_true (by omega)))) rfl rfl rfl (want_y 110 rfl rfl rfl) ?_
  refine TL_q (.bool true) (fun _ _ hρ _ => r_pick_t (hρ _ _ rfl) (hρ _ _ rfl)) rfl rfl rfl (w_n rfl) ?_
  refine TL_q (.bool true) (fun _ _ hρ _ => r_move (hρ _ _ rfl)) rfl rfl rfl (w_n rfl) ?_
  refine TL_q (.pointer (some ⟨B13, 0, none⟩)) (fun _ _ hρ _ => r_fieldAddr fl27_0 sz22 (hρ _ _ rfl)) rfl rfl rfl (want_y 116 rfl rfl rfl) ?_
  refine TL_q (.slice h12.n.a h12.n.l.length h12.n.cap) (fun _ _ hρ hm => r_load ag22 (hρ _ _ rfl) (hm.at 17 rfl) rfl) rfl rfl rfl (want_y 116 rfl rfl rfl) ?_
  refine TL_q (.int .i64 ((h12.n.l.length : Nat) : Int)) (fun _ _ hρ _ => r_len sl22 (hρ _ _ rfl)) rfl rfl rfl (want_y 116 rfl rfl rfl) ?_
  refine TL_q (.bool true) (fun _ _ hρ _ => r_as (r_eql (hρ _ _ rfl) (hρ _ _ rfl)) (bool_as (decide_eq_true (by omega)))) rfl rfl rfl (want_y 116 rfl rfl rfl) ?_
  refine TL_q (.bool true) (fun _ _ hρ _ => r_pick_t (hρ _ _ rfl) (hρ _ _ rfl)) rfl rfl rfl (w_n rfl) ?_
  refine TL_q (.bool true) (fun _ _ hρ _ => r_move (hρ _ _ rfl)) rfl rfl rfl (w_n rfl) ?_
  refine TL_q (.pointer (some ⟨B14, 2, none⟩)) (fun _ _ hρ _ => r_fieldAddr fl36_2 sz4 (hρ _ _ rfl)) rfl rfl rfl (want_y 122 rfl rfl rfl) ?_
  refine TL_q (.bool true) (fun _ _ hρ hm => r_as (r_load ag4 (hρ _ _ rfl) (hm.at 18 rfl) rfl) (bool_as hqs)) rfl rfl rfl (want_y 122 rfl rfl rfl) ?_
  refine TL_q (.bool true) (fun _ _ hρ _ => r_pick_t (hρ _ _ rfl) (hρ _ _ rfl)) rfl rfl rfl (w_n rfl) ?_
  refine TL_q (.bool true) (fun _ _ hρ _ => r_move (hρ _ _ rfl)) rfl rfl rfl (w_n rfl) ?_
  refine TL_q (.pointer (some ⟨B14, 1, none⟩)) (fun _ _ hρ _ => r_fieldAddr fl36_1 sz34 (hρ _ _ rfl)) rfl rfl rfl (want_y 126 rfl rfl rfl) ?_
  refine TL_q (.slice q12.r.a q12.r.l.length q12.r.cap) (fun _ _ hρ hm => r_load ag34 (hρ _ _ rfl) (hm.at 18 rfl) rfl) rfl rfl rfl (want_y 126 rfl rfl rfl) ?_
  refine TL_new 25 (.cells #[.int .u8 0, .int .u8 2] 5) (fun B => .slice (some ⟨B, 0, none⟩) 2 2) (fun _ _ hρ _ => r_buildSlice (vs := [(0, .int .u8 0), (1, .int .u8 2)]) (by kernel_rfl) (cons2 (pair2 (hρ _ _ rfl)) (cons2 (pair2 (hρ _ _ rfl)) rfl))) rfl rfl rfl (want_y 126 rfl rfl rfl) ?_
  intro B19
  refine TL_call (.bool true) (fun _ _ hρ _ => r_call (args := [.slice q12.r.a q12.r.l.length q12.r.cap, .slice (some ⟨B19, 0, none⟩) 2 2]) (enters_of Try.func16 (by kernel_rfl) rfl) (hρ _ _ rfl) ((cons2 (hρ _ _ rfl) (cons2 (hρ _ _ rfl) rfl))) rfl) (fun w hm => (equal_b q12.r.l [0#8, 2#8] q12.r.a (some ⟨B19, 0, none⟩) q12.r.cap 2 w (told_at (hm.pool 16 rfl) hi12) ⟨Nat.le_of_ble_eq_true rfl, (fun e => by cases e), .inr ⟨_, 0, _, _, _, rfl, (hm.at 25 rfl), row_of_take (fun _ => rfl) rfl⟩⟩ (by omega) (Nat.le_of_ble_eq_true rfl)).mono fun _ _ h => ⟨h.1.trans (congrArg Ending.returned (bool_as (decide_eq_true hqb))), h.2⟩) rfl rfl rfl (want_y 126 rfl rfl rfl) ?_
  refine TL_q (.bool true) (fun _ _ hρ _ => r_pick_t (hρ _ _ rfl) (hρ _ _ rfl)) rfl rfl rfl (w_n rfl) ?_
  refine TL_q (.bool true) (fun _ _ hρ _ => r_move (hρ _ _ rfl)) rfl rfl rfl (w_n rfl) ?_
  refine TL_q (.slice h17.t.a h17.t.l.length h17.t.cap) (fun _ _ hρ _ => r_move (hρ _ _ rfl)) rfl rfl rfl (want_y 132 rfl rfl rfl) ?_
  refine TL_q (.int .i64 ((h17.t.l.length : Nat) : Int)) (fun _ _ hρ _ => r_len sl22 (hρ _ _ rfl)) rfl rfl rfl (want_y 132 rfl rfl rfl) ?_
  refine TL_q (.bool true) (fun _ _ hρ _ => r_as (r_eql (hρ _ _ rfl) (hρ _ _ rfl)) (bool_as (decide_eq_true (by omega)))) rfl rfl rfl (want_y 132 rfl rfl rfl) ?_
  refine TL_q (.bool true) (fun _ _ hρ _ => r_pick_t (hρ _ _ rfl) (hρ _ _ rfl)) rfl rfl rfl (w_n rfl) ?_
  refine TL_q (.bool true) (fun _ _ hρ _ => r_assign (hρ _ _ rfl)) rfl rfl rfl (w_n rfl) ?_
  refine TL_seq ?_
  refine T_sub [(0, .bool true)] [(21, .row (.slice h17.n.a h17.n.l.length h17.n.cap) 36 3 h17.n.l.length (h17.n.l.flatMap Pcl.cells)), (22, .row (.slice h17.t.a h17.t.l.length h17.t.cap) 36 3 h17.t.l.length (h17.t.l.flatMap Pcl.cells)), (23, .pool 5 1 byc bs17), (15, .row (.slice h12.n.a h12.n.l.length h12.n.cap) 36 3 h12.n.l.length (h12.n.l.flatMap Pcl.cells)), (16, .pool 5 1 byc bs12), (12, .row (.slice h10.n.a h10.n.l.length h10.n.cap) 36 3 h10.n.l.length (h10.n.l.flatMap Pcl.cells)), (13, .pool 5 1 byc bs10), (7, .row (.slice h6.n.a h6.n.l.length h6.n.cap) 36 3 h6.n.l.length (h6.n.l.flatMap Pcl.cells)), (8, .pool 5 1 byc bs6), (4, .row (.slice h4.n.a h4.n.l.length h4.n.cap) 36 3 h4.n.l.length (h4.n.l.flatMap Pcl.cells)), (5, .pool 5 1 byc bs4), (1, .blk B1 (.cells #[.int .u8 1, .int .u8 2] 5)), (2, .blk B2 (.cells #[.int .u8 3] 5)), (3, .blk B3 (.cells #[.int .i64 0, .slice (some ⟨B1, 0, none⟩) 2 2, .bool false, .int .i64 4, .slice (some ⟨B2, 0, none⟩) 1 1, .bool false] 36)), (9, .blk B7 (.cells #[.int .i64 q6.to, .slice q6.r.a q6.r.l.length q6.r.cap, .bool q6.sp] 36)), (10, .blk B8 (.cells #[.slice none 0 0, .int .u64 0] 27)), (11, .blk B9 (.cells #[.int .i64 0, .slice none 0 0, .bool false] 36)), (6, .blk B5 (.cells #[.slice h10.n.a h10.n.l.length h10.n.cap, .int .u64 h10.lost] 27)), (14, .blk B11 (.cells #[.int .i64 q10.to, .slice q10.r.a q10.r.l.length q10.r.cap, .bool q10.sp] 36)), (17, .blk B13 (.cells #[.slice h12.n.a h12.n.l.length h12.n.cap, .int .u64 h12.lost] 27)), (18, .blk B14 (.cells #[.int .i64 q12.to, .slice q12.r.a q12.r.l.length q12.r.cap, .bool q12.sp] 36)), (19, .blk B15 (.cells #[.slice none 0 0, .int .u64 0] 27)), (20, .blk B16 (.cells #[.int .i64 0, .slice none 0 0, .bool false] 36)), (24, .blk B18 (.cells #[.slice h17.n.a h17.n.l.length h17.n.cap, .int .u64 h17.lost] 27)), (25, .blk B19 (.cells #[.int .u8 0, .int .u8 2] 5))] (sub_cons rfl sub_nil) (sub_cons rfl (sub_cons rfl (sub_cons rfl (sub_cons rfl (sub_cons rfl (sub_cons rfl (sub_cons rfl (sub_cons rfl (sub_cons rfl (sub_cons rfl (sub_cons rfl (sub_cons rfl (sub_cons rfl (sub_cons rfl (sub_cons rfl (sub_cons rfl (sub_cons rfl (sub_cons rfl (sub_cons rfl (sub_cons rfl (sub_cons rfl (sub_cons rfl (sub_cons rfl (sub_cons rfl (sub_cons rfl sub_nil))))))))))))))))))))))))) ?_
  refine T_ret' ?_
  refine ret_of rfl (.bool true) (fun tmps w hk hm => res1 rfl (res_tmp (hk 0 _ rfl))) (fun w hm => ?_)
  exact ⟨rfl, hm.ext⟩
end Go.Proofs.Ytcidgbjgeegepaa
/- Slices that are read, wherever they lie. Over any program. -/
namespace Go.Proofs.Ytcidgbjgeegepaa
open Go Go.RowKit
section
variable {C : Cx} {Q : Post} {K : List (Nat × Value)} {L : Heap} {α : Type} {s : Nat} {f : α → List Value} {l : List α} {a : Option Addr} {cap : Nat}
theorem T_open {c : Code} (hs : ∀ w, MemOk C.w₀ L w → SliceAt w a cap s f l) (hl : 0 < l.length) (h : ∀ b off, a = some ⟨b, off, none⟩ → T C c Q K L) : T C c Q K L := by
  intro ac w hf hm
  obtain ⟨b, off, cs, T', fz, h1, _, _⟩ := (hs w hm).open (i := 0) hl
  exact h b off h1 ac w hf hm
end
section
variable {P : Program} {w : World} {ρ : Operand → Value} {d : Option Tmp} {ty : TypeId} {ps : String} {af : Array Edge} {g : Option (Nat × Bool)} {x : Operand} {α : Type} {s : Nat} {f : α → List Value} {l : List α} {b off cap i : Nat} {u : α} {t : TypeId}
theorem slice_in (h : SliceAt w (some ⟨b, off, none⟩) cap s f l) (hu : l[i]? = some u) : ∃ cs T fz, hp w b = some (.cells cs T fz) ∧ Row s f cs off l := by
  obtain ⟨b', off', cs, T, fz, h1, h2, h3⟩ := h.open (i := i) (List.getElem?_eq_some_iff.1 hu).1
  cases h1
  exact ⟨cs, T, fz, h2, h3⟩
theorem r_loadS (ha : aggOf P t = some true) (hs : szOf P t = some s) (hx : ρ x = .pointer (some ⟨b, off + i * s, none⟩)) (h : SliceAt w (some ⟨b, off, none⟩) cap s f l) (hu : l[i]? = some u) : (execOp ρ (mk d (.load t x) ty ps af g)).run P w = .ok (.value (.agg (f u).toArray)) w := by
  obtain ⟨cs, T, fz, h1, h2⟩ := slice_in h hu
  exact r_loadRow ha hs hx h1 h2 hu
end
end Go.Proofs.Ytcidgbjgeegepaa
/- net and journal: NetOrders. Printed by a program of this seat's prover. -/
namespace Go.Proofs.Ytcidgbjgeegepaa
open Go Go.RowKit
set_option maxRecDepth 10000
theorem few_le {ls xs : List Pcl} (h : pvs ls = fewV (pvs xs)) : ls.length ≤ 66 := by
  have := congrArg List.length h
  rw [pvs_len] at this
  unfold fewV at this
  rw [List.length_map, List.length_take] at this
  omega
end Go.Proofs.Ytcidgbjgeegepaa
/- Things of one's own taken together. Over any program. -/
namespace Go.Proofs.Ytcidgbjgeegepaa
open Go Go.RowKit
theorem MemOk.fuse {w₀ w : World} {L : Heap} (h : MemOk w₀ L w) (i j : Nat) {r s : Res} (t : Res) (hi : lk L i = some r) (hj : lk L j = some s) (hne : Nat.beq i j = false) (ht : t.ok w₀.heap.size w) (hf : ∀ b, t.foot b → r.foot b ∨ s.foot b) : MemOk w₀ ((i, t) :: (j, .no) :: L) w := by
  have h0 : MemOk w₀ ((j, .no) :: L) w := h.set j _ h.ext ⟨trivial, (fun _ hb => hb.elim), fun _ _ _ _ => trivial⟩ (fun _ _ _ _ b _ => ⟨rfl, id⟩)
  refine h0.set i t h0.ext ht (fun k q hk hne' b hb => ⟨rfl, fun hr => ?_⟩)
  by_cases e2 : j = k
  · subst e2; rw [lk_cons_same] at hk; cases hk; exact hb
  · rw [lk_cons_other _ _ e2] at hk
    rcases hf b hr with h1 | h1
    · exact h.sep i k r q hi hk (Ne.symm hne') b h1 hb
    · exact h.sep j k s q hj hk e2 b h1 hb
section
variable {α : Type} (K : ShK α)
end
/-- Something to be read, made behind w₀ out of what was there at w₀. -/
abbrev Res.shO {α : Type} (K : ShK α) (w₀ : World) (x : α) : Res := .abs (fun b => K.foot x b ∧ w₀.heap.size ≤ b) (fun w => ∀ w', (∀ b, K.foot x b → w₀.heap.size ≤ b → hp w' b = hp w b) → (∀ b, b < w₀.heap.size → hp w' b = hp w₀ b) → K.At w' x)
/-- Its blocks that were there at w₀ are those of others. -/
def OldF {α : Type} (K : ShK α) (w₀ : World) (l : List α) (d : α) : Prop := ∀ b, K.foot d b → w₀.heap.size ≤ b ∨ K.F l b
section
variable {α : Type} {K : ShK α} {w₀ w w' : World} {L : Heap} {l : List α} {d : α}
theorem shO_keep (w1 w2 : World) (h : ∀ w', (∀ b, K.foot d b → w₀.heap.size ≤ b → hp w' b = hp w1 b) → (∀ b, b < w₀.heap.size → hp w' b = hp w₀ b) → K.At w' d) (hb : ∀ b, K.foot d b ∧ w₀.heap.size ≤ b → hp w2 b = hp w1 b) :
    ∀ w', (∀ b, K.foot d b → w₀.heap.size ≤ b → hp w' b = hp w2 b) → (∀ b, b < w₀.heap.size → hp w' b = hp w₀ b) → K.At w' d := fun w' h1 h2 => h w' (fun b hf hlo => (h1 b hf hlo).trans (hb b ⟨hf, hlo⟩)) h2
theorem shO_newOk (k : Nat) (hm : MemOk w₀ L w) (hd : ShNew K w w' l d) (hl : ∀ c ∈ l, K.At w₀ c) : NewOk w w' [(k, .shO K w₀ d)] := by
  have hlo : ∀ b, K.foot d b → w₀.heap.size ≤ b → w.heap.size ≤ b := fun b hf h0 => (hd.foot b hf).elim id fun ⟨c, hc, hcf⟩ => absurd (K.low (hl c hc) hcf) (by omega)
  refine newOk1 k ⟨fun w2 h1 h2 => K.keep hd.at' fun b hf => ?_, fun b hb => ⟨hlo b hb.1 hb.2, K.low hd.at' hb.1⟩, shO_keep⟩
  by_cases e : w₀.heap.size ≤ b
  · exact h1 b hf e
  · have hlt : b < w₀.heap.size := by omega
    rw [h2 b hlt]
    exact ((below_call hm.ext (Nat.le_refl _) hd.below).block b hlt).symm
theorem MemOk.shOat (h : MemOk w₀ L w) (k : Nat) (hk : lk L k = some (.shO K w₀ d)) : K.At w d := (h.own k _ hk).1 w (fun _ _ _ => rfl) (fun b hb => h.ext.block b hb)
theorem oldF_of (hw : w₀.heap.size ≤ w.heap.size) (hd : ShNew K w w' l d) : OldF K w₀ l d := fun b hf => (hd.foot b hf).imp (fun h => Nat.le_trans hw h) id
theorem MemOk.shOend (h : MemOk w₀ L w) (k : Nat) (hk : lk L k = some (.shO K w₀ d)) (ho : OldF K w₀ l d) : ShNew K w₀ w l d := ⟨h.ext, h.shOat k hk, ho⟩
end
/-- What is new in memory, told of two things. -/
theorem ShNew.same {α : Type} {K : ShK α} {w w' : World} {l : List α} {d : α} (hb : Below w.heap.size w w') (hd : K.At w d) (hl : d ∈ l) : ShNew K w w' l d := ⟨hb, K.below hd hb, fun b h => .inr ⟨d, hl, h⟩⟩
end Go.Proofs.Ytcidgbjgeegepaa
/- net: nets that are only read. -/
namespace Go.Proofs.Ytcidgbjgeegepaa
open Go Go.RowKit
/-- A row of parcels, and their bytes: something to be read. -/
theorem MemOk.netShelf {w₀ w : World} {L : Heap} (h : MemOk w₀ L w) (i j : Nat) {n : NetR} {bs : List (RowG By)} (hi : lk L i = some (rowP n)) (hj : lk L j = some (.pool 5 1 byc bs)) (hne : Nat.beq i j = false) (hin : InB bs n.l) : MemOk w₀ ((i, .nets [n]) :: (j, .no) :: L) w := by
  have o1 := h.own i _ hi
  have o2 := h.own j _ hj
  have key : ∀ b, netK.F [n] b → (rowP n).foot b ∨ (Res.pool 5 1 byc bs).foot b := by
    rintro b ⟨x, hx, hb⟩
    rw [List.mem_singleton.1 hx] at hb
    rcases hb with h1 | ⟨p, hp, h1⟩
    · exact .inl (own_slF (o1 : w.ownsRow _ _ _ _ _ _) h1)
    · exact .inr ⟨p.r, (hin p hp).1, own_slF (o2.1 p.r (hin p hp).1) h1⟩
  refine h.fuse i j (.nets [n]) hi hj hne ⟨fun x hx => ?_, fun b hb => ?_, netK.keeps⟩ key
  · rw [List.mem_singleton.1 hx]
    exact ⟨SliceAt.own Pcl.cells_len o1 rfl rfl, row_cap o1, pcs_pool o2.1 hin⟩
  · rcases key b hb with h1 | h1
    · exact Res.low o1 h1
    · exact o2.2.1 b h1
theorem pcl_foot {n : NetR} {p : Pcl} (hp : p ∈ n.l) {b : Nat} (h : slF p.r.a p.r.l b) : netF n b := .inr ⟨p, hp, h⟩
/-- A new row of parcels whose bytes lie as those of other nets. -/
theorem nnew_row {w w' : World} {ns : List NetR} {a : Option Addr} {cap : Nat} {l : List Pcl} (hb : Below w.heap.size w w') (hr : w'.ownsRow w.heap.size 36 3 (.slice a l.length cap) l.length (l.flatMap Pcl.cells)) (hns : ∀ n ∈ ns, NAt w n) (hl : ∀ p ∈ l, ∃ n ∈ ns, p ∈ n.l) : NNew w w' ns ⟨a, cap, l⟩ := by
  refine ⟨hb, ⟨SliceAt.own Pcl.cells_len hr rfl rfl, row_cap hr, fun p hp => ?_⟩, ?_⟩
  · obtain ⟨n, hn, hp2⟩ := hl p hp
    have := (hns n hn).2.2 p hp2
    exact ⟨this.1.keep hb, this.2⟩
  · rintro b (h1 | ⟨p, hp, h1⟩)
    · exact .inl (Res.low (r := .row _ _ _ _ _) hr (own_slF hr h1)).1
    · obtain ⟨n, hn, hp2⟩ := hl p hp
      exact .inr ⟨n, hn, pcl_foot hp2 h1⟩
/-- The same, with one parcel whose bytes are new. -/
theorem nnew_set {w w' : World} {n : NetR} {i : Nat} {a ab : Option Addr} {cap cb : Nat} {p : Pcl} {b : List By} (hbb : Below w.heap.size w w') (hr : w'.ownsRow w.heap.size 36 3 (.slice a (n.l.set i ⟨p.to, ⟨ab, cb, b⟩, true⟩).length cap) (n.l.set i ⟨p.to, ⟨ab, cb, b⟩, true⟩).length ((n.l.set i ⟨p.to, ⟨ab, cb, b⟩, true⟩).flatMap Pcl.cells)) (hrb : w'.ownsRow w.heap.size 5 1 (.slice ab b.length cb) b.length (b.flatMap byc)) (hn : NAt w n) (hlb : b.length ≤ 10000) : NNew w w' [n] ⟨a, cap, n.l.set i ⟨p.to, ⟨ab, cb, b⟩, true⟩⟩ := by
  refine ⟨hbb, ⟨SliceAt.own Pcl.cells_len hr rfl rfl, row_cap hr, fun q hq => ?_⟩, ?_⟩
  · rcases List.mem_or_eq_of_mem_set hq with h1 | rfl
    · have := hn.2.2 q h1
      exact ⟨this.1.keep hbb, this.2⟩
    · exact ⟨SliceAt.own byc_len hrb rfl rfl, row_cap hrb, hlb⟩
  · rintro c (h1 | ⟨q, hq, h1⟩)
    · exact .inl (Res.low (r := .row _ _ _ _ _) hr (own_slF hr h1)).1
    · rcases List.mem_or_eq_of_mem_set hq with h2 | rfl
      · exact .inr ⟨n, List.mem_singleton.2 rfl, pcl_foot h2 h1⟩
      · exact .inl (Res.low (r := .row _ _ _ _ _) hrb (own_slF hrb h1)).1
theorem MemOk.netAt {w₀ w : World} {L : Heap} (h : MemOk w₀ L w) (k : Nat) {l : List NetR} (hk : lk L k = some (.nets l)) {n : NetR} (hx : n ∈ l) : NAt w n := MemOk.shAt (K := netK) h k hk hx
/-- A byte's cell. -/
def isB (v : Value) : Prop := ∃ b : By, v = .int .u8 (b.toNat : Int)
theorem isB_byc : ∀ x, ∀ v ∈ byc x, isB v := fun x v hv => ⟨x, List.mem_singleton.1 hv⟩
theorem o_loadB {P : Program} {w₀ w : World} {L : Heap} {ρ : Operand → Value} {ty : TypeId} {ps : String} {af : Array Edge} {g : Option (Nat × Bool)} {d : Option Tmp} {x : Operand} {t e : TypeId} {B i : Nat} {rs : List (RowG By)} (k : Nat) (hk : lk L k = some (.scr e 1 isB rs)) {r : RowG By} (hr : r ∈ rs) (ha : aggOf P t = some false) (hB : r.a = some ⟨B, 0, none⟩) (hi : i < r.l.length * 1) (hx : ρ x = .pointer (some ⟨B, i, none⟩)) (hm : MemOk w₀ L w) :
    ∃ (b : By) (w' : World), (execOp ρ (mk d (.load t x) ty ps af g)).run P w = .ok (.value (.int .u8 (b.toNat : Int))) w' ∧ MemOk w₀ L w' := by
  obtain ⟨v, ⟨b, rfl⟩, h⟩ := o_loadScr (P := P) (ty := ty) (ps := ps) (af := af) (g := g) (d := d) k hk hr ha hB hi hx hm
  exact ⟨b, w, h, hm⟩
theorem nat_zero (w : World) : NAt w ⟨none, 0, []⟩ := ⟨sliceNil w, by decide, pcsNil w⟩
end Go.Proofs.Ytcidgbjgeegepaa
/- net and journal: the references; what the laws do. Printed by a program of this seat's prover. -/
namespace Go.Proofs.Ytcidgbjgeegepaa
open Go Go.RowKit
set_option maxRecDepth 10000
theorem putV_more {l : List Pcl} {lost : Int} {p : PV} (h : 64 ≤ l.length) (h1 : lost < 4611686018427387904) : (pvs l, lost + 1) = putV (pvs l, lost) p := by
  unfold putV
  rw [if_neg (show ¬ (pvs l).length < 64 by rw [pvs_len]; omega)]
  unfold MT
  rw [if_pos h1]
theorem putV_stay {l : List Pcl} {lost : Int} {p : PV} (h : 64 ≤ l.length) (h1 : ¬ lost < 4611686018427387904) : (pvs l, lost) = putV (pvs l, lost) p := by
  unfold putV
  rw [if_neg (show ¬ (pvs l).length < 64 by rw [pvs_len]; omega)]
  unfold MT
  rw [if_neg h1]

theorem rput_c (ps : List Pcl) (a : Option Addr) (cap : Nat) (lost : Int) (p : Pcl) (ns : List NetR) (w : World) (hns : ∀ m ∈ ns, NAt w m) (hn : (⟨a, cap, ps⟩ : NetR) ∈ ns) (hp : ∃ m ∈ ns, p ∈ m.l) (h0 : 0 ≤ lost) : Calls Try.prog 33 #[.agg #[.slice a ps.length cap, .int .u64 lost], p.v] w fun e w' => ∃ (d : NetR) (lo : Int), (pvs d.l, lo) = putV (pvs ps, lost) p.pv ∧ e = .returned (.agg #[.slice d.a d.l.length d.cap, .int .u64 lo]) ∧ NNew w w' ns d := by
  have hv : SliceAt w a cap 3 Pcl.cells ps := (hns _ hn).1
  have hcap : cap ≤ Go.maxLen := (hns _ hn).2.1
  have hb : PcsAt w ps := (hns _ hn).2.2
  have hvl := hv.1
  unfold Go.maxLen at hcap
  refine calls_of_T (l := [.agg #[.slice a ps.length cap, .int .u64 lost], .agg #[.int .i64 p.to, .slice p.r.a p.r.l.length p.r.cap, .bool p.sp]]) 25 Try.func33 rfl rfl rfl ?_
  show T _ _ _ [(0, .agg #[.slice a ps.length cap, .int .u64 lost]), (1, .agg #[.int .i64 p.to, .slice p.r.a p.r.l.length p.r.cap, .bool p.sp])] []
  refine T_seq (T_region ?_)
  refine TL_new 1 (.cells #[.slice a ps.length cap, .int .u64 lost] 27) (fun B => .pointer (some ⟨B, 0, none⟩)) (fun _ _ hρ _ => r_box (hρ _ _ rfl) rfl) rfl rfl rfl (w_n rfl) ?_
  intro B1
  refine TL_new 2 (.cells #[.int .i64 p.to, .slice p.r.a p.r.l.length p.r.cap, .bool p.sp] 36) (fun B => .pointer (some ⟨B, 0, none⟩)) (fun _ _ hρ _ => r_box (hρ _ _ rfl) rfl) rfl rfl rfl (w_n rfl) ?_
  intro B2
  refine TL_new 3 (.cells #[.slice none 0 0, .int .u64 0] 27) (fun B => .pointer (some ⟨B, 0, none⟩)) (fun _ _ _ _ => r_alloc (v := .agg #[.slice none 0 0, .int .u64 0]) (by kernel_rfl) rfl) rfl rfl rfl (w_n rfl) ?_
  intro B3
  refine TL_seq ?_
  refine T_seq ?_
  refine T_seq (T_region ?_)
  refine TL_q (.pointer (some ⟨B1, 0, none⟩)) (fun _ _ hρ _ => r_fieldAddr fl27_0 sz22 (hρ _ _ rfl)) rfl rfl rfl (w_n rfl) ?_
  refine TL_q (.slice a ps.length cap) (fun _ _ hρ hm => r_load ag22 (hρ _ _ rfl) (hm.at 1 rfl) rfl) rfl rfl rfl (w_n rfl) ?_
  refine TL_q (.int .i64 ((ps.length : Nat) : Int)) (fun _ _ hρ _ => r_len sl22 (hρ _ _ rfl)) rfl rfl rfl (w_n rfl) ?_
  refine TL_q (.bool (decide (((ps.length : Nat) : Int) < 64))) (fun _ _ hρ _ => r_lss (hρ _ _ rfl) (hρ _ _ rfl)) rfl rfl rfl (w_n rfl) ?_
  refine TL_seq ?_
  refine T_cond rfl (fun h1 => ?_) (fun h1 => ?_)
  · replace h1 := of_decide_eq_true h1
    refine T_joinE (ι := Nat × (Option Addr) × Nat) (fun _ => True) (fun (z : Nat × (Option Addr) × Nat) => match z with | (Bx5, ax6, capx6) => [(2, .pointer (some ⟨B1, 0, none⟩)), (4, .pointer (some ⟨B3, 0, none⟩))]) (fun (z : Nat × (Option Addr) × Nat) => match z with | (Bx5, ax6, capx6) => [(1, .blk B1 (.cells #[.slice ax6 ((0 + ps.length) + 1) capx6, .int .u64 lost] 27)), (2, .blk B2 (.cells #[.int .i64 p.to, .slice p.r.a p.r.l.length p.r.cap, .bool p.sp] 36)), (3, .blk B3 (.cells #[.slice none 0 0, .int .u64 0] 27)), (4, .row (.slice ax6 ((0 + ps.length) + 1) capx6) 36 3 ((0 + ps.length) + 1) (([] ++ (ps.flatMap Pcl.cells)) ++ [.int .i64 p.to, .slice p.r.a p.r.l.length p.r.cap, .bool p.sp])), (5, .blk Bx5 (.cells #[.int .i64 p.to, .slice p.r.a p.r.l.length p.r.cap, .bool p.sp] 36))]) (T_draw (V := [(1, .pointer (some ⟨B1, 0, none⟩)), (2, .slice a ps.length cap), (4, .agg #[.int .i64 p.to, .slice p.r.a p.r.l.length p.r.cap, .bool p.sp])]) [0, 0, 2, 7, 0, 16, 63, 127, 255] [[], [(2, none)], [(10, some 1)], [(9, some 0), (11, some 2)], [(3, none)], [(13, some 4)], [(12, some 3), (14, some 5)], [(2, none)], [(16, some 7), (15, some 6)]] 361 mixed (by kernel_rfl) ?_) (fun z hz => ?_)
    · skip
      refine G_step [1, 2, 4] 0 [5] (by kernel_rfl) (allM (all_cons (q_run (.pointer (some ⟨B1, 0, none⟩)) rfl rfl (wv_n rfl) rfl (fun _ _ hρ _ => r_fieldAddr fl27_0 sz22 (hρ _ _ rfl))) (all_cons (q_run (.slice a ps.length cap) rfl rfl (wv_n rfl) rfl (fun _ _ hρ hm => r_load ag22 (hρ _ _ rfl) (hm.at 1 rfl) rfl)) (all_cons (q_run (.agg #[.int .i64 p.to, .slice p.r.a p.r.l.length p.r.cap, .bool p.sp]) rfl rfl (wv_n rfl) rfl (fun _ _ hρ hm => r_loadA ag36 sz36 (hρ _ _ rfl) (hm.at 2 rfl) rfl rfl)) all_nil)))) (allM (all_cons ?_ (all_cons ?_ all_nil)))
      · skip
        refine LOb_new 4 (.cells #[] 36) (fun B => .slice (some ⟨B, 0, none⟩) 0 0) (fun B => []) rfl (wv_n rfl) rfl rfl (fun _ _ _ _ => r_buildSlice (vs := []) (by kernel_rfl) rfl) (fun B => by kernel_rfl) ?_
        intro B4
        refine G_mem ([(4, .row (.slice (some ⟨B4, 0, none⟩) 0 0) 36 3 0 []), (1, .blk B1 (.cells #[.slice a ps.length cap, .int .u64 lost] 27)), (2, .blk B2 (.cells #[.int .i64 p.to, .slice p.r.a p.r.l.length p.r.cap, .bool p.sp] 36)), (3, .blk B3 (.cells #[.slice none 0 0, .int .u64 0] 27))]) (fun _ hm => MemOk.sub (hm.toRow (n := 0) (cap := 0) (s := 3) 4 rfl rfl (by omega) rfl _ rfl) (sub_cons rfl (sub_cons rfl (sub_cons rfl (sub_cons rfl sub_nil))))) ?_
        refine G_step [1, 2, 4] 3 [5] (by kernel_rfl) (allM (all_cons (q_run (.pointer (some ⟨B1, 0, none⟩)) rfl rfl (wv_n rfl) rfl (fun _ _ hρ _ => r_fieldAddr fl27_0 sz22 (hρ _ _ rfl))) (all_cons (q_run (.slice a ps.length cap) rfl rfl (wv_n rfl) rfl (fun _ _ hρ hm => r_load ag22 (hρ _ _ rfl) (hm.at 1 rfl) rfl)) (all_cons (q_run (.agg #[.int .i64 p.to, .slice p.r.a p.r.l.length p.r.cap, .bool p.sp]) rfl rfl (wv_n rfl) rfl (fun _ _ hρ hm => r_loadA ag36 sz36 (hρ _ _ rfl) (hm.at 2 rfl) rfl rfl)) all_nil)))) (allM (all_cons ?_ (all_cons ?_ all_nil)))
        · skip
          refine LOb_append (n := 0) (m := ps.length) (xs := []) (news := (ps.flatMap Pcl.cells)) (z := .agg #[.int .i64 0, .slice none 0 0, .bool false]) 4 (fun a cap => []) rfl (wv_n rfl) rfl rfl rfl sl22 sz36 by36 (by kernel_rfl) rfl rfl (.inl rfl) (fun _ hm => by have := src_of Pcl.cells_len (hv.keep hm.ext); simpa using this) (by first | exact rows_oneG Pcl.cells_one | simp [Value.oneCell']) (by omega) (by omega) (fun a cap => by kernel_rfl) ?_
          intro a5 cap5
          refine G_step [4] 5 [] (by kernel_rfl) (allM (all_cons (q_run (.agg #[.int .i64 p.to, .slice p.r.a p.r.l.length p.r.cap, .bool p.sp]) rfl rfl (wv_n rfl) rfl (fun _ _ hρ hm => r_loadA ag36 sz36 (hρ _ _ rfl) (hm.at 2 rfl) rfl rfl)) all_nil)) (allM (all_cons ?_ all_nil))
          refine LOb_new 5 (.cells #[.int .i64 p.to, .slice p.r.a p.r.l.length p.r.cap, .bool p.sp] 36) (fun B => .slice (some ⟨B, 0, none⟩) 1 1) (fun B => []) rfl (wv_n rfl) rfl rfl (fun _ _ hρ _ => r_buildSlice (vs := [(0, .agg #[.int .i64 p.to, .slice p.r.a p.r.l.length p.r.cap, .bool p.sp])]) (by kernel_rfl) (cons2 (pair2 (hρ _ _ rfl)) rfl)) (fun B => by kernel_rfl) ?_
          intro B6
          refine G_step [] 6 [] (by kernel_rfl) (allM all_nil) (allM (all_cons ?_ all_nil))
          refine LOb_append (n := (0 + ps.length)) (m := 1) (xs := ([] ++ (ps.flatMap Pcl.cells))) (news := [.int .i64 p.to, .slice p.r.a p.r.l.length p.r.cap, .bool p.sp]) (z := .agg #[.int .i64 0, .slice none 0 0, .bool false]) 4 (fun a cap => [(7, .pointer (some ⟨B1, 0, none⟩))]) rfl (wv_n rfl) rfl rfl rfl sl22 sz36 by36 (by kernel_rfl) rfl rfl (.inl rfl) (fun _ hm => src_blk (news := [.int .i64 p.to, .slice p.r.a p.r.l.length p.r.cap, .bool p.sp]) (hm.at 5 rfl) rfl) (by first | exact rows_oneG Pcl.cells_one | simp [Value.oneCell']) (by omega) (by omega) (fun a cap => by kernel_rfl) ?_
          intro a7 cap7
          refine G_step [7] 8 [] (by kernel_rfl) (allM (all_cons (q_run (.pointer (some ⟨B1, 0, none⟩)) rfl rfl (wv_n rfl) rfl (fun _ _ hρ _ => r_fieldAddr fl27_0 sz22 (hρ _ _ rfl))) all_nil)) (allM (all_cons ?_ all_nil))
          refine LOb_store 1 (.cells #[.slice a7 ((0 + ps.length) + 1) cap7, .int .u64 lost] 27) [] rfl (wv_n rfl) rfl rfl rfl (fun _ _ hρ hm => r_store sz22 (hρ _ _ rfl) (hρ _ _ rfl) (hm.at 1 rfl) rfl rfl rfl rfl) (by kernel_rfl) ?_
          exact G_lastQ [] [(2, .pointer (some ⟨B1, 0, none⟩)), (4, .pointer (some ⟨B3, 0, none⟩))] (by kernel_rfl) (allM all_nil) (end_old rfl rfl (end_old rfl rfl end_nil)) (fun a w hf hm => At_intro (B6, a7, cap7) trivial hf hm (sub_cons rfl (sub_cons rfl sub_nil)) (sub_cons rfl (sub_cons rfl (sub_cons rfl (sub_cons rfl (sub_cons rfl sub_nil))))))
        · skip
          refine LOb_new 5 (.cells #[.int .i64 p.to, .slice p.r.a p.r.l.length p.r.cap, .bool p.sp] 36) (fun B => .slice (some ⟨B, 0, none⟩) 1 1) (fun B => []) rfl (wv_n rfl) rfl rfl (fun _ _ hρ _ => r_buildSlice (vs := [(0, .agg #[.int .i64 p.to, .slice p.r.a p.r.l.length p.r.cap, .bool p.sp])]) (by kernel_rfl) (cons2 (pair2 (hρ _ _ rfl)) rfl)) (fun B => by kernel_rfl) ?_
          intro B8
          refine G_step [1, 2] 3 [] (by kernel_rfl) (allM (all_cons (q_run (.pointer (some ⟨B1, 0, none⟩)) rfl rfl (wv_n rfl) rfl (fun _ _ hρ _ => r_fieldAddr fl27_0 sz22 (hρ _ _ rfl))) (all_cons (q_run (.slice a ps.length cap) rfl rfl (wv_n rfl) rfl (fun _ _ hρ hm => r_load ag22 (hρ _ _ rfl) (hm.at 1 rfl) rfl)) all_nil))) (allM (all_cons ?_ all_nil))
          refine LOb_append (n := 0) (m := ps.length) (xs := []) (news := (ps.flatMap Pcl.cells)) (z := .agg #[.int .i64 0, .slice none 0 0, .bool false]) 4 (fun a cap => []) rfl (wv_n rfl) rfl rfl rfl sl22 sz36 by36 (by kernel_rfl) rfl rfl (.inl rfl) (fun _ hm => by have := src_of Pcl.cells_len (hv.keep hm.ext); simpa using this) (by first | exact rows_oneG Pcl.cells_one | simp [Value.oneCell']) (by omega) (by omega) (fun a cap => by kernel_rfl) ?_
          intro a9 cap9
          refine G_step [] 6 [] (by kernel_rfl) (allM all_nil) (allM (all_cons ?_ all_nil))
          refine LOb_append (n := (0 + ps.length)) (m := 1) (xs := ([] ++ (ps.flatMap Pcl.cells))) (news := [.int .i64 p.to, .slice p.r.a p.r.l.length p.r.cap, .bool p.sp]) (z := .agg #[.int .i64 0, .slice none 0 0, .bool false]) 4 (fun a cap => [(7, .pointer (some ⟨B1, 0, none⟩))]) rfl (wv_n rfl) rfl rfl rfl sl22 sz36 by36 (by kernel_rfl) rfl rfl (.inl rfl) (fun _ hm => src_blk (news := [.int .i64 p.to, .slice p.r.a p.r.l.length p.r.cap, .bool p.sp]) (hm.at 5 rfl) rfl) (by first | exact rows_oneG Pcl.cells_one | simp [Value.oneCell']) (by omega) (by omega) (fun a cap => by kernel_rfl) ?_
          intro a10 cap10
          refine G_step [7] 8 [] (by kernel_rfl) (allM (all_cons (q_run (.pointer (some ⟨B1, 0, none⟩)) rfl rfl (wv_n rfl) rfl (fun _ _ hρ _ => r_fieldAddr fl27_0 sz22 (hρ _ _ rfl))) all_nil)) (allM (all_cons ?_ all_nil))
          refine LOb_store 1 (.cells #[.slice a10 ((0 + ps.length) + 1) cap10, .int .u64 lost] 27) [] rfl (wv_n rfl) rfl rfl rfl (fun _ _ hρ hm => r_store sz22 (hρ _ _ rfl) (hρ _ _ rfl) (hm.at 1 rfl) rfl rfl rfl rfl) (by kernel_rfl) ?_
          exact G_lastQ [] [(2, .pointer (some ⟨B1, 0, none⟩)), (4, .pointer (some ⟨B3, 0, none⟩))] (by kernel_rfl) (allM all_nil) (end_old rfl rfl (end_old rfl rfl end_nil)) (fun a w hf hm => At_intro (B8, a10, cap10) trivial hf hm (sub_cons rfl (sub_cons rfl sub_nil)) (sub_cons rfl (sub_cons rfl (sub_cons rfl (sub_cons rfl (sub_cons rfl sub_nil))))))
      · skip
        refine LOb_new 5 (.cells #[.int .i64 p.to, .slice p.r.a p.r.l.length p.r.cap, .bool p.sp] 36) (fun B => .slice (some ⟨B, 0, none⟩) 1 1) (fun B => []) rfl (wv_n rfl) rfl rfl (fun _ _ hρ _ => r_buildSlice (vs := [(0, .agg #[.int .i64 p.to, .slice p.r.a p.r.l.length p.r.cap, .bool p.sp])]) (by kernel_rfl) (cons2 (pair2 (hρ _ _ rfl)) rfl)) (fun B => by kernel_rfl) ?_
        intro B11
        refine G_step [1, 2] 0 [] (by kernel_rfl) (allM (all_cons (q_run (.pointer (some ⟨B1, 0, none⟩)) rfl rfl (wv_n rfl) rfl (fun _ _ hρ _ => r_fieldAddr fl27_0 sz22 (hρ _ _ rfl))) (all_cons (q_run (.slice a ps.length cap) rfl rfl (wv_n rfl) rfl (fun _ _ hρ hm => r_load ag22 (hρ _ _ rfl) (hm.at 1 rfl) rfl)) all_nil))) (allM (all_cons ?_ all_nil))
        refine LOb_new 4 (.cells #[] 36) (fun B => .slice (some ⟨B, 0, none⟩) 0 0) (fun B => []) rfl (wv_n rfl) rfl rfl (fun _ _ _ _ => r_buildSlice (vs := []) (by kernel_rfl) rfl) (fun B => by kernel_rfl) ?_
        intro B12
        refine G_mem ([(4, .row (.slice (some ⟨B12, 0, none⟩) 0 0) 36 3 0 []), (1, .blk B1 (.cells #[.slice a ps.length cap, .int .u64 lost] 27)), (2, .blk B2 (.cells #[.int .i64 p.to, .slice p.r.a p.r.l.length p.r.cap, .bool p.sp] 36)), (3, .blk B3 (.cells #[.slice none 0 0, .int .u64 0] 27)), (5, .blk B11 (.cells #[.int .i64 p.to, .slice p.r.a p.r.l.length p.r.cap, .bool p.sp] 36))]) (fun _ hm => MemOk.sub (hm.toRow (n := 0) (cap := 0) (s := 3) 4 rfl rfl (by omega) rfl _ rfl) (sub_cons rfl (sub_cons rfl (sub_cons rfl (sub_cons rfl (sub_cons rfl sub_nil)))))) ?_
        refine G_step [1, 2] 3 [] (by kernel_rfl) (allM (all_cons (q_run (.pointer (some ⟨B1, 0, none⟩)) rfl rfl (wv_n rfl) rfl (fun _ _ hρ _ => r_fieldAddr fl27_0 sz22 (hρ _ _ rfl))) (all_cons (q_run (.slice a ps.length cap) rfl rfl (wv_n rfl) rfl (fun _ _ hρ hm => r_load ag22 (hρ _ _ rfl) (hm.at 1 rfl) rfl)) all_nil))) (allM (all_cons ?_ all_nil))
        refine LOb_append (n := 0) (m := ps.length) (xs := []) (news := (ps.flatMap Pcl.cells)) (z := .agg #[.int .i64 0, .slice none 0 0, .bool false]) 4 (fun a cap => []) rfl (wv_n rfl) rfl rfl rfl sl22 sz36 by36 (by kernel_rfl) rfl rfl (.inl rfl) (fun _ hm => by have := src_of Pcl.cells_len (hv.keep hm.ext); simpa using this) (by first | exact rows_oneG Pcl.cells_one | simp [Value.oneCell']) (by omega) (by omega) (fun a cap => by kernel_rfl) ?_
        intro a13 cap13
        refine G_step [] 6 [] (by kernel_rfl) (allM all_nil) (allM (all_cons ?_ all_nil))
        refine LOb_append (n := (0 + ps.length)) (m := 1) (xs := ([] ++ (ps.flatMap Pcl.cells))) (news := [.int .i64 p.to, .slice p.r.a p.r.l.length p.r.cap, .bool p.sp]) (z := .agg #[.int .i64 0, .slice none 0 0, .bool false]) 4 (fun a cap => [(7, .pointer (some ⟨B1, 0, none⟩))]) rfl (wv_n rfl) rfl rfl rfl sl22 sz36 by36 (by kernel_rfl) rfl rfl (.inl rfl) (fun _ hm => src_blk (news := [.int .i64 p.to, .slice p.r.a p.r.l.length p.r.cap, .bool p.sp]) (hm.at 5 rfl) rfl) (by first | exact rows_oneG Pcl.cells_one | simp [Value.oneCell']) (by omega) (by omega) (fun a cap => by kernel_rfl) ?_
        intro a14 cap14
        refine G_step [7] 8 [] (by kernel_rfl) (allM (all_cons (q_run (.pointer (some ⟨B1, 0, none⟩)) rfl rfl (wv_n rfl) rfl (fun _ _ hρ _ => r_fieldAddr fl27_0 sz22 (hρ _ _ rfl))) all_nil)) (allM (all_cons ?_ all_nil))
        refine LOb_store 1 (.cells #[.slice a14 ((0 + ps.length) + 1) cap14, .int .u64 lost] 27) [] rfl (wv_n rfl) rfl rfl rfl (fun _ _ hρ hm => r_store sz22 (hρ _ _ rfl) (hρ _ _ rfl) (hm.at 1 rfl) rfl rfl rfl rfl) (by kernel_rfl) ?_
        exact G_lastQ [] [(2, .pointer (some ⟨B1, 0, none⟩)), (4, .pointer (some ⟨B3, 0, none⟩))] (by kernel_rfl) (allM all_nil) (end_old rfl rfl (end_old rfl rfl end_nil)) (fun a w hf hm => At_intro (B11, a14, cap14) trivial hf hm (sub_cons rfl (sub_cons rfl sub_nil)) (sub_cons rfl (sub_cons rfl (sub_cons rfl (sub_cons rfl (sub_cons rfl sub_nil))))))
    · skip
      obtain ⟨Bx5, ax6, capx6⟩ := z
      show POk _ _ .normal [(2, .pointer (some ⟨B1, 0, none⟩)), (4, .pointer (some ⟨B3, 0, none⟩))] [(1, .blk B1 (.cells #[.slice ax6 ((0 + ps.length) + 1) capx6, .int .u64 lost] 27)), (2, .blk B2 (.cells #[.int .i64 p.to, .slice p.r.a p.r.l.length p.r.cap, .bool p.sp] 36)), (3, .blk B3 (.cells #[.slice none 0 0, .int .u64 0] 27)), (4, .row (.slice ax6 ((0 + ps.length) + 1) capx6) 36 3 ((0 + ps.length) + 1) (([] ++ (ps.flatMap Pcl.cells)) ++ [.int .i64 p.to, .slice p.r.a p.r.l.length p.r.cap, .bool p.sp])), (5, .blk Bx5 (.cells #[.int .i64 p.to, .slice p.r.a p.r.l.length p.r.cap, .bool p.sp] 36))]
      refine p_seq ?_
      refine T_seq (T_region ?_)
      refine TL_q (.agg #[.slice ax6 ((0 + ps.length) + 1) capx6, .int .u64 lost]) (fun _ _ hρ hm => r_loadA ag27 sz27 (hρ _ _ rfl) (hm.at 1 rfl) rfl rfl) rfl rfl rfl (w_n rfl) ?_
      refine TL_store 3 (.cells #[.slice ax6 ((0 + ps.length) + 1) capx6, .int .u64 lost] 27) rfl (fun _ _ hρ hm => r_store sz27 (hρ _ _ rfl) (hρ _ _ rfl) (hm.at 3 rfl) rfl rfl rfl rfl) rfl rfl (w_n rfl) ?_
      refine TL_seq ?_
      refine T_ret' ?_
      refine ret_of rfl (.agg #[.slice ax6 ((0 + ps.length) + 1) capx6, .int .u64 lost]) (fun tmps w hk hm => res1 rfl (res_cell (hk 4 _ rfl) (run_loadVar_agg ag27 sz27 (hm.at 3 rfl) (Nat.le_of_ble_eq_true rfl) rfl))) (fun w hm => ?_)
      have hrow := hm.row 4 rfl
      have e1 : ((0 + ps.length) + 1) = (ps ++ [p]).length := by simp
      have e2 : (([] ++ (ps.flatMap Pcl.cells)) ++ [.int .i64 p.to, .slice p.r.a p.r.l.length p.r.cap, .bool p.sp]) = (ps ++ [p]).flatMap Pcl.cells := by rw [List.flatMap_append]; rfl
      rw [e1, e2] at hrow
      exact ⟨⟨ax6, capx6, ps ++ [p]⟩, lost, putV_room (show ps.length < 64 by omega) rfl, congrArg (fun k : Nat => Ending.returned (.agg #[.slice ax6 k capx6, .int .u64 lost])) e1, nnew_row hm.ext hrow hns fun x hx => (List.mem_append.1 hx).elim (fun h => ⟨_, hn, h⟩) fun h => by rw [List.mem_singleton.1 h]; exact hp⟩
  · replace h1 := of_decide_eq_false h1
    refine T_seq (T_region ?_)
    refine TL_q (.pointer (some ⟨B1, 1, none⟩)) (fun _ _ hρ _ => r_fieldAddr fl27_1 sz25 (hρ _ _ rfl)) rfl rfl rfl (w_n rfl) ?_
    refine TL_q (.int .u64 lost) (fun _ _ hρ hm => r_load ag25 (hρ _ _ rfl) (hm.at 1 rfl) rfl) rfl rfl rfl (w_n rfl) ?_
    refine TL_q (.bool (decide (lost < 4611686018427387904))) (fun _ _ hρ _ => r_lss (hρ _ _ rfl) (hρ _ _ rfl)) rfl rfl rfl (w_n rfl) ?_
    refine TL_seq ?_
    refine T_cond rfl (fun h2 => ?_) (fun h2 => ?_)
    · replace h2 := of_decide_eq_true h2
      refine T_region ?_
      refine TL_q (.pointer (some ⟨B1, 1, none⟩)) (fun _ _ hρ _ => r_fieldAddr fl27_1 sz25 (hρ _ _ rfl)) rfl rfl rfl (w_n rfl) ?_
      refine TL_q (.int .u64 lost) (fun _ _ hρ hm => r_load ag25 (hρ _ _ rfl) (hm.at 1 rfl) rfl) rfl rfl rfl (w_n rfl) ?_
      refine TL_q (.int .u64 (lost + 1)) (fun _ _ hρ _ => r_as (r_add (hρ _ _ rfl) (hρ _ _ rfl)) (int_as (wrap_u64 (by omega) (by omega)))) rfl rfl rfl (w_n rfl) ?_
      refine TL_q (.pointer (some ⟨B1, 1, none⟩)) (fun _ _ hρ _ => r_fieldAddr fl27_1 sz25 (hρ _ _ rfl)) rfl rfl rfl (w_n rfl) ?_
      refine TL_store 1 (.cells #[.slice a ps.length cap, .int .u64 (lost + 1)] 27) rfl (fun _ _ hρ hm => r_store sz25 (hρ _ _ rfl) (hρ _ _ rfl) (hm.at 1 rfl) rfl rfl rfl rfl) rfl rfl (w_n rfl) ?_
      refine TL_nil ?_
      refine p_seq ?_
      refine T_seq (T_region ?_)
      refine TL_q (.agg #[.slice a ps.length cap, .int .u64 (lost + 1)]) (fun _ _ hρ hm => r_loadA ag27 sz27 (hρ _ _ rfl) (hm.at 1 rfl) rfl rfl) rfl rfl rfl (w_n rfl) ?_
      refine TL_store 3 (.cells #[.slice a ps.length cap, .int .u64 (lost + 1)] 27) rfl (fun _ _ hρ hm => r_store sz27 (hρ _ _ rfl) (hρ _ _ rfl) (hm.at 3 rfl) rfl rfl rfl rfl) rfl rfl (w_n rfl) ?_
      refine TL_seq ?_
      refine T_ret' ?_
      refine ret_of rfl (.agg #[.slice a ps.length cap, .int .u64 (lost + 1)]) (fun tmps w hk hm => res1 rfl (res_cell (hk 4 _ rfl) (run_loadVar_agg ag27 sz27 (hm.at 3 rfl) (Nat.le_of_ble_eq_true rfl) rfl))) (fun w hm => ?_)
      exact ⟨⟨a, cap, ps⟩, lost + 1, putV_more (show 64 ≤ ps.length by omega) (by omega), rfl, ShNew.same hm.ext (hns _ hn) hn⟩
    · replace h2 := of_decide_eq_false h2
      refine T_skip' ?_
      refine p_seq ?_
      refine T_seq (T_region ?_)
      refine TL_q (.agg #[.slice a ps.length cap, .int .u64 lost]) (fun _ _ hρ hm => r_loadA ag27 sz27 (hρ _ _ rfl) (hm.at 1 rfl) rfl rfl) rfl rfl rfl (w_n rfl) ?_
      refine TL_store 3 (.cells #[.slice a ps.length cap, .int .u64 lost] 27) rfl (fun _ _ hρ hm => r_store sz27 (hρ _ _ rfl) (hρ _ _ rfl) (hm.at 3 rfl) rfl rfl rfl rfl) rfl rfl (w_n rfl) ?_
      refine TL_seq ?_
      refine T_ret' ?_
      refine ret_of rfl (.agg #[.slice a ps.length cap, .int .u64 lost]) (fun tmps w hk hm => res1 rfl (res_cell (hk 4 _ rfl) (run_loadVar_agg ag27 sz27 (hm.at 3 rfl) (Nat.le_of_ble_eq_true rfl) rfl))) (fun w hm => ?_)
      exact ⟨⟨a, cap, ps⟩, lost, putV_stay (show 64 ≤ ps.length by omega) (by omega), rfl, ShNew.same hm.ext (hns _ hn) hn⟩

theorem rwith_c (ps : List Pcl) (a : Option Addr) (cap : Nat) (lost : Int) (i : Nat) (ns : List NetR) (w : World) (hns : ∀ m ∈ ns, NAt w m) (hn : (⟨a, cap, ps⟩ : NetR) ∈ ns) (hi : i < ps.length) (hl9 : ps.length ≤ 1000) : Calls Try.prog 71 #[.agg #[.slice a ps.length cap, .int .u64 lost], .int .i64 (i : Int)] w fun e w' => ∃ d : NetR, d.l = ps.eraseIdx i ∧ e = .returned (.agg #[.slice d.a d.l.length d.cap, .int .u64 lost]) ∧ NNew w w' ns d := by
  have hv : SliceAt w a cap 3 Pcl.cells ps := (hns _ hn).1
  have hcap : cap ≤ Go.maxLen := (hns _ hn).2.1
  have hb : PcsAt w ps := (hns _ hn).2.2
  have hvl := hv.1
  unfold Go.maxLen at hcap
  refine calls_of_T (l := [.agg #[.slice a ps.length cap, .int .u64 lost], .int .i64 ((i : Nat) : Int)]) 19 Try.func71 rfl rfl rfl ?_
  show T _ _ _ [(0, .agg #[.slice a ps.length cap, .int .u64 lost]), (1, .int .i64 ((i : Nat) : Int))] []
  refine T_seq (T_region ?_)
  refine TL_new 1 (.cells #[.slice a ps.length cap, .int .u64 lost] 27) (fun B => .pointer (some ⟨B, 0, none⟩)) (fun _ _ hρ _ => r_box (hρ _ _ rfl) rfl) rfl rfl rfl (w_n rfl) ?_
  intro B1
  refine TL_new 2 (.cells #[.slice none 0 0, .int .u64 0] 27) (fun B => .pointer (some ⟨B, 0, none⟩)) (fun _ _ _ _ => r_alloc (v := .agg #[.slice none 0 0, .int .u64 0]) (by kernel_rfl) rfl) rfl rfl rfl (w_n rfl) ?_
  intro B2
  refine TL_seq ?_
  obtain ⟨l3, hl3, hn3⟩ : ∃ lz, lz = ps.take i ∧ lz.length = i := ⟨_, rfl, by rw [List.length_take]; omega⟩
  have hs3 := SliceAt.front hv (n := i) (m := cap) (by omega) (by omega) (by omega)
  rw [← hl3] at hs3
  obtain ⟨l4, hl4, hn4⟩ : ∃ lz, lz = (ps.drop (i + 1)).take (ps.length - (i + 1)) ∧ lz.length = ps.length - (i + 1) := ⟨_, rfl, by rw [List.length_take, List.length_drop]; omega⟩
  obtain ⟨a4, ha4⟩ : ∃ az : Option Addr, az = (if cap = i + 1 then a else Option.map (·.add ((i + 1) * 3)) a) := ⟨_, rfl⟩
  have hs4 := SliceAt.part hv (lo := i + 1) (hi := ps.length) (m := cap) (by omega) (by omega) (by omega) (by omega)
  rw [← hl4, ← ha4] at hs4
  refine T_seq (T_draw (V := [(1, .pointer (some ⟨B1, 0, none⟩)), (2, .slice a ps.length cap), (3, .int .i64 ((i : Nat) : Int)), (4, .slice a l3.length cap), (6, .pointer (some ⟨B1, 0, none⟩)), (7, .slice a ps.length cap), (8, .int .i64 ((i : Nat) : Int)), (9, .int .i64 ((i + 1 : Nat) : Int)), (10, .slice a4 l4.length (cap - (i + 1)))]) [0, 0, 2, 0, 14, 31, 0, 64, 0, 256, 960, 2047, 4095, 8191] [[], [(2, none)], [(6, some 1)], [(1, none)], [(7, some 2), (8, some 3)], [(5, some 0), (9, some 4)], [(2, none)], [(11, some 6)], [(1, none)], [(13, some 8)], [(12, some 7), (14, some 9)], [(10, some 5), (15, some 10)], [(2, none)], [(17, some 12), (16, some 11)]] 10273 mixed (by kernel_rfl) ?_)
  refine G_step [1, 2, 3, 4, 6, 7, 8, 9, 10] 0 [] (by kernel_rfl) (allM (all_cons (q_run (.pointer (some ⟨B1, 0, none⟩)) rfl rfl (wv_n rfl) rfl (fun _ _ hρ _ => r_fieldAddr fl27_0 sz22 (hρ _ _ rfl))) (all_cons (q_run (.slice a ps.length cap) rfl rfl (wv_n rfl) rfl (fun _ _ hρ hm => r_load ag22 (hρ _ _ rfl) (hm.at 1 rfl) rfl)) (all_cons (q_run (.int .i64 ((i : Nat) : Int)) rfl rfl (wv_n rfl) rfl (fun _ _ hρ _ => r_move (hρ _ _ rfl))) (all_cons (q_run (.slice a l3.length cap) rfl rfl (wv_n rfl) rfl (fun ρ _ hρ _ => r_as (r_sliceO sl22 sz36 (hρ _ _ rfl) (bd_none ρ _) (bd_some (n := i) (hρ _ _ rfl)) (bd_none ρ _) (by simp) (by omega) (by omega) (by omega)) (by rw [hn3]; exact slo_zero _ _ _ _))) (all_cons (q_run (.pointer (some ⟨B1, 0, none⟩)) rfl rfl (wv_n rfl) rfl (fun _ _ hρ _ => r_fieldAddr fl27_0 sz22 (hρ _ _ rfl))) (all_cons (q_run (.slice a ps.length cap) rfl rfl (wv_n rfl) rfl (fun _ _ hρ hm => r_load ag22 (hρ _ _ rfl) (hm.at 1 rfl) rfl)) (all_cons (q_run (.int .i64 ((i : Nat) : Int)) rfl rfl (wv_n rfl) rfl (fun _ _ hρ _ => r_move (hρ _ _ rfl))) (all_cons (q_run (.int .i64 ((i + 1 : Nat) : Int)) rfl rfl (wv_n rfl) rfl (fun _ _ hρ _ => r_as (r_add (hρ _ _ rfl) (hρ _ _ rfl)) (int_as ((wrap64 (by omega) (by omega)).trans (by omega))))) (all_cons (q_run (.slice a4 l4.length (cap - (i + 1))) rfl rfl (wv_n rfl) rfl (fun ρ _ hρ _ => r_as (r_sliceO sl22 sz36 (hρ _ _ rfl) (bd_none ρ _) (bd_none ρ _) (bd_some (n := i + 1) (hρ _ _ rfl)) (by simp) (by omega) (by omega) (by omega)) (by rw [hn4, ha4]))) all_nil)))))))))) (allM (all_cons ?_ all_nil))
  refine LOb_new 3 (.cells #[] 36) (fun B => .slice (some ⟨B, 0, none⟩) 0 0) (fun B => []) rfl (wv_n rfl) rfl rfl (fun _ _ _ _ => r_buildSlice (vs := []) (by kernel_rfl) rfl) (fun B => by kernel_rfl) ?_
  intro B5
  refine G_mem ([(3, .row (.slice (some ⟨B5, 0, none⟩) 0 0) 36 3 0 []), (1, .blk B1 (.cells #[.slice a ps.length cap, .int .u64 lost] 27)), (2, .blk B2 (.cells #[.slice none 0 0, .int .u64 0] 27))]) (fun _ hm => MemOk.sub (hm.toRow (n := 0) (cap := 0) (s := 3) 3 rfl rfl (by omega) rfl _ rfl) (sub_cons rfl (sub_cons rfl (sub_cons rfl sub_nil)))) ?_
  refine G_step [1, 2, 3, 4, 6, 7, 8, 9, 10] 5 [] (by kernel_rfl) (allM (all_cons (q_run (.pointer (some ⟨B1, 0, none⟩)) rfl rfl (wv_n rfl) rfl (fun _ _ hρ _ => r_fieldAddr fl27_0 sz22 (hρ _ _ rfl))) (all_cons (q_run (.slice a ps.length cap) rfl rfl (wv_n rfl) rfl (fun _ _ hρ hm => r_load ag22 (hρ _ _ rfl) (hm.at 1 rfl) rfl)) (all_cons (q_run (.int .i64 ((i : Nat) : Int)) rfl rfl (wv_n rfl) rfl (fun _ _ hρ _ => r_move (hρ _ _ rfl))) (all_cons (q_run (.slice a l3.length cap) rfl rfl (wv_n rfl) rfl (fun ρ _ hρ _ => r_as (r_sliceO sl22 sz36 (hρ _ _ rfl) (bd_none ρ _) (bd_some (n := i) (hρ _ _ rfl)) (bd_none ρ _) (by simp) (by omega) (by omega) (by omega)) (by rw [hn3]; exact slo_zero _ _ _ _))) (all_cons (q_run (.pointer (some ⟨B1, 0, none⟩)) rfl rfl (wv_n rfl) rfl (fun _ _ hρ _ => r_fieldAddr fl27_0 sz22 (hρ _ _ rfl))) (all_cons (q_run (.slice a ps.length cap) rfl rfl (wv_n rfl) rfl (fun _ _ hρ hm => r_load ag22 (hρ _ _ rfl) (hm.at 1 rfl) rfl)) (all_cons (q_run (.int .i64 ((i : Nat) : Int)) rfl rfl (wv_n rfl) rfl (fun _ _ hρ _ => r_move (hρ _ _ rfl))) (all_cons (q_run (.int .i64 ((i + 1 : Nat) : Int)) rfl rfl (wv_n rfl) rfl (fun _ _ hρ _ => r_as (r_add (hρ _ _ rfl) (hρ _ _ rfl)) (int_as ((wrap64 (by omega) (by omega)).trans (by omega))))) (all_cons (q_run (.slice a4 l4.length (cap - (i + 1))) rfl rfl (wv_n rfl) rfl (fun ρ _ hρ _ => r_as (r_sliceO sl22 sz36 (hρ _ _ rfl) (bd_none ρ _) (bd_none ρ _) (bd_some (n := i + 1) (hρ _ _ rfl)) (by simp) (by omega) (by omega) (by omega)) (by rw [hn4, ha4]))) all_nil)))))))))) (allM (all_cons ?_ all_nil))
  refine LOb_append (n := 0) (m := l3.length) (xs := []) (news := (l3.flatMap Pcl.cells)) (z := .agg #[.int .i64 0, .slice none 0 0, .bool false]) 3 (fun a cap => []) rfl (wv_n rfl) rfl rfl rfl sl22 sz36 by36 (by kernel_rfl) rfl rfl (.inl rfl) (fun _ hm => by have := src_of Pcl.cells_len (hs3.keep hm.ext); simpa using this) (by first | exact rows_oneG Pcl.cells_one | simp [Value.oneCell']) (by omega) (by omega) (fun a cap => by kernel_rfl) ?_
  intro a6 cap6
  refine G_step [6, 7, 8, 9, 10] 11 [] (by kernel_rfl) (allM (all_cons (q_run (.pointer (some ⟨B1, 0, none⟩)) rfl rfl (wv_n rfl) rfl (fun _ _ hρ _ => r_fieldAddr fl27_0 sz22 (hρ _ _ rfl))) (all_cons (q_run (.slice a ps.length cap) rfl rfl (wv_n rfl) rfl (fun _ _ hρ hm => r_load ag22 (hρ _ _ rfl) (hm.at 1 rfl) rfl)) (all_cons (q_run (.int .i64 ((i : Nat) : Int)) rfl rfl (wv_n rfl) rfl (fun _ _ hρ _ => r_move (hρ _ _ rfl))) (all_cons (q_run (.int .i64 ((i + 1 : Nat) : Int)) rfl rfl (wv_n rfl) rfl (fun _ _ hρ _ => r_as (r_add (hρ _ _ rfl) (hρ _ _ rfl)) (int_as ((wrap64 (by omega) (by omega)).trans (by omega))))) (all_cons (q_run (.slice a4 l4.length (cap - (i + 1))) rfl rfl (wv_n rfl) rfl (fun ρ _ hρ _ => r_as (r_sliceO sl22 sz36 (hρ _ _ rfl) (bd_none ρ _) (bd_none ρ _) (bd_some (n := i + 1) (hρ _ _ rfl)) (by simp) (by omega) (by omega) (by omega)) (by rw [hn4, ha4]))) all_nil)))))) (allM (all_cons ?_ all_nil))
  refine LOb_append (n := (0 + l3.length)) (m := l4.length) (xs := ([] ++ (l3.flatMap Pcl.cells))) (news := (l4.flatMap Pcl.cells)) (z := .agg #[.int .i64 0, .slice none 0 0, .bool false]) 3 (fun a cap => [(12, .pointer (some ⟨B1, 0, none⟩))]) rfl (wv_n rfl) rfl rfl rfl sl22 sz36 by36 (by kernel_rfl) rfl rfl (.inl rfl) (fun _ hm => by have := src_of Pcl.cells_len (hs4.keep hm.ext); simpa using this) (by first | exact rows_oneG Pcl.cells_one | simp [Value.oneCell']) (by omega) (by omega) (fun a cap => by kernel_rfl) ?_
  intro a7 cap7
  refine G_step [12] 13 [] (by kernel_rfl) (allM (all_cons (q_run (.pointer (some ⟨B1, 0, none⟩)) rfl rfl (wv_n rfl) rfl (fun _ _ hρ _ => r_fieldAddr fl27_0 sz22 (hρ _ _ rfl))) all_nil)) (allM (all_cons ?_ all_nil))
  refine LOb_store 1 (.cells #[.slice a7 ((0 + l3.length) + l4.length) cap7, .int .u64 lost] 27) [] rfl (wv_n rfl) rfl rfl rfl (fun _ _ hρ hm => r_store sz22 (hρ _ _ rfl) (hρ _ _ rfl) (hm.at 1 rfl) rfl rfl rfl rfl) (by kernel_rfl) ?_
  refine G_last [] [(2, .pointer (some ⟨B1, 0, none⟩)), (4, .pointer (some ⟨B2, 0, none⟩))] (by kernel_rfl) (allM all_nil) (end_old rfl rfl (end_old rfl rfl end_nil)) ?_
  refine T_seq (T_region ?_)
  refine TL_q (.agg #[.slice a7 ((0 + l3.length) + l4.length) cap7, .int .u64 lost]) (fun _ _ hρ hm => r_loadA ag27 sz27 (hρ _ _ rfl) (hm.at 1 rfl) rfl rfl) rfl rfl rfl (w_n rfl) ?_
  refine TL_store 2 (.cells #[.slice a7 ((0 + l3.length) + l4.length) cap7, .int .u64 lost] 27) rfl (fun _ _ hρ hm => r_store sz27 (hρ _ _ rfl) (hρ _ _ rfl) (hm.at 2 rfl) rfl rfl rfl rfl) rfl rfl (w_n rfl) ?_
  refine TL_seq ?_
  refine T_ret' ?_
  refine ret_of rfl (.agg #[.slice a7 ((0 + l3.length) + l4.length) cap7, .int .u64 lost]) (fun tmps w hk hm => res1 rfl (res_cell (hk 4 _ rfl) (run_loadVar_agg ag27 sz27 (hm.at 2 rfl) (Nat.le_of_ble_eq_true rfl) rfl))) (fun w hm => ?_)
  have hrow := hm.row 3 rfl
  have e0 : l3 ++ l4 = ps.eraseIdx i := by rw [hl3, hl4, List.take_of_length_le (l := ps.drop (i + 1)) (by rw [List.length_drop]; omega)]; exact erase_td ps i
  have e1 : ((0 + l3.length) + l4.length) = (ps.eraseIdx i).length := by rw [← e0]; simp
  have e2 : (([] ++ (l3.flatMap Pcl.cells)) ++ (l4.flatMap Pcl.cells)) = (ps.eraseIdx i).flatMap Pcl.cells := by rw [← e0, List.flatMap_append]; rfl
  rw [e1, e2] at hrow
  exact ⟨⟨a7, cap7, ps.eraseIdx i⟩, rfl, congrArg (fun k : Nat => Ending.returned (.agg #[.slice a7 k cap7, .int .u64 lost])) e1, nnew_row hm.ext hrow hns fun x hx => ⟨_, hn, List.mem_of_mem_eraseIdx hx⟩⟩

theorem doV_kind {n : NV} {t : Trk} (h : ¬ (1 ≤ t.kind ∧ t.kind ≤ 4)) : doV n t = (2, n, []) := by unfold doV; rw [if_pos h]
theorem doV_at {n : NV} {t : Trk} (hk : 1 ≤ t.kind ∧ t.kind ≤ 4) (h : t.at' < 0 ∨ (n.1.length : Int) ≤ t.at') : doV n t = (4, n, []) := by
  unfold doV
  rw [if_neg (fun e => e hk)]
  split
  · rw [List.getElem?_eq_none (by omega)]
  · rfl
/-- What the document's answer for a trick is. -/
structure RdoIs (n : NetR) (lost : Int) (t : Trk) (d : NetR) (lo : Int) (q : Pcl) (er : Int) : Prop where
  is : (doV (pvs n.l, lost) t).1 = er
  ok : er = 0 → (pvs d.l, lo) = (doV (pvs n.l, lost) t).2.1 ∧ q.pv = toldV (doV (pvs n.l, lost) t).2.2
  no : ¬ er = 0 → d = ⟨none, 0, []⟩ ∧ lo = 0 ∧ q = ⟨0, ⟨none, 0, []⟩, false⟩
  q : q ∈ n.l ∨ q = ⟨0, ⟨none, 0, []⟩, false⟩ ∧ (er = 0 → ¬ t.kind = 1)
theorem nnew_zero {w w' : World} {ns : List NetR} (hb : Below w.heap.size w w') : NNew w w' ns ⟨none, 0, []⟩ := ⟨hb, nat_zero w', by rintro b (⟨h, _⟩ | ⟨p, hp, _⟩) <;> first | exact absurd rfl h | cases hp⟩
theorem rspoil_ok {bit : Int} {mask : Wd} {l b : List By} (a : Option Addr) (cap : Nat) (w : World) (hb : spoilI l bit mask = some b) (hv : SliceAt w a cap 1 byc l) (hl : l.length ≤ 1000000) (hcap : cap ≤ Go.maxLen) : Calls Try.prog 72 #[.slice a l.length cap, .int .i64 bit, .int .u32 (mask.toNat : Int)] w fun e w' => ∃ a' cap', e = .returned (.tuple #[.slice a' b.length cap', .bool true]) ∧ Below w.heap.size w w' ∧ w'.ownsRow w.heap.size 5 1 (.slice a' b.length cap') b.length (b.flatMap byc) := by
  unfold spoilI at hb
  split at hb
  · rename_i h0
    unfold spoilP at hb
    split at hb
    · rename_i h1
      cases hb
      have h := rspoil_in bit.toNat mask l a cap w hv hl hcap h1.1
      rw [h1.2, Int.toNat_of_nonneg h0] at h
      exact h
    · cases hb
  · cases hb
theorem rspoil_no {bit : Int} {mask : Wd} {l : List By} (a : Option Addr) (cap : Nat) (w : World) (hb : spoilI l bit mask = none) (hv : SliceAt w a cap 1 byc l) (hl : l.length ≤ 1000000) (hcap : cap ≤ Go.maxLen) : Calls Try.prog 72 #[.slice a l.length cap, .int .i64 bit, .int .u32 (mask.toNat : Int)] w fun e w' => ∃ a' cap' b, e = .returned (.tuple #[.slice a' (b : List By).length cap', .bool false]) ∧ Below w.heap.size w w' ∧ w'.ownsRow w.heap.size 5 1 (.slice a' b.length cap') b.length (b.flatMap byc) := by
  by_cases h0 : 0 ≤ bit ∧ bit.toNat < 8 * l.length
  · have h := rspoil_in bit.toNat mask l a cap w hv hl hcap h0.2
    rw [Int.toNat_of_nonneg h0.1] at h
    rw [show spoilI l bit mask = spoilP l bit.toNat mask from if_pos h0.1] at hb
    unfold spoilP at hb
    split at hb
    · cases hb
    · rename_i h1
      have e : someN l bit.toNat mask 32 = false := by cases e : someN l bit.toNat mask 32 with
        | false => rfl
        | true => exact absurd ⟨h0.2, e⟩ h1
      rw [e] at h
      exact h.mono fun e w' ⟨a', cap', h⟩ => ⟨a', cap', _, h⟩
  · exact (rspoil_out bit mask l a cap w hv hl hcap (by omega)).mono fun e w' h => ⟨none, 0, [], h.1, h.2, World.ownsRow_nil _ _ _ _⟩

set_option maxHeartbeats 1000000 in
theorem rdo_c (ps : List Pcl) (a : Option Addr) (cap : Nat) (lost tk i tb : Int) (tm : Wd) (w : World) (hn : NAt w ⟨a, cap, ps⟩) (h0 : 0 ≤ lost) (hl9 : ps.length ≤ 1000) : Calls Try.prog 24 #[.agg #[.slice a ps.length cap, .int .u64 lost], .agg #[.int .i64 tk, .int .i64 i, .int .i64 tb, .int .u32 (tm.toNat : Int)]] w fun e w' => ∃ (d : NetR) (lo : Int) (q : Pcl) (er : Int), RdoIs ⟨a, cap, ps⟩ lost ⟨tk, i, tb, tm⟩ d lo q er ∧ e = .returned (.tuple #[.agg #[.slice d.a d.l.length d.cap, .int .u64 lo], q.v, .int .i64 er]) ∧ NNew w w' [⟨a, cap, ps⟩] d := by
  have hv : SliceAt w a cap 3 Pcl.cells ps := hn.1
  have hcap : cap ≤ Go.maxLen := hn.2.1
  have hb : PcsAt w ps := hn.2.2
  have hvl := hv.1
  unfold Go.maxLen at hcap
  have h1n : ∀ c ∈ [(⟨a, cap, ps⟩ : NetR)], NAt w c := fun c hc => by rw [List.mem_singleton.1 hc]; exact hn
  refine calls_of_T (l := [.agg #[.slice a ps.length cap, .int .u64 lost], .agg #[.int .i64 tk, .int .i64 i, .int .i64 tb, .int .u32 ((tm).toNat : Int)]]) 95 Try.func24 rfl rfl rfl ?_
  show T _ _ _ [(0, .agg #[.slice a ps.length cap, .int .u64 lost]), (1, .agg #[.int .i64 tk, .int .i64 i, .int .i64 tb, .int .u32 ((tm).toNat : Int)])] []
  refine T_seq (T_region ?_)
  refine TL_new 1 (.cells #[.slice a ps.length cap, .int .u64 lost] 27) (fun B => .pointer (some ⟨B, 0, none⟩)) (fun _ _ hρ _ => r_box (hρ _ _ rfl) rfl) rfl rfl rfl (w_n rfl) ?_
  intro B1
  refine TL_new 2 (.cells #[.int .i64 tk, .int .i64 i, .int .i64 tb, .int .u32 ((tm).toNat : Int)] 48) (fun B => .pointer (some ⟨B, 0, none⟩)) (fun _ _ hρ _ => r_box (hρ _ _ rfl) rfl) rfl rfl rfl (w_n rfl) ?_
  intro B2
  refine TL_new 3 (.cells #[.slice none 0 0, .int .u64 0] 27) (fun B => .pointer (some ⟨B, 0, none⟩)) (fun _ _ _ _ => r_alloc (v := .agg #[.slice none 0 0, .int .u64 0]) (by kernel_rfl) rfl) rfl rfl rfl (w_n rfl) ?_
  intro B3
  refine TL_new 4 (.cells #[.int .i64 0, .slice none 0 0, .bool false] 36) (fun B => .pointer (some ⟨B, 0, none⟩)) (fun _ _ _ _ => r_alloc (v := .agg #[.int .i64 0, .slice none 0 0, .bool false]) (by kernel_rfl) rfl) rfl rfl rfl (w_n rfl) ?_
  intro B4
  refine TL_q (.int .i64 0) (fun _ _ hρ _ => r_assign (hρ _ _ rfl)) rfl rfl rfl (w_n rfl) ?_
  refine TL_seq ?_
  refine T_seq ?_
  by_cases c1 : tk < 1
  · skip
    refine T_seq (T_region ?_)
    refine TL_q (.pointer (some ⟨B2, 0, none⟩)) (fun _ _ hρ _ => r_fieldAddr fl48_0 sz3 (hρ _ _ rfl)) rfl rfl rfl (w_n rfl) ?_
    refine TL_q (.int .i64 tk) (fun _ _ hρ hm => r_load ag3 (hρ _ _ rfl) (hm.at 2 rfl) rfl) rfl rfl rfl (w_n rfl) ?_
    refine TL_q (.bool true) (fun _ _ hρ _ => r_as (r_lss (hρ _ _ rfl) (hρ _ _ rfl)) (bool_as (decide_eq_true c1))) rfl rfl rfl (w_n rfl) ?_
    refine TL_q (.bool true) (fun _ _ hρ _ => r_move (hρ _ _ rfl)) rfl rfl rfl (w_n rfl) ?_
    refine TL_no rfl rfl (want_n 13 rfl rfl rfl) ?_
    refine TL_no rfl rfl (want_n 13 rfl rfl rfl) ?_
    refine TL_no rfl rfl (want_n 13 rfl rfl rfl) ?_
    refine TL_q (.bool true) (fun _ _ hρ _ => r_pick_t (hρ _ _ rfl) (hρ _ _ rfl)) rfl rfl rfl (w_n rfl) ?_
    refine TL_seq ?_
    refine T_cond_t rfl ?_
    refine T_seq (T_region ?_)
    refine TL_q (.agg #[.slice none 0 0, .int .u64 0]) (fun _ _ _ _ => r_build (vs := []) (by kernel_rfl) rfl) rfl rfl rfl (w_n rfl) ?_
    refine TL_q (.agg #[.int .i64 0, .slice none 0 0, .bool false]) (fun _ _ _ _ => r_build (vs := []) (by kernel_rfl) rfl) rfl rfl rfl (w_n rfl) ?_
    refine TL_store 3 (.cells #[.slice none 0 0, .int .u64 0] 27) rfl (fun _ _ hρ hm => r_store sz27 (hρ _ _ rfl) (hρ _ _ rfl) (hm.at 3 rfl) rfl rfl rfl rfl) rfl rfl (w_n rfl) ?_
    refine TL_store 4 (.cells #[.int .i64 0, .slice none 0 0, .bool false] 36) rfl (fun _ _ hρ hm => r_store sz36 (hρ _ _ rfl) (hρ _ _ rfl) (hm.at 4 rfl) rfl rfl rfl rfl) rfl rfl (w_n rfl) ?_
    refine TL_q (.int .i64 2) (fun _ _ hρ _ => r_assign (hρ _ _ rfl)) rfl rfl rfl (w_n rfl) ?_
    refine TL_seq ?_
    refine T_ret' ?_
    refine p_then_r ?_
    refine ret_of rfl (.tuple #[.agg #[.slice none 0 0, .int .u64 0], .agg #[.int .i64 0, .slice none 0 0, .bool false], .int .i64 2]) (fun tmps w hk hm => res3 rfl (res_cell (hk 4 _ rfl) (run_loadVar_agg ag27 sz27 (hm.at 3 rfl) (Nat.le_of_ble_eq_true rfl) rfl)) (res_cell (hk 5 _ rfl) (run_loadVar_agg ag36 sz36 (hm.at 4 rfl) (Nat.le_of_ble_eq_true rfl) rfl)) (res_tmp (hk 6 _ rfl))) (fun w hm => ?_)
    exact ⟨⟨none, 0, []⟩, 0, ⟨0, ⟨none, 0, []⟩, false⟩, 2, ⟨(congrArg (·.1) (doV_kind (t := ⟨tk, i, tb, tm⟩) (show ¬ (1 ≤ tk ∧ tk ≤ 4) by omega))), fun e => absurd e (by decide), fun _ => ⟨rfl, rfl, rfl⟩, .inr ⟨rfl, fun e => absurd e (by decide)⟩⟩, rfl, nnew_zero hm.ext⟩
  · skip
    by_cases c2 : (4 : Int) < tk
    · skip
      refine T_seq (T_region ?_)
      refine TL_q (.pointer (some ⟨B2, 0, none⟩)) (fun _ _ hρ _ => r_fieldAddr fl48_0 sz3 (hρ _ _ rfl)) rfl rfl rfl (w_n rfl) ?_
      refine TL_q (.int .i64 tk) (fun _ _ hρ hm => r_load ag3 (hρ _ _ rfl) (hm.at 2 rfl) rfl) rfl rfl rfl (w_n rfl) ?_
      refine TL_q (.bool false) (fun _ _ hρ _ => r_as (r_lss (hρ _ _ rfl) (hρ _ _ rfl)) (bool_as (decide_eq_false c1))) rfl rfl rfl (w_n rfl) ?_
      refine TL_q (.bool false) (fun _ _ hρ _ => r_move (hρ _ _ rfl)) rfl rfl rfl (w_n rfl) ?_
      refine TL_q (.pointer (some ⟨B2, 0, none⟩)) (fun _ _ hρ _ => r_fieldAddr fl48_0 sz3 (hρ _ _ rfl)) rfl rfl rfl (want_y 13 rfl rfl rfl) ?_
      refine TL_q (.int .i64 tk) (fun _ _ hρ hm => r_load ag3 (hρ _ _ rfl) (hm.at 2 rfl) rfl) rfl rfl rfl (want_y 13 rfl rfl rfl) ?_
      refine TL_q (.bool true) (fun _ _ hρ _ => r_as (r_gtr (hρ _ _ rfl) (hρ _ _ rfl)) (bool_as (decide_eq_true c2))) rfl rfl rfl (want_y 13 rfl rfl rfl) ?_
      refine TL_q (.bool true) (fun _ _ hρ _ => r_pick_f (hρ _ _ rfl) (hρ _ _ rfl)) rfl rfl rfl (w_n rfl) ?_
      refine TL_seq ?_
      refine T_cond_t rfl ?_
      refine T_seq (T_region ?_)
      refine TL_q (.agg #[.slice none 0 0, .int .u64 0]) (fun _ _ _ _ => r_build (vs := []) (by kernel_rfl) rfl) rfl rfl rfl (w_n rfl) ?_
      refine TL_q (.agg #[.int .i64 0, .slice none 0 0, .bool false]) (fun _ _ _ _ => r_build (vs := []) (by kernel_rfl) rfl) rfl rfl rfl (w_n rfl) ?_
      refine TL_store 3 (.cells #[.slice none 0 0, .int .u64 0] 27) rfl (fun _ _ hρ hm => r_store sz27 (hρ _ _ rfl) (hρ _ _ rfl) (hm.at 3 rfl) rfl rfl rfl rfl) rfl rfl (w_n rfl) ?_
      refine TL_store 4 (.cells #[.int .i64 0, .slice none 0 0, .bool false] 36) rfl (fun _ _ hρ hm => r_store sz36 (hρ _ _ rfl) (hρ _ _ rfl) (hm.at 4 rfl) rfl rfl rfl rfl) rfl rfl (w_n rfl) ?_
      refine TL_q (.int .i64 2) (fun _ _ hρ _ => r_assign (hρ _ _ rfl)) rfl rfl rfl (w_n rfl) ?_
      refine TL_seq ?_
      refine T_ret' ?_
      refine p_then_r ?_
      refine ret_of rfl (.tuple #[.agg #[.slice none 0 0, .int .u64 0], .agg #[.int .i64 0, .slice none 0 0, .bool false], .int .i64 2]) (fun tmps w hk hm => res3 rfl (res_cell (hk 4 _ rfl) (run_loadVar_agg ag27 sz27 (hm.at 3 rfl) (Nat.le_of_ble_eq_true rfl) rfl)) (res_cell (hk 5 _ rfl) (run_loadVar_agg ag36 sz36 (hm.at 4 rfl) (Nat.le_of_ble_eq_true rfl) rfl)) (res_tmp (hk 6 _ rfl))) (fun w hm => ?_)
      exact ⟨⟨none, 0, []⟩, 0, ⟨0, ⟨none, 0, []⟩, false⟩, 2, ⟨(congrArg (·.1) (doV_kind (t := ⟨tk, i, tb, tm⟩) (show ¬ (1 ≤ tk ∧ tk ≤ 4) by omega))), fun e => absurd e (by decide), fun _ => ⟨rfl, rfl, rfl⟩, .inr ⟨rfl, fun e => absurd e (by decide)⟩⟩, rfl, nnew_zero hm.ext⟩
    · skip
      refine T_seq (T_region ?_)
      refine TL_q (.pointer (some ⟨B2, 0, none⟩)) (fun _ _ hρ _ => r_fieldAddr fl48_0 sz3 (hρ _ _ rfl)) rfl rfl rfl (w_n rfl) ?_
      refine TL_q (.int .i64 tk) (fun _ _ hρ hm => r_load ag3 (hρ _ _ rfl) (hm.at 2 rfl) rfl) rfl rfl rfl (w_n rfl) ?_
      refine TL_q (.bool false) (fun _ _ hρ _ => r_as (r_lss (hρ _ _ rfl) (hρ _ _ rfl)) (bool_as (decide_eq_false c1))) rfl rfl rfl (w_n rfl) ?_
      refine TL_q (.bool false) (fun _ _ hρ _ => r_move (hρ _ _ rfl)) rfl rfl rfl (w_n rfl) ?_
      refine TL_q (.pointer (some ⟨B2, 0, none⟩)) (fun _ _ hρ _ => r_fieldAddr fl48_0 sz3 (hρ _ _ rfl)) rfl rfl rfl (want_y 13 rfl rfl rfl) ?_
      refine TL_q (.int .i64 tk) (fun _ _ hρ hm => r_load ag3 (hρ _ _ rfl) (hm.at 2 rfl) rfl) rfl rfl rfl (want_y 13 rfl rfl rfl) ?_
      refine TL_q (.bool false) (fun _ _ hρ _ => r_as (r_gtr (hρ _ _ rfl) (hρ _ _ rfl)) (bool_as (decide_eq_false c2))) rfl rfl rfl (want_y 13 rfl rfl rfl) ?_
      refine TL_q (.bool false) (fun _ _ hρ _ => r_pick_f (hρ _ _ rfl) (hρ _ _ rfl)) rfl rfl rfl (w_n rfl) ?_
      refine TL_seq ?_
      refine T_cond_f rfl ?_
      refine T_skip' ?_
      refine p_seq ?_
      refine T_seq ?_
      by_cases c3 : i < 0
      · skip
        refine T_seq (T_region ?_)
        refine TL_q (.pointer (some ⟨B2, 1, none⟩)) (fun _ _ hρ _ => r_fieldAddr fl48_1 sz3 (hρ _ _ rfl)) rfl rfl rfl (w_n rfl) ?_
        refine TL_q (.int .i64 i) (fun _ _ hρ hm => r_load ag3 (hρ _ _ rfl) (hm.at 2 rfl) rfl) rfl rfl rfl (w_n rfl) ?_
        refine TL_q (.bool true) (fun _ _ hρ _ => r_as (r_lss (hρ _ _ rfl) (hρ _ _ rfl)) (bool_as (decide_eq_true c3))) rfl rfl rfl (w_n rfl) ?_
        refine TL_q (.bool true) (fun _ _ hρ _ => r_move (hρ _ _ rfl)) rfl rfl rfl (w_n rfl) ?_
        refine TL_no rfl rfl (want_n 23 rfl rfl rfl) ?_
        refine TL_no rfl rfl (want_n 23 rfl rfl rfl) ?_
        refine TL_no rfl rfl (want_n 23 rfl rfl rfl) ?_
        refine TL_no rfl rfl (want_n 23 rfl rfl rfl) ?_
        refine TL_no rfl rfl (want_n 23 rfl rfl rfl) ?_
        refine TL_no rfl rfl (want_n 23 rfl rfl rfl) ?_
        refine TL_q (.bool true) (fun _ _ hρ _ => r_pick_t (hρ _ _ rfl) (hρ _ _ rfl)) rfl rfl rfl (w_n rfl) ?_
        refine TL_seq ?_
        refine T_cond_t rfl ?_
        refine T_seq (T_region ?_)
        refine TL_q (.agg #[.slice none 0 0, .int .u64 0]) (fun _ _ _ _ => r_build (vs := []) (by kernel_rfl) rfl) rfl rfl rfl (w_n rfl) ?_
        refine TL_q (.agg #[.int .i64 0, .slice none 0 0, .bool false]) (fun _ _ _ _ => r_build (vs := []) (by kernel_rfl) rfl) rfl rfl rfl (w_n rfl) ?_
        refine TL_store 3 (.cells #[.slice none 0 0, .int .u64 0] 27) rfl (fun _ _ hρ hm => r_store sz27 (hρ _ _ rfl) (hρ _ _ rfl) (hm.at 3 rfl) rfl rfl rfl rfl) rfl rfl (w_n rfl) ?_
        refine TL_store 4 (.cells #[.int .i64 0, .slice none 0 0, .bool false] 36) rfl (fun _ _ hρ hm => r_store sz36 (hρ _ _ rfl) (hρ _ _ rfl) (hm.at 4 rfl) rfl rfl rfl rfl) rfl rfl (w_n rfl) ?_
        refine TL_q (.int .i64 4) (fun _ _ hρ _ => r_assign (hρ _ _ rfl)) rfl rfl rfl (w_n rfl) ?_
        refine TL_seq ?_
        refine T_ret' ?_
        refine p_then_r ?_
        refine ret_of rfl (.tuple #[.agg #[.slice none 0 0, .int .u64 0], .agg #[.int .i64 0, .slice none 0 0, .bool false], .int .i64 4]) (fun tmps w hk hm => res3 rfl (res_cell (hk 4 _ rfl) (run_loadVar_agg ag27 sz27 (hm.at 3 rfl) (Nat.le_of_ble_eq_true rfl) rfl)) (res_cell (hk 5 _ rfl) (run_loadVar_agg ag36 sz36 (hm.at 4 rfl) (Nat.le_of_ble_eq_true rfl) rfl)) (res_tmp (hk 6 _ rfl))) (fun w hm => ?_)
        exact ⟨⟨none, 0, []⟩, 0, ⟨0, ⟨none, 0, []⟩, false⟩, 4, ⟨(congrArg (·.1) (doV_at (n := (pvs ps, lost)) (t := ⟨tk, i, tb, tm⟩) (show 1 ≤ tk ∧ tk ≤ 4 by omega) (show i < 0 ∨ ((pvs ps).length : Int) ≤ i by rw [pvs_len]; omega))), fun e => absurd e (by decide), fun _ => ⟨rfl, rfl, rfl⟩, .inr ⟨rfl, fun e => absurd e (by decide)⟩⟩, rfl, nnew_zero hm.ext⟩
      · skip
        by_cases c4 : ((ps.length : Nat) : Int) ≤ i
        · skip
          refine T_seq (T_region ?_)
          refine TL_q (.pointer (some ⟨B2, 1, none⟩)) (fun _ _ hρ _ => r_fieldAddr fl48_1 sz3 (hρ _ _ rfl)) rfl rfl rfl (w_n rfl) ?_
          refine TL_q (.int .i64 i) (fun _ _ hρ hm => r_load ag3 (hρ _ _ rfl) (hm.at 2 rfl) rfl) rfl rfl rfl (w_n rfl) ?_
          refine TL_q (.bool false) (fun _ _ hρ _ => r_as (r_lss (hρ _ _ rfl) (hρ _ _ rfl)) (bool_as (decide_eq_false c3))) rfl rfl rfl (w_n rfl) ?_
          refine TL_q (.bool false) (fun _ _ hρ _ => r_move (hρ _ _ rfl)) rfl rfl rfl (w_n rfl) ?_
          refine TL_q (.pointer (some ⟨B2, 1, none⟩)) (fun _ _ hρ _ => r_fieldAddr fl48_1 sz3 (hρ _ _ rfl)) rfl rfl rfl (want_y 23 rfl rfl rfl) ?_
          refine TL_q (.int .i64 i) (fun _ _ hρ hm => r_load ag3 (hρ _ _ rfl) (hm.at 2 rfl) rfl) rfl rfl rfl (want_y 23 rfl rfl rfl) ?_
          refine TL_q (.pointer (some ⟨B1, 0, none⟩)) (fun _ _ hρ _ => r_fieldAddr fl27_0 sz22 (hρ _ _ rfl)) rfl rfl rfl (want_y 23 rfl rfl rfl) ?_
          refine TL_q (.slice a ps.length cap) (fun _ _ hρ hm => r_load ag22 (hρ _ _ rfl) (hm.at 1 rfl) rfl) rfl rfl rfl (want_y 23 rfl rfl rfl) ?_
          refine TL_q (.int .i64 ((ps.length : Nat) : Int)) (fun _ _ hρ _ => r_len sl22 (hρ _ _ rfl)) rfl rfl rfl (want_y 23 rfl rfl rfl) ?_
          refine TL_q (.bool true) (fun _ _ hρ _ => r_as (r_geq (hρ _ _ rfl) (hρ _ _ rfl)) (bool_as (decide_eq_true c4))) rfl rfl rfl (want_y 23 rfl rfl rfl) ?_
          refine TL_q (.bool true) (fun _ _ hρ _ => r_pick_f (hρ _ _ rfl) (hρ _ _ rfl)) rfl rfl rfl (w_n rfl) ?_
          refine TL_seq ?_
          refine T_cond_t rfl ?_
          refine T_seq (T_region ?_)
          refine TL_q (.agg #[.slice none 0 0, .int .u64 0]) (fun _ _ _ _ => r_build (vs := []) (by kernel_rfl) rfl) rfl rfl rfl (w_n rfl) ?_
          refine TL_q (.agg #[.int .i64 0, .slice none 0 0, .bool false]) (fun _ _ _ _ => r_build (vs := []) (by kernel_rfl) rfl) rfl rfl rfl (w_n rfl) ?_
          refine TL_store 3 (.cells #[.slice none 0 0, .int .u64 0] 27) rfl (fun _ _ hρ hm => r_store sz27 (hρ _ _ rfl) (hρ _ _ rfl) (hm.at 3 rfl) rfl rfl rfl rfl) rfl rfl (w_n rfl) ?_
          refine TL_store 4 (.cells #[.int .i64 0, .slice none 0 0, .bool false] 36) rfl (fun _ _ hρ hm => r_store sz36 (hρ _ _ rfl) (hρ _ _ rfl) (hm.at 4 rfl) rfl rfl rfl rfl) rfl rfl (w_n rfl) ?_
          refine TL_q (.int .i64 4) (fun _ _ hρ _ => r_assign (hρ _ _ rfl)) rfl rfl rfl (w_n rfl) ?_
          refine TL_seq ?_
          refine T_ret' ?_
          refine p_then_r ?_
          refine ret_of rfl (.tuple #[.agg #[.slice none 0 0, .int .u64 0], .agg #[.int .i64 0, .slice none 0 0, .bool false], .int .i64 4]) (fun tmps w hk hm => res3 rfl (res_cell (hk 4 _ rfl) (run_loadVar_agg ag27 sz27 (hm.at 3 rfl) (Nat.le_of_ble_eq_true rfl) rfl)) (res_cell (hk 5 _ rfl) (run_loadVar_agg ag36 sz36 (hm.at 4 rfl) (Nat.le_of_ble_eq_true rfl) rfl)) (res_tmp (hk 6 _ rfl))) (fun w hm => ?_)
          exact ⟨⟨none, 0, []⟩, 0, ⟨0, ⟨none, 0, []⟩, false⟩, 4, ⟨(congrArg (·.1) (doV_at (n := (pvs ps, lost)) (t := ⟨tk, i, tb, tm⟩) (show 1 ≤ tk ∧ tk ≤ 4 by omega) (show i < 0 ∨ ((pvs ps).length : Int) ≤ i by rw [pvs_len]; omega))), fun e => absurd e (by decide), fun _ => ⟨rfl, rfl, rfl⟩, .inr ⟨rfl, fun e => absurd e (by decide)⟩⟩, rfl, nnew_zero hm.ext⟩
        · skip
          refine T_seq (T_region ?_)
          refine TL_q (.pointer (some ⟨B2, 1, none⟩)) (fun _ _ hρ _ => r_fieldAddr fl48_1 sz3 (hρ _ _ rfl)) rfl rfl rfl (w_n rfl) ?_
          refine TL_q (.int .i64 i) (fun _ _ hρ hm => r_load ag3 (hρ _ _ rfl) (hm.at 2 rfl) rfl) rfl rfl rfl (w_n rfl) ?_
          refine TL_q (.bool false) (fun _ _ hρ _ => r_as (r_lss (hρ _ _ rfl) (hρ _ _ rfl)) (bool_as (decide_eq_false c3))) rfl rfl rfl (w_n rfl) ?_
          refine TL_q (.bool false) (fun _ _ hρ _ => r_move (hρ _ _ rfl)) rfl rfl rfl (w_n rfl) ?_
          refine TL_q (.pointer (some ⟨B2, 1, none⟩)) (fun _ _ hρ _ => r_fieldAddr fl48_1 sz3 (hρ _ _ rfl)) rfl rfl rfl (want_y 23 rfl rfl rfl) ?_
          refine TL_q (.int .i64 i) (fun _ _ hρ hm => r_load ag3 (hρ _ _ rfl) (hm.at 2 rfl) rfl) rfl rfl rfl (want_y 23 rfl rfl rfl) ?_
          refine TL_q (.pointer (some ⟨B1, 0, none⟩)) (fun _ _ hρ _ => r_fieldAddr fl27_0 sz22 (hρ _ _ rfl)) rfl rfl rfl (want_y 23 rfl rfl rfl) ?_
          refine TL_q (.slice a ps.length cap) (fun _ _ hρ hm => r_load ag22 (hρ _ _ rfl) (hm.at 1 rfl) rfl) rfl rfl rfl (want_y 23 rfl rfl rfl) ?_
          refine TL_q (.int .i64 ((ps.length : Nat) : Int)) (fun _ _ hρ _ => r_len sl22 (hρ _ _ rfl)) rfl rfl rfl (want_y 23 rfl rfl rfl) ?_
          refine TL_q (.bool false) (fun _ _ hρ _ => r_as (r_geq (hρ _ _ rfl) (hρ _ _ rfl)) (bool_as (decide_eq_false c4))) rfl rfl rfl (want_y 23 rfl rfl rfl) ?_
          refine TL_q (.bool false) (fun _ _ hρ _ => r_pick_f (hρ _ _ rfl) (hρ _ _ rfl)) rfl rfl rfl (w_n rfl) ?_
          refine TL_seq ?_
          refine T_cond_f rfl ?_
          refine T_skip' ?_
          refine p_seq ?_
          obtain ⟨j, rfl⟩ : ∃ j : Nat, i = (j : Int) := ⟨i.toNat, by omega⟩
          obtain ⟨p, hp⟩ : ∃ x, ps[j]? = some x := ⟨_, List.getElem?_eq_getElem (by omega)⟩
          have hokp := hb p (List.mem_of_getElem? hp)
          have hpc := hokp.2.1
          have hpn := hokp.2.2
          unfold Go.maxLen at hpc
          obtain ⟨b5, of5, cs5, T5, fz5, ha5, hq5, hr5⟩ := hv.open (i := j) (by omega)
          subst ha5
          refine T_seq (T_region ?_)
          refine TL_q (.pointer (some ⟨B1, 0, none⟩)) (fun _ _ hρ _ => r_fieldAddr fl27_0 sz22 (hρ _ _ rfl)) rfl rfl rfl (w_n rfl) ?_
          refine TL_q (.slice (some ⟨b5, of5, none⟩) ps.length cap) (fun _ _ hρ hm => r_load ag22 (hρ _ _ rfl) (hm.at 1 rfl) rfl) rfl rfl rfl (w_n rfl) ?_
          refine TL_q (.pointer (some ⟨B2, 1, none⟩)) (fun _ _ hρ _ => r_fieldAddr fl48_1 sz3 (hρ _ _ rfl)) rfl rfl rfl (w_n rfl) ?_
          refine TL_q (.int .i64 ((j : Nat) : Int)) (fun _ _ hρ hm => r_load ag3 (hρ _ _ rfl) (hm.at 2 rfl) rfl) rfl rfl rfl (w_n rfl) ?_
          refine TL_q (.pointer (some ⟨b5, of5 + j * 3, none⟩)) (fun _ _ hρ _ => r_indexAddrS (i := j) sl22 sz36 (hρ _ _ rfl) (hρ _ _ rfl) (by omega)) rfl rfl rfl (w_n rfl) ?_
          refine TL_q (.agg #[.int .i64 p.to, .slice p.r.a p.r.l.length p.r.cap, .bool p.sp]) (fun _ _ hρ hm => r_loadRow (f := Pcl.cells) (u := p) ag36 sz36 (hρ _ _ rfl) (hm.old hq5) hr5 hp) rfl rfl rfl (w_n rfl) ?_
          refine TL_new 5 (.cells #[.int .i64 0, .slice none 0 0, .bool false] 36) (fun B => .pointer (some ⟨B, 0, none⟩)) (fun _ _ _ _ => r_alloc (v := .agg #[.int .i64 0, .slice none 0 0, .bool false]) (by kernel_rfl) rfl) rfl rfl rfl (w_n rfl) ?_
          intro B6
          refine TL_store 5 (.cells #[.int .i64 p.to, .slice p.r.a p.r.l.length p.r.cap, .bool p.sp] 36) rfl (fun _ _ hρ hm => r_store sz36 (hρ _ _ rfl) (hρ _ _ rfl) (hm.at 5 rfl) rfl rfl rfl rfl) rfl rfl (w_n rfl) ?_
          refine TL_seq ?_
          refine T_sub [(2, .pointer (some ⟨B1, 0, none⟩)), (3, .pointer (some ⟨B2, 0, none⟩)), (4, .pointer (some ⟨B3, 0, none⟩)), (5, .pointer (some ⟨B4, 0, none⟩)), (6, .int .i64 0), (7, .pointer (some ⟨B6, 0, none⟩))] [(1, .blk B1 (.cells #[.slice (some ⟨b5, of5, none⟩) ps.length cap, .int .u64 lost] 27)), (2, .blk B2 (.cells #[.int .i64 tk, .int .i64 ((j : Nat) : Int), .int .i64 tb, .int .u32 ((tm).toNat : Int)] 48)), (3, .blk B3 (.cells #[.slice none 0 0, .int .u64 0] 27)), (4, .blk B4 (.cells #[.int .i64 0, .slice none 0 0, .bool false] 36)), (5, .blk B6 (.cells #[.int .i64 p.to, .slice p.r.a p.r.l.length p.r.cap, .bool p.sp] 36))] (sub_cons rfl (sub_cons rfl (sub_cons rfl (sub_cons rfl (sub_cons rfl (sub_cons rfl sub_nil)))))) (sub_cons rfl (sub_cons rfl (sub_cons rfl (sub_cons rfl (sub_cons rfl sub_nil))))) ?_
          refine T_seq ?_
          refine T_seq (T_region ?_)
          refine TL_q (.pointer (some ⟨B2, 0, none⟩)) (fun _ _ hρ _ => r_fieldAddr fl48_0 sz3 (hρ _ _ rfl)) rfl rfl rfl (w_n rfl) ?_
          refine TL_q (.int .i64 tk) (fun _ _ hρ hm => r_load ag3 (hρ _ _ rfl) (hm.at 2 rfl) rfl) rfl rfl rfl (w_n rfl) ?_
          refine TL_seq ?_
          refine T_block ?_
          refine T_seq (T_region ?_)
          refine TL_q (.bool (decide (tk = 1))) (fun _ _ hρ _ => r_eql (hρ _ _ rfl) (hρ _ _ rfl)) rfl rfl rfl (w_n rfl) ?_
          refine TL_q (.bool (decide (tk = 1))) (fun _ _ hρ _ => r_assign (hρ _ _ rfl)) rfl rfl rfl (w_n rfl) ?_
          refine TL_seq ?_
          refine T_cond rfl (fun h1 => ?_) (fun h1 => ?_)
          · replace h1 := of_decide_eq_true h1
            refine T_seq (T_draw (V := [(0, .agg #[.slice (some ⟨b5, of5, none⟩) ps.length cap, .int .u64 lost]), (1, .pointer (some ⟨B2, 1, none⟩)), (2, .int .i64 ((j : Nat) : Int)), (4, .agg #[.int .i64 p.to, .slice p.r.a p.r.l.length p.r.cap, .bool p.sp])]) [0, 0, 2, 7, 0, 15, 63, 127] [[(2, none)], [(3, none)], [(44, some 1)], [(43, some 0), (45, some 2)], [(7, none)], [(4, none), (46, some 3)], [(5, none), (47, some 4)], []] 104 mixed (by kernel_rfl) ?_)
            refine G_step [0, 1, 2, 4] 3 [] (by kernel_rfl) (allM (all_cons (q_run (.agg #[.slice (some ⟨b5, of5, none⟩) ps.length cap, .int .u64 lost]) rfl rfl (wv_n rfl) rfl (fun _ _ hρ hm => r_loadA ag27 sz27 (hρ _ _ rfl) (hm.at 1 rfl) rfl rfl)) (all_cons (q_run (.pointer (some ⟨B2, 1, none⟩)) rfl rfl (wv_n rfl) rfl (fun _ _ hρ _ => r_fieldAddr fl48_1 sz3 (hρ _ _ rfl))) (all_cons (q_run (.int .i64 ((j : Nat) : Int)) rfl rfl (wv_n rfl) rfl (fun _ _ hρ hm => r_load ag3 (hρ _ _ rfl) (hm.at 2 rfl) rfl)) (all_cons (q_run (.agg #[.int .i64 p.to, .slice p.r.a p.r.l.length p.r.cap, .bool p.sp]) rfl rfl (wv_n rfl) rfl (fun _ _ hρ hm => r_loadA ag36 sz36 (hρ _ _ rfl) (hm.at 5 rfl) rfl rfl)) all_nil))))) (allM (all_cons ?_ all_nil))
            refine LOb_callN (fun (d8 : NetR) => d8.l = ps.eraseIdx j ∧ OldF netK w [⟨(some ⟨b5, of5, none⟩), cap, ps⟩] d8) (fun d8 => .agg #[.slice d8.a d8.l.length d8.cap, .int .u64 lost]) (fun d8 => [(971, .shO netK w d8)]) (fun d8 => []) rfl (wv_n rfl) rfl rfl (fun _ _ hρ _ => r_call (args := [.agg #[.slice (some ⟨b5, of5, none⟩) ps.length cap, .int .u64 lost], .int .i64 ((j : Nat) : Int)]) (enters_of Try.func71 (by kernel_rfl) rfl) (hρ _ _ rfl) ((cons2 (hρ _ _ rfl) (cons2 (hρ _ _ rfl) rfl))) rfl) (fun w hm => (rwith_c ps (some ⟨b5, of5, none⟩) cap lost j [⟨(some ⟨b5, of5, none⟩), cap, ps⟩] w (fun m hm9 => netK.below (h1n m hm9) hm.ext) (List.mem_singleton.2 rfl) (by omega) hl9).mono fun e w' ⟨d, hl, he, hn⟩ => ⟨d, ⟨hl, oldF_of hm.ext.size hn⟩, he, hn.below, shO_newOk 971 hm hn h1n⟩) (fun d8 => by kernel_rfl) ?_
            rintro d8 hd8
            refine G_step [4] 5 [] (by kernel_rfl) (allM (all_cons (q_run (.agg #[.int .i64 p.to, .slice p.r.a p.r.l.length p.r.cap, .bool p.sp]) rfl rfl (wv_n rfl) rfl (fun _ _ hρ hm => r_loadA ag36 sz36 (hρ _ _ rfl) (hm.at 5 rfl) rfl rfl)) all_nil)) (allM (all_cons ?_ all_nil))
            refine LOb_store 3 (.cells #[.slice d8.a d8.l.length d8.cap, .int .u64 lost] 27) [] rfl (wv_n rfl) rfl rfl rfl (fun _ _ hρ hm => r_store sz27 (hρ _ _ rfl) (hρ _ _ rfl) (hm.at 3 rfl) rfl rfl rfl rfl) (by kernel_rfl) ?_
            refine G_step [4] 6 [] (by kernel_rfl) (allM (all_cons (q_run (.agg #[.int .i64 p.to, .slice p.r.a p.r.l.length p.r.cap, .bool p.sp]) rfl rfl (wv_n rfl) rfl (fun _ _ hρ hm => r_loadA ag36 sz36 (hρ _ _ rfl) (hm.at 5 rfl) rfl rfl)) all_nil)) (allM (all_cons ?_ all_nil))
            refine LOb_store 4 (.cells #[.int .i64 p.to, .slice p.r.a p.r.l.length p.r.cap, .bool p.sp] 36) [(7, .int .i64 0)] rfl (wv_n rfl) rfl rfl rfl (fun _ _ hρ hm => r_store sz36 (hρ _ _ rfl) (hρ _ _ rfl) (hm.at 4 rfl) rfl rfl rfl rfl) (by kernel_rfl) ?_
            refine G_last [7] [(2, .pointer (some ⟨B1, 0, none⟩)), (3, .pointer (some ⟨B2, 0, none⟩)), (4, .pointer (some ⟨B3, 0, none⟩)), (5, .pointer (some ⟨B4, 0, none⟩)), (7, .pointer (some ⟨B6, 0, none⟩)), (6, .int .i64 0)] (by kernel_rfl) (allM (all_cons (q_run (.int .i64 0) rfl rfl (wv_n rfl) rfl (fun _ _ hρ _ => r_assign (hρ _ _ rfl))) all_nil)) (end_old rfl rfl (end_old rfl rfl (end_old rfl rfl (end_old rfl rfl (end_old rfl rfl (end_new 7 rfl rfl end_nil)))))) ?_
            refine T_ret' ?_
            refine p_blk_r ?_
            refine p_then_r ?_
            refine ret_of rfl (.tuple #[.agg #[.slice d8.a d8.l.length d8.cap, .int .u64 lost], .agg #[.int .i64 p.to, .slice p.r.a p.r.l.length p.r.cap, .bool p.sp], .int .i64 0]) (fun tmps w hk hm => res3 rfl (res_cell (hk 4 _ rfl) (run_loadVar_agg ag27 sz27 (hm.at 3 rfl) (Nat.le_of_ble_eq_true rfl) rfl)) (res_cell (hk 5 _ rfl) (run_loadVar_agg ag36 sz36 (hm.at 4 rfl) (Nat.le_of_ble_eq_true rfl) rfl)) (res_tmp (hk 6 _ rfl))) (fun w hm => ?_)
            have hg := doV_get (h := (⟨⟨(some ⟨b5, of5, none⟩), cap, ps⟩, lost, ⟨none, 0, []⟩⟩ : Hd)) (tb := tb) (tm := tm) (k := tk) ⟨by omega, by omega⟩ hp
            rw [if_pos (by omega)] at hg
            exact ⟨d8, lost, p, 0, ⟨by rw [hg], fun _ => ⟨by rw [hg, hd8.1, pvs_erase], by rw [hg]; rfl⟩, fun e => absurd rfl e, .inl (List.mem_of_getElem? hp)⟩, rfl, hm.shOend 971 rfl hd8.2⟩
          · replace h1 := of_decide_eq_false h1
            refine T_seq (T_region ?_)
            refine TL_q (.bool (decide (tk = 2))) (fun _ _ hρ _ => r_eql (hρ _ _ rfl) (hρ _ _ rfl)) rfl rfl rfl (w_n rfl) ?_
            refine TL_q (.bool (decide (tk = 2))) (fun _ _ hρ _ => r_assign (hρ _ _ rfl)) rfl rfl rfl (w_n rfl) ?_
            refine TL_seq ?_
            refine T_cond rfl (fun h2 => ?_) (fun h2 => ?_)
            · replace h2 := of_decide_eq_true h2
              refine T_seq (T_region ?_)
              refine TL_q (.agg #[.slice (some ⟨b5, of5, none⟩) ps.length cap, .int .u64 lost]) (fun _ _ hρ hm => r_loadA ag27 sz27 (hρ _ _ rfl) (hm.at 1 rfl) rfl rfl) rfl rfl rfl (w_n rfl) ?_
              refine TL_q (.pointer (some ⟨B2, 1, none⟩)) (fun _ _ hρ _ => r_fieldAddr fl48_1 sz3 (hρ _ _ rfl)) rfl rfl rfl (w_n rfl) ?_
              refine TL_q (.int .i64 ((j : Nat) : Int)) (fun _ _ hρ hm => r_load ag3 (hρ _ _ rfl) (hm.at 2 rfl) rfl) rfl rfl rfl (w_n rfl) ?_
              refine TL_callN (fun (d9 : NetR) => d9.l = ps.eraseIdx j ∧ OldF netK w [⟨(some ⟨b5, of5, none⟩), cap, ps⟩] d9) (fun d9 => .agg #[.slice d9.a d9.l.length d9.cap, .int .u64 lost]) (fun d9 => [(971, .shO netK w d9)]) (fun _ _ hρ _ => r_call (args := [.agg #[.slice (some ⟨b5, of5, none⟩) ps.length cap, .int .u64 lost], .int .i64 ((j : Nat) : Int)]) (enters_of Try.func71 (by kernel_rfl) rfl) (hρ _ _ rfl) ((cons2 (hρ _ _ rfl) (cons2 (hρ _ _ rfl) rfl))) rfl) (fun w hm => (rwith_c ps (some ⟨b5, of5, none⟩) cap lost j [⟨(some ⟨b5, of5, none⟩), cap, ps⟩] w (fun m hm9 => netK.below (h1n m hm9) hm.ext) (List.mem_singleton.2 rfl) (by omega) hl9).mono fun e w' ⟨d, hl, he, hn⟩ => ⟨d, ⟨hl, oldF_of hm.ext.size hn⟩, he, hn.below, shO_newOk 971 hm hn h1n⟩) rfl rfl rfl (w_n rfl) ?_
              rintro d9 hd9
              refine TL_q (.agg #[.int .i64 0, .slice none 0 0, .bool false]) (fun _ _ _ _ => r_build (vs := []) (by kernel_rfl) rfl) rfl rfl rfl (w_n rfl) ?_
              refine TL_store 3 (.cells #[.slice d9.a d9.l.length d9.cap, .int .u64 lost] 27) rfl (fun _ _ hρ hm => r_store sz27 (hρ _ _ rfl) (hρ _ _ rfl) (hm.at 3 rfl) rfl rfl rfl rfl) rfl rfl (w_n rfl) ?_
              refine TL_store 4 (.cells #[.int .i64 0, .slice none 0 0, .bool false] 36) rfl (fun _ _ hρ hm => r_store sz36 (hρ _ _ rfl) (hρ _ _ rfl) (hm.at 4 rfl) rfl rfl rfl rfl) rfl rfl (w_n rfl) ?_
              refine TL_q (.int .i64 0) (fun _ _ hρ _ => r_assign (hρ _ _ rfl)) rfl rfl rfl (w_n rfl) ?_
              refine TL_seq ?_
              refine T_ret' ?_
              refine p_blk_r ?_
              refine p_then_r ?_
              refine ret_of rfl (.tuple #[.agg #[.slice d9.a d9.l.length d9.cap, .int .u64 lost], .agg #[.int .i64 0, .slice none 0 0, .bool false], .int .i64 0]) (fun tmps w hk hm => res3 rfl (res_cell (hk 4 _ rfl) (run_loadVar_agg ag27 sz27 (hm.at 3 rfl) (Nat.le_of_ble_eq_true rfl) rfl)) (res_cell (hk 5 _ rfl) (run_loadVar_agg ag36 sz36 (hm.at 4 rfl) (Nat.le_of_ble_eq_true rfl) rfl)) (res_tmp (hk 6 _ rfl))) (fun w hm => ?_)
              have hg := doV_get (h := (⟨⟨(some ⟨b5, of5, none⟩), cap, ps⟩, lost, ⟨none, 0, []⟩⟩ : Hd)) (tb := tb) (tm := tm) (k := tk) ⟨by omega, by omega⟩ hp
              rw [if_neg (by omega), if_pos (by omega)] at hg
              exact ⟨d9, lost, ⟨0, ⟨none, 0, []⟩, false⟩, 0, ⟨by rw [hg], fun _ => ⟨by rw [hg, hd9.1, pvs_erase], by rw [hg]; rfl⟩, fun e => absurd rfl e, .inr ⟨rfl, fun _ => show ¬ tk = 1 by omega⟩⟩, rfl, hm.shOend 971 rfl hd9.2⟩
            · replace h2 := of_decide_eq_false h2
              refine T_seq (T_region ?_)
              refine TL_q (.bool (decide (tk = 3))) (fun _ _ hρ _ => r_eql (hρ _ _ rfl) (hρ _ _ rfl)) rfl rfl rfl (w_n rfl) ?_
              refine TL_q (.bool (decide (tk = 3))) (fun _ _ hρ _ => r_assign (hρ _ _ rfl)) rfl rfl rfl (w_n rfl) ?_
              refine TL_seq ?_
              refine T_cond rfl (fun h3 => ?_) (fun h3 => ?_)
              · replace h3 := of_decide_eq_true h3
                refine T_seq (T_region ?_)
                refine TL_q (.agg #[.slice (some ⟨b5, of5, none⟩) ps.length cap, .int .u64 lost]) (fun _ _ hρ hm => r_loadA ag27 sz27 (hρ _ _ rfl) (hm.at 1 rfl) rfl rfl) rfl rfl rfl (w_n rfl) ?_
                refine TL_q (.agg #[.int .i64 p.to, .slice p.r.a p.r.l.length p.r.cap, .bool p.sp]) (fun _ _ hρ hm => r_loadA ag36 sz36 (hρ _ _ rfl) (hm.at 5 rfl) rfl rfl) rfl rfl rfl (w_n rfl) ?_
                refine TL_callN (fun ((d10, lo10) : NetR × Int) => (pvs d10.l, lo10) = putV (pvs ps, lost) p.pv ∧ OldF netK w [⟨(some ⟨b5, of5, none⟩), cap, ps⟩] d10) (fun (d10, lo10) => .agg #[.slice d10.a d10.l.length d10.cap, .int .u64 lo10]) (fun (d10, lo10) => [(971, .shO netK w d10)]) (fun _ _ hρ _ => r_call (args := [.agg #[.slice (some ⟨b5, of5, none⟩) ps.length cap, .int .u64 lost], .agg #[.int .i64 p.to, .slice p.r.a p.r.l.length p.r.cap, .bool p.sp]]) (enters_of Try.func33 (by kernel_rfl) rfl) (hρ _ _ rfl) ((cons2 (hρ _ _ rfl) (cons2 (hρ _ _ rfl) rfl))) rfl) (fun w hm => (rput_c ps (some ⟨b5, of5, none⟩) cap lost p [⟨(some ⟨b5, of5, none⟩), cap, ps⟩] w (fun m hm9 => netK.below (h1n m hm9) hm.ext) (List.mem_singleton.2 rfl) ⟨_, List.mem_singleton.2 rfl, List.mem_of_getElem? hp⟩ h0).mono fun e w' ⟨d, lo, hl, he, hn⟩ => ⟨(d, lo), ⟨hl, oldF_of hm.ext.size hn⟩, he, hn.below, shO_newOk 971 hm hn h1n⟩) rfl rfl rfl (w_n rfl) ?_
                rintro ⟨d10, lo10⟩ hd10
                refine TL_q (.agg #[.int .i64 0, .slice none 0 0, .bool false]) (fun _ _ _ _ => r_build (vs := []) (by kernel_rfl) rfl) rfl rfl rfl (w_n rfl) ?_
                refine TL_store 3 (.cells #[.slice d10.a d10.l.length d10.cap, .int .u64 lo10] 27) rfl (fun _ _ hρ hm => r_store sz27 (hρ _ _ rfl) (hρ _ _ rfl) (hm.at 3 rfl) rfl rfl rfl rfl) rfl rfl (w_n rfl) ?_
                refine TL_store 4 (.cells #[.int .i64 0, .slice none 0 0, .bool false] 36) rfl (fun _ _ hρ hm => r_store sz36 (hρ _ _ rfl) (hρ _ _ rfl) (hm.at 4 rfl) rfl rfl rfl rfl) rfl rfl (w_n rfl) ?_
                refine TL_q (.int .i64 0) (fun _ _ hρ _ => r_assign (hρ _ _ rfl)) rfl rfl rfl (w_n rfl) ?_
                refine TL_seq ?_
                refine T_ret' ?_
                refine p_blk_r ?_
                refine p_then_r ?_
                refine ret_of rfl (.tuple #[.agg #[.slice d10.a d10.l.length d10.cap, .int .u64 lo10], .agg #[.int .i64 0, .slice none 0 0, .bool false], .int .i64 0]) (fun tmps w hk hm => res3 rfl (res_cell (hk 4 _ rfl) (run_loadVar_agg ag27 sz27 (hm.at 3 rfl) (Nat.le_of_ble_eq_true rfl) rfl)) (res_cell (hk 5 _ rfl) (run_loadVar_agg ag36 sz36 (hm.at 4 rfl) (Nat.le_of_ble_eq_true rfl) rfl)) (res_tmp (hk 6 _ rfl))) (fun w hm => ?_)
                have hg := doV_get (h := (⟨⟨(some ⟨b5, of5, none⟩), cap, ps⟩, lost, ⟨none, 0, []⟩⟩ : Hd)) (tb := tb) (tm := tm) (k := tk) ⟨by omega, by omega⟩ hp
                rw [if_neg (by omega), if_neg (by omega), if_pos (by omega)] at hg
                exact ⟨d10, lo10, ⟨0, ⟨none, 0, []⟩, false⟩, 0, ⟨by rw [hg], fun _ => ⟨by rw [hg]; exact hd10.1, by rw [hg]; rfl⟩, fun e => absurd rfl e, .inr ⟨rfl, fun _ => show ¬ tk = 1 by omega⟩⟩, rfl, hm.shOend 971 rfl hd10.2⟩
              · replace h3 := of_decide_eq_false h3
                refine T_skip' ?_
                refine p_blk_n ?_
                refine p_seq ?_
                refine T_seq ?_
                by_cases hs9 : p.sp = true
                · skip
                  refine T_seq (T_region ?_)
                  refine TL_q (.pointer (some ⟨B6, 2, none⟩)) (fun _ _ hρ _ => r_fieldAddr fl36_2 sz4 (hρ _ _ rfl)) rfl rfl rfl (w_n rfl) ?_
                  refine TL_q (.bool true) (fun _ _ hρ hm => r_as (r_load ag4 (hρ _ _ rfl) (hm.at 5 rfl) rfl) (bool_as hs9)) rfl rfl rfl (w_n rfl) ?_
                  refine TL_seq ?_
                  refine T_cond_t rfl ?_
                  refine T_seq (T_region ?_)
                  refine TL_q (.agg #[.slice none 0 0, .int .u64 0]) (fun _ _ _ _ => r_build (vs := []) (by kernel_rfl) rfl) rfl rfl rfl (w_n rfl) ?_
                  refine TL_q (.agg #[.int .i64 0, .slice none 0 0, .bool false]) (fun _ _ _ _ => r_build (vs := []) (by kernel_rfl) rfl) rfl rfl rfl (w_n rfl) ?_
                  refine TL_store 3 (.cells #[.slice none 0 0, .int .u64 0] 27) rfl (fun _ _ hρ hm => r_store sz27 (hρ _ _ rfl) (hρ _ _ rfl) (hm.at 3 rfl) rfl rfl rfl rfl) rfl rfl (w_n rfl) ?_
                  refine TL_store 4 (.cells #[.int .i64 0, .slice none 0 0, .bool false] 36) rfl (fun _ _ hρ hm => r_store sz36 (hρ _ _ rfl) (hρ _ _ rfl) (hm.at 4 rfl) rfl rfl rfl rfl) rfl rfl (w_n rfl) ?_
                  refine TL_q (.int .i64 5) (fun _ _ hρ _ => r_assign (hρ _ _ rfl)) rfl rfl rfl (w_n rfl) ?_
                  refine TL_seq ?_
                  refine T_ret' ?_
                  refine p_then_r ?_
                  refine ret_of rfl (.tuple #[.agg #[.slice none 0 0, .int .u64 0], .agg #[.int .i64 0, .slice none 0 0, .bool false], .int .i64 5]) (fun tmps w hk hm => res3 rfl (res_cell (hk 4 _ rfl) (run_loadVar_agg ag27 sz27 (hm.at 3 rfl) (Nat.le_of_ble_eq_true rfl) rfl)) (res_cell (hk 5 _ rfl) (run_loadVar_agg ag36 sz36 (hm.at 4 rfl) (Nat.le_of_ble_eq_true rfl) rfl)) (res_tmp (hk 6 _ rfl))) (fun w hm => ?_)
                  exact ⟨⟨none, 0, []⟩, 0, ⟨0, ⟨none, 0, []⟩, false⟩, 5, ⟨(by rw [doV_get (h := (⟨⟨(some ⟨b5, of5, none⟩), cap, ps⟩, lost, ⟨none, 0, []⟩⟩ : Hd)) ⟨by omega, by omega⟩ hp, if_neg (by omega), if_neg (by omega), if_neg (by omega), if_pos hs9]), fun e => absurd e (by decide), fun _ => ⟨rfl, rfl, rfl⟩, .inr ⟨rfl, fun e => absurd e (by decide)⟩⟩, rfl, nnew_zero hm.ext⟩
                · skip
                  refine T_seq (T_region ?_)
                  refine TL_q (.pointer (some ⟨B6, 2, none⟩)) (fun _ _ hρ _ => r_fieldAddr fl36_2 sz4 (hρ _ _ rfl)) rfl rfl rfl (w_n rfl) ?_
                  refine TL_q (.bool false) (fun _ _ hρ hm => r_as (r_load ag4 (hρ _ _ rfl) (hm.at 5 rfl) rfl) (bool_as (eq_false_of_ne_true hs9))) rfl rfl rfl (w_n rfl) ?_
                  refine TL_seq ?_
                  refine T_cond_f rfl ?_
                  refine T_skip' ?_
                  refine p_seq ?_
                  by_cases hsp : spoilI p.r.l tb tm = none
                  · skip
                    refine T_seq (T_region ?_)
                    refine TL_q (.pointer (some ⟨B6, 1, none⟩)) (fun _ _ hρ _ => r_fieldAddr fl36_1 sz34 (hρ _ _ rfl)) rfl rfl rfl (w_n rfl) ?_
                    refine TL_q (.slice p.r.a p.r.l.length p.r.cap) (fun _ _ hρ hm => r_load ag34 (hρ _ _ rfl) (hm.at 5 rfl) rfl) rfl rfl rfl (w_n rfl) ?_
                    refine TL_q (.pointer (some ⟨B2, 2, none⟩)) (fun _ _ hρ _ => r_fieldAddr fl48_2 sz3 (hρ _ _ rfl)) rfl rfl rfl (w_n rfl) ?_
                    refine TL_q (.int .i64 tb) (fun _ _ hρ hm => r_load ag3 (hρ _ _ rfl) (hm.at 2 rfl) rfl) rfl rfl rfl (w_n rfl) ?_
                    refine TL_q (.pointer (some ⟨B2, 3, none⟩)) (fun _ _ hρ _ => r_fieldAddr fl48_3 sz46 (hρ _ _ rfl)) rfl rfl rfl (w_n rfl) ?_
                    refine TL_q (.int .u32 ((tm).toNat : Int)) (fun _ _ hρ hm => r_load ag46 (hρ _ _ rfl) (hm.at 2 rfl) rfl) rfl rfl rfl (w_n rfl) ?_
                    refine TL_callN (fun (_ : Option Addr × Nat × List By) => True) (fun (ar11, cr11, br11) => .tuple #[.slice ar11 br11.length cr11, .bool false]) (fun (ar11, cr11, br11) => [(1120, .row (.slice ar11 br11.length cr11) 5 1 br11.length (br11.flatMap byc))]) (fun _ _ hρ _ => r_call (args := [.slice p.r.a p.r.l.length p.r.cap, .int .i64 tb, .int .u32 ((tm).toNat : Int)]) (enters_of Try.func72 (by kernel_rfl) rfl) (hρ _ _ rfl) ((cons2 (hρ _ _ rfl) (cons2 (hρ _ _ rfl) (cons2 (hρ _ _ rfl) rfl)))) rfl) (fun w hm => (rspoil_no p.r.a p.r.cap w hsp (hokp.1.keep hm.ext) (by omega) hokp.2.1).mono fun e w' ⟨a', cap', b', he, hb, hr⟩ => ⟨(a', cap', b'), trivial, he, hb, newOk1 1120 hr⟩) rfl rfl rfl (w_n rfl) ?_
                    rintro ⟨ar11, cr11, br11⟩ -
                    refine TL_q (.tuple #[.slice ar11 br11.length cr11, .bool false]) (fun _ _ hρ _ => r_move (hρ _ _ rfl)) rfl rfl rfl (w_n rfl) ?_
                    refine TL_q (.slice ar11 br11.length cr11) (fun _ _ hρ _ => r_extract (hρ _ _ rfl) rfl) rfl rfl rfl (w_n rfl) ?_
                    refine TL_q (.bool false) (fun _ _ hρ _ => r_extract (hρ _ _ rfl) rfl) rfl rfl rfl (w_n rfl) ?_
                    refine TL_q (.slice ar11 br11.length cr11) (fun _ _ hρ _ => r_assign (hρ _ _ rfl)) rfl rfl rfl (w_n rfl) ?_
                    refine TL_q (.bool false) (fun _ _ hρ _ => r_assign (hρ _ _ rfl)) rfl rfl rfl (w_n rfl) ?_
                    refine TL_seq ?_
                    refine T_seq ?_
                    refine T_seq (T_region ?_)
                    refine TL_q (.bool false) (fun _ _ hρ _ => r_move (hρ _ _ rfl)) rfl rfl rfl (w_n rfl) ?_
                    refine TL_q (.bool true) (fun _ _ hρ _ => r_not (b := false) (hρ _ _ rfl)) rfl rfl rfl (w_n rfl) ?_
                    refine TL_seq ?_
                    refine T_cond_t rfl ?_
                    refine T_seq (T_region ?_)
                    refine TL_q (.agg #[.slice none 0 0, .int .u64 0]) (fun _ _ _ _ => r_build (vs := []) (by kernel_rfl) rfl) rfl rfl rfl (w_n rfl) ?_
                    refine TL_q (.agg #[.int .i64 0, .slice none 0 0, .bool false]) (fun _ _ _ _ => r_build (vs := []) (by kernel_rfl) rfl) rfl rfl rfl (w_n rfl) ?_
                    refine TL_store 3 (.cells #[.slice none 0 0, .int .u64 0] 27) rfl (fun _ _ hρ hm => r_store sz27 (hρ _ _ rfl) (hρ _ _ rfl) (hm.at 3 rfl) rfl rfl rfl rfl) rfl rfl (w_n rfl) ?_
                    refine TL_store 4 (.cells #[.int .i64 0, .slice none 0 0, .bool false] 36) rfl (fun _ _ hρ hm => r_store sz36 (hρ _ _ rfl) (hρ _ _ rfl) (hm.at 4 rfl) rfl rfl rfl rfl) rfl rfl (w_n rfl) ?_
                    refine TL_q (.int .i64 2) (fun _ _ hρ _ => r_assign (hρ _ _ rfl)) rfl rfl rfl (w_n rfl) ?_
                    refine TL_seq ?_
                    refine T_ret' ?_
                    refine p_then_r ?_
                    refine ret_of rfl (.tuple #[.agg #[.slice none 0 0, .int .u64 0], .agg #[.int .i64 0, .slice none 0 0, .bool false], .int .i64 2]) (fun tmps w hk hm => res3 rfl (res_cell (hk 4 _ rfl) (run_loadVar_agg ag27 sz27 (hm.at 3 rfl) (Nat.le_of_ble_eq_true rfl) rfl)) (res_cell (hk 5 _ rfl) (run_loadVar_agg ag36 sz36 (hm.at 4 rfl) (Nat.le_of_ble_eq_true rfl) rfl)) (res_tmp (hk 6 _ rfl))) (fun w hm => ?_)
                    exact ⟨⟨none, 0, []⟩, 0, ⟨0, ⟨none, 0, []⟩, false⟩, 2, ⟨(by rw [doV_get (h := (⟨⟨(some ⟨b5, of5, none⟩), cap, ps⟩, lost, ⟨none, 0, []⟩⟩ : Hd)) ⟨by omega, by omega⟩ hp, if_neg (by omega), if_neg (by omega), if_neg (by omega), if_neg hs9, hsp]), fun e => absurd e (by decide), fun _ => ⟨rfl, rfl, rfl⟩, .inr ⟨rfl, fun e => absurd e (by decide)⟩⟩, rfl, nnew_zero hm.ext⟩
                  · skip
                    obtain ⟨b9, hsp9⟩ := Option.ne_none_iff_exists'.1 hsp
                    have hbl := spoilI_len hsp9
                    refine T_seq (T_region ?_)
                    refine TL_q (.pointer (some ⟨B6, 1, none⟩)) (fun _ _ hρ _ => r_fieldAddr fl36_1 sz34 (hρ _ _ rfl)) rfl rfl rfl (w_n rfl) ?_
                    refine TL_q (.slice p.r.a p.r.l.length p.r.cap) (fun _ _ hρ hm => r_load ag34 (hρ _ _ rfl) (hm.at 5 rfl) rfl) rfl rfl rfl (w_n rfl) ?_
                    refine TL_q (.pointer (some ⟨B2, 2, none⟩)) (fun _ _ hρ _ => r_fieldAddr fl48_2 sz3 (hρ _ _ rfl)) rfl rfl rfl (w_n rfl) ?_
                    refine TL_q (.int .i64 tb) (fun _ _ hρ hm => r_load ag3 (hρ _ _ rfl) (hm.at 2 rfl) rfl) rfl rfl rfl (w_n rfl) ?_
                    refine TL_q (.pointer (some ⟨B2, 3, none⟩)) (fun _ _ hρ _ => r_fieldAddr fl48_3 sz46 (hρ _ _ rfl)) rfl rfl rfl (w_n rfl) ?_
                    refine TL_q (.int .u32 ((tm).toNat : Int)) (fun _ _ hρ hm => r_load ag46 (hρ _ _ rfl) (hm.at 2 rfl) rfl) rfl rfl rfl (w_n rfl) ?_
                    refine TL_callN (fun (_ : Option Addr × Nat) => True) (fun (ar12, cr12) => .tuple #[.slice ar12 ((b9).length) cr12, .bool true]) (fun (ar12, cr12) => [(1120, .row (.slice ar12 ((b9).length) cr12) 5 1 ((b9).length) ((b9).flatMap byc))]) (fun _ _ hρ _ => r_call (args := [.slice p.r.a p.r.l.length p.r.cap, .int .i64 tb, .int .u32 ((tm).toNat : Int)]) (enters_of Try.func72 (by kernel_rfl) rfl) (hρ _ _ rfl) ((cons2 (hρ _ _ rfl) (cons2 (hρ _ _ rfl) (cons2 (hρ _ _ rfl) rfl)))) rfl) (fun w hm => (rspoil_ok p.r.a p.r.cap w hsp9 (hokp.1.keep hm.ext) (by omega) hokp.2.1).mono fun e w' ⟨a', cap', he, hb, hr⟩ => ⟨(a', cap'), trivial, he, hb, newOk1 1120 hr⟩) rfl rfl rfl (w_n rfl) ?_
                    rintro ⟨ar12, cr12⟩ -
                    refine TL_q (.tuple #[.slice ar12 ((b9).length) cr12, .bool true]) (fun _ _ hρ _ => r_move (hρ _ _ rfl)) rfl rfl rfl (w_n rfl) ?_
                    refine TL_q (.slice ar12 ((b9).length) cr12) (fun _ _ hρ _ => r_extract (hρ _ _ rfl) rfl) rfl rfl rfl (w_n rfl) ?_
                    refine TL_q (.bool true) (fun _ _ hρ _ => r_extract (hρ _ _ rfl) rfl) rfl rfl rfl (w_n rfl) ?_
                    refine TL_q (.slice ar12 ((b9).length) cr12) (fun _ _ hρ _ => r_assign (hρ _ _ rfl)) rfl rfl rfl (w_n rfl) ?_
                    refine TL_q (.bool true) (fun _ _ hρ _ => r_assign (hρ _ _ rfl)) rfl rfl rfl (w_n rfl) ?_
                    refine TL_seq ?_
                    refine T_seq ?_
                    refine T_seq (T_region ?_)
                    refine TL_q (.bool true) (fun _ _ hρ _ => r_move (hρ _ _ rfl)) rfl rfl rfl (w_n rfl) ?_
                    refine TL_q (.bool false) (fun _ _ hρ _ => r_not (b := true) (hρ _ _ rfl)) rfl rfl rfl (w_n rfl) ?_
                    refine TL_seq ?_
                    refine T_cond_f rfl ?_
                    refine T_skip' ?_
                    refine p_seq ?_
                    refine T_seq (T_region ?_)
                    refine TL_new 6 (.cells #[] 36) (fun B => .slice (some ⟨B, 0, none⟩) 0 0) (fun _ _ _ _ => r_buildSlice (vs := []) (by kernel_rfl) rfl) rfl rfl rfl (w_n rfl) ?_
                    intro B13
                    refine TL_q (.pointer (some ⟨B1, 0, none⟩)) (fun _ _ hρ _ => r_fieldAddr fl27_0 sz22 (hρ _ _ rfl)) rfl rfl rfl (w_n rfl) ?_
                    refine TL_q (.slice (some ⟨b5, of5, none⟩) ps.length cap) (fun _ _ hρ hm => r_load ag22 (hρ _ _ rfl) (hm.at 1 rfl) rfl) rfl rfl rfl (w_n rfl) ?_
                    refine TL_mem ([(6, .row (.slice (some ⟨B13, 0, none⟩) 0 0) 36 3 0 []), (1120, .row (.slice ar12 ((b9).length) cr12) 5 1 ((b9).length) ((b9).flatMap byc)), (1, .blk B1 (.cells #[.slice (some ⟨b5, of5, none⟩) ps.length cap, .int .u64 lost] 27)), (2, .blk B2 (.cells #[.int .i64 tk, .int .i64 ((j : Nat) : Int), .int .i64 tb, .int .u32 ((tm).toNat : Int)] 48)), (3, .blk B3 (.cells #[.slice none 0 0, .int .u64 0] 27)), (4, .blk B4 (.cells #[.int .i64 0, .slice none 0 0, .bool false] 36)), (5, .blk B6 (.cells #[.int .i64 p.to, .slice p.r.a p.r.l.length p.r.cap, .bool p.sp] 36))]) (fun _ hm => MemOk.sub (hm.toRow (n := 0) (cap := 0) (s := 3) 6 rfl rfl (by omega) rfl _ rfl) (sub_cons rfl (sub_cons rfl (sub_cons rfl (sub_cons rfl (sub_cons rfl (sub_cons rfl (sub_cons rfl sub_nil)))))))) ?_
                    refine TL_append (n := 0) (m := ps.length) (xs := []) (news := (ps.flatMap Pcl.cells)) (z := .agg #[.int .i64 0, .slice none 0 0, .bool false]) 6 rfl rfl rfl sl22 sz36 by36 (by kernel_rfl) rfl rfl (.inl rfl) (fun _ hm => by have := src_of Pcl.cells_len (hv.keep hm.ext); simpa using this) (by first | exact rows_oneG Pcl.cells_one | simp [Value.oneCell']) (by omega) (by omega) rfl (w_n rfl) ?_
                    intro a14 cap14
                    refine TL_q (.pointer (some ⟨B1, 0, none⟩)) (fun _ _ hρ _ => r_fieldAddr fl27_0 sz22 (hρ _ _ rfl)) rfl rfl rfl (w_n rfl) ?_
                    refine TL_store 1 (.cells #[.slice a14 (0 + ps.length) cap14, .int .u64 lost] 27) rfl (fun _ _ hρ hm => r_store sz22 (hρ _ _ rfl) (hρ _ _ rfl) (hm.at 1 rfl) rfl rfl rfl rfl) rfl rfl (w_n rfl) ?_
                    refine TL_seq ?_
                    rw [show (0 + ps.length) = ps.length from Nat.zero_add _, show ([] ++ (ps.flatMap Pcl.cells)) = (ps.flatMap Pcl.cells) from List.nil_append _]
                    refine T_row 6 rfl (by omega) (fun g15 ha15 => ?_)
                    subst ha15
                    refine T_rowcap 6 rfl (fun hrc15 => ?_)
                    refine T_seq (T_region ?_)
                    refine TL_q (.pointer (some ⟨B1, 0, none⟩)) (fun _ _ hρ _ => r_fieldAddr fl27_0 sz22 (hρ _ _ rfl)) rfl rfl rfl (w_n rfl) ?_
                    refine TL_q (.slice (some ⟨g15, 0, none⟩) ps.length cap14) (fun _ _ hρ hm => r_load ag22 (hρ _ _ rfl) (hm.at 1 rfl) rfl) rfl rfl rfl (w_n rfl) ?_
                    refine TL_q (.pointer (some ⟨B2, 1, none⟩)) (fun _ _ hρ _ => r_fieldAddr fl48_1 sz3 (hρ _ _ rfl)) rfl rfl rfl (w_n rfl) ?_
                    refine TL_q (.int .i64 ((j : Nat) : Int)) (fun _ _ hρ hm => r_load ag3 (hρ _ _ rfl) (hm.at 2 rfl) rfl) rfl rfl rfl (w_n rfl) ?_
                    refine TL_q (.pointer (some ⟨B6, 0, none⟩)) (fun _ _ hρ _ => r_fieldAddr fl36_0 sz3 (hρ _ _ rfl)) rfl rfl rfl (w_n rfl) ?_
                    refine TL_q (.int .i64 p.to) (fun _ _ hρ hm => r_load ag3 (hρ _ _ rfl) (hm.at 5 rfl) rfl) rfl rfl rfl (w_n rfl) ?_
                    refine TL_q (.slice ar12 ((b9).length) cr12) (fun _ _ hρ _ => r_move (hρ _ _ rfl)) rfl rfl rfl (w_n rfl) ?_
                    refine TL_q (.agg #[.int .i64 p.to, .slice ar12 ((b9).length) cr12, .bool true]) (fun _ _ hρ _ => r_build (vs := [(0, .int .i64 p.to), (1, .slice ar12 ((b9).length) cr12), (2, .bool true)]) (by kernel_rfl) (cons2 (pair2 (hρ _ _ rfl)) (cons2 (pair2 (hρ _ _ rfl)) (cons2 (pair2 (hρ _ _ rfl)) rfl)))) rfl rfl rfl (w_n rfl) ?_
                    refine TL_q (.pointer (some ⟨g15, 0 + j * 3, none⟩)) (fun _ _ hρ _ => r_indexAddrS (i := j) sl22 sz36 (hρ _ _ rfl) (hρ _ _ rfl) (by omega)) rfl rfl rfl (w_n rfl) ?_
                    refine TL_storeRow (f := Pcl.cells) (l := ps) (u := (⟨p.to, ⟨ar12, cr12, (b9)⟩, true⟩ : Pcl)) 6 rfl rfl rfl rfl sz36 Pcl.cells_len (by omega) rfl rfl (w_n rfl) ?_
                    refine TL_seq ?_
                    refine T_sub [(2, .pointer (some ⟨B1, 0, none⟩)), (4, .pointer (some ⟨B3, 0, none⟩)), (5, .pointer (some ⟨B4, 0, none⟩)), (6, .int .i64 0)] [(6, .row (.slice (some ⟨g15, 0, none⟩) ps.length cap14) 36 3 ps.length ((ps.set j (⟨p.to, ⟨ar12, cr12, (b9)⟩, true⟩ : Pcl)).flatMap Pcl.cells)), (1120, .row (.slice ar12 ((b9).length) cr12) 5 1 ((b9).length) ((b9).flatMap byc)), (2, .blk B2 (.cells #[.int .i64 tk, .int .i64 ((j : Nat) : Int), .int .i64 tb, .int .u32 ((tm).toNat : Int)] 48)), (3, .blk B3 (.cells #[.slice none 0 0, .int .u64 0] 27)), (4, .blk B4 (.cells #[.int .i64 0, .slice none 0 0, .bool false] 36)), (5, .blk B6 (.cells #[.int .i64 p.to, .slice p.r.a p.r.l.length p.r.cap, .bool p.sp] 36)), (1, .blk B1 (.cells #[.slice (some ⟨g15, 0, none⟩) ps.length cap14, .int .u64 lost] 27))] (sub_cons rfl (sub_cons rfl (sub_cons rfl (sub_cons rfl sub_nil)))) (sub_cons rfl (sub_cons rfl (sub_cons rfl (sub_cons rfl (sub_cons rfl (sub_cons rfl (sub_cons rfl sub_nil))))))) ?_
                    refine T_seq (T_region ?_)
                    refine TL_q (.agg #[.slice (some ⟨g15, 0, none⟩) ps.length cap14, .int .u64 lost]) (fun _ _ hρ hm => r_loadA ag27 sz27 (hρ _ _ rfl) (hm.at 1 rfl) rfl rfl) rfl rfl rfl (w_n rfl) ?_
                    refine TL_q (.agg #[.int .i64 0, .slice none 0 0, .bool false]) (fun _ _ _ _ => r_build (vs := []) (by kernel_rfl) rfl) rfl rfl rfl (w_n rfl) ?_
                    refine TL_store 3 (.cells #[.slice (some ⟨g15, 0, none⟩) ps.length cap14, .int .u64 lost] 27) rfl (fun _ _ hρ hm => r_store sz27 (hρ _ _ rfl) (hρ _ _ rfl) (hm.at 3 rfl) rfl rfl rfl rfl) rfl rfl (w_n rfl) ?_
                    refine TL_store 4 (.cells #[.int .i64 0, .slice none 0 0, .bool false] 36) rfl (fun _ _ hρ hm => r_store sz36 (hρ _ _ rfl) (hρ _ _ rfl) (hm.at 4 rfl) rfl rfl rfl rfl) rfl rfl (w_n rfl) ?_
                    refine TL_q (.int .i64 0) (fun _ _ hρ _ => r_assign (hρ _ _ rfl)) rfl rfl rfl (w_n rfl) ?_
                    refine TL_seq ?_
                    refine T_ret' ?_
                    refine ret_of rfl (.tuple #[.agg #[.slice (some ⟨g15, 0, none⟩) ps.length cap14, .int .u64 lost], .agg #[.int .i64 0, .slice none 0 0, .bool false], .int .i64 0]) (fun tmps w hk hm => res3 rfl (res_cell (hk 4 _ rfl) (run_loadVar_agg ag27 sz27 (hm.at 3 rfl) (Nat.le_of_ble_eq_true rfl) rfl)) (res_cell (hk 5 _ rfl) (run_loadVar_agg ag36 sz36 (hm.at 4 rfl) (Nat.le_of_ble_eq_true rfl) rfl)) (res_tmp (hk 6 _ rfl))) (fun w hm => ?_)
                    have hg := doV_get (h := (⟨⟨(some ⟨b5, of5, none⟩), cap, ps⟩, lost, ⟨none, 0, []⟩⟩ : Hd)) (tb := tb) (tm := tm) (k := tk) ⟨by omega, by omega⟩ hp
                    rw [if_neg (by omega), if_neg (by omega), if_neg (by omega), if_neg hs9, hsp9] at hg
                    have hrow := hm.row 6 rfl
                    rw [show ps.length = (ps.set j (⟨p.to, ⟨ar12, cr12, (b9)⟩, true⟩ : Pcl)).length from List.length_set.symm] at hrow
                    exact ⟨⟨(some ⟨g15, 0, none⟩), cap14, ps.set j (⟨p.to, ⟨ar12, cr12, (b9)⟩, true⟩ : Pcl)⟩, lost, ⟨0, ⟨none, 0, []⟩, false⟩, 0, ⟨by rw [hg], fun _ => ⟨by rw [hg, pvs_set], by rw [hg]; rfl⟩, fun e => absurd rfl e, .inr ⟨rfl, fun _ => show ¬ tk = 1 by omega⟩⟩, congrArg (fun k : Nat => Ending.returned (.tuple #[.agg #[.slice (some ⟨g15, 0, none⟩) k cap14, .int .u64 lost], .agg #[.int .i64 0, .slice none 0 0, .bool false], .int .i64 0])) List.length_set.symm, nnew_set (n := ⟨(some ⟨b5, of5, none⟩), cap, ps⟩) hm.ext hrow (hm.row 1120 rfl) hn (by omega)⟩
end Go.Proofs.Ytcidgbjgeegepaa
/- net and journal: own, spoil. Printed by a program of this seat's prover. -/
namespace Go.Proofs.Ytcidgbjgeegepaa
open Go Go.RowKit
set_option maxRecDepth 10000
theorem own_c (xs : List Pcl) (a : Option Addr) (cap : Nat) (lost : Int) (w : World) (hv : SliceAt w a cap 3 Pcl.cells xs) (hcap : cap ≤ Go.maxLen) (hx : PcsIn w xs) : Calls Try.prog 20 #[.agg #[.slice a xs.length cap, .int .u64 lost]] w fun e w' => ∃ (n : NetR) (bs : List (RowG By)), pvs n.l = fewV (pvs xs) ∧ InB bs n.l ∧ e = .returned (.agg #[.slice n.a n.l.length n.cap, .int .u64 lost]) ∧ Below w.heap.size w w' ∧ (rowP n).ok w.heap.size w' ∧ (Res.pool 5 1 byc bs).ok w.heap.size w' ∧ ∀ b, (rowP n).foot b → ¬ (Res.pool 5 1 byc bs).foot b := by
  refine calls_of_T (l := [.agg #[.slice a xs.length cap, .int .u64 lost]]) 9 Try.func20 rfl rfl rfl ?_
  show T _ _ _ [(0, .agg #[.slice a xs.length cap, .int .u64 lost])] []
  refine T_seq (T_region ?_)
  refine TL_new 1 (.cells #[.slice a xs.length cap, .int .u64 lost] 27) (fun B => .pointer (some ⟨B, 0, none⟩)) (fun _ _ hρ _ => r_box (hρ _ _ rfl) rfl) rfl rfl rfl (w_n rfl) ?_
  intro B1
  refine TL_new 2 (.cells #[.slice none 0 0, .int .u64 0] 27) (fun B => .pointer (some ⟨B, 0, none⟩)) (fun _ _ _ _ => r_alloc (v := .agg #[.slice none 0 0, .int .u64 0]) (by kernel_rfl) rfl) rfl rfl rfl (w_n rfl) ?_
  intro B2
  refine TL_seq ?_
  refine T_seq (T_draw (V := [(0, .pointer (some ⟨B1, 0, none⟩)), (1, .slice a xs.length cap), (3, .pointer (some ⟨B1, 1, none⟩)), (4, .int .u64 lost)]) [0, 1, 3, 0, 8, 31, 63] [[(1, none)], [(3, some 0)], [(4, some 1)], [(1, none)], [(6, some 3)], [(5, some 2), (7, some 4)], [(2, none), (8, some 5)]] 68 mixed (by kernel_rfl) ?_)
  refine G_step [0, 1, 3, 4] 2 [] (by kernel_rfl) (allM (all_cons (q_run (.pointer (some ⟨B1, 0, none⟩)) rfl rfl (wv_n rfl) rfl (fun _ _ hρ _ => r_fieldAddr fl27_0 sz22 (hρ _ _ rfl))) (all_cons (q_run (.slice a xs.length cap) rfl rfl (wv_n rfl) rfl (fun _ _ hρ hm => r_load ag22 (hρ _ _ rfl) (hm.at 1 rfl) rfl)) (all_cons (q_run (.pointer (some ⟨B1, 1, none⟩)) rfl rfl (wv_n rfl) rfl (fun _ _ hρ _ => r_fieldAddr fl27_1 sz25 (hρ _ _ rfl))) (all_cons (q_run (.int .u64 lost) rfl rfl (wv_n rfl) rfl (fun _ _ hρ hm => r_load ag25 (hρ _ _ rfl) (hm.at 1 rfl) rfl)) all_nil))))) (allM (all_cons ?_ all_nil))
  refine LOb_callN (fun ((n1, b1) : NetR × List (RowG By)) => pvs n1.l = fewV (pvs xs) ∧ InB b1 n1.l) (fun (n1, b1) => .slice n1.a n1.l.length n1.cap) (fun (n1, b1) => [(960, .row (.slice n1.a n1.l.length n1.cap) 36 3 n1.l.length (n1.l.flatMap Pcl.cells)), (961, .pool 5 1 byc b1)]) (fun (n1, b1) => [(5, .agg #[.slice n1.a n1.l.length n1.cap, .int .u64 lost])]) rfl (wv_n rfl) rfl rfl (fun _ _ hρ _ => r_call (args := [.slice a xs.length cap]) (enters_of Try.func12 (by kernel_rfl) rfl) (hρ _ _ rfl) ((cons2 (hρ _ _ rfl) rfl)) rfl) (fun w hm => (few_c xs a cap w (hv.keep hm.ext) hcap (fun p hp => ⟨(hx p hp).1.keep hm.ext, (hx p hp).2⟩)).mono fun e w' ⟨n, bs, hf, hi, he, hb, r1, r2, hs⟩ => ⟨(n, bs), ⟨hf, hi⟩, he, hb, newOk2 960 961 r1 r2 hs⟩) (fun (n1, b1) => by kernel_rfl) ?_
  rintro ⟨n1, b1⟩ hfn1
  refine G_step [3, 4, 5] 6 [] (by kernel_rfl) (allM (all_cons (q_run (.pointer (some ⟨B1, 1, none⟩)) rfl rfl (wv_n rfl) rfl (fun _ _ hρ _ => r_fieldAddr fl27_1 sz25 (hρ _ _ rfl))) (all_cons (q_run (.int .u64 lost) rfl rfl (wv_n rfl) rfl (fun _ _ hρ hm => r_load ag25 (hρ _ _ rfl) (hm.at 1 rfl) rfl)) (all_cons (q_run (.agg #[.slice n1.a n1.l.length n1.cap, .int .u64 lost]) rfl rfl (wv_n rfl) rfl (fun _ _ hρ _ => r_build (vs := [(0, .slice n1.a n1.l.length n1.cap), (1, .int .u64 lost)]) (by kernel_rfl) (cons2 (pair2 (hρ _ _ rfl)) (cons2 (pair2 (hρ _ _ rfl)) rfl)))) all_nil)))) (allM (all_cons ?_ all_nil))
  refine LOb_store 2 (.cells #[.slice n1.a n1.l.length n1.cap, .int .u64 lost] 27) [] rfl (wv_n rfl) rfl rfl rfl (fun _ _ hρ hm => r_store sz27 (hρ _ _ rfl) (hρ _ _ rfl) (hm.at 2 rfl) rfl rfl rfl rfl) (by kernel_rfl) ?_
  refine G_last [] [(2, .pointer (some ⟨B2, 0, none⟩))] (by kernel_rfl) (allM all_nil) (end_old rfl rfl end_nil) ?_
  refine T_ret' ?_
  refine ret_of rfl (.agg #[.slice n1.a n1.l.length n1.cap, .int .u64 lost]) (fun tmps w hk hm => res1 rfl (res_cell (hk 2 _ rfl) (run_loadVar_agg ag27 sz27 (hm.at 2 rfl) (Nat.le_of_ble_eq_true rfl) rfl))) (fun w hm => ?_)
  exact ⟨n1, b1, hfn1.1, hfn1.2, rfl, hm.ext, hm.own 960 _ rfl, hm.own 961 _ rfl, hm.sep 960 961 _ _ rfl rfl (by decide)⟩

theorem lspoil_ht {w₀ : World} {L : Heap} (n : NetR) (bs : List (RowG By)) (lost : Int) (hL : NoIds L 1000 1050) (hin : InB bs n.l) (hl9 : n.l.length ≤ 1000) : ∀ w, MemOk w₀ ((901, rowP n) :: (903, .scr 5 1 isB bs) :: L) w → Calls Try.prog 27 #[.agg #[.slice n.a n.l.length n.cap, .int .u64 lost]] w (HAns w₀ (fun _ : Unit => True) (fun _ => .tuple #[]) (fun _ => (901, rowP n) :: (903, .scr 5 1 isB bs) :: L)) := by
  obtain ⟨na, nc, nl⟩ := n
  replace hin : InB bs nl := hin
  replace hl9 : nl.length ≤ 1000 := hl9
  refine ht_of_T (l := [.agg #[.slice na nl.length nc, .int .u64 lost]]) (L := ((901, .row (.slice na nl.length nc) 36 3 nl.length (nl.flatMap Pcl.cells)) :: (903, .scr 5 1 isB bs) :: L)) 27 Try.func27 rfl rfl rfl ?_
  show T _ _ _ [(0, .agg #[.slice na nl.length nc, .int .u64 lost])] ((901, .row (.slice na nl.length nc) 36 3 nl.length (nl.flatMap Pcl.cells)) :: (903, .scr 5 1 isB bs) :: L)
  refine T_seq (T_region ?_)
  refine TL_new 1001 (.cells #[.slice na nl.length nc, .int .u64 lost] 27) (fun B => .pointer (some ⟨B, 0, none⟩)) (fun _ _ hρ _ => r_box (hρ _ _ rfl) rfl) rfl rfl rfl (w_n rfl) ?_
  intro B1
  refine TL_seq ?_
  refine T_seq (T_region ?_)
  refine TL_q (.pointer (some ⟨B1, 0, none⟩)) (fun _ _ hρ _ => r_fieldAddr fl27_0 sz22 (hρ _ _ rfl)) rfl rfl rfl (w_n rfl) ?_
  refine TL_q (.slice na nl.length nc) (fun _ _ hρ hm => r_load ag22 (hρ _ _ rfl) (hm.at 1001 rfl) rfl) rfl rfl rfl (w_n rfl) ?_
  refine TL_q (.int .i64 ((nl.length : Nat) : Int)) (fun _ _ hρ _ => r_len sl22 (hρ _ _ rfl)) rfl rfl rfl (w_n rfl) ?_
  refine TL_q (.int .i64 0) (fun _ _ hρ _ => r_move (hρ _ _ rfl)) rfl rfl rfl (w_n rfl) ?_
  refine TL_seq ?_
  refine T_block ?_
  refine T_loopT (ι := Nat) (fun (k : Nat) => k ≤ nl.length) (fun (k : Nat) => [(6, .slice na nl.length nc), (7, .int .i64 ((nl.length : Nat) : Int)), (8, .int .i64 ((k : Nat) : Int))]) (fun (k : Nat) => ((901, .row (.slice na nl.length nc) 36 3 nl.length (nl.flatMap Pcl.cells)) :: (903, .scr 5 1 isB bs) :: (1001, .blk B1 (.cells #[.slice na nl.length nc, .int .u64 lost] 27)) :: L)) (fun (k : Nat) => nl.length - k) 0 (Nat.zero_le _) (sub_cons rfl (sub_cons rfl (sub_cons rfl sub_nil))) (by first | exact lk_fin (F := [_, _, _]) (sub_cons rfl (sub_cons rfl (sub_cons rfl sub_nil))) rfl hL | exact lk_fin (F := [_, _, _, _]) (sub_cons rfl (sub_cons rfl (sub_cons rfl sub_nil))) rfl hL | exact lk_fin (F := [_, _, _, _, _]) (sub_cons rfl (sub_cons rfl (sub_cons rfl sub_nil))) rfl hL | exact lk_fin (F := [_, _, _, _, _, _]) (sub_cons rfl (sub_cons rfl (sub_cons rfl sub_nil))) rfl hL | exact lk_fin (F := [_, _, _, _, _, _, _]) (sub_cons rfl (sub_cons rfl (sub_cons rfl sub_nil))) rfl hL | exact lk_fin (F := [_, _, _, _, _, _, _, _]) (sub_cons rfl (sub_cons rfl (sub_cons rfl sub_nil))) rfl hL | exact lk_fin (F := [_, _, _, _, _, _, _, _, _]) (sub_cons rfl (sub_cons rfl (sub_cons rfl sub_nil))) rfl hL | exact lk_fin (F := [_, _, _, _, _, _, _, _, _, _]) (sub_cons rfl (sub_cons rfl (sub_cons rfl sub_nil))) rfl hL | exact lk_fin (F := [_, _, _, _, _, _, _, _, _, _, _]) (sub_cons rfl (sub_cons rfl (sub_cons rfl sub_nil))) rfl hL | exact lk_fin (F := [_, _, _, _, _, _, _, _, _, _, _, _]) (sub_cons rfl (sub_cons rfl (sub_cons rfl sub_nil))) rfl hL | exact lk_fin (F := [_, _, _, _, _, _, _, _, _, _, _, _, _]) (sub_cons rfl (sub_cons rfl (sub_cons rfl sub_nil))) rfl hL | exact lk_fin (F := [_, _, _, _, _, _, _, _, _, _, _, _, _, _]) (sub_cons rfl (sub_cons rfl (sub_cons rfl sub_nil))) rfl hL) ?_
  rintro k hp
  have hk := hp
  show T _ _ _ [(6, .slice na nl.length nc), (7, .int .i64 ((nl.length : Nat) : Int)), (8, .int .i64 ((k : Nat) : Int))] ((901, .row (.slice na nl.length nc) 36 3 nl.length (nl.flatMap Pcl.cells)) :: (903, .scr 5 1 isB bs) :: (1001, .blk B1 (.cells #[.slice na nl.length nc, .int .u64 lost] 27)) :: L)
  refine T_seq (T_region ?_)
  refine TL_q (.bool (decide (((k : Nat) : Int) < ((nl.length : Nat) : Int)))) (fun _ _ hρ _ => r_lss (hρ _ _ rfl) (hρ _ _ rfl)) rfl rfl rfl (w_n rfl) ?_
  refine TL_seq ?_
  refine T_seq ?_
  refine T_cond rfl (fun h1 => ?_) (fun h1 => ?_)
  · replace h1 := of_decide_eq_true h1
    refine T_skip' ?_
    refine p_seq ?_
    refine T_seq ?_
    refine T_block ?_
    obtain ⟨p, hp9⟩ : ∃ x, nl[k]? = some x := ⟨_, List.getElem?_eq_getElem (by omega)⟩
    have hin9 := hin p (List.mem_of_getElem? hp9)
    refine T_row 901 rfl (by omega) (fun g2 ha2 => ?_)
    subst ha2
    refine T_rowcap 901 rfl (fun hrc2 => ?_)
    refine T_seq (T_region ?_)
    refine TL_q (.pointer (some ⟨g2, 0 + k * 3, none⟩)) (fun _ _ hρ _ => r_indexAddrS (i := k) sl22 sz36 (hρ _ _ rfl) (hρ _ _ rfl) (by omega)) rfl rfl rfl (w_n rfl) ?_
    refine TL_q (.agg #[.int .i64 p.to, .slice p.r.a p.r.l.length p.r.cap, .bool p.sp]) (fun _ _ hρ hm => r_loadOwn (f := Pcl.cells) (u := p) (l := nl) ag36 sz36 (hρ _ _ rfl) (hm.row 901 rfl) rfl rfl Pcl.cells_len hp9) rfl rfl rfl (w_n rfl) ?_
    refine TL_new 1002 (.cells #[.int .i64 0, .slice none 0 0, .bool false] 36) (fun B => .pointer (some ⟨B, 0, none⟩)) (fun _ _ _ _ => r_alloc (v := .agg #[.int .i64 0, .slice none 0 0, .bool false]) (by kernel_rfl) rfl) rfl rfl rfl (w_n rfl) ?_
    intro B3
    refine TL_store 1002 (.cells #[.int .i64 p.to, .slice p.r.a p.r.l.length p.r.cap, .bool p.sp] 36) rfl (fun _ _ hρ hm => r_store sz36 (hρ _ _ rfl) (hρ _ _ rfl) (hm.at 1002 rfl) rfl rfl rfl rfl) rfl rfl (w_n rfl) ?_
    refine TL_seq ?_
    refine T_seq (T_region ?_)
    refine TL_q (.pointer (some ⟨B3, 1, none⟩)) (fun _ _ hρ _ => r_fieldAddr fl36_1 sz34 (hρ _ _ rfl)) rfl rfl rfl (w_n rfl) ?_
    refine TL_q (.slice p.r.a p.r.l.length p.r.cap) (fun _ _ hρ hm => r_load ag34 (hρ _ _ rfl) (hm.at 1002 rfl) rfl) rfl rfl rfl (w_n rfl) ?_
    refine TL_q (.int .i64 ((p.r.l.length : Nat) : Int)) (fun _ _ hρ _ => r_len sl34 (hρ _ _ rfl)) rfl rfl rfl (w_n rfl) ?_
    refine TL_q (.int .i64 0) (fun _ _ hρ _ => r_move (hρ _ _ rfl)) rfl rfl rfl (w_n rfl) ?_
    refine TL_seq ?_
    refine T_block ?_
    refine T_loopT (ι := Nat) (fun (m : Nat) => m ≤ p.r.l.length) (fun (m : Nat) => [(6, .slice (some ⟨g2, 0, none⟩) nl.length nc), (7, .int .i64 ((nl.length : Nat) : Int)), (8, .int .i64 ((k : Nat) : Int)), (9, .bool (decide (((k : Nat) : Int) < ((nl.length : Nat) : Int)))), (10, .pointer (some ⟨g2, 0 + k * 3, none⟩)), (11, .agg #[.int .i64 p.to, .slice p.r.a p.r.l.length p.r.cap, .bool p.sp]), (3, .pointer (some ⟨B3, 0, none⟩)), (12, .pointer (some ⟨B3, 1, none⟩)), (13, .slice p.r.a p.r.l.length p.r.cap), (14, .int .i64 ((p.r.l.length : Nat) : Int)), (15, .int .i64 ((m : Nat) : Int))]) (fun (m : Nat) => ((901, .row (.slice (some ⟨g2, 0, none⟩) nl.length nc) 36 3 nl.length (nl.flatMap Pcl.cells)) :: (903, .scr 5 1 isB bs) :: (1001, .blk B1 (.cells #[.slice (some ⟨g2, 0, none⟩) nl.length nc, .int .u64 lost] 27)) :: (1002, .blk B3 (.cells #[.int .i64 p.to, .slice p.r.a p.r.l.length p.r.cap, .bool p.sp] 36)) :: L)) (fun (m : Nat) => p.r.l.length - m) 0 (Nat.zero_le _) (sub_cons rfl (sub_cons rfl (sub_cons rfl (sub_cons rfl (sub_cons rfl (sub_cons rfl (sub_cons rfl (sub_cons rfl (sub_cons rfl (sub_cons rfl (sub_cons rfl sub_nil))))))))))) (by first | exact lk_fin (F := [_, _, _, _]) (sub_cons rfl (sub_cons rfl (sub_cons rfl (sub_cons rfl sub_nil)))) rfl hL | exact lk_fin (F := [_, _, _, _, _]) (sub_cons rfl (sub_cons rfl (sub_cons rfl (sub_cons rfl sub_nil)))) rfl hL | exact lk_fin (F := [_, _, _, _, _, _]) (sub_cons rfl (sub_cons rfl (sub_cons rfl (sub_cons rfl sub_nil)))) rfl hL | exact lk_fin (F := [_, _, _, _, _, _, _]) (sub_cons rfl (sub_cons rfl (sub_cons rfl (sub_cons rfl sub_nil)))) rfl hL | exact lk_fin (F := [_, _, _, _, _, _, _, _]) (sub_cons rfl (sub_cons rfl (sub_cons rfl (sub_cons rfl sub_nil)))) rfl hL | exact lk_fin (F := [_, _, _, _, _, _, _, _, _]) (sub_cons rfl (sub_cons rfl (sub_cons rfl (sub_cons rfl sub_nil)))) rfl hL | exact lk_fin (F := [_, _, _, _, _, _, _, _, _, _]) (sub_cons rfl (sub_cons rfl (sub_cons rfl (sub_cons rfl sub_nil)))) rfl hL | exact lk_fin (F := [_, _, _, _, _, _, _, _, _, _, _]) (sub_cons rfl (sub_cons rfl (sub_cons rfl (sub_cons rfl sub_nil)))) rfl hL | exact lk_fin (F := [_, _, _, _, _, _, _, _, _, _, _, _]) (sub_cons rfl (sub_cons rfl (sub_cons rfl (sub_cons rfl sub_nil)))) rfl hL | exact lk_fin (F := [_, _, _, _, _, _, _, _, _, _, _, _, _]) (sub_cons rfl (sub_cons rfl (sub_cons rfl (sub_cons rfl sub_nil)))) rfl hL | exact lk_fin (F := [_, _, _, _, _, _, _, _, _, _, _, _, _, _]) (sub_cons rfl (sub_cons rfl (sub_cons rfl (sub_cons rfl sub_nil)))) rfl hL | exact lk_fin (F := [_, _, _, _, _, _, _, _, _, _, _, _, _, _, _]) (sub_cons rfl (sub_cons rfl (sub_cons rfl (sub_cons rfl sub_nil)))) rfl hL) ?_
    rintro m hp
    have hmk := hp
    show T _ _ _ [(6, .slice (some ⟨g2, 0, none⟩) nl.length nc), (7, .int .i64 ((nl.length : Nat) : Int)), (8, .int .i64 ((k : Nat) : Int)), (9, .bool (decide (((k : Nat) : Int) < ((nl.length : Nat) : Int)))), (10, .pointer (some ⟨g2, 0 + k * 3, none⟩)), (11, .agg #[.int .i64 p.to, .slice p.r.a p.r.l.length p.r.cap, .bool p.sp]), (3, .pointer (some ⟨B3, 0, none⟩)), (12, .pointer (some ⟨B3, 1, none⟩)), (13, .slice p.r.a p.r.l.length p.r.cap), (14, .int .i64 ((p.r.l.length : Nat) : Int)), (15, .int .i64 ((m : Nat) : Int))] ((901, .row (.slice (some ⟨g2, 0, none⟩) nl.length nc) 36 3 nl.length (nl.flatMap Pcl.cells)) :: (903, .scr 5 1 isB bs) :: (1001, .blk B1 (.cells #[.slice (some ⟨g2, 0, none⟩) nl.length nc, .int .u64 lost] 27)) :: (1002, .blk B3 (.cells #[.int .i64 p.to, .slice p.r.a p.r.l.length p.r.cap, .bool p.sp] 36)) :: L)
    refine T_seq (T_region ?_)
    refine TL_q (.bool (decide (((m : Nat) : Int) < ((p.r.l.length : Nat) : Int)))) (fun _ _ hρ _ => r_lss (hρ _ _ rfl) (hρ _ _ rfl)) rfl rfl rfl (w_n rfl) ?_
    refine TL_seq ?_
    refine T_seq ?_
    refine T_cond rfl (fun h2 => ?_) (fun h2 => ?_)
    · replace h2 := of_decide_eq_true h2
      refine T_skip' ?_
      refine p_seq ?_
      refine T_seq ?_
      refine T_block ?_
      refine T_seq (T_region ?_)
      refine TL_q (.int .i64 ((m : Nat) : Int)) (fun _ _ hρ _ => r_move (hρ _ _ rfl)) rfl rfl rfl (w_n rfl) ?_
      refine TL_q (.int .i64 ((m : Nat) : Int)) (fun _ _ hρ _ => r_assign (hρ _ _ rfl)) rfl rfl rfl (w_n rfl) ?_
      refine TL_seq ?_
      refine T_scr 903 rfl hin9.1 (fun e => by have := congrArg List.length e; simp only [List.length_nil] at this; omega) (fun B9 hB9 => ?_)
      rw [hB9]
      refine T_region ?_
      refine TL_q (.pointer (some ⟨B3, 1, none⟩)) (fun _ _ hρ _ => r_fieldAddr fl36_1 sz34 (hρ _ _ rfl)) rfl rfl rfl (w_n rfl) ?_
      refine TL_q (.slice (some ⟨B9, 0, none⟩) p.r.l.length p.r.cap) (fun _ _ hρ hm => r_load ag34 (hρ _ _ rfl) (hm.at 1002 rfl) rfl) rfl rfl rfl (w_n rfl) ?_
      refine TL_q (.int .i64 ((m : Nat) : Int)) (fun _ _ hρ _ => r_move (hρ _ _ rfl)) rfl rfl rfl (w_n rfl) ?_
      refine TL_q (.pointer (some ⟨B9, 0 + m * 1, none⟩)) (fun _ _ hρ _ => r_indexAddrS (i := m) sl34 sz5 (hρ _ _ rfl) (hρ _ _ rfl) (by omega)) rfl rfl rfl (w_n rfl) ?_
      refine TL_op (ι := By) (fun B => .int .u8 ((B).toNat : Int)) _ (fun _ _ hρ hm => o_loadB (i := 0 + m * 1) 903 rfl hin9.1 ag5 hB9 (by omega) (hρ _ _ rfl) hm) rfl rfl rfl (w_n rfl) ?_
      intro B4
      refine TL_q (.int .u8 ((B4 + (1#8)).toNat : Int)) (fun _ _ hρ _ => r_addB (k := .u8) (a := B4) (b := (1#8)) rfl (hρ _ _ rfl) (hρ _ _ rfl)) rfl rfl rfl (w_n rfl) ?_
      refine TL_q (.pointer (some ⟨B9, 0 + m * 1, none⟩)) (fun _ _ hρ _ => r_indexAddrS (i := m) sl34 sz5 (hρ _ _ rfl) (hρ _ _ rfl) (by omega)) rfl rfl rfl (w_n rfl) ?_
      refine TL_opS _ (fun _ _ hρ hm => o_storeScr (i := 0 + m * 1) (v := .int .u8 ((B4 + (1#8)).toNat : Int)) 903 rfl hin9.1 hB9 (by omega) (hρ _ _ rfl) (hρ _ _ rfl) sz5 rfl rfl ⟨_, rfl⟩ hm) rfl rfl (w_n rfl) ?_
      refine TL_nil ?_
      refine p_blk_n ?_
      refine p_seq ?_
      rw [← hB9]
      refine T_region ?_
      refine TL_q (.int .i64 ((m + 1 : Nat) : Int)) (fun _ _ hρ _ => r_as (r_add (hρ _ _ rfl) (hρ _ _ rfl)) (int_as ((wrap64 (by omega) (by omega)).trans (by omega)))) rfl rfl rfl (w_n rfl) ?_
      refine TL_q (.int .i64 ((m + 1 : Nat) : Int)) (fun _ _ hρ _ => r_move (hρ _ _ rfl)) rfl rfl rfl (w_n rfl) ?_
      refine TL_nil ?_
      exact p_atT (m + 1) ⟨by omega, by omega⟩ (sub_cons rfl (sub_cons rfl (sub_cons rfl (sub_cons rfl (sub_cons rfl (sub_cons rfl (sub_cons rfl (sub_cons rfl (sub_cons rfl (sub_cons rfl (sub_cons rfl sub_nil))))))))))) (by first | exact lk_fin (F := [_, _, _, _]) (sub_cons rfl (sub_cons rfl (sub_cons rfl (sub_cons rfl sub_nil)))) rfl hL | exact lk_fin (F := [_, _, _, _, _]) (sub_cons rfl (sub_cons rfl (sub_cons rfl (sub_cons rfl sub_nil)))) rfl hL | exact lk_fin (F := [_, _, _, _, _, _]) (sub_cons rfl (sub_cons rfl (sub_cons rfl (sub_cons rfl sub_nil)))) rfl hL | exact lk_fin (F := [_, _, _, _, _, _, _]) (sub_cons rfl (sub_cons rfl (sub_cons rfl (sub_cons rfl sub_nil)))) rfl hL | exact lk_fin (F := [_, _, _, _, _, _, _, _]) (sub_cons rfl (sub_cons rfl (sub_cons rfl (sub_cons rfl sub_nil)))) rfl hL | exact lk_fin (F := [_, _, _, _, _, _, _, _, _]) (sub_cons rfl (sub_cons rfl (sub_cons rfl (sub_cons rfl sub_nil)))) rfl hL | exact lk_fin (F := [_, _, _, _, _, _, _, _, _, _]) (sub_cons rfl (sub_cons rfl (sub_cons rfl (sub_cons rfl sub_nil)))) rfl hL | exact lk_fin (F := [_, _, _, _, _, _, _, _, _, _, _]) (sub_cons rfl (sub_cons rfl (sub_cons rfl (sub_cons rfl sub_nil)))) rfl hL | exact lk_fin (F := [_, _, _, _, _, _, _, _, _, _, _, _]) (sub_cons rfl (sub_cons rfl (sub_cons rfl (sub_cons rfl sub_nil)))) rfl hL | exact lk_fin (F := [_, _, _, _, _, _, _, _, _, _, _, _, _]) (sub_cons rfl (sub_cons rfl (sub_cons rfl (sub_cons rfl sub_nil)))) rfl hL | exact lk_fin (F := [_, _, _, _, _, _, _, _, _, _, _, _, _, _]) (sub_cons rfl (sub_cons rfl (sub_cons rfl (sub_cons rfl sub_nil)))) rfl hL | exact lk_fin (F := [_, _, _, _, _, _, _, _, _, _, _, _, _, _, _]) (sub_cons rfl (sub_cons rfl (sub_cons rfl (sub_cons rfl sub_nil)))) rfl hL)
    · replace h2 := of_decide_eq_false h2
      refine T_exit' ?_
      refine p_then_x ?_
      refine p_then_x ?_
      refine p_blk_x ?_
      refine p_blk_n ?_
      refine p_seq ?_
      refine T_region ?_
      refine TL_q (.int .i64 ((k + 1 : Nat) : Int)) (fun _ _ hρ _ => r_as (r_add (hρ _ _ rfl) (hρ _ _ rfl)) (int_as ((wrap64 (by omega) (by omega)).trans (by omega)))) rfl rfl rfl (w_n rfl) ?_
      refine TL_q (.int .i64 ((k + 1 : Nat) : Int)) (fun _ _ hρ _ => r_move (hρ _ _ rfl)) rfl rfl rfl (w_n rfl) ?_
      refine TL_nil ?_
      exact p_atT (k + 1) ⟨by omega, by omega⟩ (sub_cons rfl (sub_cons rfl (sub_cons rfl sub_nil))) (by first | exact lk_fin (F := [_, _, _, _]) (sub_cons rfl (sub_cons rfl (sub_cons rfl sub_nil))) rfl hL | exact lk_fin (F := [_, _, _, _, _]) (sub_cons rfl (sub_cons rfl (sub_cons rfl sub_nil))) rfl hL | exact lk_fin (F := [_, _, _, _, _, _]) (sub_cons rfl (sub_cons rfl (sub_cons rfl sub_nil))) rfl hL | exact lk_fin (F := [_, _, _, _, _, _, _]) (sub_cons rfl (sub_cons rfl (sub_cons rfl sub_nil))) rfl hL | exact lk_fin (F := [_, _, _, _, _, _, _, _]) (sub_cons rfl (sub_cons rfl (sub_cons rfl sub_nil))) rfl hL | exact lk_fin (F := [_, _, _, _, _, _, _, _, _]) (sub_cons rfl (sub_cons rfl (sub_cons rfl sub_nil))) rfl hL | exact lk_fin (F := [_, _, _, _, _, _, _, _, _, _]) (sub_cons rfl (sub_cons rfl (sub_cons rfl sub_nil))) rfl hL | exact lk_fin (F := [_, _, _, _, _, _, _, _, _, _, _]) (sub_cons rfl (sub_cons rfl (sub_cons rfl sub_nil))) rfl hL | exact lk_fin (F := [_, _, _, _, _, _, _, _, _, _, _, _]) (sub_cons rfl (sub_cons rfl (sub_cons rfl sub_nil))) rfl hL | exact lk_fin (F := [_, _, _, _, _, _, _, _, _, _, _, _, _]) (sub_cons rfl (sub_cons rfl (sub_cons rfl sub_nil))) rfl hL | exact lk_fin (F := [_, _, _, _, _, _, _, _, _, _, _, _, _, _]) (sub_cons rfl (sub_cons rfl (sub_cons rfl sub_nil))) rfl hL | exact lk_fin (F := [_, _, _, _, _, _, _, _, _, _, _, _, _, _, _]) (sub_cons rfl (sub_cons rfl (sub_cons rfl sub_nil))) rfl hL)
  · replace h1 := of_decide_eq_false h1
    refine T_exit' ?_
    refine p_then_x ?_
    refine p_then_x ?_
    refine p_blk_x ?_
    refine p_end ?_
    refine ret_of rfl (.tuple #[]) (fun tmps w hk hm => results_none rfl _ _ _) (fun w hm => ?_)
    refine ⟨(), trivial, rfl, ?_⟩
    first | exact hm.of (lk_fin (F := [_, _, _]) (T := [(901, rowP ⟨na, nc, nl⟩), (903, .scr 5 1 isB bs)]) (sub_cons rfl (sub_cons rfl sub_nil)) rfl hL) | exact hm.of (lk_fin (F := [_, _, _, _]) (T := [(901, rowP ⟨na, nc, nl⟩), (903, .scr 5 1 isB bs)]) (sub_cons rfl (sub_cons rfl sub_nil)) rfl hL) | exact hm.of (lk_fin (F := [_, _, _, _, _]) (T := [(901, rowP ⟨na, nc, nl⟩), (903, .scr 5 1 isB bs)]) (sub_cons rfl (sub_cons rfl sub_nil)) rfl hL) | exact hm.of (lk_fin (F := [_, _, _, _, _, _]) (T := [(901, rowP ⟨na, nc, nl⟩), (903, .scr 5 1 isB bs)]) (sub_cons rfl (sub_cons rfl sub_nil)) rfl hL) | exact hm.of (lk_fin (F := [_, _, _, _, _, _, _]) (T := [(901, rowP ⟨na, nc, nl⟩), (903, .scr 5 1 isB bs)]) (sub_cons rfl (sub_cons rfl sub_nil)) rfl hL) | exact hm.of (lk_fin (F := [_, _, _, _, _, _, _, _]) (T := [(901, rowP ⟨na, nc, nl⟩), (903, .scr 5 1 isB bs)]) (sub_cons rfl (sub_cons rfl sub_nil)) rfl hL) | exact hm.of (lk_fin (F := [_, _, _, _, _, _, _, _, _]) (T := [(901, rowP ⟨na, nc, nl⟩), (903, .scr 5 1 isB bs)]) (sub_cons rfl (sub_cons rfl sub_nil)) rfl hL) | exact hm.of (lk_fin (F := [_, _, _, _, _, _, _, _, _, _]) (T := [(901, rowP ⟨na, nc, nl⟩), (903, .scr 5 1 isB bs)]) (sub_cons rfl (sub_cons rfl sub_nil)) rfl hL)
end Go.Proofs.Ytcidgbjgeegepaa
