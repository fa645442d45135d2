/- Texts of this seat, merged: part 2. -/
import Derived.Test.YtcidgbjgeegepaaMg1
import Derived.ScopeJumps
import Derived.Recover
import Derived.Laws.Build
import Derived.WideLaws
/- net and journal: slices.Grow, slices.Concat. Printed by a program of this seat's prover. -/
namespace Go.Proofs.Ytcidgbjgeegepaa
open Go Go.RowKit
set_option maxRecDepth 10000
theorem flat_stepR {α : Type} {rs : List (RowG α)} {k : Nat} {r : RowG α} (h : rs[k]? = some r) : (rs.take (k + 1)).flatMap RowG.l = (rs.take k).flatMap RowG.l ++ r.l := by
  rw [List.take_add_one, h, List.flatMap_append]
  simp
theorem con_as {α : Type} {f : α → List Value} {g e s : Nat} {args : Array Value} {w : World} {l l' : List α} (h : Calls Try.prog g args w fun en w' => ∃ a' cap', en = .returned (.slice a' l.length cap') ∧ Below w.heap.size w w' ∧ w'.ownsRow w.heap.size e s (.slice a' l.length cap') l.length (l.flatMap f)) (hl : l = l') :
    Calls Try.prog g args w fun en w' => ∃ a' cap', en = .returned (.slice a' l'.length cap') ∧ Below w.heap.size w w' ∧ w'.ownsRow w.heap.size e s (.slice a' l'.length cap') l'.length (l'.flatMap f) := hl ▸ h
theorem flat_leR {α : Type} (rs : List (RowG α)) (k : Nat) : ((rs.take k).flatMap RowG.l).length ≤ (rs.flatMap RowG.l).length := by
  have e : rs.flatMap RowG.l = (rs.take k).flatMap RowG.l ++ (rs.drop k).flatMap RowG.l := by rw [← List.flatMap_append, List.take_append_drop]
  rw [e, List.length_append]; omega
theorem rows_oneG {α : Type} {f : α → List Value} (ho : ∀ x, ∀ u ∈ f x, u.oneCell' = true) {l : List α} : ∀ u ∈ l.flatMap f, u.oneCell' = true := fun u hu => by
  obtain ⟨x, _, hx⟩ := List.mem_flatMap.1 hu
  exact ho x u hx

theorem gro_p (n : Nat) (w : World) (hn : n ≤ 1000000) : Calls Try.prog 143 #[.slice none 0 0, .int .i64 (n : Int)] w fun e w' => ∃ a' cap', e = .returned (.slice a' 0 cap') ∧ Below w.heap.size w w' ∧ w'.ownsRow w.heap.size 36 3 (.slice a' 0 cap') 0 [] := by
  refine calls_of_T (l := [.slice none 0 0, .int .i64 ((n : Nat) : Int)]) 27 Try.func143 rfl rfl rfl ?_
  show T _ _ _ [(0, .slice none 0 0), (1, .int .i64 ((n : Nat) : Int))] []
  refine T_seq (T_region ?_)
  refine TL_q (.slice none 0 0) (fun _ _ hρ _ => r_assign (hρ _ _ rfl)) rfl rfl rfl (w_n rfl) ?_
  refine TL_seq ?_
  refine T_seq ?_
  refine T_seq (T_region ?_)
  refine TL_q (.int .i64 ((n : Nat) : Int)) (fun _ _ hρ _ => r_move (hρ _ _ rfl)) rfl rfl rfl (w_n rfl) ?_
  refine TL_q (.bool false) (fun _ _ hρ _ => r_as (r_lss (hρ _ _ rfl) (hρ _ _ rfl)) (bool_as (decide_eq_false (by omega)))) rfl rfl rfl (w_n rfl) ?_
  refine TL_seq ?_
  refine T_cond_f rfl ?_
  refine T_skip' ?_
  refine p_seq ?_
  refine T_seq ?_
  refine T_seq (T_region ?_)
  refine TL_q (.int .i64 ((n : Nat) : Int)) (fun _ _ hρ _ => r_move (hρ _ _ rfl)) rfl rfl rfl (w_n rfl) ?_
  refine TL_q (.slice none 0 0) (fun _ _ hρ _ => r_move (hρ _ _ rfl)) rfl rfl rfl (w_n rfl) ?_
  refine TL_q (.int .i64 0) (fun _ _ hρ _ => r_cap sl22 (hρ _ _ rfl)) rfl rfl rfl (w_n rfl) ?_
  refine TL_q (.slice none 0 0) (fun _ _ hρ _ => r_move (hρ _ _ rfl)) rfl rfl rfl (w_n rfl) ?_
  refine TL_q (.int .i64 0) (fun _ _ hρ _ => r_len sl22 (hρ _ _ rfl)) rfl rfl rfl (w_n rfl) ?_
  refine TL_q (.int .i64 0) (fun _ _ hρ _ => r_as (r_sub (hρ _ _ rfl) (hρ _ _ rfl)) (by rfl)) rfl rfl rfl (w_n rfl) ?_
  refine TL_q (.int .i64 ((n - 0 : Nat) : Int)) (fun _ _ hρ _ => r_as (r_sub (hρ _ _ rfl) (hρ _ _ rfl)) (int_as ((wrap64 (by omega) (by omega)).trans (by omega)))) rfl rfl rfl (w_n rfl) ?_
  refine TL_q (.int .i64 ((n - 0 : Nat) : Int)) (fun _ _ hρ _ => r_assign (hρ _ _ rfl)) rfl rfl rfl (w_n rfl) ?_
  refine TL_seq ?_
  by_cases h0 : 0 < n
  · skip
    refine T_seq (T_region ?_)
    refine TL_q (.int .i64 ((n - 0 : Nat) : Int)) (fun _ _ hρ _ => r_move (hρ _ _ rfl)) rfl rfl rfl (w_n rfl) ?_
    refine TL_q (.bool (decide ((0 : Int) < ((n - 0 : Nat) : Int)))) (fun _ _ hρ _ => r_gtr (hρ _ _ rfl) (hρ _ _ rfl)) rfl rfl rfl (w_n rfl) ?_
    refine TL_seq ?_
    refine T_cond rfl (fun h1 => ?_) (fun h1 => ?_)
    · replace h1 := of_decide_eq_true h1
      refine T_region ?_
      refine TL_q (.slice none 0 0) (fun _ _ hρ _ => r_move (hρ _ _ rfl)) rfl rfl rfl (w_n rfl) ?_
      refine TL_q (.slice none 0 0) (fun _ _ hρ _ => r_move (hρ _ _ rfl)) rfl rfl rfl (w_n rfl) ?_
      refine TL_q (.int .i64 0) (fun _ _ hρ _ => r_cap sl22 (hρ _ _ rfl)) rfl rfl rfl (w_n rfl) ?_
      refine TL_q (.slice none 0 0) (fun ρ _ hρ _ => r_sliceN sl22 sz36 (hρ _ _ rfl) (bd_none ρ _) (bd_some (n := 0) (hρ _ _ rfl)) (bd_none ρ _) (by simp)) rfl rfl rfl (w_n rfl) ?_
      refine TL_q (.int .i64 ((n - 0 : Nat) : Int)) (fun _ _ hρ _ => r_move (hρ _ _ rfl)) rfl rfl rfl (w_n rfl) ?_
      refine TL_op (ι := Nat × Nat) (fun B => .slice (some ⟨B.1, 0, none⟩) n B.2) _ (fun _ _ hρ hm => o_growZ (n := n) (z := .agg #[.int .i64 0, .slice none 0 0, .bool false]) 940 rfl rfl (hρ _ _ rfl) (hρ _ _ rfl) sl22 io3 sz36 rfl by36 (by kernel_rfl) rfl (by omega) (by omega) (by omega) hm) rfl rfl rfl (w_n rfl) ?_
      intro B1
      refine TL_q (.slice none 0 0) (fun _ _ hρ _ => r_move (hρ _ _ rfl)) rfl rfl rfl (w_n rfl) ?_
      refine TL_q (.int .i64 0) (fun _ _ hρ _ => r_len sl22 (hρ _ _ rfl)) rfl rfl rfl (w_n rfl) ?_
      refine TL_q (.slice (some ⟨B1.1, 0, none⟩) 0 B1.2) (fun ρ _ hρ _ => r_as (r_sliceS sl22 sz36 (hρ _ _ rfl) (bd_none ρ _) (bd_some (n := 0) (hρ _ _ rfl)) (bd_none ρ _) (by simp) (by omega) (by omega) (by omega)) (by simp)) rfl rfl rfl (w_n rfl) ?_
      refine TL_q (.slice (some ⟨B1.1, 0, none⟩) 0 B1.2) (fun _ _ hρ _ => r_assign (hρ _ _ rfl)) rfl rfl rfl (w_n rfl) ?_
      refine TL_nil ?_
      refine p_seq ?_
      refine T_seq (T_region ?_)
      refine TL_q (.slice (some ⟨B1.1, 0, none⟩) 0 B1.2) (fun _ _ hρ _ => r_move (hρ _ _ rfl)) rfl rfl rfl (w_n rfl) ?_
      refine TL_q (.slice (some ⟨B1.1, 0, none⟩) 0 B1.2) (fun _ _ hρ _ => r_assign (hρ _ _ rfl)) rfl rfl rfl (w_n rfl) ?_
      refine TL_seq ?_
      refine T_ret' ?_
      refine ret_of rfl (.slice (some ⟨B1.1, 0, none⟩) 0 B1.2) (fun tmps w hk hm => res1 rfl (res_tmp (hk 4 _ rfl))) (fun w hm => ?_)
      exact ⟨some ⟨B1.1, 0, none⟩, B1.2, rfl, hm.ext, hm.row 940 rfl⟩
    · replace h1 := of_decide_eq_false h1
      refine T_skip' ?_
      refine p_seq ?_
      refine T_seq (T_region ?_)
      refine TL_q (.slice none 0 0) (fun _ _ hρ _ => r_move (hρ _ _ rfl)) rfl rfl rfl (w_n rfl) ?_
      refine TL_q (.slice none 0 0) (fun _ _ hρ _ => r_assign (hρ _ _ rfl)) rfl rfl rfl (w_n rfl) ?_
      refine TL_seq ?_
      refine T_ret' ?_
      refine ret_of rfl (.slice none 0 0) (fun tmps w hk hm => res1 rfl (res_tmp (hk 4 _ rfl))) (fun w hm => ?_)
      exact ⟨none, 0, rfl, hm.ext, World.ownsRow_nil _ _ _ _⟩
  · skip
    refine T_seq (T_region ?_)
    refine TL_q (.int .i64 ((n - 0 : Nat) : Int)) (fun _ _ hρ _ => r_move (hρ _ _ rfl)) rfl rfl rfl (w_n rfl) ?_
    refine TL_q (.bool (decide ((0 : Int) < ((n - 0 : Nat) : Int)))) (fun _ _ hρ _ => r_gtr (hρ _ _ rfl) (hρ _ _ rfl)) rfl rfl rfl (w_n rfl) ?_
    refine TL_seq ?_
    refine T_cond rfl (fun h2 => ?_) (fun h2 => ?_)
    · replace h2 := of_decide_eq_true h2
      refine T_region ?_
      refine TL_q (.slice none 0 0) (fun _ _ hρ _ => r_move (hρ _ _ rfl)) rfl rfl rfl (w_n rfl) ?_
      refine TL_q (.slice none 0 0) (fun _ _ hρ _ => r_move (hρ _ _ rfl)) rfl rfl rfl (w_n rfl) ?_
      refine TL_q (.int .i64 0) (fun _ _ hρ _ => r_cap sl22 (hρ _ _ rfl)) rfl rfl rfl (w_n rfl) ?_
      refine TL_q (.slice none 0 0) (fun ρ _ hρ _ => r_sliceN sl22 sz36 (hρ _ _ rfl) (bd_none ρ _) (bd_some (n := 0) (hρ _ _ rfl)) (bd_none ρ _) (by simp)) rfl rfl rfl (w_n rfl) ?_
      refine TL_q (.int .i64 ((n - 0 : Nat) : Int)) (fun _ _ hρ _ => r_move (hρ _ _ rfl)) rfl rfl rfl (w_n rfl) ?_
      refine TL_op (ι := Nat × Nat) (fun B => .slice (some ⟨B.1, 0, none⟩) n B.2) _ (fun _ _ hρ hm => o_growZ (n := n) (z := .agg #[.int .i64 0, .slice none 0 0, .bool false]) 940 rfl rfl (hρ _ _ rfl) (hρ _ _ rfl) sl22 io3 sz36 rfl by36 (by kernel_rfl) rfl (by omega) (by omega) (by omega) hm) rfl rfl rfl (w_n rfl) ?_
      intro B2
      refine TL_q (.slice none 0 0) (fun _ _ hρ _ => r_move (hρ _ _ rfl)) rfl rfl rfl (w_n rfl) ?_
      refine TL_q (.int .i64 0) (fun _ _ hρ _ => r_len sl22 (hρ _ _ rfl)) rfl rfl rfl (w_n rfl) ?_
      refine TL_q (.slice (some ⟨B2.1, 0, none⟩) 0 B2.2) (fun ρ _ hρ _ => r_as (r_sliceS sl22 sz36 (hρ _ _ rfl) (bd_none ρ _) (bd_some (n := 0) (hρ _ _ rfl)) (bd_none ρ _) (by simp) (by omega) (by omega) (by omega)) (by simp)) rfl rfl rfl (w_n rfl) ?_
      refine TL_q (.slice (some ⟨B2.1, 0, none⟩) 0 B2.2) (fun _ _ hρ _ => r_assign (hρ _ _ rfl)) rfl rfl rfl (w_n rfl) ?_
      refine TL_nil ?_
      refine p_seq ?_
      refine T_seq (T_region ?_)
      refine TL_q (.slice (some ⟨B2.1, 0, none⟩) 0 B2.2) (fun _ _ hρ _ => r_move (hρ _ _ rfl)) rfl rfl rfl (w_n rfl) ?_
      refine TL_q (.slice (some ⟨B2.1, 0, none⟩) 0 B2.2) (fun _ _ hρ _ => r_assign (hρ _ _ rfl)) rfl rfl rfl (w_n rfl) ?_
      refine TL_seq ?_
      refine T_ret' ?_
      refine ret_of rfl (.slice (some ⟨B2.1, 0, none⟩) 0 B2.2) (fun tmps w hk hm => res1 rfl (res_tmp (hk 4 _ rfl))) (fun w hm => ?_)
      exact ⟨some ⟨B2.1, 0, none⟩, B2.2, rfl, hm.ext, hm.row 940 rfl⟩
    · replace h2 := of_decide_eq_false h2
      refine T_skip' ?_
      refine p_seq ?_
      refine T_seq (T_region ?_)
      refine TL_q (.slice none 0 0) (fun _ _ hρ _ => r_move (hρ _ _ rfl)) rfl rfl rfl (w_n rfl) ?_
      refine TL_q (.slice none 0 0) (fun _ _ hρ _ => r_assign (hρ _ _ rfl)) rfl rfl rfl (w_n rfl) ?_
      refine TL_seq ?_
      refine T_ret' ?_
      refine ret_of rfl (.slice none 0 0) (fun tmps w hk hm => res1 rfl (res_tmp (hk 4 _ rfl))) (fun w hm => ?_)
      exact ⟨none, 0, rfl, hm.ext, World.ownsRow_nil _ _ _ _⟩

set_option maxHeartbeats 1000000 in
theorem con_p (rs : List (RowG Pcl)) (a : Option Addr) (cap : Nat) (w : World) (hv : SliceAt w a cap 1 RowG.cells rs) (hcap : cap ≤ Go.maxLen) (hrs : ∀ r ∈ rs, SliceAt w r.a r.cap 3 Pcl.cells r.l ∧ r.cap ≤ Go.maxLen) (hn : (rs.flatMap RowG.l).length ≤ 1000000) (hk2 : rs.length ≤ 1000) : Calls Try.prog 136 #[.slice a rs.length cap] w fun e w' => ∃ a' cap', e = .returned (.slice a' (rs.flatMap RowG.l).length cap') ∧ Below w.heap.size w w' ∧ w'.ownsRow w.heap.size 36 3 (.slice a' (rs.flatMap RowG.l).length cap') (rs.flatMap RowG.l).length ((rs.flatMap RowG.l).flatMap Pcl.cells) := by
  have hvl := hv.1
  have hle9 := flat_leR rs rs.length
  rw [List.take_length] at hle9
  unfold Go.maxLen at hcap
  refine calls_of_T (l := [.slice a rs.length cap]) 36 Try.func136 rfl rfl rfl ?_
  show T _ _ _ [(0, .slice a rs.length cap)] []
  refine T_seq (T_region ?_)
  refine TL_q (.slice none 0 0) (fun _ _ hρ _ => r_assign (hρ _ _ rfl)) rfl rfl rfl (w_n rfl) ?_
  refine TL_seq ?_
  refine T_seq (T_region ?_)
  refine TL_q (.int .i64 0) (fun _ _ hρ _ => r_assign (hρ _ _ rfl)) rfl rfl rfl (w_n rfl) ?_
  refine TL_seq ?_
  refine T_seq ?_
  refine T_seq (T_region ?_)
  refine TL_q (.slice a rs.length cap) (fun _ _ hρ _ => r_move (hρ _ _ rfl)) rfl rfl rfl (w_n rfl) ?_
  refine TL_q (.int .i64 ((rs.length : Nat) : Int)) (fun _ _ hρ _ => r_len sl192 (hρ _ _ rfl)) rfl rfl rfl (w_n rfl) ?_
  refine TL_q (.int .i64 0) (fun _ _ hρ _ => r_move (hρ _ _ rfl)) rfl rfl rfl (w_n rfl) ?_
  refine TL_seq ?_
  refine T_block ?_
  refine T_loop (ι := Nat) (fun (k : Nat) => k ≤ rs.length) (fun (k : Nat) => [(0, .slice a rs.length cap), (2, .slice none 0 0), (9, .slice a rs.length cap), (10, .int .i64 ((rs.length : Nat) : Int)), (11, .int .i64 ((k : Nat) : Int)), (3, .int .i64 ((((rs.take k).flatMap RowG.l).length : Nat) : Int))]) (fun (k : Nat) => []) (fun (k : Nat) => rs.length - k) 0 (Nat.zero_le _) (sub_cons rfl (sub_cons rfl (sub_cons rfl (sub_cons rfl (sub_cons rfl (sub_cons rfl sub_nil)))))) sub_nil ?_
  rintro k hp
  have hk := hp
  show T _ _ _ [(0, .slice a rs.length cap), (2, .slice none 0 0), (9, .slice a rs.length cap), (10, .int .i64 ((rs.length : Nat) : Int)), (11, .int .i64 ((k : Nat) : Int)), (3, .int .i64 ((((rs.take k).flatMap RowG.l).length : Nat) : Int))] []
  refine T_seq (T_region ?_)
  refine TL_q (.bool (decide (((k : Nat) : Int) < ((rs.length : Nat) : Int)))) (fun _ _ hρ _ => r_lss (hρ _ _ rfl) (hρ _ _ rfl)) rfl rfl rfl (w_n rfl) ?_
  refine TL_seq ?_
  refine T_seq ?_
  refine T_cond rfl (fun h1 => ?_) (fun h1 => ?_)
  · replace h1 := of_decide_eq_true h1
    refine T_skip' ?_
    refine p_seq ?_
    refine T_seq ?_
    refine T_block ?_
    obtain ⟨r, hr⟩ : ∃ x, rs[k]? = some x := ⟨_, List.getElem?_eq_getElem (by omega)⟩
    have hro := hrs r (List.mem_of_getElem? hr)
    have hst := flat_stepR hr
    have hsl := congrArg List.length hst
    rw [List.length_append] at hsl
    have hrl := hro.1.1
    have hrc := hro.2
    unfold Go.maxLen at hrc
    have hle := flat_leR rs (k + 1)
    obtain ⟨b1, of1, cs1, T1, fz1, ha1, hq1, hr1⟩ := hv.open (i := k) (by omega)
    subst ha1
    refine T_seq (T_region ?_)
    refine TL_q (.pointer (some ⟨b1, of1 + k * 1, none⟩)) (fun _ _ hρ _ => r_indexAddrS (i := k) sl192 sz22 (hρ _ _ rfl) (hρ _ _ rfl) (by omega)) rfl rfl rfl (w_n rfl) ?_
    refine TL_q (.slice r.a r.l.length r.cap) (fun _ _ hρ hm => r_loadRow1 (f := RowG.cells) (u := r) ag22 (hρ _ _ rfl) (hm.old hq1) hr1 hr rfl) rfl rfl rfl (w_n rfl) ?_
    refine TL_q (.slice r.a r.l.length r.cap) (fun _ _ hρ _ => r_assign (hρ _ _ rfl)) rfl rfl rfl (w_n rfl) ?_
    refine TL_seq ?_
    refine T_seq (T_region ?_)
    refine TL_q (.int .i64 ((((rs.take k).flatMap RowG.l).length : Nat) : Int)) (fun _ _ hρ _ => r_move (hρ _ _ rfl)) rfl rfl rfl (w_n rfl) ?_
    refine TL_q (.slice r.a r.l.length r.cap) (fun _ _ hρ _ => r_move (hρ _ _ rfl)) rfl rfl rfl (w_n rfl) ?_
    refine TL_q (.int .i64 ((r.l.length : Nat) : Int)) (fun _ _ hρ _ => r_len sl22 (hρ _ _ rfl)) rfl rfl rfl (w_n rfl) ?_
    refine TL_q (.int .i64 (((((rs.take k).flatMap RowG.l).length) + r.l.length : Nat) : Int)) (fun _ _ hρ _ => r_as (r_add (hρ _ _ rfl) (hρ _ _ rfl)) (int_as ((wrap64 (by omega) (by omega)).trans (by omega)))) rfl rfl rfl (w_n rfl) ?_
    refine TL_q (.int .i64 (((((rs.take k).flatMap RowG.l).length) + r.l.length : Nat) : Int)) (fun _ _ hρ _ => r_assign (hρ _ _ rfl)) rfl rfl rfl (w_n rfl) ?_
    refine TL_seq ?_
    refine T_seq (T_region ?_)
    refine TL_q (.int .i64 (((((rs.take k).flatMap RowG.l).length) + r.l.length : Nat) : Int)) (fun _ _ hρ _ => r_move (hρ _ _ rfl)) rfl rfl rfl (w_n rfl) ?_
    refine TL_q (.bool false) (fun _ _ hρ _ => r_as (r_lss (hρ _ _ rfl) (hρ _ _ rfl)) (bool_as (decide_eq_false (by omega)))) rfl rfl rfl (w_n rfl) ?_
    refine TL_seq ?_
    refine T_cond_f rfl ?_
    refine T_skip' ?_
    refine p_blk_n ?_
    refine p_seq ?_
    refine T_region ?_
    refine TL_q (.int .i64 ((k + 1 : Nat) : Int)) (fun _ _ hρ _ => r_as (r_add (hρ _ _ rfl) (hρ _ _ rfl)) (int_as ((wrap64 (by omega) (by omega)).trans (by omega)))) rfl rfl rfl (w_n rfl) ?_
    refine TL_q (.int .i64 ((k + 1 : Nat) : Int)) (fun _ _ hρ _ => r_move (hρ _ _ rfl)) rfl rfl rfl (w_n rfl) ?_
    refine TL_nil ?_
    exact p_at (k + 1) ⟨by omega, by omega⟩ (sub_cons rfl (sub_cons rfl (sub_cons rfl (sub_cons rfl (sub_cons rfl (sub_cons (by rw [hst, List.length_append]; rfl) sub_nil)))))) sub_nil
  · replace h1 := of_decide_eq_false h1
    refine T_exit' ?_
    refine p_then_x ?_
    refine p_then_x ?_
    refine p_blk_x ?_
    refine p_seq ?_
    have hke : k = rs.length := by omega
    subst hke
    have hlz := flat_leR rs rs.length
    refine T_seq (T_region ?_)
    refine TL_q (.int .i64 ((((rs.take rs.length).flatMap RowG.l).length : Nat) : Int)) (fun _ _ hρ _ => r_move (hρ _ _ rfl)) rfl rfl rfl (w_n rfl) ?_
    refine TL_callN (fun (_ : Option Addr × Nat) => True) (fun (ag2, cg2) => .slice ag2 0 cg2) (fun (ag2, cg2) => [(941, .row (.slice ag2 0 cg2) 36 3 0 [])]) (fun _ _ hρ _ => r_call (args := [.slice none 0 0, .int .i64 ((((rs.take rs.length).flatMap RowG.l).length : Nat) : Int)]) (enters_of Try.func143 (by kernel_rfl) rfl) (hρ _ _ rfl) ((cons2 (hρ _ _ rfl) (cons2 (hρ _ _ rfl) rfl))) rfl) (fun w _ => (gro_p (((rs.take rs.length).flatMap RowG.l).length) w (by omega)).mono fun e w' ⟨a', cap', he, hb, hr⟩ => ⟨(a', cap'), trivial, he, hb, newOk1 941 hr⟩) rfl rfl rfl (w_n rfl) ?_
    rintro ⟨ag2, cg2⟩ -
    refine TL_q (.slice ag2 0 cg2) (fun _ _ hρ _ => r_assign (hρ _ _ rfl)) rfl rfl rfl (w_n rfl) ?_
    refine TL_seq ?_
    refine T_seq ?_
    refine T_seq (T_region ?_)
    refine TL_q (.slice a rs.length cap) (fun _ _ hρ _ => r_move (hρ _ _ rfl)) rfl rfl rfl (w_n rfl) ?_
    refine TL_q (.int .i64 ((rs.length : Nat) : Int)) (fun _ _ hρ _ => r_len sl192 (hρ _ _ rfl)) rfl rfl rfl (w_n rfl) ?_
    refine TL_q (.int .i64 0) (fun _ _ hρ _ => r_move (hρ _ _ rfl)) rfl rfl rfl (w_n rfl) ?_
    refine TL_seq ?_
    refine T_block ?_
    refine T_loop (ι := Nat × Option Addr × Nat) (fun (z : Nat × Option Addr × Nat) => match z with | (k, a2, cap2) => k ≤ rs.length) (fun (z : Nat × Option Addr × Nat) => match z with | (k, a2, cap2) => [(2, .slice none 0 0), (25, .slice a rs.length cap), (26, .int .i64 ((rs.length : Nat) : Int)), (27, .int .i64 ((k : Nat) : Int)), (6, .slice a2 (((rs.take k).flatMap RowG.l).length) cap2)]) (fun (z : Nat × Option Addr × Nat) => match z with | (k, a2, cap2) => [(941, .row (.slice a2 (((rs.take k).flatMap RowG.l).length) cap2) 36 3 (((rs.take k).flatMap RowG.l).length) (((rs.take k).flatMap RowG.l).flatMap Pcl.cells))]) (fun (z : Nat × Option Addr × Nat) => match z with | (k, a2, cap2) => rs.length - k) (0, ag2, cg2) (Nat.zero_le _) (sub_cons rfl (sub_cons rfl (sub_cons rfl (sub_cons rfl (sub_cons rfl sub_nil))))) (sub_cons rfl sub_nil) ?_
    rintro ⟨k, a2, cap2⟩ hp
    have hk := hp
    have hle0 := flat_leR rs k
    show T _ _ _ [(2, .slice none 0 0), (25, .slice a rs.length cap), (26, .int .i64 ((rs.length : Nat) : Int)), (27, .int .i64 ((k : Nat) : Int)), (6, .slice a2 (((rs.take k).flatMap RowG.l).length) cap2)] [(941, .row (.slice a2 (((rs.take k).flatMap RowG.l).length) cap2) 36 3 (((rs.take k).flatMap RowG.l).length) (((rs.take k).flatMap RowG.l).flatMap Pcl.cells))]
    refine T_seq (T_region ?_)
    refine TL_q (.bool (decide (((k : Nat) : Int) < ((rs.length : Nat) : Int)))) (fun _ _ hρ _ => r_lss (hρ _ _ rfl) (hρ _ _ rfl)) rfl rfl rfl (w_n rfl) ?_
    refine TL_seq ?_
    refine T_seq ?_
    refine T_cond rfl (fun h2 => ?_) (fun h2 => ?_)
    · replace h2 := of_decide_eq_true h2
      refine T_skip' ?_
      refine p_seq ?_
      refine T_seq ?_
      refine T_block ?_
      obtain ⟨r, hr⟩ : ∃ x, rs[k]? = some x := ⟨_, List.getElem?_eq_getElem (by omega)⟩
      have hro := hrs r (List.mem_of_getElem? hr)
      have hst := flat_stepR hr
      have hsl := congrArg List.length hst
      rw [List.length_append] at hsl
      have hrl := hro.1.1
      have hrc := hro.2
      unfold Go.maxLen at hrc
      have hle := flat_leR rs (k + 1)
      obtain ⟨b3, of3, cs3, T3, fz3, ha3, hq3, hr3⟩ := hv.open (i := k) (by omega)
      subst ha3
      refine T_seq (T_region ?_)
      refine TL_q (.pointer (some ⟨b3, of3 + k * 1, none⟩)) (fun _ _ hρ _ => r_indexAddrS (i := k) sl192 sz22 (hρ _ _ rfl) (hρ _ _ rfl) (by omega)) rfl rfl rfl (w_n rfl) ?_
      refine TL_q (.slice r.a r.l.length r.cap) (fun _ _ hρ hm => r_loadRow1 (f := RowG.cells) (u := r) ag22 (hρ _ _ rfl) (hm.old hq3) hr3 hr rfl) rfl rfl rfl (w_n rfl) ?_
      refine TL_q (.slice r.a r.l.length r.cap) (fun _ _ hρ _ => r_assign (hρ _ _ rfl)) rfl rfl rfl (w_n rfl) ?_
      refine TL_seq ?_
      refine T_region ?_
      refine TL_q (.slice a2 (((rs.take k).flatMap RowG.l).length) cap2) (fun _ _ hρ _ => r_move (hρ _ _ rfl)) rfl rfl rfl (w_n rfl) ?_
      refine TL_q (.slice r.a r.l.length r.cap) (fun _ _ hρ _ => r_move (hρ _ _ rfl)) rfl rfl rfl (w_n rfl) ?_
      refine TL_append (n := ((rs.take k).flatMap RowG.l).length) (m := r.l.length) (xs := (((rs.take k).flatMap RowG.l).flatMap Pcl.cells)) (news := (r.l.flatMap Pcl.cells)) (z := .agg #[.int .i64 0, .slice none 0 0, .bool false]) 941 rfl rfl rfl sl22 sz36 by36 (by kernel_rfl) rfl rfl (.inl rfl) (fun _ hm => by have := src_of Pcl.cells_len (hro.1.keep hm.ext); simpa using this) (rows_oneG Pcl.cells_one) (by omega) (by omega) rfl (w_n rfl) ?_
      intro a4 cap4
      refine TL_q (.slice a4 (((rs.take k).flatMap RowG.l).length + r.l.length) cap4) (fun _ _ hρ _ => r_assign (hρ _ _ rfl)) rfl rfl rfl (w_n rfl) ?_
      refine TL_nil ?_
      refine p_blk_n ?_
      refine p_seq ?_
      refine T_region ?_
      refine TL_q (.int .i64 ((k + 1 : Nat) : Int)) (fun _ _ hρ _ => r_as (r_add (hρ _ _ rfl) (hρ _ _ rfl)) (int_as ((wrap64 (by omega) (by omega)).trans (by omega)))) rfl rfl rfl (w_n rfl) ?_
      refine TL_q (.int .i64 ((k + 1 : Nat) : Int)) (fun _ _ hρ _ => r_move (hρ _ _ rfl)) rfl rfl rfl (w_n rfl) ?_
      refine TL_nil ?_
      have e1 : (((rs.take k).flatMap RowG.l).length + r.l.length) = ((rs.take (k + 1)).flatMap RowG.l).length := by rw [hst, List.length_append]
      have e2 : ((((rs.take k).flatMap RowG.l).flatMap Pcl.cells) ++ (r.l.flatMap Pcl.cells)) = ((rs.take (k + 1)).flatMap RowG.l).flatMap Pcl.cells := by rw [hst, List.flatMap_append]
      rw [e1, e2]
      exact p_at (k + 1, a4, cap4) ⟨by omega, by dsimp only; omega⟩ (sub_cons rfl (sub_cons rfl (sub_cons rfl (sub_cons rfl (sub_cons rfl sub_nil))))) (sub_cons rfl sub_nil)
    · replace h2 := of_decide_eq_false h2
      refine T_exit' ?_
      refine p_then_x ?_
      refine p_then_x ?_
      refine p_blk_x ?_
      refine p_seq ?_
      refine T_seq (T_region ?_)
      refine TL_q (.slice a2 (((rs.take k).flatMap RowG.l).length) cap2) (fun _ _ hρ _ => r_move (hρ _ _ rfl)) rfl rfl rfl (w_n rfl) ?_
      refine TL_q (.slice a2 (((rs.take k).flatMap RowG.l).length) cap2) (fun _ _ hρ _ => r_assign (hρ _ _ rfl)) rfl rfl rfl (w_n rfl) ?_
      refine TL_seq ?_
      refine T_ret' ?_
      refine ret_of rfl (.slice a2 (((rs.take k).flatMap RowG.l).length) cap2) (fun tmps w hk hm => res1 rfl (res_tmp (hk 2 _ rfl))) (fun w hm => ?_)
      have hke : k = rs.length := by omega
      subst hke
      rw [List.take_length]
      have hrow := hm.row 941 rfl
      rw [List.take_length] at hrow
      exact ⟨a2, cap2, rfl, hm.ext, hrow⟩
end Go.Proofs.Ytcidgbjgeegepaa
/- Panics, and what recovers of them. Over any program. -/
namespace Go.Proofs.Ytcidgbjgeegepaa
open Go Go.RowKit

section
variable {P : Program} {w : World} {ρ : Operand → Value} {d : Option Tmp} {ty : TypeId} {ps : String} {af : Array Edge} {g : Option (Nat × Bool)} {x : Operand}
theorem r_panic {t : TypeId} {v : Value} (h : ρ x = .iface t v) : (execOp ρ (mk d (.panic x) ty ps af g)).run P w = .halt (.panic (.iface t v)) w := by
  show (do pure (Next.value (← Instr.panic (ρ x))) : Sem Next).run P w = _
  rw [h]; rfl
theorem r_makeIface {t : TypeId} {v : Value} (ht : P.concrete t = true) (h : ρ x = v) : (execOp ρ (mk d (.makeInterface t x) ty ps af g)).run P w = .ok (.value (.iface t v)) w := by
  refine run_v ?_
  rw [h]; exact run_makeInterface _ _ _ ht
theorem r_typeAssert {t u : TypeId} {v r : Value} {ok : Bool} (h : ρ x = v) (hr : (Instr.typeAssert v t u ok).run P w = .ok r w) : (execOp ρ (mk d (.typeAssert x t u ok) ty ps af g)).run P w = .ok (.value r) w := by
  refine run_v ?_
  rw [h]; exact hr
variable {y : Operand}
/-- An interface value, against nil. -/
theorem r_eqI {op : BinOp} {t t' : TypeId} {a : Value} {r : Bool} (hg : (eqGuard op t x y a .nilIface).run P w = .ok () w) (hx : ρ x = a) (hy : ρ y = .nilIface) (h : (binOp op t a .nilIface).run P w = .ok (.bool r) w) :
    (execOp ρ (mk d (.binOp op t x y t') ty ps af g)).run P w = .ok (.value (.bool r)) w := run_eqv hg hx hy h
end
/-- A function's contract: it panics with a value. -/
def PAns (w₀ : World) {κ : Type} (q : κ → Prop) (x : κ → Value) (LX : κ → Heap) (e : Ending) (w' : World) : Prop := ∃ k, q k ∧ e = .panicked [{ v := x k, recovered := false }] ∧ MemOk w₀ (LX k) w'
section
variable {C : Cx} {ops : Array Oper} {os : List Oper} {Q : Post} {K : List (Nat × Value)} {L : Heap} {o : Oper} {ch : List PanicEntry}
theorem p_then_p {next : Act → World → Prop} (h : POk C Q (.panic ch) K L) : POk C (Exit.then next Q) (.panic ch) K L := h
theorem TL_panic {v : Value} (hr : ∀ ρ w, Rd K ρ → MemOk C.w₀ L w → (execOp ρ o).run C.P w = .halt (.panic v) w) (hn : isDefer o.op = false) (hw : Want ops K o true) (h : POk C Q (.panic [{ v, recovered := false }]) K L) : TL C ops (o :: os) Q K L := by
  intro a w hf hm
  unfold wpListIn
  rw [hw.is hf, if_pos rfl]
  exact step_panic hn (hr _ _ hf.rd hm) (h a w hf hm)
/-- A call that panics. -/
theorem TL_callP {κ : Type} {f : Nat} {args : Array Value} (q : κ → Prop) (x : κ → Value) (LX : κ → Heap) (hr : ∀ ρ w, Rd K ρ → MemOk C.w₀ L w → (execOp ρ o).run C.P w = .ok (.enter f args) w)
    (hc : ∀ w, MemOk C.w₀ L w → Calls C.P f args w (PAns C.w₀ q x LX)) (hn : isDefer o.op = false) (hw : Want ops K o true)
    (h : ∀ k, q k → POk C Q (.panic [{ v := x k, recovered := false }]) K (LX k)) : TL C ops (o :: os) Q K L := by
  intro a w hf hm
  unfold wpListIn
  rw [hw.is hf, if_pos rfl]
  refine step_enter hn (hr _ _ hf.rd hm) (hc w hm) ?_
  rintro e w' ⟨k, hk, rfl, hm'⟩
  exact h k hk _ _ hf hm'
/-- The same, of a callee that leaves memory as it was. -/
theorem TL_callQ {f : Nat} {args : Array Value} {v : Value} (hr : ∀ ρ w, Rd K ρ → MemOk C.w₀ L w → (execOp ρ o).run C.P w = .ok (.enter f args) w)
    (hc : ∀ w, MemOk C.w₀ L w → Calls C.P f args w fun e w' => e = .panicked [{ v, recovered := false }] ∧ Below w.heap.size w w') (hn : isDefer o.op = false) (hw : Want ops K o true)
    (h : POk C Q (.panic [{ v, recovered := false }]) K L) : TL C ops (o :: os) Q K L :=
  TL_callP (κ := Unit) (fun _ => True) (fun _ => v) (fun _ => L) hr (fun w hm => (hc w hm).mono fun e w' ⟨he, hb⟩ => ⟨(), trivial, he, hm.below hb⟩) hn hw fun _ _ => h
theorem p_pan {fn : Func} {R : Ending → World → Prop} (hD : C.D = []) (hR : ∀ w, MemOk C.w₀ L w → R (.panicked ch) w) : POk C (bodyM C.P fn R) (.panic ch) K L := fun a w hf hm => by
  show LeavesInM _ _ _ _ _ _ _ _ _
  rw [hf.defers.trans hD]
  exact hR w hm
theorem p_panD {fn : Func} {R : Ending → World → Prop} (ds : List Deferred) (hD : C.D = ds)
    (h : ∀ tmps, (∀ t u, lk K t = some u → tmps.getD t undef = u) → ∀ w, MemOk C.w₀ L w → Leaves C.P fn tmps R ds (.panicking ch) w) : POk C (bodyPostD C.P fn R) (.panic ch) K L := fun a w hf hm => by
  show Leaves _ _ _ _ a.defers _ _
  rw [hf.defers.trans hD]
  exact h _ hf.knows w hm
end
/-- Behind a panic: the deferred call recovers of it. -/
theorem leavesP_cons {P : Program} {w₀ : World} {fn : Func} {tmps : Array Value} {R : Ending → World → Prop} {f : Nat} {cap args : Array Value} {ds : List Deferred} {L L' : Heap} {v x : Value} (hE : Enters P f)
    (hc : ∀ w, MemOk w₀ L w → CallsD P f (args ++ cap) (.panicking [{ v := x, recovered := false }]) w fun e u' w' => u' = .panicking [{ v := x, recovered := true }] ∧ (e = .returned v ∧ MemOk w₀ L' w')) (h : ∀ w, MemOk w₀ L' w → Leaves P fn tmps R ds .returning w) :
    ∀ w, MemOk w₀ L w → Leaves P fn tmps R ({ target := .fn (.func f) cap, args := args } :: ds) (.panicking [{ v := x, recovered := false }]) w := fun w hm => by
  refine ⟨by simp, .func f, cap, f, args ++ cap, rfl, hE _ w, (hc w hm).mono ?_⟩
  rintro e u' w' ⟨rfl, rfl, hm'⟩
  exact h w' hm'
/-- The modes of the frame that put off a call: ahead of 'recover', behind it, and what it gives. -/
def RecM (u u' : FrameMode) (v : Value) : Prop := (u = .returning ∧ u' = .returning ∧ v = .nilIface) ∨ (u = .panicking [{ v, recovered := false }] ∧ u' = .panicking [{ v, recovered := true }])
/-- The contract of a deferred call that begins with 'x := recover()'. -/
theorem dS_of_T {P : Program} {f : FuncId} {fn : Func} {c : Code} {id : Nat} {oR oA : Oper} {dR dA : Nat} {l : List Value} {w₀ : World} {L : Heap} {R : Ending → World → Prop} (N : Nat) {u u' : FrameMode} {v : Value} (hu : RecM u u' v)
    (hf : P.funcs[f]? = some fn) (hN : fn.ntmps = N) (hn : Nat.ble l.length N = true) (hb : fn.body = some (.seq (.region id #[oR, oA] false) c))
    (hgR : oR.guard = none) (hdR : oR.dst = some dR) (hrR : ∀ ρ w, (execOp ρ oR).run P w = .ok .recover w) (hgA : oA.guard = none) (hdA : oA.dst = some dA) (hrA : ∀ ρ w, (execOp ρ oA).run P w = .ok (.value (ρ (.tmp dR))) w)
    (hlR : Nat.blt dR N = true) (hlA : Nat.blt dA N = true)
    (h : T ⟨P, w₀, N, [], none⟩ c (bodyPost P fn R) ((dA, v) :: (dR, v) :: argsK 0 l) L) : ∀ w, MemOk w₀ L w → CallsD P f l.toArray u w fun e m w' => m = u' ∧ R e w' := by
  intro w hm
  subst hN
  replace hn := Nat.le_of_ble_eq_true hn
  refine callsD_of_wpS hf hb fun c₀ cs hmode => ?_
  apply wpS_seq
  apply wpS_region
  have hfr : FrOk fn.ntmps [] (argsK 0 l) { tmps := l.toArray ++ Array.replicate (fn.ntmps - l.toArray.size) undef, defers := [] } := by
    refine lk_args (by simpa using hn) _ (fun t v ht => ?_)
    obtain ⟨_, h2⟩ := argsK_lk l 0 t v ht
    simpa using h2
  obtain ⟨a, ha⟩ : ∃ a : Act, { tmps := l.toArray ++ Array.replicate (fn.ntmps - l.toArray.size) undef, defers := [] } = a := ⟨_, rfl⟩
  rw [ha] at hfr ⊢
  have hf1 := hfr.put v hlR
  have hev : (a.put (some dR) v).eval (.tmp dR) = v := hf1.knows _ _ (lk_cons_same _ _ _)
  have hf2 := hf1.put v hlA
  have key := wpIn_wide.1 (h _ w hf2 hm)
  have fin : ∀ u'', u'' = u' → (Code.wpS P c (bodyPostS P fn c₀ cs fun e m w' => m = u' ∧ R e w') ((a.put (some dR) v).put (some dA) v) ({ c₀ with mode := u'' } :: cs) w) := by
    rintro _ rfl
    refine wpS_of_wp (Code.wp_mono ?_ key)
    intro e a' w' he
    cases e with
    | normal => obtain ⟨h1, x, h2, h3⟩ := he; exact ⟨h1, _, rfl, x, h2, rfl, h3⟩
    | ret => obtain ⟨h1, x, h2, h3⟩ := he; exact ⟨h1, _, rfl, x, h2, rfl, h3⟩
    | exit id => exact he.elim
    | goto l => exact he.elim
    | panic ch => exact ⟨he.1, _, rfl, rfl, he.2⟩
    | outgrown => exact ⟨_, rfl, he⟩
  show wpOpsS P #[oR, oA] _ [0, 1] a (c₀ :: cs) w
  have hwR : ∀ j, Region.wanted oR j = true := fun j => by unfold Region.wanted; rw [hgR]
  have hwA : ∀ j, Region.wanted oA j = true := fun j => by unfold Region.wanted; rw [hgA]
  simp only [wpOpsS, List.getElem?_toArray, List.getElem?_cons_zero, List.getElem?_cons_succ, hwR, hwA, if_true, hrR, hrA, hdR, hdA, Oper.upon]
  rcases hu with ⟨rfl, rfl, rfl⟩ | ⟨rfl, rfl⟩
  · simp only [recoverD, hmode]
    rw [hev]
    have := fin _ rfl
    rwa [show ({ c₀ with mode := FrameMode.returning } : Frame) = c₀ by rw [← hmode]] at this
  · simp only [recoverD, hmode]
    rw [hev]
    exact fin _ rfl
/-! ### lists of what is known, told otherwise -/
theorem lk_none_of {A : Heap} {k : Nat} (h : ∀ p ∈ A, p.1 ≠ k) : lk A k = none := by
  induction A with
  | nil => rfl
  | cons a A ih =>
    rw [show a :: A = (a.1, a.2) :: A from rfl, lk_cons_other _ _ (h a (by simp))]
    exact ih fun p hp => h p (by simp [hp])
theorem lk_key {A : Heap} {k : Nat} {q : Res} (h : lk A k = some q) : ∃ p ∈ A, p.1 = k := by
  by_cases e : ∃ p ∈ A, p.1 = k
  · exact e
  · rw [lk_none_of (fun p hp e2 => e ⟨p, hp, e2⟩)] at h; cases h
/-- What is ahead, put behind. -/
theorem lk_front {N L : Heap} (A : Heap) (h : ∀ p ∈ A, lk N p.1 = none) : ∀ k q, lk (A ++ (N ++ L)) k = some q → lk (N ++ (A ++ L)) k = some q := fun k q hk => by
  rw [lk_append] at hk
  rw [lk_append]
  cases hA : lk A k with
  | some r =>
    rw [hA] at hk
    obtain ⟨p, hp, rfl⟩ := lk_key hA
    rw [h p hp]
    show lk (A ++ L) p.1 = _
    rw [lk_append, hA]; exact hk
  | none =>
    rw [hA] at hk
    replace hk : lk (N ++ L) k = some q := hk
    rw [lk_append] at hk
    cases hN : lk N k with
    | some r => rw [hN] at hk; exact hk
    | none => rw [hN] at hk; show lk (A ++ L) k = _; rw [lk_append, hA]; exact hk
/-- What is of no more use. -/
theorem lk_drop {L : Heap} (A : Heap) (h : ∀ p ∈ A, lk L p.1 = none) : ∀ k q, lk L k = some q → lk (A ++ L) k = some q := fun k q hk => by
  rw [lk_append]
  cases hA : lk A k with
  | some r => obtain ⟨p, hp, rfl⟩ := lk_key hA; rw [h p hp] at hk; cases hk
  | none => exact hk
/-- What is told anew ahead. -/
theorem lk_mid {L : Heap} (A M : Heap) (h : (M.map (·.1)).all (fun i => (A.map (·.1)).contains i) = true) : ∀ k q, lk (A ++ L) k = some q → lk (A ++ (M ++ L)) k = some q := fun k q hk => by
  rw [lk_append] at hk ⊢
  cases hA : lk A k with
  | some r => rw [hA] at hk; exact hk
  | none =>
    rw [hA] at hk
    show lk (M ++ L) k = _
    rw [lk_append]
    cases hM : lk M k with
    | none => exact hk
    | some r =>
      exfalso
      obtain ⟨p, hp, rfl⟩ := lk_key hM
      have := List.all_eq_true.1 h p.1 (List.mem_map_of_mem hp)
      rw [List.contains_iff_mem, List.mem_map] at this
      obtain ⟨z, hz, hzp⟩ := this
      rcases List.append_of_mem hz with ⟨s, t, rfl⟩
      have key : ∀ (s : Heap), lk (s ++ z :: t) p.1 ≠ none := fun s => by
        induction s with
        | nil => rw [List.nil_append, show z :: t = (z.1, z.2) :: t from rfl, hzp, lk_cons_same]; exact fun e => by cases e
        | cons a s ih =>
          rw [List.cons_append, show a :: (s ++ z :: t) = (a.1, a.2) :: (s ++ z :: t) from rfl]
          by_cases e : a.1 = p.1
          · rw [e, lk_cons_same]; exact fun e => by cases e
          · rw [lk_cons_other _ _ e]; exact ih
      exact key s hA
theorem lk_app_none {N L : Heap} {i : Nat} (h1 : lk N i = none) (h2 : lk L i = none) : lk (N ++ L) i = none := by rw [lk_append, h1]; exact h2
end Go.Proofs.Ytcidgbjgeegepaa
/- Contracts over an open list of what is known of memory: numbers that are free, entries told again. Over any program. -/
namespace Go.Proofs.Ytcidgbjgeegepaa
open Go Go.RowKit
/-- No entry bears a number from a on, below b. -/
def NoIds (L : Heap) (a b : Nat) : Prop := ∀ k, a ≤ k → k < b → lk L k = none
theorem NoIds.sub {L : Heap} {a b c d : Nat} (h : NoIds L a b) (h1 : Nat.ble a c = true) (h2 : Nat.ble d b = true) : NoIds L c d := fun k hk hk2 => h k (Nat.le_trans (Nat.le_of_ble_eq_true h1) hk) (Nat.lt_of_lt_of_le hk2 (Nat.le_of_ble_eq_true h2))
theorem noIds_app {F L : Heap} {a b : Nat} (h : (F.map (·.1)).all (fun i => Nat.blt i a || Nat.ble b i) = true) (hL : NoIds L a b) : NoIds (F ++ L) a b := fun k h1 h2 => by
  refine lk_app_none (lk_none_of fun p hp e => ?_) (hL k h1 h2)
  have := List.all_eq_true.1 h p.1 (List.mem_map.2 ⟨p, hp, rfl⟩)
  rw [Bool.or_eq_true, Nat.blt_eq] at this
  rcases this with h3 | h3
  · omega
  · have := Nat.le_of_ble_eq_true h3; omega
theorem noIds_cons {p : Nat × Res} {L : Heap} {a b : Nat} (h : (Nat.blt p.1 a || Nat.ble b p.1) = true) (hL : NoIds L a b) : NoIds (p :: L) a b := noIds_app (F := [p]) (by simp only [List.map_cons, List.map_nil, List.all_cons, List.all_nil, Bool.and_true]; exact h) hL
theorem lk_ids {L : Heap} {i : Nat} (h : NoIds L i (i + 1)) : lk L i = none := h i (Nat.le_refl _) (Nat.lt_succ_self _)
theorem noIds_nil (a b : Nat) : NoIds [] a b := fun _ _ _ => rfl
theorem lk_dups {A L : Heap} (h : SubK L A) : ∀ k q, lk (A ++ L) k = some q → lk L k = some q := fun k q hk => by
  rw [lk_append] at hk
  cases e : lk A k with
  | some r => rw [e] at hk; cases hk; exact h.get k q e
  | none => rw [e] at hk; exact hk
theorem lk_fin {F T L : Heap} {a b : Nat} (hT : SubK F T) (hk : (F.map (·.1)).all (fun i => (T.map (·.1)).contains i || (Nat.ble a i && Nat.blt i b)) = true) (hL : NoIds L a b) : ∀ k q, lk (T ++ L) k = some q → lk (F ++ L) k = some q := fun k q h => by
  rw [lk_append] at h ⊢
  cases e : lk T k with
  | some r => rw [e] at h; cases h; rw [hT.get k q e]
  | none =>
    rw [e] at h
    cases e2 : lk F k with
    | none => exact h
    | some r =>
      obtain ⟨p, hp, rfl⟩ := lk_key e2
      have := List.all_eq_true.1 hk p.1 (List.mem_map.2 ⟨p, hp, rfl⟩)
      rw [Bool.or_eq_true] at this
      rcases this with h1 | h1
      · exfalso
        obtain ⟨t, ht, e3⟩ := List.mem_map.1 (List.contains_iff_mem.1 h1)
        have : ∀ (A : Heap), t ∈ A → ∃ r, lk A t.1 = some r := fun A => by
          induction A with
          | nil => intro h; cases h
          | cons x A ih =>
            intro h
            by_cases e4 : x.1 = t.1
            · exact ⟨x.2, by rw [← e4]; exact lk_cons_same _ _ _⟩
            · rw [lk_cons_other _ _ e4]
              rcases List.mem_cons.1 h with rfl | h
              · exact absurd rfl e4
              · exact ih h
        obtain ⟨r', hr'⟩ := this T ht
        rw [e3] at hr'
        rw [hr'] at e; cases e
      · rw [Bool.and_eq_true, Nat.blt_eq] at h1
        have h2 := hL p.1 (Nat.le_of_ble_eq_true h1.1) h1.2
        rw [h2] at h; cases h
/-- A thing under another number. -/
theorem MemOk.move {w₀ w : World} {L : Heap} (h : MemOk w₀ L w) (i j : Nat) {r : Res} (hj : lk L j = some r) (hne : Nat.beq i j = false) : MemOk w₀ ((i, r) :: (j, .no) :: L) w := by
  have hij : i ≠ j := fun e => by subst e; rw [Nat.beq_refl] at hne; cases hne
  have h0 : MemOk w₀ ((j, .no) :: L) w := h.set j _ h.ext ⟨trivial, (fun _ hb => hb.elim), fun _ _ _ _ => trivial⟩ (fun _ _ _ _ b _ => ⟨rfl, id⟩)
  refine h0.set i r h0.ext (h.own j r hj) (fun k q hk hne' b hb => ⟨rfl, fun hr => ?_⟩)
  by_cases e2 : j = k
  · subst e2; rw [lk_cons_same] at hk; cases hk; exact hb
  · rw [lk_cons_other _ _ e2] at hk
    exact h.sep j k r q hj hk e2 b hr hb
section
variable {C : Cx} {Q : Post} {K : List (Nat × Value)} {L : Heap}
theorem T_loopT {ι : Type} (p : ι → Prop) (KI : ι → List (Nat × Value)) (LI : ι → Heap) (μ : ι → Nat) (i₀ : ι) (hp : p i₀) (hK : SubK K (KI i₀)) (hL : ∀ k q, lk (LI i₀) k = some q → lk L k = some q) {c : Code}
    (hround : ∀ i, p i → T C c (Exit.then (At C (fun j => p j ∧ μ j < μ i) KI LI) Q) (KI i) (LI i)) : T C (.loop c) Q K L := fun a w hf hm => T_loopE (L := LI i₀) p KI LI μ i₀ hp hK rfl hround a w hf (hm.of hL)
theorem p_atT {ι : Type} {p : ι → Prop} {KI : ι → List (Nat × Value)} {LI : ι → Heap} (i : ι) (hp : p i) (hK : SubK K (KI i)) (hL : ∀ k q, lk (LI i) k = some q → lk L k = some q) : POk C (Exit.then (At C p KI LI) Q) .normal K L := fun a w hf hm => p_atE (L := LI i) i hp hK rfl a w hf (hm.of hL)
end
end Go.Proofs.Ytcidgbjgeegepaa
/- net: a hand in memory. -/
namespace Go.Proofs.Ytcidgbjgeegepaa
open Go Go.RowKit
/-- A net that is worked on, and what was told. -/
structure Hd where
  n : NetR
  lost : Int
  t : NetR
abbrev handO (h : Hd) : Obj := .cells #[.slice h.n.a h.n.l.length h.n.cap, .int .u64 h.lost, .slice h.t.a h.t.l.length h.t.cap] 104
abbrev rowP (n : NetR) : Res := .row (.slice n.a n.l.length n.cap) 36 3 n.l.length (n.l.flatMap Pcl.cells)
abbrev hdL (H : Nat) (h : Hd) (bs : List (RowG By)) : Heap := [(900, .blk H (handO h)), (901, rowP h.n), (902, rowP h.t), (903, .pool 5 1 byc bs)]
/-- Its parcels' bytes are one's own. -/
def InB (bs : List (RowG By)) (l : List Pcl) : Prop := ∀ p ∈ l, p.r ∈ bs ∧ p.r.l.length ≤ 10000
structure HdOk (h : Hd) (bs : List (RowG By)) : Prop where
  len : h.n.l.length ≤ 64
  lost0 : 0 ≤ h.lost
  lost1 : h.lost ≤ MT
  inN : InB bs h.n.l
  inT : InB bs h.t.l
abbrev Hd.nv (h : Hd) : NV := (pvs h.n.l, h.lost)
theorem InB.mono {bs cs : List (RowG By)} {l : List Pcl} (h : InB bs l) (hs : ∀ b ∈ bs, b ∈ cs) : InB cs l := fun p hp => ⟨hs _ (h p hp).1, (h p hp).2⟩
theorem InB.push {bs : List (RowG By)} {l : List Pcl} {b : RowG By} (h : InB bs l) : InB (bs ++ [b]) l := h.mono fun _ hb => List.mem_append_left _ hb
theorem InB.snoc {bs : List (RowG By)} {l : List Pcl} {p : Pcl} (h : InB bs l) (hp : p.r ∈ bs) (hl : p.r.l.length ≤ 10000) : InB bs (l ++ [p]) := fun q hq => by
  rcases List.mem_append.1 hq with h1 | h1
  · exact h q h1
  · rw [List.mem_singleton.1 h1]; exact ⟨hp, hl⟩
theorem InB.sub {bs : List (RowG By)} {l m : List Pcl} (h : InB bs l) (hs : ∀ p ∈ m, p ∈ l) : InB bs m := fun p hp => h p (hs p hp)
theorem InB.nil (bs : List (RowG By)) : InB bs [] := fun _ h => nomatch h
theorem mem_last {α : Type} (l : List α) (x : α) : x ∈ l ++ [x] := List.mem_append_right _ (List.mem_singleton.2 rfl)
theorem pvs_snoc (l : List Pcl) (p : Pcl) : pvs (l ++ [p]) = pvs l ++ [p.pv] := by unfold pvs; rw [List.map_append]; rfl
theorem pvs_len (l : List Pcl) : (pvs l).length = l.length := List.length_map _
theorem putV_room {l : List Pcl} {lost : Int} {p q : Pcl} (h : l.length < 64) (e : q.pv = p.pv) : (pvs (l ++ [q]), lost) = putV (pvs l, lost) p.pv := by
  unfold putV
  rw [if_pos (show (pvs l).length < 64 by rw [pvs_len]; exact h), pvs_snoc, e]
theorem putV_full {l : List Pcl} {lost : Int} {p : Pcl} (h : l.length = 64) (h1 : lost ≤ MT) : (pvs l, if 4611686018427387904 < lost + 1 then 4611686018427387904 else lost + 1) = putV (pvs l, lost) p.pv := by
  unfold putV
  rw [if_neg (show ¬ (pvs l).length < 64 by rw [pvs_len]; omega)]
  unfold MT at h1 ⊢
  by_cases e : lost < 4611686018427387904
  · rw [if_pos e, if_neg (by omega)]
  · rw [if_neg e, if_pos (by omega), show lost = 4611686018427387904 by omega]
theorem erase_td {α : Type} (l : List α) (i : Nat) : l.take i ++ l.drop (i + 1) = l.eraseIdx i := (List.eraseIdx_eq_take_drop_succ l i).symm
theorem pvs_erase (l : List Pcl) (i : Nat) : pvs (l.eraseIdx i) = (pvs l).eraseIdx i := by unfold pvs; rw [List.eraseIdx_eq_take_drop_succ, List.eraseIdx_eq_take_drop_succ, List.map_append, List.map_take, List.map_drop]
theorem pvs_set (l : List Pcl) (i : Nat) (p : Pcl) : pvs (l.set i p) = (pvs l).set i p.pv := by unfold pvs; exact List.map_set
theorem pvs_get {l : List Pcl} {i : Nat} {p : Pcl} (h : l[i]? = some p) : (pvs l)[i]? = some p.pv := by unfold pvs; rw [List.getElem?_map, h]; rfl
theorem HdOk.told {h : Hd} {bs : List (RowG By)} {i : Nat} {p : Pcl} {a : Option Addr} {c : Nat} (hh : HdOk h bs) (hp : h.n.l[i]? = some p) : HdOk { h with t := ⟨a, c, h.t.l ++ [p]⟩ } bs :=
  ⟨hh.len, hh.lost0, hh.lost1, hh.inN, hh.inT.snoc (hh.inN p (List.mem_of_getElem? hp)).1 (hh.inN p (List.mem_of_getElem? hp)).2⟩
theorem HdOk.cut {h : Hd} {bs : List (RowG By)} {i : Nat} {a : Option Addr} {c : Nat} (hh : HdOk h bs) : HdOk { h with n := ⟨a, c, h.n.l.eraseIdx i⟩ } bs :=
  ⟨Nat.le_trans (List.length_eraseIdx_le _ _) hh.len, hh.lost0, hh.lost1, hh.inN.sub fun _ hq => List.mem_of_mem_eraseIdx hq, hh.inT⟩
theorem HdOk.set {h : Hd} {bs cs : List (RowG By)} {i : Nat} {p : Pcl} {a : Option Addr} {c : Nat} (hh : HdOk h bs) (hs : ∀ b ∈ bs, b ∈ cs) (hp : p.r ∈ cs) (hl : p.r.l.length ≤ 10000) : HdOk { h with n := ⟨a, c, h.n.l.set i p⟩ } cs :=
  ⟨(by dsimp only; rw [List.length_set]; exact hh.len), hh.lost0, hh.lost1, fun q hq => (List.mem_or_eq_of_mem_set hq).elim (hh.inN.mono hs q) (fun e => e ▸ ⟨hp, hl⟩), hh.inT.mono hs⟩
/-- What a trick has done. -/
structure Done (h : Hd) (bs : List (RowG By)) (t : Trk) (x : Hd × List (RowG By)) : Prop where
  nv : x.1.nv = (doV h.nv t).2.1
  told : pvs x.1.t.l = pvs h.t.l ++ (doV h.nv t).2.2
  ok : HdOk x.1 x.2
  bs : ∀ b ∈ bs, b ∈ x.2
  len : x.1.t.l.length ≤ h.t.l.length + 1
theorem doV_get {h : Hd} {k tb : Int} {i : Nat} {tm : Wd} {p : Pcl} (hk : 1 ≤ k ∧ k ≤ 4) (hp : h.n.l[i]? = some p) : doV h.nv ⟨k, i, tb, tm⟩ =
    if k = 1 then ((0 : Int), ((pvs h.n.l).eraseIdx i, h.lost), [p.pv]) else if k = 2 then (0, ((pvs h.n.l).eraseIdx i, h.lost), []) else if k = 3 then (0, putV h.nv p.pv, []) else if p.sp = true then (5, h.nv, [])
    else match spoilI p.r.l tb tm with | none => (2, h.nv, []) | some b => (0, ((pvs h.n.l).set i ⟨p.to, b, true⟩, h.lost), []) := by
  unfold doV
  have e : h.nv.1[(i : Int).toNat]? = some p.pv := pvs_get hp
  rw [if_neg (fun e => e hk), if_pos (Int.natCast_nonneg i)]
  dsimp only
  rw [e]
  rfl
theorem done_take {h : Hd} {bs : List (RowG By)} {tb : Int} {i : Nat} {tm : Wd} {p : Pcl} {a b : Option Addr} {c d : Nat} (hh : HdOk h bs) (hp : h.n.l[i]? = some p) : Done h bs ⟨1, i, tb, tm⟩ ({ h with n := ⟨a, c, h.n.l.eraseIdx i⟩, t := ⟨b, d, h.t.l ++ [p]⟩ }, bs) := by
  refine ⟨?_, ?_, (hh.told hp).cut, fun _ h => h, by simp⟩
  · rw [doV_get ⟨by decide, by decide⟩ hp, if_pos rfl]; unfold Hd.nv; rw [pvs_erase]
  · rw [doV_get ⟨by decide, by decide⟩ hp, if_pos rfl]; exact pvs_snoc _ _
theorem done_drop {h : Hd} {bs : List (RowG By)} {tb : Int} {i : Nat} {tm : Wd} {p : Pcl} {a : Option Addr} {c : Nat} (hh : HdOk h bs) (hp : h.n.l[i]? = some p) : Done h bs ⟨2, i, tb, tm⟩ ({ h with n := ⟨a, c, h.n.l.eraseIdx i⟩ }, bs) := by
  refine ⟨?_, ?_, hh.cut, fun _ h => h, Nat.le_succ _⟩
  · rw [doV_get ⟨by decide, by decide⟩ hp, if_neg (by decide), if_pos rfl]; unfold Hd.nv; rw [pvs_erase]
  · rw [doV_get ⟨by decide, by decide⟩ hp, if_neg (by decide), if_pos rfl]; exact (List.append_nil _).symm
theorem done_twice {h : Hd} {bs : List (RowG By)} {tb : Int} {i : Nat} {tm : Wd} {p : Pcl} {x : Hd × List (RowG By)} (hp : h.n.l[i]? = some p) (hx : x.1.nv = putV h.nv p.pv) (hk : HdOk x.1 x.2) (ht : x.1.t = h.t) (hs : ∀ b ∈ bs, b ∈ x.2) : Done h bs ⟨3, i, tb, tm⟩ x := by
  refine ⟨?_, ?_, hk, hs, by rw [ht]; exact Nat.le_succ _⟩
  · rw [doV_get ⟨by decide, by decide⟩ hp, if_neg (by decide), if_neg (by decide), if_pos rfl]; exact hx
  · rw [doV_get ⟨by decide, by decide⟩ hp, if_neg (by decide), if_neg (by decide), if_pos rfl, ht]; exact (List.append_nil _).symm
theorem done_spoil {h : Hd} {bs : List (RowG By)} {tb : Int} {i : Nat} {tm : Wd} {p : Pcl} {b : List By} {a a2 : Option Addr} {c c2 : Nat} (hh : HdOk h bs) (hp : h.n.l[i]? = some p) (h0 : p.sp = false) (hb : spoilI p.r.l tb tm = some b) (hl : b.length = p.r.l.length) :
    Done h bs ⟨4, i, tb, tm⟩ ({ h with n := ⟨a, c, h.n.l.set i ⟨p.to, ⟨a2, c2, b⟩, true⟩⟩ }, bs ++ [⟨a2, c2, b⟩]) := by
  have e : doV h.nv ⟨4, i, tb, tm⟩ = (0, ((pvs h.n.l).set i ⟨p.to, b, true⟩, h.lost), []) := by
    rw [doV_get ⟨by decide, by decide⟩ hp, if_neg (by decide), if_neg (by decide), if_neg (by decide), if_neg (by rw [h0]; decide), hb]
  refine ⟨?_, ?_, hh.set (fun _ h => List.mem_append_left _ h) (mem_last _ _) (by dsimp only; rw [hl]; exact (hh.inN p (List.mem_of_getElem? hp)).2), fun _ h => List.mem_append_left _ h, Nat.le_succ _⟩
  · rw [e]; unfold Hd.nv; rw [pvs_set]
  · rw [e]; exact (List.append_nil _).symm
/-- A trick that comes to nothing. -/
theorem done_no {h : Hd} {bs : List (RowG By)} {t : Trk} {e : Int} (hh : HdOk h bs) (he : doV h.nv t = (e, h.nv, [])) : Done h bs t (h, bs) := ⟨by rw [he], by rw [he]; exact (List.append_nil _).symm, hh, fun _ h => h, Nat.le_succ _⟩
end Go.Proofs.Ytcidgbjgeegepaa
/- net and journal: the hand: send, cut, take, drop, twice. Printed by a program of this seat's prover. -/
namespace Go.Proofs.Ytcidgbjgeegepaa
open Go Go.RowKit
set_option maxRecDepth 10000
theorem own_ok {w₀ w : World} {L : Heap} {bs : List (RowG By)} {p : Pcl} (hm : MemOk w₀ L w) (hk : lk L 903 = some (.pool 5 1 byc bs)) (hp : p.ok w₀ ∨ p.r ∈ bs ∧ p.r.l.length ≤ 10000) : p.ok w :=
  hp.elim (fun h => ⟨h.1.keep hm.ext, h.2⟩) fun h => ⟨poolAt byc_len (hm.pool 903 hk) h.1, poolCap (hm.pool 903 hk) h.1, h.2⟩

theorem send_ht {w₀ : World} {L : Heap} (H : Nat) (h : Hd) (bs : List (RowG By)) (p : Pcl) (hL : NoIds L 1000 1050) (hh : HdOk h bs) (hpl : p.r.l.length ≤ 10000) (hp : p.ok w₀ ∨ p.r ∈ bs ∧ p.r.l.length ≤ 10000) : ∀ w, MemOk w₀ (hdL H h bs ++ L) w → Calls Try.prog 66 #[.pointer (some ⟨H, 0, none⟩), p.v] w (HAns w₀ (fun x : Hd × List (RowG By) => x.1.nv = putV h.nv p.pv ∧ HdOk x.1 x.2 ∧ x.1.t = h.t ∧ ∀ b ∈ bs, b ∈ x.2) (fun _ => .tuple #[]) (fun x => hdL H x.1 x.2 ++ L)) := by
  refine ht_of_T (l := [.pointer (some ⟨H, 0, none⟩), .agg #[.int .i64 p.to, .slice p.r.a p.r.l.length p.r.cap, .bool p.sp]]) (L := ((900, .blk H (.cells #[.slice h.n.a h.n.l.length h.n.cap, .int .u64 h.lost, .slice h.t.a h.t.l.length h.t.cap] 104)) :: (901, .row (.slice h.n.a h.n.l.length h.n.cap) 36 3 h.n.l.length (h.n.l.flatMap Pcl.cells)) :: (902, .row (.slice h.t.a h.t.l.length h.t.cap) 36 3 h.t.l.length (h.t.l.flatMap Pcl.cells)) :: (903, .pool 5 1 byc bs) :: L)) 35 Try.func66 rfl rfl rfl ?_
  have hhl := hh.len
  have hl0 := hh.lost0
  have hl1 := hh.lost1
  unfold MT at hl1
  show T _ _ _ [(0, .pointer (some ⟨H, 0, none⟩)), (1, .agg #[.int .i64 p.to, .slice p.r.a p.r.l.length p.r.cap, .bool p.sp])] ((900, .blk H (.cells #[.slice h.n.a h.n.l.length h.n.cap, .int .u64 h.lost, .slice h.t.a h.t.l.length h.t.cap] 104)) :: (901, .row (.slice h.n.a h.n.l.length h.n.cap) 36 3 h.n.l.length (h.n.l.flatMap Pcl.cells)) :: (902, .row (.slice h.t.a h.t.l.length h.t.cap) 36 3 h.t.l.length (h.t.l.flatMap Pcl.cells)) :: (903, .pool 5 1 byc bs) :: L)
  refine T_seq (T_region ?_)
  refine TL_new 1001 (.cells #[.int .i64 p.to, .slice p.r.a p.r.l.length p.r.cap, .bool p.sp] 36) (fun B => .pointer (some ⟨B, 0, none⟩)) (fun _ _ hρ _ => r_box (hρ _ _ rfl) rfl) rfl rfl rfl (w_n rfl) ?_
  intro B1
  refine TL_seq ?_
  refine T_seq ?_
  refine T_seq (T_region ?_)
  refine TL_q (.pointer (some ⟨H, 0, none⟩)) (fun _ _ hρ _ => r_move (hρ _ _ rfl)) rfl rfl rfl (w_n rfl) ?_
  refine TL_q (.pointer (some ⟨H, 0, none⟩)) (fun _ _ hρ _ => r_nilCheck (hρ _ _ rfl) rfl) rfl rfl rfl (w_n rfl) ?_
  refine TL_q (.pointer (some ⟨H, 0, none⟩)) (fun _ _ hρ _ => r_fieldAddr fl104_0 sz27 (hρ _ _ rfl)) rfl rfl rfl (w_n rfl) ?_
  refine TL_q (.pointer (some ⟨H, 0, none⟩)) (fun _ _ hρ _ => r_fieldAddr fl27_0 sz22 (hρ _ _ rfl)) rfl rfl rfl (w_n rfl) ?_
  refine TL_q (.slice h.n.a h.n.l.length h.n.cap) (fun _ _ hρ hm => r_load ag22 (hρ _ _ rfl) (hm.at 900 rfl) rfl) rfl rfl rfl (w_n rfl) ?_
  refine TL_q (.int .i64 ((h.n.l.length : Nat) : Int)) (fun _ _ hρ _ => r_len sl22 (hρ _ _ rfl)) rfl rfl rfl (w_n rfl) ?_
  refine TL_q (.bool (decide (((h.n.l.length : Nat) : Int) = 64))) (fun _ _ hρ _ => r_eql (hρ _ _ rfl) (hρ _ _ rfl)) rfl rfl rfl (w_n rfl) ?_
  refine TL_seq ?_
  refine T_cond rfl (fun h1 => ?_) (fun h1 => ?_)
  · replace h1 := of_decide_eq_true h1
    refine T_seq (T_region ?_)
    refine TL_q (.pointer (some ⟨H, 0, none⟩)) (fun _ _ hρ _ => r_move (hρ _ _ rfl)) rfl rfl rfl (w_n rfl) ?_
    refine TL_q (.pointer (some ⟨H, 0, none⟩)) (fun _ _ hρ _ => r_move (hρ _ _ rfl)) rfl rfl rfl (w_n rfl) ?_
    refine TL_q (.pointer (some ⟨H, 0, none⟩)) (fun _ _ hρ _ => r_nilCheck (hρ _ _ rfl) rfl) rfl rfl rfl (w_n rfl) ?_
    refine TL_q (.pointer (some ⟨H, 0, none⟩)) (fun _ _ hρ _ => r_fieldAddr fl104_0 sz27 (hρ _ _ rfl)) rfl rfl rfl (w_n rfl) ?_
    refine TL_q (.pointer (some ⟨H, 1, none⟩)) (fun _ _ hρ _ => r_fieldAddr fl27_1 sz25 (hρ _ _ rfl)) rfl rfl rfl (w_n rfl) ?_
    refine TL_q (.int .u64 h.lost) (fun _ _ hρ hm => r_load ag25 (hρ _ _ rfl) (hm.at 900 rfl) rfl) rfl rfl rfl (w_n rfl) ?_
    refine TL_q (.int .u64 (h.lost + 1)) (fun _ _ hρ _ => r_as (r_add (hρ _ _ rfl) (hρ _ _ rfl)) (int_as (wrap_u64 (by omega) (by omega)))) rfl rfl rfl (w_n rfl) ?_
    refine TL_q (.int .u64 (if 4611686018427387904 < h.lost + 1 then 4611686018427387904 else h.lost + 1)) (fun _ _ hρ _ => r_min (hρ _ _ rfl) (hρ _ _ rfl)) rfl rfl rfl (w_n rfl) ?_
    refine TL_q (.pointer (some ⟨H, 0, none⟩)) (fun _ _ hρ _ => r_nilCheck (hρ _ _ rfl) rfl) rfl rfl rfl (w_n rfl) ?_
    refine TL_q (.pointer (some ⟨H, 0, none⟩)) (fun _ _ hρ _ => r_fieldAddr fl104_0 sz27 (hρ _ _ rfl)) rfl rfl rfl (w_n rfl) ?_
    refine TL_q (.pointer (some ⟨H, 1, none⟩)) (fun _ _ hρ _ => r_fieldAddr fl27_1 sz25 (hρ _ _ rfl)) rfl rfl rfl (w_n rfl) ?_
    refine TL_store 900 (.cells #[.slice h.n.a h.n.l.length h.n.cap, .int .u64 (if 4611686018427387904 < h.lost + 1 then 4611686018427387904 else h.lost + 1), .slice h.t.a h.t.l.length h.t.cap] 104) rfl (fun _ _ hρ hm => r_store sz25 (hρ _ _ rfl) (hρ _ _ rfl) (hm.at 900 rfl) rfl rfl rfl rfl) rfl rfl (w_n rfl) ?_
    refine TL_seq ?_
    refine T_ret' ?_
    refine p_then_r ?_
    refine ret_of rfl (.tuple #[]) (fun tmps w hk hm => results_none rfl _ _ _) (fun w hm => ?_)
    have c1 : h.n.l.length = 64 := by omega
    refine ⟨({ h with lost := if (4611686018427387904 : Int) < h.lost + 1 then 4611686018427387904 else h.lost + 1 }, bs), ⟨putV_full c1 hh.lost1, ⟨hh.len, by dsimp only; have := hh.lost0; split <;> omega, by dsimp only; unfold MT; split <;> omega, hh.inN, hh.inT⟩, rfl, fun _ h => h⟩, rfl, ?_⟩
    first | exact hm.of (lk_fin (F := [_, _, _, _, _]) (T := hdL H _ bs) (sub_cons rfl (sub_cons rfl (sub_cons rfl (sub_cons rfl sub_nil)))) rfl hL) | exact hm.of (lk_fin (F := [_, _, _, _, _, _]) (T := hdL H _ bs) (sub_cons rfl (sub_cons rfl (sub_cons rfl (sub_cons rfl sub_nil)))) rfl hL) | exact hm.of (lk_fin (F := [_, _, _, _, _, _, _]) (T := hdL H _ bs) (sub_cons rfl (sub_cons rfl (sub_cons rfl (sub_cons rfl sub_nil)))) rfl hL) | exact hm.of (lk_fin (F := [_, _, _, _, _, _, _, _]) (T := hdL H _ bs) (sub_cons rfl (sub_cons rfl (sub_cons rfl (sub_cons rfl sub_nil)))) rfl hL) | exact hm.of (lk_fin (F := [_, _, _, _, _, _, _, _, _]) (T := hdL H _ bs) (sub_cons rfl (sub_cons rfl (sub_cons rfl (sub_cons rfl sub_nil)))) rfl hL) | exact hm.of (lk_fin (F := [_, _, _, _, _, _, _, _, _, _]) (T := hdL H _ bs) (sub_cons rfl (sub_cons rfl (sub_cons rfl (sub_cons rfl sub_nil)))) rfl hL) | exact hm.of (lk_fin (F := [_, _, _, _, _, _, _, _, _, _, _]) (T := hdL H _ bs) (sub_cons rfl (sub_cons rfl (sub_cons rfl (sub_cons rfl sub_nil)))) rfl hL) | exact hm.of (lk_fin (F := [_, _, _, _, _, _, _, _, _, _, _, _]) (T := hdL H _ bs) (sub_cons rfl (sub_cons rfl (sub_cons rfl (sub_cons rfl sub_nil)))) rfl hL) | exact hm.of (lk_fin (F := [_, _, _, _, _, _, _, _, _, _, _, _, _]) (T := hdL H _ bs) (sub_cons rfl (sub_cons rfl (sub_cons rfl (sub_cons rfl sub_nil)))) rfl hL) | exact hm.of (lk_fin (F := [_, _, _, _, _, _, _, _, _, _, _, _, _, _]) (T := hdL H _ bs) (sub_cons rfl (sub_cons rfl (sub_cons rfl (sub_cons rfl sub_nil)))) rfl hL)
  · replace h1 := of_decide_eq_false h1
    refine T_skip' ?_
    refine p_seq ?_
    refine T_draw (V := [(0, .pointer (some ⟨H, 0, none⟩)), (1, .pointer (some ⟨H, 0, none⟩)), (2, .pointer (some ⟨H, 0, none⟩)), (3, .pointer (some ⟨H, 0, none⟩)), (4, .pointer (some ⟨H, 0, none⟩)), (5, .slice h.n.a h.n.l.length h.n.cap), (6, .agg #[.int .i64 p.to, .slice p.r.a p.r.l.length p.r.cap, .bool p.sp])]) [0, 0, 2, 6, 14, 30, 0, 64, 192, 510, 1023, 2047, 4095, 8191] [[(0, none)], [(0, none)], [(23, some 1)], [(24, some 2)], [(25, some 3)], [(26, some 4)], [(3, none)], [(28, some 6)], [(29, some 7)], [(27, some 5), (30, some 8)], [(22, some 0)], [(32, some 10)], [(33, some 11)], [(34, some 12), (31, some 9)]] 9088 mixed (by kernel_rfl) ?_
    refine G_step [0, 1, 2, 3, 4, 5, 6] 7 [] (by kernel_rfl) (allM (all_cons (q_run (.pointer (some ⟨H, 0, none⟩)) rfl rfl (wv_n rfl) rfl (fun _ _ hρ _ => r_move (hρ _ _ rfl))) (all_cons (q_run (.pointer (some ⟨H, 0, none⟩)) rfl rfl (wv_n rfl) rfl (fun _ _ hρ _ => r_move (hρ _ _ rfl))) (all_cons (q_run (.pointer (some ⟨H, 0, none⟩)) rfl rfl (wv_n rfl) rfl (fun _ _ hρ _ => r_nilCheck (hρ _ _ rfl) rfl)) (all_cons (q_run (.pointer (some ⟨H, 0, none⟩)) rfl rfl (wv_n rfl) rfl (fun _ _ hρ _ => r_fieldAddr fl104_0 sz27 (hρ _ _ rfl))) (all_cons (q_run (.pointer (some ⟨H, 0, none⟩)) rfl rfl (wv_n rfl) rfl (fun _ _ hρ _ => r_fieldAddr fl27_0 sz22 (hρ _ _ rfl))) (all_cons (q_run (.slice h.n.a h.n.l.length h.n.cap) rfl rfl (wv_n rfl) rfl (fun _ _ hρ hm => r_load ag22 (hρ _ _ rfl) (hm.at 900 rfl) rfl)) (all_cons (q_run (.agg #[.int .i64 p.to, .slice p.r.a p.r.l.length p.r.cap, .bool p.sp]) rfl rfl (wv_n rfl) rfl (fun _ _ hρ hm => r_loadA ag36 sz36 (hρ _ _ rfl) (hm.at 1001 rfl) rfl rfl)) all_nil)))))))) (allM (all_cons ?_ all_nil))
    refine LOb_callN (fun (_ : Option Addr × Nat) => True) (fun (ar3, cr3) => .agg #[.int .i64 p.to, .slice ar3 ((p.r.l).length) cr3, .bool p.sp]) (fun (ar3, cr3) => [(1002, .row (.slice ar3 ((p.r.l).length) cr3) 5 1 ((p.r.l).length) ((p.r.l).flatMap byc))]) (fun (ar3, cr3) => []) rfl (wv_n rfl) rfl rfl (fun _ _ hρ _ => r_call (args := [.agg #[.int .i64 p.to, .slice p.r.a p.r.l.length p.r.cap, .bool p.sp]]) (enters_of Try.func99 (by kernel_rfl) rfl) (hρ _ _ rfl) ((cons2 (hρ _ _ rfl) rfl)) rfl) (fun w hm => (nown_c p w (own_ok hm rfl hp)).mono fun e w' ⟨a', cap', he, hb, hr⟩ => ⟨(a', cap'), trivial, he, hb, newOk1 1002 hr⟩) (fun (ar3, cr3) => by kernel_rfl) ?_
    rintro ⟨ar3, cr3⟩ -
    refine G_step [0, 1, 2, 3, 4, 5] 8 [] (by kernel_rfl) (allM (all_cons (q_run (.pointer (some ⟨H, 0, none⟩)) rfl rfl (wv_n rfl) rfl (fun _ _ hρ _ => r_move (hρ _ _ rfl))) (all_cons (q_run (.pointer (some ⟨H, 0, none⟩)) rfl rfl (wv_n rfl) rfl (fun _ _ hρ _ => r_move (hρ _ _ rfl))) (all_cons (q_run (.pointer (some ⟨H, 0, none⟩)) rfl rfl (wv_n rfl) rfl (fun _ _ hρ _ => r_nilCheck (hρ _ _ rfl) rfl)) (all_cons (q_run (.pointer (some ⟨H, 0, none⟩)) rfl rfl (wv_n rfl) rfl (fun _ _ hρ _ => r_fieldAddr fl104_0 sz27 (hρ _ _ rfl))) (all_cons (q_run (.pointer (some ⟨H, 0, none⟩)) rfl rfl (wv_n rfl) rfl (fun _ _ hρ _ => r_fieldAddr fl27_0 sz22 (hρ _ _ rfl))) (all_cons (q_run (.slice h.n.a h.n.l.length h.n.cap) rfl rfl (wv_n rfl) rfl (fun _ _ hρ hm => r_load ag22 (hρ _ _ rfl) (hm.at 900 rfl) rfl)) all_nil))))))) (allM (all_cons ?_ all_nil))
    refine LOb_new 1003 (.cells #[.int .i64 p.to, .slice ar3 ((p.r.l).length) cr3, .bool p.sp] 36) (fun B => .slice (some ⟨B, 0, none⟩) 1 1) (fun B => []) rfl (wv_n rfl) rfl rfl (fun _ _ hρ _ => r_buildSlice (vs := [(0, .agg #[.int .i64 p.to, .slice ar3 ((p.r.l).length) cr3, .bool p.sp])]) (by kernel_rfl) (cons2 (pair2 (hρ _ _ rfl)) rfl)) (fun B => by kernel_rfl) ?_
    intro B4
    refine G_step [0, 1, 2, 3, 4, 5] 9 [] (by kernel_rfl) (allM (all_cons (q_run (.pointer (some ⟨H, 0, none⟩)) rfl rfl (wv_n rfl) rfl (fun _ _ hρ _ => r_move (hρ _ _ rfl))) (all_cons (q_run (.pointer (some ⟨H, 0, none⟩)) rfl rfl (wv_n rfl) rfl (fun _ _ hρ _ => r_move (hρ _ _ rfl))) (all_cons (q_run (.pointer (some ⟨H, 0, none⟩)) rfl rfl (wv_n rfl) rfl (fun _ _ hρ _ => r_nilCheck (hρ _ _ rfl) rfl)) (all_cons (q_run (.pointer (some ⟨H, 0, none⟩)) rfl rfl (wv_n rfl) rfl (fun _ _ hρ _ => r_fieldAddr fl104_0 sz27 (hρ _ _ rfl))) (all_cons (q_run (.pointer (some ⟨H, 0, none⟩)) rfl rfl (wv_n rfl) rfl (fun _ _ hρ _ => r_fieldAddr fl27_0 sz22 (hρ _ _ rfl))) (all_cons (q_run (.slice h.n.a h.n.l.length h.n.cap) rfl rfl (wv_n rfl) rfl (fun _ _ hρ hm => r_load ag22 (hρ _ _ rfl) (hm.at 900 rfl) rfl)) all_nil))))))) (allM (all_cons ?_ all_nil))
    refine LOb_append (n := h.n.l.length) (m := 1) (xs := (h.n.l.flatMap Pcl.cells)) (news := [.int .i64 p.to, .slice ar3 ((p.r.l).length) cr3, .bool p.sp]) (z := .agg #[.int .i64 0, .slice none 0 0, .bool false]) 901 (fun a cap => [(10, .pointer (some ⟨H, 0, none⟩)), (11, .pointer (some ⟨H, 0, none⟩)), (12, .pointer (some ⟨H, 0, none⟩))]) rfl (wv_n rfl) rfl rfl rfl sl22 sz36 by36 (by kernel_rfl) rfl rfl (.inl rfl) (fun _ hm => src_blk (news := [.int .i64 p.to, .slice ar3 ((p.r.l).length) cr3, .bool p.sp]) (hm.at 1003 rfl) rfl) (by simp [Value.oneCell']) (by omega) (by omega) (fun a cap => by kernel_rfl) ?_
    intro a5 cap5
    refine G_step [0, 10, 11, 12] 13 [] (by kernel_rfl) (allM (all_cons (q_run (.pointer (some ⟨H, 0, none⟩)) rfl rfl (wv_n rfl) rfl (fun _ _ hρ _ => r_move (hρ _ _ rfl))) (all_cons (q_run (.pointer (some ⟨H, 0, none⟩)) rfl rfl (wv_n rfl) rfl (fun _ _ hρ _ => r_nilCheck (hρ _ _ rfl) rfl)) (all_cons (q_run (.pointer (some ⟨H, 0, none⟩)) rfl rfl (wv_n rfl) rfl (fun _ _ hρ _ => r_fieldAddr fl104_0 sz27 (hρ _ _ rfl))) (all_cons (q_run (.pointer (some ⟨H, 0, none⟩)) rfl rfl (wv_n rfl) rfl (fun _ _ hρ _ => r_fieldAddr fl27_0 sz22 (hρ _ _ rfl))) all_nil))))) (allM (all_cons ?_ all_nil))
    refine LOb_store 900 (.cells #[.slice a5 (h.n.l.length + 1) cap5, .int .u64 h.lost, .slice h.t.a h.t.l.length h.t.cap] 104) [] rfl (wv_n rfl) rfl rfl rfl (fun _ _ hρ hm => r_store sz22 (hρ _ _ rfl) (hρ _ _ rfl) (hm.at 900 rfl) rfl rfl rfl rfl) (by kernel_rfl) ?_
    refine G_lastQ [] [] (by kernel_rfl) (allM all_nil) end_nil ?_
    refine p_end ?_
    refine ret_of rfl (.tuple #[]) (fun tmps w hk hm => results_none rfl _ _ _) (fun w hm => ?_)
    have hm2 := hm.poolPush 903 1002 rfl rfl rfl rfl
    have e1 : (h.n.l.length + 1) = (h.n.l ++ [(⟨p.to, ⟨ar3, cr3, p.r.l⟩, p.sp⟩ : Pcl)]).length := by rw [List.length_append]; rfl
    have e2 : ((h.n.l.flatMap Pcl.cells) ++ [.int .i64 p.to, .slice ar3 ((p.r.l).length) cr3, .bool p.sp]) = (h.n.l ++ [(⟨p.to, ⟨ar3, cr3, p.r.l⟩, p.sp⟩ : Pcl)]).flatMap Pcl.cells := by rw [List.flatMap_append]; rfl
    rw [e1, e2] at hm2
    have c1 : h.n.l.length < 64 := by omega
    have c2 := e1 ▸ (show h.n.l.length + 1 ≤ 64 by omega)
    refine ⟨({ h with n := ⟨a5, cap5, h.n.l ++ [(⟨p.to, ⟨ar3, cr3, p.r.l⟩, p.sp⟩ : Pcl)]⟩ }, bs ++ [⟨ar3, cr3, p.r.l⟩]), ⟨putV_room c1 rfl, ⟨c2, hh.lost0, hh.lost1, hh.inN.push.snoc (mem_last _ _) hpl, hh.inT.push⟩, rfl, fun _ h => List.mem_append_left _ h⟩, rfl, ?_⟩
    first | exact hm2.of (lk_fin (F := [_, _, _, _, _, _, _]) (T := hdL H _ _) (sub_cons rfl (sub_cons rfl (sub_cons rfl (sub_cons rfl sub_nil)))) rfl hL) | exact hm2.of (lk_fin (F := [_, _, _, _, _, _, _, _]) (T := hdL H _ _) (sub_cons rfl (sub_cons rfl (sub_cons rfl (sub_cons rfl sub_nil)))) rfl hL) | exact hm2.of (lk_fin (F := [_, _, _, _, _, _, _, _, _]) (T := hdL H _ _) (sub_cons rfl (sub_cons rfl (sub_cons rfl (sub_cons rfl sub_nil)))) rfl hL) | exact hm2.of (lk_fin (F := [_, _, _, _, _, _, _, _, _, _]) (T := hdL H _ _) (sub_cons rfl (sub_cons rfl (sub_cons rfl (sub_cons rfl sub_nil)))) rfl hL) | exact hm2.of (lk_fin (F := [_, _, _, _, _, _, _, _, _, _, _]) (T := hdL H _ _) (sub_cons rfl (sub_cons rfl (sub_cons rfl (sub_cons rfl sub_nil)))) rfl hL) | exact hm2.of (lk_fin (F := [_, _, _, _, _, _, _, _, _, _, _, _]) (T := hdL H _ _) (sub_cons rfl (sub_cons rfl (sub_cons rfl (sub_cons rfl sub_nil)))) rfl hL) | exact hm2.of (lk_fin (F := [_, _, _, _, _, _, _, _, _, _, _, _, _]) (T := hdL H _ _) (sub_cons rfl (sub_cons rfl (sub_cons rfl (sub_cons rfl sub_nil)))) rfl hL) | exact hm2.of (lk_fin (F := [_, _, _, _, _, _, _, _, _, _, _, _, _, _]) (T := hdL H _ _) (sub_cons rfl (sub_cons rfl (sub_cons rfl (sub_cons rfl sub_nil)))) rfl hL) | exact hm2.of (lk_fin (F := [_, _, _, _, _, _, _, _, _, _, _, _, _, _, _]) (T := hdL H _ _) (sub_cons rfl (sub_cons rfl (sub_cons rfl (sub_cons rfl sub_nil)))) rfl hL) | exact hm2.of (lk_fin (F := [_, _, _, _, _, _, _, _, _, _, _, _, _, _, _, _]) (T := hdL H _ _) (sub_cons rfl (sub_cons rfl (sub_cons rfl (sub_cons rfl sub_nil)))) rfl hL)

theorem cut_ht {w₀ : World} {L : Heap} (H : Nat) (h : Hd) (bs : List (RowG By)) (at' : Nat) (hL : NoIds L 1000 1050) (hh : HdOk h bs) (hat : at' < h.n.l.length) : ∀ w, MemOk w₀ (hdL H h bs ++ L) w → Calls Try.prog 121 #[.pointer (some ⟨H, 0, none⟩), .int .i64 (at' : Int)] w (HAns w₀ (fun _ : Option Addr × Nat => True) (fun _ => .tuple #[]) (fun x => hdL H { h with n := ⟨x.1, x.2, h.n.l.eraseIdx at'⟩ } bs ++ L)) := by
  obtain ⟨⟨na, nc, nl⟩, lost, ⟨ta, tc, tl⟩⟩ := h
  have hhl : nl.length ≤ 64 := hh.len
  replace hat : at' < nl.length := hat
  refine ht_of_T (l := [.pointer (some ⟨H, 0, none⟩), .int .i64 ((at' : Nat) : Int)]) (L := ((900, .blk H (.cells #[.slice na nl.length nc, .int .u64 lost, .slice ta tl.length tc] 104)) :: (901, .row (.slice na nl.length nc) 36 3 nl.length (nl.flatMap Pcl.cells)) :: (902, .row (.slice ta tl.length tc) 36 3 tl.length (tl.flatMap Pcl.cells)) :: (903, .pool 5 1 byc bs) :: L)) 26 Try.func121 rfl rfl rfl ?_
  refine T_rowcap 901 rfl (fun hrc => ?_)
  show T _ _ _ [(0, .pointer (some ⟨H, 0, none⟩)), (1, .int .i64 ((at' : Nat) : Int))] ((900, .blk H (.cells #[.slice na nl.length nc, .int .u64 lost, .slice ta tl.length tc] 104)) :: (901, .row (.slice na nl.length nc) 36 3 nl.length (nl.flatMap Pcl.cells)) :: (902, .row (.slice ta tl.length tc) 36 3 tl.length (tl.flatMap Pcl.cells)) :: (903, .pool 5 1 byc bs) :: L)
  obtain ⟨l1, hl1, hn1⟩ : ∃ lz, lz = nl.take at' ∧ lz.length = at' := ⟨_, rfl, by rw [List.length_take]; omega⟩
  obtain ⟨l2, hl2, hn2⟩ : ∃ lz, lz = (nl.drop (at' + 1)).take (nl.length - (at' + 1)) ∧ lz.length = nl.length - (at' + 1) := ⟨_, rfl, by rw [List.length_take, List.length_drop]; omega⟩
  obtain ⟨a2, ha2⟩ : ∃ az : Option Addr, az = (if nc = at' + 1 then (na : Option Addr) else Option.map (fun z : Addr => z.add ((at' + 1) * 3)) (na : Option Addr)) := ⟨_, rfl⟩
  refine T_draw (V := [(0, .pointer (some ⟨H, 0, none⟩)), (1, .pointer (some ⟨H, 0, none⟩)), (2, .pointer (some ⟨H, 0, none⟩)), (3, .pointer (some ⟨H, 0, none⟩)), (4, .pointer (some ⟨H, 0, none⟩)), (5, .slice na nl.length nc), (6, .int .i64 ((at' : Nat) : Int)), (7, .int .i64 ((at' : Nat) : Int)), (8, .slice na l1.length at'), (9, .pointer (some ⟨H, 0, none⟩)), (10, .pointer (some ⟨H, 0, none⟩)), (11, .pointer (some ⟨H, 0, none⟩)), (12, .pointer (some ⟨H, 0, none⟩)), (13, .slice na nl.length nc), (14, .int .i64 ((at' : Nat) : Int)), (15, .int .i64 ((at' + 1 : Nat) : Int)), (16, .slice a2 l2.length (nc - (at' + 1)))]) [0, 0, 2, 6, 14, 30, 0, 0, 254, 0, 512, 1536, 3584, 7680, 0, 16384, 65024, 131070, 262142, 524287, 1048575, 2097151, 4194303] [[(0, none)], [(0, none)], [(5, some 1)], [(6, some 2)], [(7, some 3)], [(8, some 4)], [(1, none)], [(1, none)], [(9, some 5), (10, some 6), (11, some 7)], [(0, none)], [(13, some 9)], [(14, some 10)], [(15, some 11)], [(16, some 12)], [(1, none)], [(18, some 14)], [(17, some 13), (19, some 15)], [(12, some 8), (20, some 16)], [(21, some 17)], [(4, some 0)], [(23, some 19)], [(24, some 20)], [(25, some 21), (22, some 18)]] 4587520 mixed (by kernel_rfl) ?_
  refine G_step [0, 1, 2, 3, 4, 5, 6, 7, 8, 9, 10, 11, 12, 13, 14, 15, 16] 17 [] (by kernel_rfl) (allM (all_cons (q_run (.pointer (some ⟨H, 0, none⟩)) rfl rfl (wv_n rfl) rfl (fun _ _ hρ _ => r_move (hρ _ _ rfl))) (all_cons (q_run (.pointer (some ⟨H, 0, none⟩)) rfl rfl (wv_n rfl) rfl (fun _ _ hρ _ => r_move (hρ _ _ rfl))) (all_cons (q_run (.pointer (some ⟨H, 0, none⟩)) rfl rfl (wv_n rfl) rfl (fun _ _ hρ _ => r_nilCheck (hρ _ _ rfl) rfl)) (all_cons (q_run (.pointer (some ⟨H, 0, none⟩)) rfl rfl (wv_n rfl) rfl (fun _ _ hρ _ => r_fieldAddr fl104_0 sz27 (hρ _ _ rfl))) (all_cons (q_run (.pointer (some ⟨H, 0, none⟩)) rfl rfl (wv_n rfl) rfl (fun _ _ hρ _ => r_fieldAddr fl27_0 sz22 (hρ _ _ rfl))) (all_cons (q_run (.slice na nl.length nc) rfl rfl (wv_n rfl) rfl (fun _ _ hρ hm => r_load ag22 (hρ _ _ rfl) (hm.at 900 rfl) rfl)) (all_cons (q_run (.int .i64 ((at' : Nat) : Int)) rfl rfl (wv_n rfl) rfl (fun _ _ hρ _ => r_move (hρ _ _ rfl))) (all_cons (q_run (.int .i64 ((at' : Nat) : Int)) rfl rfl (wv_n rfl) rfl (fun _ _ hρ _ => r_move (hρ _ _ rfl))) (all_cons (q_run (.slice na l1.length at') rfl rfl (wv_n rfl) rfl (fun ρ _ hρ _ => r_as (r_sliceO sl22 sz36 (hρ _ _ rfl) (bd_some (n := at') (hρ _ _ rfl)) (bd_some (n := at') (hρ _ _ rfl)) (bd_none ρ _) (by simp) (by omega) (by omega) (by omega)) (by rw [hn1]; exact slo_zero _ _ _ _))) (all_cons (q_run (.pointer (some ⟨H, 0, none⟩)) rfl rfl (wv_n rfl) rfl (fun _ _ hρ _ => r_move (hρ _ _ rfl))) (all_cons (q_run (.pointer (some ⟨H, 0, none⟩)) rfl rfl (wv_n rfl) rfl (fun _ _ hρ _ => r_nilCheck (hρ _ _ rfl) rfl)) (all_cons (q_run (.pointer (some ⟨H, 0, none⟩)) rfl rfl (wv_n rfl) rfl (fun _ _ hρ _ => r_fieldAddr fl104_0 sz27 (hρ _ _ rfl))) (all_cons (q_run (.pointer (some ⟨H, 0, none⟩)) rfl rfl (wv_n rfl) rfl (fun _ _ hρ _ => r_fieldAddr fl27_0 sz22 (hρ _ _ rfl))) (all_cons (q_run (.slice na nl.length nc) rfl rfl (wv_n rfl) rfl (fun _ _ hρ hm => r_load ag22 (hρ _ _ rfl) (hm.at 900 rfl) rfl)) (all_cons (q_run (.int .i64 ((at' : Nat) : Int)) rfl rfl (wv_n rfl) rfl (fun _ _ hρ _ => r_move (hρ _ _ rfl))) (all_cons (q_run (.int .i64 ((at' + 1 : Nat) : Int)) rfl rfl (wv_n rfl) rfl (fun _ _ hρ _ => r_as (r_add (hρ _ _ rfl) (hρ _ _ rfl)) (int_as ((wrap64 (by omega) (by omega)).trans (by omega))))) (all_cons (q_run (.slice a2 l2.length (nc - (at' + 1))) rfl rfl (wv_n rfl) rfl (fun ρ _ hρ _ => r_as (r_sliceO sl22 sz36 (hρ _ _ rfl) (bd_none ρ _) (bd_none ρ _) (bd_some (n := at' + 1) (hρ _ _ rfl)) (by simp) (by omega) (by omega) (by omega)) (by rw [hn2, ha2]))) all_nil)))))))))))))))))) (allM (all_cons ?_ all_nil))
  refine LOb_new 1001 (.cells #[.slice na l1.length at', .slice a2 l2.length (nc - (at' + 1))] 22) (fun B => .slice (some ⟨B, 0, none⟩) 2 2) (fun B => []) rfl (wv_n rfl) rfl rfl (fun _ _ hρ _ => r_buildSlice (vs := [(0, .slice na l1.length at'), (1, .slice a2 l2.length (nc - (at' + 1)))]) (by kernel_rfl) (cons2 (pair2 (hρ _ _ rfl)) (cons2 (pair2 (hρ _ _ rfl)) rfl))) (fun B => by kernel_rfl) ?_
  intro B4
  refine G_step [0] 18 [] (by kernel_rfl) (allM (all_cons (q_run (.pointer (some ⟨H, 0, none⟩)) rfl rfl (wv_n rfl) rfl (fun _ _ hρ _ => r_move (hρ _ _ rfl))) all_nil)) (allM (all_cons ?_ all_nil))
  refine LOb_callN (fun (_ : Option Addr × Nat) => True) (fun (ar5, cr5) => .slice ar5 ((l1 ++ l2).length) cr5) (fun (ar5, cr5) => [(1002, .row (.slice ar5 ((l1 ++ l2).length) cr5) 36 3 ((l1 ++ l2).length) ((l1 ++ l2).flatMap Pcl.cells))]) (fun (ar5, cr5) => [(19, .pointer (some ⟨H, 0, none⟩)), (20, .pointer (some ⟨H, 0, none⟩)), (21, .pointer (some ⟨H, 0, none⟩))]) rfl (wv_n rfl) rfl rfl (fun _ _ hρ _ => r_call (args := [.slice (some ⟨B4, 0, none⟩) 2 2]) (enters_of Try.func136 (by kernel_rfl) rfl) (hρ _ _ rfl) ((cons2 (hρ _ _ rfl) rfl)) rfl) (fun w hm => (con_as (l' := l1 ++ l2) (con_p [(⟨na, at', l1⟩ : RowG Pcl), (⟨a2, (nc - (at' + 1)), l2⟩ : RowG Pcl)] (some ⟨B4, 0, none⟩) 2 w ⟨Nat.le_of_ble_eq_true rfl, (fun e => by cases e), .inr ⟨_, 0, _, _, _, rfl, (hm.at 1001 rfl), row_of_take (fun _ => rfl) rfl⟩⟩ (Nat.le_of_ble_eq_true rfl) (List.forall_mem_cons.2 ⟨⟨(by have hs := SliceAt.front (l := nl) (SliceAt.own Pcl.cells_len (hm.row 901 rfl) rfl rfl) (n := at') (m := at') (by omega) (by omega) (by omega); rw [← hl1] at hs; exact hs), (Nat.le_trans (show at' ≤ nc by omega) (row_cap (hm.row 901 rfl)))⟩, (List.forall_mem_cons.2 ⟨⟨(by have hs := SliceAt.part (l := nl) (SliceAt.own Pcl.cells_len (hm.row 901 rfl) rfl rfl) (lo := at' + 1) (hi := nl.length) (m := nc) (by omega) (by omega) (by omega) (by omega); rw [← hl2, ← ha2] at hs; exact hs), (Nat.le_trans (Nat.sub_le _ _) (row_cap (hm.row 901 rfl)))⟩, (fun _ h => nomatch h)⟩)⟩) (by simp only [List.flatMap_cons, List.flatMap_nil, List.append_nil, List.length_append]; omega) (Nat.le_of_ble_eq_true rfl)) (by simp only [List.flatMap_cons, List.flatMap_nil, List.append_nil])).mono fun e w' ⟨a', cap', he, hb, hr⟩ => ⟨(a', cap'), trivial, he, hb, newOk1 1002 hr⟩) (fun (ar5, cr5) => by kernel_rfl) ?_
  rintro ⟨ar5, cr5⟩ -
  refine G_step [0, 19, 20, 21] 22 [] (by kernel_rfl) (allM (all_cons (q_run (.pointer (some ⟨H, 0, none⟩)) rfl rfl (wv_n rfl) rfl (fun _ _ hρ _ => r_move (hρ _ _ rfl))) (all_cons (q_run (.pointer (some ⟨H, 0, none⟩)) rfl rfl (wv_n rfl) rfl (fun _ _ hρ _ => r_nilCheck (hρ _ _ rfl) rfl)) (all_cons (q_run (.pointer (some ⟨H, 0, none⟩)) rfl rfl (wv_n rfl) rfl (fun _ _ hρ _ => r_fieldAddr fl104_0 sz27 (hρ _ _ rfl))) (all_cons (q_run (.pointer (some ⟨H, 0, none⟩)) rfl rfl (wv_n rfl) rfl (fun _ _ hρ _ => r_fieldAddr fl27_0 sz22 (hρ _ _ rfl))) all_nil))))) (allM (all_cons ?_ all_nil))
  refine LOb_store 900 (.cells #[.slice ar5 ((l1 ++ l2).length) cr5, .int .u64 lost, .slice ta tl.length tc] 104) [] rfl (wv_n rfl) rfl rfl rfl (fun _ _ hρ hm => r_store sz22 (hρ _ _ rfl) (hρ _ _ rfl) (hm.at 900 rfl) rfl rfl rfl rfl) (by kernel_rfl) ?_
  refine G_lastQ [] [] (by kernel_rfl) (allM all_nil) end_nil ?_
  refine p_end ?_
  refine ret_of rfl (.tuple #[]) (fun tmps w hk hm => results_none rfl _ _ _) (fun w hm => ?_)
  have hm2 := hm.move 901 1002 rfl rfl
  have e0 : l1 ++ l2 = nl.eraseIdx at' := by rw [hl1, hl2, List.take_of_length_le (l := nl.drop (at' + 1)) (by rw [List.length_drop]; omega)]; exact erase_td nl at'
  rw [e0] at hm2
  refine ⟨(ar5, cr5), trivial, rfl, ?_⟩
  first | exact hm2.of (lk_fin (F := [_, _, _, _, _, _]) (T := hdL H _ bs) (sub_cons rfl (sub_cons rfl (sub_cons rfl (sub_cons rfl sub_nil)))) rfl hL) | exact hm2.of (lk_fin (F := [_, _, _, _, _, _, _]) (T := hdL H _ bs) (sub_cons rfl (sub_cons rfl (sub_cons rfl (sub_cons rfl sub_nil)))) rfl hL) | exact hm2.of (lk_fin (F := [_, _, _, _, _, _, _, _]) (T := hdL H _ bs) (sub_cons rfl (sub_cons rfl (sub_cons rfl (sub_cons rfl sub_nil)))) rfl hL) | exact hm2.of (lk_fin (F := [_, _, _, _, _, _, _, _, _]) (T := hdL H _ bs) (sub_cons rfl (sub_cons rfl (sub_cons rfl (sub_cons rfl sub_nil)))) rfl hL) | exact hm2.of (lk_fin (F := [_, _, _, _, _, _, _, _, _, _]) (T := hdL H _ bs) (sub_cons rfl (sub_cons rfl (sub_cons rfl (sub_cons rfl sub_nil)))) rfl hL) | exact hm2.of (lk_fin (F := [_, _, _, _, _, _, _, _, _, _, _]) (T := hdL H _ bs) (sub_cons rfl (sub_cons rfl (sub_cons rfl (sub_cons rfl sub_nil)))) rfl hL) | exact hm2.of (lk_fin (F := [_, _, _, _, _, _, _, _, _, _, _, _]) (T := hdL H _ bs) (sub_cons rfl (sub_cons rfl (sub_cons rfl (sub_cons rfl sub_nil)))) rfl hL) | exact hm2.of (lk_fin (F := [_, _, _, _, _, _, _, _, _, _, _, _, _]) (T := hdL H _ bs) (sub_cons rfl (sub_cons rfl (sub_cons rfl (sub_cons rfl sub_nil)))) rfl hL) | exact hm2.of (lk_fin (F := [_, _, _, _, _, _, _, _, _, _, _, _, _, _]) (T := hdL H _ bs) (sub_cons rfl (sub_cons rfl (sub_cons rfl (sub_cons rfl sub_nil)))) rfl hL) | exact hm2.of (lk_fin (F := [_, _, _, _, _, _, _, _, _, _, _, _, _, _, _]) (T := hdL H _ bs) (sub_cons rfl (sub_cons rfl (sub_cons rfl (sub_cons rfl sub_nil)))) rfl hL)

theorem drop_ht {w₀ : World} {L : Heap} (H : Nat) (h : Hd) (bs : List (RowG By)) (tk tb : Int) (tm : Wd) (at' : Nat) (hL : NoIds L 1000 1150) (hh : HdOk h bs) (hat : at' < h.n.l.length) : ∀ w, MemOk w₀ (hdL H h bs ++ L) w → Calls Try.prog 106 #[.pointer (some ⟨H, 0, none⟩), .agg #[.int .i64 tk, .int .i64 (at' : Int), .int .i64 tb, .int .u32 (tm.toNat : Int)]] w (HAns w₀ (fun _ : Option Addr × Nat => True) (fun _ => .tuple #[]) (fun x => hdL H { h with n := ⟨x.1, x.2, h.n.l.eraseIdx at'⟩ } bs ++ L)) := by
  obtain ⟨⟨na, nc, nl⟩, lost, ⟨ta, tc, tl⟩⟩ := h
  have hhl : nl.length ≤ 64 := hh.len
  replace hat : at' < nl.length := hat
  refine ht_of_T (l := [.pointer (some ⟨H, 0, none⟩), .agg #[.int .i64 tk, .int .i64 ((at' : Nat) : Int), .int .i64 tb, .int .u32 ((tm).toNat : Int)]]) (L := ((900, .blk H (.cells #[.slice na nl.length nc, .int .u64 lost, .slice ta tl.length tc] 104)) :: (901, .row (.slice na nl.length nc) 36 3 nl.length (nl.flatMap Pcl.cells)) :: (902, .row (.slice ta tl.length tc) 36 3 tl.length (tl.flatMap Pcl.cells)) :: (903, .pool 5 1 byc bs) :: L)) 8 Try.func106 rfl rfl rfl ?_
  show T _ _ _ [(0, .pointer (some ⟨H, 0, none⟩)), (1, .agg #[.int .i64 tk, .int .i64 ((at' : Nat) : Int), .int .i64 tb, .int .u32 ((tm).toNat : Int)])] ((900, .blk H (.cells #[.slice na nl.length nc, .int .u64 lost, .slice ta tl.length tc] 104)) :: (901, .row (.slice na nl.length nc) 36 3 nl.length (nl.flatMap Pcl.cells)) :: (902, .row (.slice ta tl.length tc) 36 3 tl.length (tl.flatMap Pcl.cells)) :: (903, .pool 5 1 byc bs) :: L)
  refine T_seq (T_region ?_)
  refine TL_new 1101 (.cells #[.int .i64 tk, .int .i64 ((at' : Nat) : Int), .int .i64 tb, .int .u32 ((tm).toNat : Int)] 48) (fun B => .pointer (some ⟨B, 0, none⟩)) (fun _ _ hρ _ => r_box (hρ _ _ rfl) rfl) rfl rfl rfl (w_n rfl) ?_
  intro B1
  refine TL_seq ?_
  refine T_region ?_
  refine TL_q (.pointer (some ⟨H, 0, none⟩)) (fun _ _ hρ _ => r_move (hρ _ _ rfl)) rfl rfl rfl (w_n rfl) ?_
  refine TL_q (.pointer (some ⟨B1, 1, none⟩)) (fun _ _ hρ _ => r_fieldAddr fl48_1 sz3 (hρ _ _ rfl)) rfl rfl rfl (w_n rfl) ?_
  refine TL_q (.int .i64 ((at' : Nat) : Int)) (fun _ _ hρ hm => r_load ag3 (hρ _ _ rfl) (hm.at 1101 rfl) rfl) rfl rfl rfl (w_n rfl) ?_
  refine TL_callH _ _ _ (fun _ _ hρ _ => r_call (args := [.pointer (some ⟨H, 0, none⟩), .int .i64 ((at' : Nat) : Int)]) (enters_of Try.func121 (by kernel_rfl) rfl) (hρ _ _ rfl) ((cons2 (hρ _ _ rfl) (cons2 (hρ _ _ rfl) rfl))) rfl) (fun w hm => cut_ht H (⟨⟨na, nc, nl⟩, lost, ⟨ta, tc, tl⟩⟩ : Hd) bs at' (by repeat (first | exact hL.sub rfl rfl | refine noIds_cons rfl ?_)) hh hat w (hm.of (lk_dups (A := hdL H (⟨⟨na, nc, nl⟩, lost, ⟨ta, tc, tl⟩⟩ : Hd) bs) (sub_cons rfl (sub_cons rfl (sub_cons rfl (sub_cons rfl sub_nil))))))) rfl rfl rfl (w_n rfl) ?_
  rintro ⟨ac2, cc2⟩ -
  refine TL_nil ?_
  refine p_end ?_
  refine ret_of rfl (.tuple #[]) (fun tmps w hk hm => results_none rfl _ _ _) (fun w hm => ?_)
  refine ⟨(ac2, cc2), trivial, rfl, ?_⟩
  first | exact hm.of (lk_fin (F := [_, _, _, _, _]) (T := hdL H _ bs) (sub_cons rfl (sub_cons rfl (sub_cons rfl (sub_cons rfl sub_nil)))) rfl hL) | exact hm.of (lk_fin (F := [_, _, _, _, _, _]) (T := hdL H _ bs) (sub_cons rfl (sub_cons rfl (sub_cons rfl (sub_cons rfl sub_nil)))) rfl hL) | exact hm.of (lk_fin (F := [_, _, _, _, _, _, _]) (T := hdL H _ bs) (sub_cons rfl (sub_cons rfl (sub_cons rfl (sub_cons rfl sub_nil)))) rfl hL) | exact hm.of (lk_fin (F := [_, _, _, _, _, _, _, _]) (T := hdL H _ bs) (sub_cons rfl (sub_cons rfl (sub_cons rfl (sub_cons rfl sub_nil)))) rfl hL) | exact hm.of (lk_fin (F := [_, _, _, _, _, _, _, _, _]) (T := hdL H _ bs) (sub_cons rfl (sub_cons rfl (sub_cons rfl (sub_cons rfl sub_nil)))) rfl hL) | exact hm.of (lk_fin (F := [_, _, _, _, _, _, _, _, _, _]) (T := hdL H _ bs) (sub_cons rfl (sub_cons rfl (sub_cons rfl (sub_cons rfl sub_nil)))) rfl hL) | exact hm.of (lk_fin (F := [_, _, _, _, _, _, _, _, _, _, _]) (T := hdL H _ bs) (sub_cons rfl (sub_cons rfl (sub_cons rfl (sub_cons rfl sub_nil)))) rfl hL) | exact hm.of (lk_fin (F := [_, _, _, _, _, _, _, _, _, _, _, _]) (T := hdL H _ bs) (sub_cons rfl (sub_cons rfl (sub_cons rfl (sub_cons rfl sub_nil)))) rfl hL) | exact hm.of (lk_fin (F := [_, _, _, _, _, _, _, _, _, _, _, _, _]) (T := hdL H _ bs) (sub_cons rfl (sub_cons rfl (sub_cons rfl (sub_cons rfl sub_nil)))) rfl hL) | exact hm.of (lk_fin (F := [_, _, _, _, _, _, _, _, _, _, _, _, _, _]) (T := hdL H _ bs) (sub_cons rfl (sub_cons rfl (sub_cons rfl (sub_cons rfl sub_nil)))) rfl hL)

theorem take_ht {w₀ : World} {L : Heap} (H : Nat) (h : Hd) (bs : List (RowG By)) (tk tb : Int) (tm : Wd) (at' : Nat) (hL : NoIds L 1000 1150) (hh : HdOk h bs) (htl : h.t.l.length ≤ 1000000) (hat : at' < h.n.l.length) (p : Pcl) (hp : h.n.l[at']? = some p) : ∀ w, MemOk w₀ (hdL H h bs ++ L) w → Calls Try.prog 105 #[.pointer (some ⟨H, 0, none⟩), .agg #[.int .i64 tk, .int .i64 (at' : Int), .int .i64 tb, .int .u32 (tm.toNat : Int)]] w (HAns w₀ (fun _ : (Option Addr × Nat) × (Option Addr × Nat) => True) (fun _ => .tuple #[]) (fun x => hdL H { h with n := ⟨x.1.1, x.1.2, h.n.l.eraseIdx at'⟩, t := ⟨x.2.1, x.2.2, h.t.l ++ [p]⟩ } bs ++ L)) := by
  obtain ⟨⟨na, nc, nl⟩, lost, ⟨ta, tc, tl⟩⟩ := h
  have hhl : nl.length ≤ 64 := hh.len
  replace hat : at' < nl.length := hat
  replace hp : nl[at']? = some p := hp
  have htl : tl.length ≤ 1000000 := htl
  refine ht_of_T (l := [.pointer (some ⟨H, 0, none⟩), .agg #[.int .i64 tk, .int .i64 ((at' : Nat) : Int), .int .i64 tb, .int .u32 ((tm).toNat : Int)]]) (L := ((900, .blk H (.cells #[.slice na nl.length nc, .int .u64 lost, .slice ta tl.length tc] 104)) :: (901, .row (.slice na nl.length nc) 36 3 nl.length (nl.flatMap Pcl.cells)) :: (902, .row (.slice ta tl.length tc) 36 3 tl.length (tl.flatMap Pcl.cells)) :: (903, .pool 5 1 byc bs) :: L)) 26 Try.func105 rfl rfl rfl ?_
  show T _ _ _ [(0, .pointer (some ⟨H, 0, none⟩)), (1, .agg #[.int .i64 tk, .int .i64 ((at' : Nat) : Int), .int .i64 tb, .int .u32 ((tm).toNat : Int)])] ((900, .blk H (.cells #[.slice na nl.length nc, .int .u64 lost, .slice ta tl.length tc] 104)) :: (901, .row (.slice na nl.length nc) 36 3 nl.length (nl.flatMap Pcl.cells)) :: (902, .row (.slice ta tl.length tc) 36 3 tl.length (tl.flatMap Pcl.cells)) :: (903, .pool 5 1 byc bs) :: L)
  refine T_seq (T_region ?_)
  refine TL_new 1101 (.cells #[.int .i64 tk, .int .i64 ((at' : Nat) : Int), .int .i64 tb, .int .u32 ((tm).toNat : Int)] 48) (fun B => .pointer (some ⟨B, 0, none⟩)) (fun _ _ hρ _ => r_box (hρ _ _ rfl) rfl) rfl rfl rfl (w_n rfl) ?_
  intro B1
  refine TL_seq ?_
  refine T_row 901 rfl (by omega) (fun g2 ha2 => ?_)
  subst ha2
  refine T_rowcap 901 rfl (fun hrc2 => ?_)
  refine T_seq (T_draw (V := [(0, .pointer (some ⟨H, 0, none⟩)), (1, .pointer (some ⟨H, 0, none⟩)), (2, .pointer (some ⟨H, 0, none⟩)), (3, .pointer (some ⟨H, 2, none⟩)), (4, .slice ta tl.length tc), (5, .pointer (some ⟨H, 0, none⟩)), (6, .pointer (some ⟨H, 0, none⟩)), (7, .pointer (some ⟨H, 0, none⟩)), (8, .pointer (some ⟨H, 0, none⟩)), (9, .slice (some ⟨g2, 0, none⟩) nl.length nc), (10, .pointer (some ⟨B1, 1, none⟩)), (11, .int .i64 ((at' : Nat) : Int)), (12, .pointer (some ⟨g2, 0 + at' * 3, none⟩)), (13, .agg #[.int .i64 p.to, .slice p.r.a p.r.l.length p.r.cap, .bool p.sp])]) [0, 0, 2, 6, 14, 0, 32, 96, 224, 480, 0, 1024, 4064, 8160, 16352, 32766, 65535, 131071, 262143] [[(0, none)], [(0, none)], [(5, some 1)], [(6, some 2)], [(7, some 3)], [(0, none)], [(9, some 5)], [(10, some 6)], [(11, some 7)], [(12, some 8)], [(3, none)], [(14, some 10)], [(13, some 9), (15, some 11)], [(16, some 12)], [(17, some 13)], [(8, some 4), (18, some 14)], [(4, some 0)], [(20, some 16)], [(21, some 17), (19, some 15)]] 311296 mixed (by kernel_rfl) ?_)
  refine G_step [0, 1, 2, 3, 4, 5, 6, 7, 8, 9, 10, 11, 12, 13] 14 [] (by kernel_rfl) (allM (all_cons (q_run (.pointer (some ⟨H, 0, none⟩)) rfl rfl (wv_n rfl) rfl (fun _ _ hρ _ => r_move (hρ _ _ rfl))) (all_cons (q_run (.pointer (some ⟨H, 0, none⟩)) rfl rfl (wv_n rfl) rfl (fun _ _ hρ _ => r_move (hρ _ _ rfl))) (all_cons (q_run (.pointer (some ⟨H, 0, none⟩)) rfl rfl (wv_n rfl) rfl (fun _ _ hρ _ => r_nilCheck (hρ _ _ rfl) rfl)) (all_cons (q_run (.pointer (some ⟨H, 2, none⟩)) rfl rfl (wv_n rfl) rfl (fun _ _ hρ _ => r_fieldAddr fl104_1 sz22 (hρ _ _ rfl))) (all_cons (q_run (.slice ta tl.length tc) rfl rfl (wv_n rfl) rfl (fun _ _ hρ hm => r_load ag22 (hρ _ _ rfl) (hm.at 900 rfl) rfl)) (all_cons (q_run (.pointer (some ⟨H, 0, none⟩)) rfl rfl (wv_n rfl) rfl (fun _ _ hρ _ => r_move (hρ _ _ rfl))) (all_cons (q_run (.pointer (some ⟨H, 0, none⟩)) rfl rfl (wv_n rfl) rfl (fun _ _ hρ _ => r_nilCheck (hρ _ _ rfl) rfl)) (all_cons (q_run (.pointer (some ⟨H, 0, none⟩)) rfl rfl (wv_n rfl) rfl (fun _ _ hρ _ => r_fieldAddr fl104_0 sz27 (hρ _ _ rfl))) (all_cons (q_run (.pointer (some ⟨H, 0, none⟩)) rfl rfl (wv_n rfl) rfl (fun _ _ hρ _ => r_fieldAddr fl27_0 sz22 (hρ _ _ rfl))) (all_cons (q_run (.slice (some ⟨g2, 0, none⟩) nl.length nc) rfl rfl (wv_n rfl) rfl (fun _ _ hρ hm => r_load ag22 (hρ _ _ rfl) (hm.at 900 rfl) rfl)) (all_cons (q_run (.pointer (some ⟨B1, 1, none⟩)) rfl rfl (wv_n rfl) rfl (fun _ _ hρ _ => r_fieldAddr fl48_1 sz3 (hρ _ _ rfl))) (all_cons (q_run (.int .i64 ((at' : Nat) : Int)) rfl rfl (wv_n rfl) rfl (fun _ _ hρ hm => r_load ag3 (hρ _ _ rfl) (hm.at 1101 rfl) rfl)) (all_cons (q_run (.pointer (some ⟨g2, 0 + at' * 3, none⟩)) rfl rfl (wv_n rfl) rfl (fun _ _ hρ _ => r_indexAddrS (i := at') sl22 sz36 (hρ _ _ rfl) (hρ _ _ rfl) (by omega))) (all_cons (q_run (.agg #[.int .i64 p.to, .slice p.r.a p.r.l.length p.r.cap, .bool p.sp]) rfl rfl (wv_n rfl) rfl (fun _ _ hρ hm => r_loadOwn (f := Pcl.cells) (u := p) (l := nl) ag36 sz36 (hρ _ _ rfl) (hm.row 901 rfl) rfl rfl Pcl.cells_len hp)) all_nil))))))))))))))) (allM (all_cons ?_ all_nil))
  refine LOb_new 1102 (.cells #[.int .i64 p.to, .slice p.r.a p.r.l.length p.r.cap, .bool p.sp] 36) (fun B => .slice (some ⟨B, 0, none⟩) 1 1) (fun B => []) rfl (wv_n rfl) rfl rfl (fun _ _ hρ _ => r_buildSlice (vs := [(0, .agg #[.int .i64 p.to, .slice p.r.a p.r.l.length p.r.cap, .bool p.sp])]) (by kernel_rfl) (cons2 (pair2 (hρ _ _ rfl)) rfl)) (fun B => by kernel_rfl) ?_
  intro B3
  refine G_step [0, 1, 2, 3, 4] 15 [] (by kernel_rfl) (allM (all_cons (q_run (.pointer (some ⟨H, 0, none⟩)) rfl rfl (wv_n rfl) rfl (fun _ _ hρ _ => r_move (hρ _ _ rfl))) (all_cons (q_run (.pointer (some ⟨H, 0, none⟩)) rfl rfl (wv_n rfl) rfl (fun _ _ hρ _ => r_move (hρ _ _ rfl))) (all_cons (q_run (.pointer (some ⟨H, 0, none⟩)) rfl rfl (wv_n rfl) rfl (fun _ _ hρ _ => r_nilCheck (hρ _ _ rfl) rfl)) (all_cons (q_run (.pointer (some ⟨H, 2, none⟩)) rfl rfl (wv_n rfl) rfl (fun _ _ hρ _ => r_fieldAddr fl104_1 sz22 (hρ _ _ rfl))) (all_cons (q_run (.slice ta tl.length tc) rfl rfl (wv_n rfl) rfl (fun _ _ hρ hm => r_load ag22 (hρ _ _ rfl) (hm.at 900 rfl) rfl)) all_nil)))))) (allM (all_cons ?_ all_nil))
  refine LOb_append (n := tl.length) (m := 1) (xs := (tl.flatMap Pcl.cells)) (news := [.int .i64 p.to, .slice p.r.a p.r.l.length p.r.cap, .bool p.sp]) (z := .agg #[.int .i64 0, .slice none 0 0, .bool false]) 902 (fun a cap => [(16, .pointer (some ⟨H, 0, none⟩)), (17, .pointer (some ⟨H, 2, none⟩))]) rfl (wv_n rfl) rfl rfl rfl sl22 sz36 by36 (by kernel_rfl) rfl rfl (.inl rfl) (fun _ hm => src_blk (news := [.int .i64 p.to, .slice p.r.a p.r.l.length p.r.cap, .bool p.sp]) (hm.at 1102 rfl) rfl) (by simp [Value.oneCell']) (by omega) (by omega) (fun a cap => by kernel_rfl) ?_
  intro a4 cap4
  refine G_step [0, 16, 17] 18 [] (by kernel_rfl) (allM (all_cons (q_run (.pointer (some ⟨H, 0, none⟩)) rfl rfl (wv_n rfl) rfl (fun _ _ hρ _ => r_move (hρ _ _ rfl))) (all_cons (q_run (.pointer (some ⟨H, 0, none⟩)) rfl rfl (wv_n rfl) rfl (fun _ _ hρ _ => r_nilCheck (hρ _ _ rfl) rfl)) (all_cons (q_run (.pointer (some ⟨H, 2, none⟩)) rfl rfl (wv_n rfl) rfl (fun _ _ hρ _ => r_fieldAddr fl104_1 sz22 (hρ _ _ rfl))) all_nil)))) (allM (all_cons ?_ all_nil))
  refine LOb_store 900 (.cells #[.slice (some ⟨g2, 0, none⟩) nl.length nc, .int .u64 lost, .slice a4 (tl.length + 1) cap4] 104) [] rfl (wv_n rfl) rfl rfl rfl (fun _ _ hρ hm => r_store sz22 (hρ _ _ rfl) (hρ _ _ rfl) (hm.at 900 rfl) rfl rfl rfl rfl) (by kernel_rfl) ?_
  refine G_last [] [(0, .pointer (some ⟨H, 0, none⟩)), (3, .pointer (some ⟨B1, 0, none⟩))] (by kernel_rfl) (allM all_nil) (end_old rfl rfl (end_old rfl rfl end_nil)) ?_
  have hn5 : (tl.length + 1) = (tl ++ [p]).length := by simp
  have hx5 : ((tl.flatMap Pcl.cells) ++ [.int .i64 p.to, .slice p.r.a p.r.l.length p.r.cap, .bool p.sp]) = (tl ++ [p]).flatMap Pcl.cells := by simp [Pcl.cells]
  rw [hx5, hn5]
  refine T_region ?_
  refine TL_q (.pointer (some ⟨H, 0, none⟩)) (fun _ _ hρ _ => r_move (hρ _ _ rfl)) rfl rfl rfl (w_n rfl) ?_
  refine TL_q (.pointer (some ⟨B1, 1, none⟩)) (fun _ _ hρ _ => r_fieldAddr fl48_1 sz3 (hρ _ _ rfl)) rfl rfl rfl (w_n rfl) ?_
  refine TL_q (.int .i64 ((at' : Nat) : Int)) (fun _ _ hρ hm => r_load ag3 (hρ _ _ rfl) (hm.at 1101 rfl) rfl) rfl rfl rfl (w_n rfl) ?_
  refine TL_callH _ _ _ (fun _ _ hρ _ => r_call (args := [.pointer (some ⟨H, 0, none⟩), .int .i64 ((at' : Nat) : Int)]) (enters_of Try.func121 (by kernel_rfl) rfl) (hρ _ _ rfl) ((cons2 (hρ _ _ rfl) (cons2 (hρ _ _ rfl) rfl))) rfl) (fun w hm => cut_ht H (⟨⟨(some ⟨g2, 0, none⟩), nc, nl⟩, lost, ⟨a4, cap4, tl ++ [p]⟩⟩ : Hd) bs at' (by repeat (first | exact hL.sub rfl rfl | refine noIds_cons rfl ?_)) (hh.told hp) hat w (hm.of (lk_dups (A := hdL H (⟨⟨(some ⟨g2, 0, none⟩), nc, nl⟩, lost, ⟨a4, cap4, tl ++ [p]⟩⟩ : Hd) bs) (sub_cons rfl (sub_cons rfl (sub_cons rfl (sub_cons rfl sub_nil))))))) rfl rfl rfl (w_n rfl) ?_
  rintro ⟨ac6, cc6⟩ -
  refine TL_nil ?_
  refine p_end ?_
  refine ret_of rfl (.tuple #[]) (fun tmps w hk hm => results_none rfl _ _ _) (fun w hm => ?_)
  refine ⟨((ac6, cc6), (a4, cap4)), trivial, rfl, ?_⟩
  first | exact hm.of (lk_fin (F := [_, _, _, _, _, _]) (T := hdL H _ bs) (sub_cons rfl (sub_cons rfl (sub_cons rfl (sub_cons rfl sub_nil)))) rfl hL) | exact hm.of (lk_fin (F := [_, _, _, _, _, _, _]) (T := hdL H _ bs) (sub_cons rfl (sub_cons rfl (sub_cons rfl (sub_cons rfl sub_nil)))) rfl hL) | exact hm.of (lk_fin (F := [_, _, _, _, _, _, _, _]) (T := hdL H _ bs) (sub_cons rfl (sub_cons rfl (sub_cons rfl (sub_cons rfl sub_nil)))) rfl hL) | exact hm.of (lk_fin (F := [_, _, _, _, _, _, _, _, _]) (T := hdL H _ bs) (sub_cons rfl (sub_cons rfl (sub_cons rfl (sub_cons rfl sub_nil)))) rfl hL) | exact hm.of (lk_fin (F := [_, _, _, _, _, _, _, _, _, _]) (T := hdL H _ bs) (sub_cons rfl (sub_cons rfl (sub_cons rfl (sub_cons rfl sub_nil)))) rfl hL) | exact hm.of (lk_fin (F := [_, _, _, _, _, _, _, _, _, _, _]) (T := hdL H _ bs) (sub_cons rfl (sub_cons rfl (sub_cons rfl (sub_cons rfl sub_nil)))) rfl hL) | exact hm.of (lk_fin (F := [_, _, _, _, _, _, _, _, _, _, _, _]) (T := hdL H _ bs) (sub_cons rfl (sub_cons rfl (sub_cons rfl (sub_cons rfl sub_nil)))) rfl hL) | exact hm.of (lk_fin (F := [_, _, _, _, _, _, _, _, _, _, _, _, _]) (T := hdL H _ bs) (sub_cons rfl (sub_cons rfl (sub_cons rfl (sub_cons rfl sub_nil)))) rfl hL) | exact hm.of (lk_fin (F := [_, _, _, _, _, _, _, _, _, _, _, _, _, _]) (T := hdL H _ bs) (sub_cons rfl (sub_cons rfl (sub_cons rfl (sub_cons rfl sub_nil)))) rfl hL) | exact hm.of (lk_fin (F := [_, _, _, _, _, _, _, _, _, _, _, _, _, _, _]) (T := hdL H _ bs) (sub_cons rfl (sub_cons rfl (sub_cons rfl (sub_cons rfl sub_nil)))) rfl hL)
end Go.Proofs.Ytcidgbjgeegepaa
/- One cell of an element of a row of one's own, written. Over any program. -/
namespace Go.Proofs.Ytcidgbjgeegepaa
open Go Go.RowKit
section
variable {P : Program} {w₀ w : World} {L : Heap} {ρ : Operand → Value} {ty : TypeId} {ps : String} {af : Array Edge} {g : Option (Nat × Bool)}
theorem flat_get {α : Type} {f : α → List Value} {l : List α} {k : Nat} {u : α} (h : l[k]? = some u) : l.flatMap f = (l.take k).flatMap f ++ f u ++ (l.drop (k + 1)).flatMap f := by
  have hk := (List.getElem?_eq_some_iff.1 h).1
  have e := List.take_append_drop k l
  rw [List.drop_eq_getElem_cons hk, (List.getElem?_eq_some_iff.1 h).2] at e
  conv => lhs; rw [← e]
  rw [List.flatMap_append, List.flatMap_cons, List.append_assoc]
theorem flat_put {α : Type} {f : α → List Value} {l : List α} {k : Nat} (u : α) (hk : k < l.length) : (l.set k u).flatMap f = (l.take k).flatMap f ++ f u ++ (l.drop (k + 1)).flatMap f := by
  rw [List.set_eq_take_append_cons_drop, if_pos hk, List.flatMap_append, List.flatMap_cons, List.append_assoc]
theorem o_storeRowC {α : Type} {f : α → List Value} {l : List α} {u u' : α} {x y : Operand} {t e : TypeId} {s n cap B k j off : Nat} {v : Value} (i : Nat) (hi : lk L i = some (.row (.slice (some ⟨B, 0, none⟩) n cap) e s n (l.flatMap f))) (hn : n = l.length) (hf : ∀ x, (f x).length = s)
    (hk : l[k]? = some u) (hj : j < s) (hu : f u' = (f u).set j v) (hoff : off = k * s + j) (hx : ρ x = .pointer (some ⟨B, off, none⟩)) (hy : ρ y = v) (hs : szOf P t = some 1) (hv : v.cells = #[v]) (ho : isOne v = true) (hm : MemOk w₀ L w) :
    ∃ w', (execOp ρ (mk none (.store t x y) ty ps af g)).run P w = .ok .skip w' ∧ MemOk w₀ ((i, .row (.slice (some ⟨B, 0, none⟩) n cap) e s n ((l.set k u').flatMap f)) :: L) w' := by
  subst hn hoff
  have hkl := (List.getElem?_eq_some_iff.1 hk).1
  have hrow := hm.row i hi
  rcases hrow.2 with ⟨h1, _⟩ | ⟨g, cap', cur, h1, hbg, hg, hnc, hcm, hcs, htk⟩
  · cases h1
  · cases h1
    obtain ⟨post, hpost⟩ : ∃ post, cur.toList = l.flatMap f ++ post := ⟨cur.toList.drop (l.length * s), by rw [← htk, List.take_append_drop]⟩
    have hle : k * s + s ≤ l.length * s := by
      have := Nat.mul_le_mul_right s (show k + 1 ≤ l.length from hkl)
      rwa [Nat.add_mul, Nat.one_mul] at this
    have hle2 : l.length * s ≤ cap * s := Nat.mul_le_mul_right s hnc
    obtain ⟨w', hr, hup⟩ := run_storeVar (P := P) (t := t) (off := k * s + j) (v := v) hs hg (by rw [hv]; rfl) (by omega) (by rw [hv]; simp [ho])
    have hfu : (f u).take j ++ (f u)[j]?.getD v :: (f u).drop (j + 1) = f u := by
      have hj' : j < (f u).length := by rw [hf]; exact hj
      rw [List.getElem?_eq_getElem hj', Option.getD_some, ← List.drop_eq_getElem_cons hj', List.take_append_drop]
    have hfu' : f u' = (f u).take j ++ v :: (f u).drop (j + 1) := by
      rw [hu, List.set_eq_take_append_cons_drop, if_pos (by rw [hf]; exact hj)]
    have hcur : wrC cur (k * s + j) v.cells.toList = ((l.set k u').flatMap f ++ post).toArray := by
      have e1 : cur = (((l.take k).flatMap f ++ (f u).take j) ++ [(f u)[j]?.getD v] ++ ((f u).drop (j + 1) ++ (l.drop (k + 1)).flatMap f ++ post)).toArray := by
        apply Array.ext'
        rw [hpost, flat_get hk]
        conv => lhs; rw [← hfu]
        simp
      have e2 : ((l.take k).flatMap f ++ (f u).take j).length = k * s + j := by
        rw [List.length_append, flat_len hf, List.length_take, List.length_take, hf, Nat.min_eq_left (Nat.le_of_lt hkl), Nat.min_eq_left (Nat.le_of_lt hj)]
      rw [hv, ← e2, e1]
      show wrC _ _ [v] = _
      rw [wrC_list [v] [(f u)[j]?.getD v] _ _ rfl, flat_put u' hkl, hfu']
      simp
    rw [hcur] at hup
    refine ⟨w', ?_, hm.grow (.inl hi) ⟨hup.os, hup.tape, hup.output, by rw [hup.size]; exact Nat.le_refl _, fun j _ hj => hup.other j (fun e => hj (by rw [e]; rfl))⟩ ⟨by rw [flat_len hf, List.length_set], .inr ⟨B, cap, _, rfl, hbg, hup.this, hnc, hcm, ?_, ?_⟩⟩ (.inl rfl)⟩
    · show (do Instr.storeAt t (ρ x) (ρ y); pure Next.skip : Sem Next).run P w = _
      rw [hx, hy, run_bind_ok (a := ()) (w' := w')]
      · rfl
      · unfold Instr.storeAt
        rw [run_bind_ok (a := ⟨B, k * s + j, none⟩) (w' := w) rfl]
        exact hr
    · have hc1 : cur.size = (l.flatMap f ++ post).length := by rw [← hpost, Array.length_toList]
      rw [List.size_toArray, List.length_append, flat_len hf, List.length_set]
      rw [List.length_append, flat_len hf] at hc1
      omega
    · have hq : ((l.set k u').flatMap f).length = l.length * s := by rw [flat_len hf, List.length_set]
      rw [← hq]
      exact List.take_left
end
end Go.Proofs.Ytcidgbjgeegepaa
/- net and journal: the hand: twice, spoil. Printed by a program of this seat's prover. -/
namespace Go.Proofs.Ytcidgbjgeegepaa
open Go Go.RowKit
set_option maxRecDepth 10000
theorem need_ok_net (x : Int) (w : World) : Calls Try.prog 62 #[.bool true, .int .i64 x] w fun e w' => e = .returned (.tuple #[]) ∧ Below w.heap.size w w' := by
  refine calls_of_T (l := [.bool true, .int .i64 x]) 8 Try.func62 rfl rfl rfl ?_
  show T _ _ _ [(0, .bool true), (1, .int .i64 x)] []
  refine T_seq (T_region ?_)
  refine TL_q (.bool true) (fun _ _ hρ _ => r_move (hρ _ _ rfl)) rfl rfl rfl (w_n rfl) ?_
  refine TL_q (.bool false) (fun _ _ hρ _ => r_not (b := true) (hρ _ _ rfl)) rfl rfl rfl (w_n rfl) ?_
  refine TL_seq ?_
  refine T_cond_f rfl ?_
  refine T_skip' ?_
  refine p_end ?_
  refine ret_of rfl (.tuple #[]) (fun tmps w hk hm => results_none rfl _ _ _) (fun w hm => ?_)
  exact ⟨rfl, hm.ext⟩

theorem need_no_net (x : Int) (w : World) : Calls Try.prog 62 #[.bool false, .int .i64 x] w fun e w' => e = .panicked [{ v := .iface 28 (.int .i64 x), recovered := false }] ∧ Below w.heap.size w w' := by
  refine calls_of_T (l := [.bool false, .int .i64 x]) 8 Try.func62 rfl rfl rfl ?_
  show T _ _ _ [(0, .bool false), (1, .int .i64 x)] []
  refine T_seq (T_region ?_)
  refine TL_q (.bool false) (fun _ _ hρ _ => r_move (hρ _ _ rfl)) rfl rfl rfl (w_n rfl) ?_
  refine TL_q (.bool true) (fun _ _ hρ _ => r_not (b := false) (hρ _ _ rfl)) rfl rfl rfl (w_n rfl) ?_
  refine TL_seq ?_
  refine T_cond_t rfl ?_
  refine T_region ?_
  refine TL_q (.int .i64 x) (fun _ _ hρ _ => r_move (hρ _ _ rfl)) rfl rfl rfl (w_n rfl) ?_
  refine TL_q (.iface 28 (.int .i64 x)) (fun _ _ hρ _ => r_makeIface (by kernel_rfl) (hρ _ _ rfl)) rfl rfl rfl (w_n rfl) ?_
  refine TL_panic (fun _ _ hρ _ => r_panic (hρ _ _ rfl)) rfl (w_n rfl) ?_
  refine p_pan rfl (fun w hm => ?_)
  exact ⟨rfl, hm.ext⟩

theorem twice_ht {w₀ : World} {L : Heap} (H : Nat) (h : Hd) (bs : List (RowG By)) (tk tb : Int) (tm : Wd) (at' : Nat) (hL : NoIds L 1000 1150) (hh : HdOk h bs) (hat : at' < h.n.l.length) (p : Pcl) (hp : h.n.l[at']? = some p) : ∀ w, MemOk w₀ (hdL H h bs ++ L) w → Calls Try.prog 107 #[.pointer (some ⟨H, 0, none⟩), .agg #[.int .i64 tk, .int .i64 (at' : Int), .int .i64 tb, .int .u32 (tm.toNat : Int)]] w (HAns w₀ (fun x : Hd × List (RowG By) => x.1.nv = putV h.nv p.pv ∧ HdOk x.1 x.2 ∧ x.1.t = h.t ∧ ∀ b ∈ bs, b ∈ x.2) (fun _ => .tuple #[]) (fun x => hdL H x.1 x.2 ++ L)) := by
  obtain ⟨⟨na, nc, nl⟩, lost, ⟨ta, tc, tl⟩⟩ := h
  have hhl : nl.length ≤ 64 := hh.len
  replace hat : at' < nl.length := hat
  replace hp : nl[at']? = some p := hp
  refine ht_of_T (l := [.pointer (some ⟨H, 0, none⟩), .agg #[.int .i64 tk, .int .i64 ((at' : Nat) : Int), .int .i64 tb, .int .u32 ((tm).toNat : Int)]]) (L := ((900, .blk H (.cells #[.slice na nl.length nc, .int .u64 lost, .slice ta tl.length tc] 104)) :: (901, .row (.slice na nl.length nc) 36 3 nl.length (nl.flatMap Pcl.cells)) :: (902, .row (.slice ta tl.length tc) 36 3 tl.length (tl.flatMap Pcl.cells)) :: (903, .pool 5 1 byc bs) :: L)) 15 Try.func107 rfl rfl rfl ?_
  show T _ _ _ [(0, .pointer (some ⟨H, 0, none⟩)), (1, .agg #[.int .i64 tk, .int .i64 ((at' : Nat) : Int), .int .i64 tb, .int .u32 ((tm).toNat : Int)])] ((900, .blk H (.cells #[.slice na nl.length nc, .int .u64 lost, .slice ta tl.length tc] 104)) :: (901, .row (.slice na nl.length nc) 36 3 nl.length (nl.flatMap Pcl.cells)) :: (902, .row (.slice ta tl.length tc) 36 3 tl.length (tl.flatMap Pcl.cells)) :: (903, .pool 5 1 byc bs) :: L)
  refine T_seq (T_region ?_)
  refine TL_new 1101 (.cells #[.int .i64 tk, .int .i64 ((at' : Nat) : Int), .int .i64 tb, .int .u32 ((tm).toNat : Int)] 48) (fun B => .pointer (some ⟨B, 0, none⟩)) (fun _ _ hρ _ => r_box (hρ _ _ rfl) rfl) rfl rfl rfl (w_n rfl) ?_
  intro B1
  refine TL_seq ?_
  refine T_row 901 rfl (by omega) (fun g2 ha2 => ?_)
  subst ha2
  refine T_rowcap 901 rfl (fun hrc2 => ?_)
  refine T_draw (V := [(0, .pointer (some ⟨H, 0, none⟩)), (1, .pointer (some ⟨H, 0, none⟩)), (2, .pointer (some ⟨H, 0, none⟩)), (3, .pointer (some ⟨H, 0, none⟩)), (4, .pointer (some ⟨H, 0, none⟩)), (5, .slice (some ⟨g2, 0, none⟩) nl.length nc), (6, .pointer (some ⟨B1, 1, none⟩)), (7, .int .i64 ((at' : Nat) : Int)), (8, .pointer (some ⟨g2, 0 + at' * 3, none⟩)), (9, .agg #[.int .i64 p.to, .slice p.r.a p.r.l.length p.r.cap, .bool p.sp])]) [0, 0, 2, 6, 14, 30, 0, 64, 254, 510, 1023] [[(0, none)], [(0, none)], [(5, some 1)], [(6, some 2)], [(7, some 3)], [(8, some 4)], [(3, none)], [(10, some 6)], [(9, some 5), (11, some 7)], [(12, some 8)], [(4, some 0), (13, some 9)]] 1024 mixed (by kernel_rfl) ?_
  refine G_step [0, 1, 2, 3, 4, 5, 6, 7, 8, 9] 10 [] (by kernel_rfl) (allM (all_cons (q_run (.pointer (some ⟨H, 0, none⟩)) rfl rfl (wv_n rfl) rfl (fun _ _ hρ _ => r_move (hρ _ _ rfl))) (all_cons (q_run (.pointer (some ⟨H, 0, none⟩)) rfl rfl (wv_n rfl) rfl (fun _ _ hρ _ => r_move (hρ _ _ rfl))) (all_cons (q_run (.pointer (some ⟨H, 0, none⟩)) rfl rfl (wv_n rfl) rfl (fun _ _ hρ _ => r_nilCheck (hρ _ _ rfl) rfl)) (all_cons (q_run (.pointer (some ⟨H, 0, none⟩)) rfl rfl (wv_n rfl) rfl (fun _ _ hρ _ => r_fieldAddr fl104_0 sz27 (hρ _ _ rfl))) (all_cons (q_run (.pointer (some ⟨H, 0, none⟩)) rfl rfl (wv_n rfl) rfl (fun _ _ hρ _ => r_fieldAddr fl27_0 sz22 (hρ _ _ rfl))) (all_cons (q_run (.slice (some ⟨g2, 0, none⟩) nl.length nc) rfl rfl (wv_n rfl) rfl (fun _ _ hρ hm => r_load ag22 (hρ _ _ rfl) (hm.at 900 rfl) rfl)) (all_cons (q_run (.pointer (some ⟨B1, 1, none⟩)) rfl rfl (wv_n rfl) rfl (fun _ _ hρ _ => r_fieldAddr fl48_1 sz3 (hρ _ _ rfl))) (all_cons (q_run (.int .i64 ((at' : Nat) : Int)) rfl rfl (wv_n rfl) rfl (fun _ _ hρ hm => r_load ag3 (hρ _ _ rfl) (hm.at 1101 rfl) rfl)) (all_cons (q_run (.pointer (some ⟨g2, 0 + at' * 3, none⟩)) rfl rfl (wv_n rfl) rfl (fun _ _ hρ _ => r_indexAddrS (i := at') sl22 sz36 (hρ _ _ rfl) (hρ _ _ rfl) (by omega))) (all_cons (q_run (.agg #[.int .i64 p.to, .slice p.r.a p.r.l.length p.r.cap, .bool p.sp]) rfl rfl (wv_n rfl) rfl (fun _ _ hρ hm => r_loadOwn (f := Pcl.cells) (u := p) (l := nl) ag36 sz36 (hρ _ _ rfl) (hm.row 901 rfl) rfl rfl Pcl.cells_len hp)) all_nil))))))))))) (allM (all_cons ?_ all_nil))
  refine LOb_callH _ _ _ (fun _ => []) rfl (wv_n rfl) rfl rfl (fun _ _ hρ _ => r_call (args := [.pointer (some ⟨H, 0, none⟩), .agg #[.int .i64 p.to, .slice p.r.a p.r.l.length p.r.cap, .bool p.sp]]) (enters_of Try.func66 (by kernel_rfl) rfl) (hρ _ _ rfl) ((cons2 (hρ _ _ rfl) (cons2 (hρ _ _ rfl) rfl))) rfl) (fun w hm => send_ht H (⟨⟨(some ⟨g2, 0, none⟩), nc, nl⟩, lost, ⟨ta, tc, tl⟩⟩ : Hd) bs p (by repeat (first | exact hL.sub rfl rfl | refine noIds_cons rfl ?_)) hh (hh.inN p (List.mem_of_getElem? hp)).2 (.inr (hh.inN p (List.mem_of_getElem? hp))) w (hm.of (lk_dups (A := hdL H (⟨⟨(some ⟨g2, 0, none⟩), nc, nl⟩, lost, ⟨ta, tc, tl⟩⟩ : Hd) bs) (sub_cons rfl (sub_cons rfl (sub_cons rfl (sub_cons rfl sub_nil))))))) (fun _ => by kernel_rfl) ?_
  rintro ⟨h4, bs4⟩ ⟨hv4, hk4, ht4, hs4⟩
  refine G_lastQ [] [] (by kernel_rfl) (allM all_nil) end_nil ?_
  refine p_end ?_
  refine ret_of rfl (.tuple #[]) (fun tmps w hk hm => results_none rfl _ _ _) (fun w hm => ?_)
  refine ⟨(h4, bs4), ⟨hv4, hk4, ht4, hs4⟩, rfl, ?_⟩
  first | exact hm.of (lk_fin (F := [_, _, _, _, _]) (T := hdL H h4 bs4) (sub_cons rfl (sub_cons rfl (sub_cons rfl (sub_cons rfl sub_nil)))) rfl hL) | exact hm.of (lk_fin (F := [_, _, _, _, _, _]) (T := hdL H h4 bs4) (sub_cons rfl (sub_cons rfl (sub_cons rfl (sub_cons rfl sub_nil)))) rfl hL) | exact hm.of (lk_fin (F := [_, _, _, _, _, _, _]) (T := hdL H h4 bs4) (sub_cons rfl (sub_cons rfl (sub_cons rfl (sub_cons rfl sub_nil)))) rfl hL) | exact hm.of (lk_fin (F := [_, _, _, _, _, _, _, _]) (T := hdL H h4 bs4) (sub_cons rfl (sub_cons rfl (sub_cons rfl (sub_cons rfl sub_nil)))) rfl hL) | exact hm.of (lk_fin (F := [_, _, _, _, _, _, _, _, _]) (T := hdL H h4 bs4) (sub_cons rfl (sub_cons rfl (sub_cons rfl (sub_cons rfl sub_nil)))) rfl hL) | exact hm.of (lk_fin (F := [_, _, _, _, _, _, _, _, _, _]) (T := hdL H h4 bs4) (sub_cons rfl (sub_cons rfl (sub_cons rfl (sub_cons rfl sub_nil)))) rfl hL) | exact hm.of (lk_fin (F := [_, _, _, _, _, _, _, _, _, _, _]) (T := hdL H h4 bs4) (sub_cons rfl (sub_cons rfl (sub_cons rfl (sub_cons rfl sub_nil)))) rfl hL) | exact hm.of (lk_fin (F := [_, _, _, _, _, _, _, _, _, _, _, _]) (T := hdL H h4 bs4) (sub_cons rfl (sub_cons rfl (sub_cons rfl (sub_cons rfl sub_nil)))) rfl hL) | exact hm.of (lk_fin (F := [_, _, _, _, _, _, _, _, _, _, _, _, _]) (T := hdL H h4 bs4) (sub_cons rfl (sub_cons rfl (sub_cons rfl (sub_cons rfl sub_nil)))) rfl hL) | exact hm.of (lk_fin (F := [_, _, _, _, _, _, _, _, _, _, _, _, _, _]) (T := hdL H h4 bs4) (sub_cons rfl (sub_cons rfl (sub_cons rfl (sub_cons rfl sub_nil)))) rfl hL)

theorem spoil_c (bit : Int) (mask : Wd) (l : List By) (a : Option Addr) (cap : Nat) (w : World) (hv : SliceAt w a cap 1 byc l) (hl : l.length ≤ 1000000) (hcap : cap ≤ Go.maxLen) : Calls Try.prog 53 #[.slice a l.length cap, .int .i64 bit, .int .u32 (mask.toNat : Int)] w fun e w' => ∃ a' cap', e = .returned (.tuple #[.slice a' ((spoilI l bit mask).getD []).length cap', .int .i64 (spoilE (spoilI l bit mask))]) ∧ Below w.heap.size w w' ∧ w'.ownsRow w.heap.size 5 1 (.slice a' ((spoilI l bit mask).getD []).length cap') ((spoilI l bit mask).getD []).length (((spoilI l bit mask).getD []).flatMap byc) := by
  by_cases h0 : 0 ≤ bit ∧ bit.toNat < 8 * l.length
  · have h := spoil_in bit.toNat mask l a cap w hv hl hcap h0.2
    rw [show spoilI l bit mask = spoilP l bit.toNat mask from if_pos h0.1]
    rwa [Int.toNat_of_nonneg h0.1] at h
  · have e : spoilI l bit mask = none := by
      unfold spoilI
      split
      · unfold spoilP; rw [if_neg (by omega)]
      · rfl
    rw [e]
    exact (spoil_out bit mask l a cap w hv hl hcap (by omega)).mono fun e w' h => ⟨none, 0, h.1, h.2, World.ownsRow_nil _ _ _ _⟩
theorem spoil_ok {bit : Int} {mask : Wd} {l b : List By} (a : Option Addr) (cap : Nat) (w : World) (hb : spoilI l bit mask = some b) (hv : SliceAt w a cap 1 byc l) (hl : l.length ≤ 1000000) (hcap : cap ≤ Go.maxLen) : Calls Try.prog 53 #[.slice a l.length cap, .int .i64 bit, .int .u32 (mask.toNat : Int)] w fun e w' => ∃ a' cap', e = .returned (.tuple #[.slice a' b.length cap', .int .i64 0]) ∧ Below w.heap.size w w' ∧ w'.ownsRow w.heap.size 5 1 (.slice a' b.length cap') b.length (b.flatMap byc) := by
  have h := spoil_c bit mask l a cap w hv hl hcap
  rw [hb] at h; exact h
theorem spoil_no {bit : Int} {mask : Wd} {l : List By} (a : Option Addr) (cap : Nat) (w : World) (hb : spoilI l bit mask = none) (hv : SliceAt w a cap 1 byc l) (hl : l.length ≤ 1000000) (hcap : cap ≤ Go.maxLen) : Calls Try.prog 53 #[.slice a l.length cap, .int .i64 bit, .int .u32 (mask.toNat : Int)] w fun e w' => ∃ a' cap', e = .returned (.tuple #[.slice a' ([] : List By).length cap', .int .i64 2]) ∧ Below w.heap.size w w' ∧ w'.ownsRow w.heap.size 5 1 (.slice a' ([] : List By).length cap') ([] : List By).length (([] : List By).flatMap byc) := by
  have h := spoil_c bit mask l a cap w hv hl hcap
  rw [hb] at h; exact h
theorem spoilI_len {bit : Int} {mask : Wd} {l b : List By} (h : spoilI l bit mask = some b) : b.length = l.length := by
  unfold spoilI spoilP at h
  split at h
  · split at h
    · cases h; exact spoilN_len _ _ _ _
    · cases h
  · cases h

theorem spoil_ht {w₀ : World} {L : Heap} (H : Nat) (h : Hd) (bs : List (RowG By)) (tk tb : Int) (tm : Wd) (at' : Nat) (hL : NoIds L 1000 1150) (hh : HdOk h bs) (hat : at' < h.n.l.length) (p : Pcl) (hp : h.n.l[at']? = some p) (hsp0 : p.sp = false) {b : List By} (hsp : spoilI p.r.l tb tm = some b) : ∀ w, MemOk w₀ (hdL H h bs ++ L) w → Calls Try.prog 108 #[.pointer (some ⟨H, 0, none⟩), .agg #[.int .i64 tk, .int .i64 (at' : Int), .int .i64 tb, .int .u32 (tm.toNat : Int)]] w (HAns w₀ (fun _ : (Option Addr × Nat) × (Option Addr × Nat) => True) (fun _ => .tuple #[]) (fun x => hdL H { h with n := ⟨x.1.1, x.1.2, h.n.l.set at' ⟨p.to, ⟨x.2.1, x.2.2, b⟩, true⟩⟩ } (bs ++ [⟨x.2.1, x.2.2, b⟩]) ++ L)) := by
  obtain ⟨⟨na, nc, nl⟩, lost, ⟨ta, tc, tl⟩⟩ := h
  have hhl : nl.length ≤ 64 := hh.len
  replace hat : at' < nl.length := hat
  replace hp : nl[at']? = some p := hp
  have hin := (hh.inN p (List.mem_of_getElem? hp))
  have hpl := hin.2
  refine ht_of_T (l := [.pointer (some ⟨H, 0, none⟩), .agg #[.int .i64 tk, .int .i64 ((at' : Nat) : Int), .int .i64 tb, .int .u32 ((tm).toNat : Int)]]) (L := ((900, .blk H (.cells #[.slice na nl.length nc, .int .u64 lost, .slice ta tl.length tc] 104)) :: (901, .row (.slice na nl.length nc) 36 3 nl.length (nl.flatMap Pcl.cells)) :: (902, .row (.slice ta tl.length tc) 36 3 tl.length (tl.flatMap Pcl.cells)) :: (903, .pool 5 1 byc bs) :: L)) 43 Try.func108 rfl rfl rfl ?_
  show T _ _ _ [(0, .pointer (some ⟨H, 0, none⟩)), (1, .agg #[.int .i64 tk, .int .i64 ((at' : Nat) : Int), .int .i64 tb, .int .u32 ((tm).toNat : Int)])] ((900, .blk H (.cells #[.slice na nl.length nc, .int .u64 lost, .slice ta tl.length tc] 104)) :: (901, .row (.slice na nl.length nc) 36 3 nl.length (nl.flatMap Pcl.cells)) :: (902, .row (.slice ta tl.length tc) 36 3 tl.length (tl.flatMap Pcl.cells)) :: (903, .pool 5 1 byc bs) :: L)
  refine T_seq (T_region ?_)
  refine TL_new 1101 (.cells #[.int .i64 tk, .int .i64 ((at' : Nat) : Int), .int .i64 tb, .int .u32 ((tm).toNat : Int)] 48) (fun B => .pointer (some ⟨B, 0, none⟩)) (fun _ _ hρ _ => r_box (hρ _ _ rfl) rfl) rfl rfl rfl (w_n rfl) ?_
  intro B1
  refine TL_seq ?_
  refine T_row 901 rfl (by omega) (fun g2 ha2 => ?_)
  subst ha2
  refine T_rowcap 901 rfl (fun hrc2 => ?_)
  refine T_seq (T_draw (V := [(0, .pointer (some ⟨H, 0, none⟩)), (1, .pointer (some ⟨H, 0, none⟩)), (2, .pointer (some ⟨H, 0, none⟩)), (3, .pointer (some ⟨H, 0, none⟩)), (4, .slice (some ⟨g2, 0, none⟩) nl.length nc), (5, .pointer (some ⟨B1, 1, none⟩)), (6, .int .i64 ((at' : Nat) : Int)), (7, .pointer (some ⟨g2, 0 + at' * 3, none⟩)), (8, .pointer (some ⟨g2, 0 + at' * 3, none⟩))]) [0, 1, 3, 7, 15, 0, 32, 127, 255] [[(0, none)], [(7, some 0)], [(8, some 1)], [(9, some 2)], [(10, some 3)], [(3, none)], [(12, some 5)], [(11, some 4), (13, some 6)], [(14, some 7)]] 0 mixed (by kernel_rfl) ?_)
  refine G_last [0, 1, 2, 3, 4, 5, 6, 7, 8] [(3, .pointer (some ⟨B1, 0, none⟩)), (4, .pointer (some ⟨g2, 0 + at' * 3, none⟩))] (by kernel_rfl) (allM (all_cons (q_run (.pointer (some ⟨H, 0, none⟩)) rfl rfl (wv_n rfl) rfl (fun _ _ hρ _ => r_move (hρ _ _ rfl))) (all_cons (q_run (.pointer (some ⟨H, 0, none⟩)) rfl rfl (wv_n rfl) rfl (fun _ _ hρ _ => r_nilCheck (hρ _ _ rfl) rfl)) (all_cons (q_run (.pointer (some ⟨H, 0, none⟩)) rfl rfl (wv_n rfl) rfl (fun _ _ hρ _ => r_fieldAddr fl104_0 sz27 (hρ _ _ rfl))) (all_cons (q_run (.pointer (some ⟨H, 0, none⟩)) rfl rfl (wv_n rfl) rfl (fun _ _ hρ _ => r_fieldAddr fl27_0 sz22 (hρ _ _ rfl))) (all_cons (q_run (.slice (some ⟨g2, 0, none⟩) nl.length nc) rfl rfl (wv_n rfl) rfl (fun _ _ hρ hm => r_load ag22 (hρ _ _ rfl) (hm.at 900 rfl) rfl)) (all_cons (q_run (.pointer (some ⟨B1, 1, none⟩)) rfl rfl (wv_n rfl) rfl (fun _ _ hρ _ => r_fieldAddr fl48_1 sz3 (hρ _ _ rfl))) (all_cons (q_run (.int .i64 ((at' : Nat) : Int)) rfl rfl (wv_n rfl) rfl (fun _ _ hρ hm => r_load ag3 (hρ _ _ rfl) (hm.at 1101 rfl) rfl)) (all_cons (q_run (.pointer (some ⟨g2, 0 + at' * 3, none⟩)) rfl rfl (wv_n rfl) rfl (fun _ _ hρ _ => r_indexAddrS (i := at') sl22 sz36 (hρ _ _ rfl) (hρ _ _ rfl) (by omega))) (all_cons (q_run (.pointer (some ⟨g2, 0 + at' * 3, none⟩)) rfl rfl (wv_n rfl) rfl (fun _ _ hρ _ => r_assign (hρ _ _ rfl))) all_nil)))))))))) (end_old rfl rfl (end_new 8 rfl rfl end_nil)) ?_
  refine T_seq (T_region ?_)
  refine TL_q (.pointer (some ⟨g2, 0 + at' * 3, none⟩)) (fun _ _ hρ _ => r_move (hρ _ _ rfl)) rfl rfl rfl (w_n rfl) ?_
  refine TL_q (.pointer (some ⟨g2, 0 + at' * 3, none⟩)) (fun _ _ hρ _ => r_nilCheck (hρ _ _ rfl) rfl) rfl rfl rfl (w_n rfl) ?_
  refine TL_q (.pointer (some ⟨g2, 0 + at' * 3 + 2, none⟩)) (fun _ _ hρ _ => r_fieldAddr fl36_2 sz4 (hρ _ _ rfl)) rfl rfl rfl (w_n rfl) ?_
  refine TL_q (.bool p.sp) (fun _ _ hρ hm => r_loadOwnJ (f := Pcl.cells) (u := p) (l := nl) 2 ag4 (hρ _ _ rfl) (hm.row 901 rfl) rfl rfl Pcl.cells_len hp rfl) rfl rfl rfl (w_n rfl) ?_
  refine TL_q (.bool true) (fun _ _ hρ _ => r_as (r_not (b := p.sp) (hρ _ _ rfl)) (bool_as (by rw [hsp0]; rfl))) rfl rfl rfl (w_n rfl) ?_
  refine TL_call (.tuple #[]) (fun _ _ hρ _ => r_call (args := [.bool true, .int .i64 5]) (enters_of Try.func62 (by kernel_rfl) rfl) (hρ _ _ rfl) ((cons2 (hρ _ _ rfl) (cons2 (hρ _ _ rfl) rfl))) rfl) (fun w _ => need_ok_net 5 w) rfl rfl rfl (w_n rfl) ?_
  refine TL_seq ?_
  refine T_seq (T_draw (V := [(0, .pointer (some ⟨g2, 0 + at' * 3, none⟩)), (1, .pointer (some ⟨g2, 0 + at' * 3, none⟩)), (2, .pointer (some ⟨g2, 0 + at' * 3 + 1, none⟩)), (3, .slice p.r.a p.r.l.length p.r.cap), (4, .pointer (some ⟨B1, 2, none⟩)), (5, .int .i64 tb), (6, .pointer (some ⟨B1, 3, none⟩)), (7, .int .u32 ((tm).toNat : Int))]) [0, 1, 3, 7, 0, 16, 0, 64, 255, 511, 1023, 1023, 2047, 8191] [[(4, none)], [(22, some 0)], [(23, some 1)], [(24, some 2)], [(3, none)], [(26, some 4)], [(3, none)], [(28, some 6)], [(25, some 3), (27, some 5), (29, some 7)], [(30, some 8)], [(21, some 9)], [(21, some 9)], [(31, some 10)], [(32, some 11)]] 256 mixed (by kernel_rfl) ?_)
  refine G_step [0, 1, 2, 3, 4, 5, 6, 7] 8 [] (by kernel_rfl) (allM (all_cons (q_run (.pointer (some ⟨g2, 0 + at' * 3, none⟩)) rfl rfl (wv_n rfl) rfl (fun _ _ hρ _ => r_move (hρ _ _ rfl))) (all_cons (q_run (.pointer (some ⟨g2, 0 + at' * 3, none⟩)) rfl rfl (wv_n rfl) rfl (fun _ _ hρ _ => r_nilCheck (hρ _ _ rfl) rfl)) (all_cons (q_run (.pointer (some ⟨g2, 0 + at' * 3 + 1, none⟩)) rfl rfl (wv_n rfl) rfl (fun _ _ hρ _ => r_fieldAddr fl36_1 sz34 (hρ _ _ rfl))) (all_cons (q_run (.slice p.r.a p.r.l.length p.r.cap) rfl rfl (wv_n rfl) rfl (fun _ _ hρ hm => r_loadOwnJ (f := Pcl.cells) (u := p) (l := nl) 1 ag34 (hρ _ _ rfl) (hm.row 901 rfl) rfl rfl Pcl.cells_len hp rfl)) (all_cons (q_run (.pointer (some ⟨B1, 2, none⟩)) rfl rfl (wv_n rfl) rfl (fun _ _ hρ _ => r_fieldAddr fl48_2 sz3 (hρ _ _ rfl))) (all_cons (q_run (.int .i64 tb) rfl rfl (wv_n rfl) rfl (fun _ _ hρ hm => r_load ag3 (hρ _ _ rfl) (hm.at 1101 rfl) rfl)) (all_cons (q_run (.pointer (some ⟨B1, 3, none⟩)) rfl rfl (wv_n rfl) rfl (fun _ _ hρ _ => r_fieldAddr fl48_3 sz46 (hρ _ _ rfl))) (all_cons (q_run (.int .u32 ((tm).toNat : Int)) rfl rfl (wv_n rfl) rfl (fun _ _ hρ hm => r_load ag46 (hρ _ _ rfl) (hm.at 1101 rfl) rfl)) all_nil))))))))) (allM (all_cons ?_ all_nil))
  refine LOb_callN (fun (_ : Option Addr × Nat) => True) (fun (ar4, cr4) => .tuple #[.slice ar4 ((b).length) cr4, .int .i64 0]) (fun (ar4, cr4) => [(1120, .row (.slice ar4 ((b).length) cr4) 5 1 ((b).length) ((b).flatMap byc))]) (fun (ar4, cr4) => [(9, .tuple #[.slice ar4 ((b).length) cr4, .int .i64 0]), (10, .slice ar4 ((b).length) cr4), (11, .int .i64 0), (12, .slice ar4 ((b).length) cr4), (13, .int .i64 0)]) rfl (wv_n rfl) rfl rfl (fun _ _ hρ _ => r_call (args := [.slice p.r.a p.r.l.length p.r.cap, .int .i64 tb, .int .u32 ((tm).toNat : Int)]) (enters_of Try.func53 (by kernel_rfl) rfl) (hρ _ _ rfl) ((cons2 (hρ _ _ rfl) (cons2 (hρ _ _ rfl) (cons2 (hρ _ _ rfl) rfl)))) rfl) (fun w hm => (spoil_ok p.r.a p.r.cap w hsp (poolAt byc_len (hm.pool 903 rfl) (hh.inN p (List.mem_of_getElem? hp)).1) (by omega) (poolCap (hm.pool 903 rfl) (hh.inN p (List.mem_of_getElem? hp)).1)).mono fun e w' ⟨a', cap', he, hb, hr⟩ => ⟨(a', cap'), trivial, he, hb, newOk1 1120 hr⟩) (fun (ar4, cr4) => by kernel_rfl) ?_
  rintro ⟨ar4, cr4⟩ -
  refine G_last [9, 10, 11, 12, 13] [(4, .pointer (some ⟨g2, 0 + at' * 3, none⟩)), (5, .slice ar4 ((b).length) cr4), (6, .int .i64 0)] (by kernel_rfl) (allM (all_cons (q_run (.tuple #[.slice ar4 ((b).length) cr4, .int .i64 0]) rfl rfl (wv_n rfl) rfl (fun _ _ hρ _ => r_move (hρ _ _ rfl))) (all_cons (q_run (.slice ar4 ((b).length) cr4) rfl rfl (wv_n rfl) rfl (fun _ _ hρ _ => r_extract (hρ _ _ rfl) rfl)) (all_cons (q_run (.int .i64 0) rfl rfl (wv_n rfl) rfl (fun _ _ hρ _ => r_extract (hρ _ _ rfl) rfl)) (all_cons (q_run (.slice ar4 ((b).length) cr4) rfl rfl (wv_n rfl) rfl (fun _ _ hρ _ => r_assign (hρ _ _ rfl))) (all_cons (q_run (.int .i64 0) rfl rfl (wv_n rfl) rfl (fun _ _ hρ _ => r_assign (hρ _ _ rfl))) all_nil)))))) (end_old rfl rfl (end_new 12 rfl rfl (end_new 13 rfl rfl end_nil))) ?_
  refine T_seq (T_region ?_)
  refine TL_q (.int .i64 0) (fun _ _ hρ _ => r_move (hρ _ _ rfl)) rfl rfl rfl (w_n rfl) ?_
  refine TL_q (.bool true) (fun _ _ hρ _ => r_as (r_eql (hρ _ _ rfl) (hρ _ _ rfl)) (by rfl)) rfl rfl rfl (w_n rfl) ?_
  refine TL_call (.tuple #[]) (fun _ _ hρ _ => r_call (args := [.bool true, .int .i64 2]) (enters_of Try.func62 (by kernel_rfl) rfl) (hρ _ _ rfl) ((cons2 (hρ _ _ rfl) (cons2 (hρ _ _ rfl) rfl))) rfl) (fun w _ => need_ok_net 2 w) rfl rfl rfl (w_n rfl) ?_
  refine TL_seq ?_
  refine T_region ?_
  refine TL_q (.pointer (some ⟨g2, 0 + at' * 3, none⟩)) (fun _ _ hρ _ => r_move (hρ _ _ rfl)) rfl rfl rfl (w_n rfl) ?_
  refine TL_q (.pointer (some ⟨g2, 0 + at' * 3, none⟩)) (fun _ _ hρ _ => r_move (hρ _ _ rfl)) rfl rfl rfl (w_n rfl) ?_
  refine TL_q (.slice ar4 ((b).length) cr4) (fun _ _ hρ _ => r_move (hρ _ _ rfl)) rfl rfl rfl (w_n rfl) ?_
  refine TL_q (.pointer (some ⟨g2, 0 + at' * 3, none⟩)) (fun _ _ hρ _ => r_nilCheck (hρ _ _ rfl) rfl) rfl rfl rfl (w_n rfl) ?_
  refine TL_q (.pointer (some ⟨g2, 0 + at' * 3 + 1, none⟩)) (fun _ _ hρ _ => r_fieldAddr fl36_1 sz34 (hρ _ _ rfl)) rfl rfl rfl (w_n rfl) ?_
  refine TL_opS _ (fun _ _ hρ hm => o_storeRowC (f := Pcl.cells) (l := nl) (u' := (⟨p.to, ⟨ar4, cr4, b⟩, p.sp⟩ : Pcl)) (k := at') (j := 1) (v := .slice ar4 ((b).length) cr4) (n := nl.length) 901 rfl rfl Pcl.cells_len hp (by decide) rfl (by omega) (hρ _ _ rfl) (hρ _ _ rfl) sz34 rfl rfl hm) rfl rfl (w_n rfl) ?_
  refine TL_q (.pointer (some ⟨g2, 0 + at' * 3, none⟩)) (fun _ _ hρ _ => r_nilCheck (hρ _ _ rfl) rfl) rfl rfl rfl (w_n rfl) ?_
  refine TL_q (.pointer (some ⟨g2, 0 + at' * 3 + 2, none⟩)) (fun _ _ hρ _ => r_fieldAddr fl36_2 sz4 (hρ _ _ rfl)) rfl rfl rfl (w_n rfl) ?_
  refine TL_opS _ (fun _ _ hρ hm => o_storeRowC (f := Pcl.cells) (l := (nl.set at' (⟨p.to, ⟨ar4, cr4, b⟩, p.sp⟩ : Pcl))) (u' := (⟨p.to, ⟨ar4, cr4, b⟩, true⟩ : Pcl)) (k := at') (j := 2) (v := .bool true) (n := nl.length) 901 rfl List.length_set.symm Pcl.cells_len (List.getElem?_set_self hat) (by decide) rfl (by omega) (hρ _ _ rfl) (hρ _ _ rfl) sz4 rfl rfl hm) rfl rfl (w_n rfl) ?_
  refine TL_nil ?_
  refine p_end ?_
  refine ret_of rfl (.tuple #[]) (fun tmps w hk hm => results_none rfl _ _ _) (fun w hm => ?_)
  have hm2 := hm.poolPush 903 1120 rfl rfl rfl rfl
  rw [List.set_set, show nl.length = (nl.set at' (⟨p.to, ⟨ar4, cr4, b⟩, true⟩ : Pcl)).length from List.length_set.symm] at hm2
  refine ⟨(((some ⟨g2, 0, none⟩), nc), (ar4, cr4)), trivial, rfl, ?_⟩
  first | exact hm2.of (lk_fin (F := [_, _, _, _, _, _]) (T := hdL H _ _) (sub_cons rfl (sub_cons rfl (sub_cons rfl (sub_cons rfl sub_nil)))) rfl hL) | exact hm2.of (lk_fin (F := [_, _, _, _, _, _, _]) (T := hdL H _ _) (sub_cons rfl (sub_cons rfl (sub_cons rfl (sub_cons rfl sub_nil)))) rfl hL) | exact hm2.of (lk_fin (F := [_, _, _, _, _, _, _, _]) (T := hdL H _ _) (sub_cons rfl (sub_cons rfl (sub_cons rfl (sub_cons rfl sub_nil)))) rfl hL) | exact hm2.of (lk_fin (F := [_, _, _, _, _, _, _, _, _]) (T := hdL H _ _) (sub_cons rfl (sub_cons rfl (sub_cons rfl (sub_cons rfl sub_nil)))) rfl hL) | exact hm2.of (lk_fin (F := [_, _, _, _, _, _, _, _, _, _]) (T := hdL H _ _) (sub_cons rfl (sub_cons rfl (sub_cons rfl (sub_cons rfl sub_nil)))) rfl hL) | exact hm2.of (lk_fin (F := [_, _, _, _, _, _, _, _, _, _, _]) (T := hdL H _ _) (sub_cons rfl (sub_cons rfl (sub_cons rfl (sub_cons rfl sub_nil)))) rfl hL) | exact hm2.of (lk_fin (F := [_, _, _, _, _, _, _, _, _, _, _, _]) (T := hdL H _ _) (sub_cons rfl (sub_cons rfl (sub_cons rfl (sub_cons rfl sub_nil)))) rfl hL) | exact hm2.of (lk_fin (F := [_, _, _, _, _, _, _, _, _, _, _, _, _]) (T := hdL H _ _) (sub_cons rfl (sub_cons rfl (sub_cons rfl (sub_cons rfl sub_nil)))) rfl hL) | exact hm2.of (lk_fin (F := [_, _, _, _, _, _, _, _, _, _, _, _, _, _]) (T := hdL H _ _) (sub_cons rfl (sub_cons rfl (sub_cons rfl (sub_cons rfl sub_nil)))) rfl hL) | exact hm2.of (lk_fin (F := [_, _, _, _, _, _, _, _, _, _, _, _, _, _, _]) (T := hdL H _ _) (sub_cons rfl (sub_cons rfl (sub_cons rfl (sub_cons rfl sub_nil)))) rfl hL)
end Go.Proofs.Ytcidgbjgeegepaa
/- Calls that panic, in a drawn region. Over any program. -/
namespace Go.Proofs.Ytcidgbjgeegepaa
open Go Go.RowKit
section
variable {C : Cx} {R : Rg} {Q : Post} {K0 V : List (Nat × Value)} {lo : Nat} {L : Heap}
theorem LOb_callP {κ : Type} {c f : Nat} {o : Oper} {args : Array Value} (q : κ → Prop) (x : κ → Value) (LX : κ → Heap) (ho : R.ops[c]? = some o) (hw : WantV V o true) (hn : isDefer o.op = false)
    (hr : ∀ ρ w, Rd (kOf K0 V (R.S.getD c [])) ρ → MemOk C.w₀ L w → (execOp ρ o).run C.P w = .ok (.enter f args) w)
    (hc : ∀ w, MemOk C.w₀ L w → Calls C.P f args w (PAns C.w₀ q x LX))
    (h : ∀ k, q k → ∀ a w, a.defers = C.D → MemOk C.w₀ (LX k) w → Q (.panic [{ v := x k, recovered := false }]) a w) : LOb C R Q K0 lo V L c := by
  refine ⟨o, ho, hw, fun a w next hrd hm hd hnext => ?_⟩
  refine step_enter hn (hr _ _ hrd hm) (hc w hm) ?_
  rintro e w' ⟨k, hk, rfl, hm'⟩
  exact h k hk _ _ hd hm'
theorem LOb_callQ {c f : Nat} {o : Oper} {args : Array Value} {v : Value} (ho : R.ops[c]? = some o) (hw : WantV V o true) (hn : isDefer o.op = false)
    (hr : ∀ ρ w, Rd (kOf K0 V (R.S.getD c [])) ρ → MemOk C.w₀ L w → (execOp ρ o).run C.P w = .ok (.enter f args) w)
    (hc : ∀ w, MemOk C.w₀ L w → Calls C.P f args w fun e w' => e = .panicked [{ v, recovered := false }] ∧ Below w.heap.size w w')
    (h : ∀ a w, a.defers = C.D → MemOk C.w₀ L w → Q (.panic [{ v, recovered := false }]) a w) : LOb C R Q K0 lo V L c :=
  LOb_callP (κ := Unit) (fun _ => True) (fun _ => v) (fun _ => L) ho hw hn hr (fun w hm => (hc w hm).mono fun e w' ⟨he, hb⟩ => ⟨(), trivial, he, hm.below hb⟩) fun _ _ => h
theorem pd_pan {ch : List PanicEntry} {fn : Func} {Rr : Ending → World → Prop} (hQ : ∀ a w, bodyM C.P fn Rr (.panic ch) a w → Q (.panic ch) a w) (hD : C.D = []) (hR : ∀ w, MemOk C.w₀ L w → Rr (.panicked ch) w) : ∀ a w, a.defers = C.D → MemOk C.w₀ L w → Q (.panic ch) a w := fun a w hd hm => by
  refine hQ a w ?_
  show LeavesInM _ _ _ _ _ _ _ _ _
  rw [hd.trans hD]
  exact hR w hm
end
end Go.Proofs.Ytcidgbjgeegepaa
