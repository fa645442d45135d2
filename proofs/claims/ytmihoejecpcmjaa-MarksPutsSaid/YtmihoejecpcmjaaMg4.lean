/- Texts of this seat, merged: part 4. -/
import Derived.Test.YtmihoejecpcmjaaMg3
/- net and journal: Insert, Delete. Printed by a program of this seat's prover. -/
namespace Go.Proofs.Ytmihoejecpcmjaa
open Go Go.RowKit
set_option maxRecDepth 10000
theorem ins_ht (w₀ : World) (Q9 Bv : Nat) (o : Obj) (m : Mk) (ms : List Mk) (a : Option Addr) (cap i : Nat) (hi9 : i ≤ ms.length) (hn9 : ms.length ≤ 6) : ∀ w, MemOk w₀ [(955, .blk Bv (.cells #[.int .u64 m.i.t, .int .i64 m.i.s, .int .u64 m.i.q, .pointer m.ptr] 36)), (957, .row (.slice a ms.length cap) 36 4 ms.length (ms.flatMap Mk.cells)), (956, .blk Q9 o)] w → Calls Try.prog 71 #[.slice a ms.length cap, .int .i64 (i : Int), .slice (some ⟨Bv, 0, none⟩) 1 1] w (HAns w₀ (fun _ : Option Addr × Nat => True) (fun x => .slice x.1 (ms.take i ++ m :: ms.drop i).length x.2) (fun x => [(957, .row (.slice x.1 (ms.take i ++ m :: ms.drop i).length x.2) 36 4 (ms.take i ++ m :: ms.drop i).length ((ms.take i ++ m :: ms.drop i).flatMap Mk.cells)), (956, .blk Q9 o)])) := by
  refine ht_of_T (l := [.slice a ms.length cap, .int .i64 ((i : Nat) : Int), .slice (some ⟨Bv, 0, none⟩) 1 1]) (L := [(955, .blk Bv (.cells #[.int .u64 m.i.t, .int .i64 m.i.s, .int .u64 m.i.q, .pointer m.ptr] 36)), (957, .row (.slice a ms.length cap) 36 4 ms.length (ms.flatMap Mk.cells)), (956, .blk Q9 (o))]) 95 Try.func71 rfl rfl rfl ?_
  show T _ _ _ [(0, .slice a ms.length cap), (1, .int .i64 ((i : Nat) : Int)), (2, .slice (some ⟨Bv, 0, none⟩) 1 1)] [(955, .blk Bv (.cells #[.int .u64 m.i.t, .int .i64 m.i.s, .int .u64 m.i.q, .pointer m.ptr] 36)), (957, .row (.slice a ms.length cap) 36 4 ms.length (ms.flatMap Mk.cells)), (956, .blk Q9 (o))]
  refine T_seq (T_region ?_)
  refine TL_q (.slice none 0 0) (fun _ _ hρ _ => r_assign (hρ _ _ rfl)) rfl rfl rfl (w_n rfl) ?_
  refine TL_seq ?_
  refine T_rowcap 957 rfl (fun hrc => ?_)
  unfold Go.maxLen at hrc
  refine T_seq (T_region ?_)
  refine TL_q (.slice a ms.length cap) (fun _ _ hρ _ => r_move (hρ _ _ rfl)) rfl rfl rfl (w_n rfl) ?_
  refine TL_q (.int .i64 ((i : Nat) : Int)) (fun _ _ hρ _ => r_move (hρ _ _ rfl)) rfl rfl rfl (w_n rfl) ?_
  obtain ⟨az9, haz9⟩ : ∃ z : Option Addr, z = (if cap = i then a else a.map fun z => z.add (i * 4)) := ⟨_, rfl⟩
  refine TL_q (.slice az9 (ms.length - i) (cap - i)) (fun ρ _ hρ _ => r_as (r_sliceO (l := i) sl25 sz36 (hρ _ _ rfl) (bd_none ρ _) (bd_none ρ _) (bd_some (n := i) (hρ _ _ rfl)) (by simp) (by omega) (by omega) (by omega)) (by rw [haz9])) rfl rfl rfl (w_n rfl) ?_
  refine TL_seq ?_
  refine T_seq (T_region ?_)
  refine TL_q (.slice (some ⟨Bv, 0, none⟩) 1 1) (fun _ _ hρ _ => r_move (hρ _ _ rfl)) rfl rfl rfl (w_n rfl) ?_
  refine TL_q (.int .i64 1) (fun _ _ hρ _ => r_len sl24 (hρ _ _ rfl)) rfl rfl rfl (w_n rfl) ?_
  refine TL_q (.int .i64 1) (fun _ _ hρ _ => r_assign (hρ _ _ rfl)) rfl rfl rfl (w_n rfl) ?_
  refine TL_seq ?_
  refine T_seq ?_
  refine T_seq (T_region ?_)
  refine TL_q (.int .i64 1) (fun _ _ hρ _ => r_move (hρ _ _ rfl)) rfl rfl rfl (w_n rfl) ?_
  refine TL_q (.bool false) (fun _ _ hρ _ => r_as (r_eql (hρ _ _ rfl) (hρ _ _ rfl)) (by rfl)) rfl rfl rfl (w_n rfl) ?_
  refine TL_seq ?_
  refine T_cond_f rfl ?_
  refine T_skip' ?_
  refine p_seq ?_
  refine T_seq (T_region ?_)
  refine TL_q (.slice a ms.length cap) (fun _ _ hρ _ => r_move (hρ _ _ rfl)) rfl rfl rfl (w_n rfl) ?_
  refine TL_q (.int .i64 ((ms.length : Nat) : Int)) (fun _ _ hρ _ => r_len sl25 (hρ _ _ rfl)) rfl rfl rfl (w_n rfl) ?_
  refine TL_q (.int .i64 ((ms.length : Nat) : Int)) (fun _ _ hρ _ => r_assign (hρ _ _ rfl)) rfl rfl rfl (w_n rfl) ?_
  refine TL_seq ?_
  refine T_seq ?_
  by_cases hin : ((i : Nat) : Int) = ((ms.length : Nat) : Int)
  · skip
    refine T_seq (T_region ?_)
    refine TL_q (.int .i64 ((i : Nat) : Int)) (fun _ _ hρ _ => r_move (hρ _ _ rfl)) rfl rfl rfl (w_n rfl) ?_
    refine TL_q (.int .i64 ((ms.length : Nat) : Int)) (fun _ _ hρ _ => r_move (hρ _ _ rfl)) rfl rfl rfl (w_n rfl) ?_
    refine TL_q (.bool true) (fun _ _ hρ _ => r_as (r_eql (hρ _ _ rfl) (hρ _ _ rfl)) (bool_as (decide_eq_true hin))) rfl rfl rfl (w_n rfl) ?_
    refine TL_seq ?_
    refine T_cond_t rfl ?_
    have hie : i = ms.length := by omega
    refine T_seq (T_region ?_)
    refine TL_q (.slice a ms.length cap) (fun _ _ hρ _ => r_move (hρ _ _ rfl)) rfl rfl rfl (w_n rfl) ?_
    refine TL_q (.slice (some ⟨Bv, 0, none⟩) 1 1) (fun _ _ hρ _ => r_move (hρ _ _ rfl)) rfl rfl rfl (w_n rfl) ?_
    refine TL_op (ι := Option Addr × Nat) (fun B => .slice B.1 (ms.length + 1) B.2) _ (fun _ _ hρ hm => o_appT (m := 1) (z := (.agg #[.int .u64 0, .int .i64 0, .int .u64 0, .pointer none] : Value)) (news := (Mk.cells m)) 957 rfl rfl (hρ _ _ rfl) (hρ _ _ rfl) sl25 sl24 sz36 by36 (by kernel_rfl) rfl rfl (src_blk (news := (Mk.cells m)) (hm.at 955 rfl) rfl) (Mk.cells_one m) (by omega) (by omega) hm) rfl rfl rfl (w_n rfl) ?_
    intro B1
    refine TL_q (.slice B1.1 (ms.length + 1) B1.2) (fun _ _ hρ _ => r_assign (hρ _ _ rfl)) rfl rfl rfl (w_n rfl) ?_
    refine TL_seq ?_
    refine T_ret' ?_
    refine p_then_r ?_
    refine ret_of rfl (.slice B1.1 (ms.length + 1) B1.2) (fun tmps w hk hm => res1 rfl (res_tmp (hk 6 _ rfl))) (fun w hm => ?_)
    have hn9 : ms.length + 1 = (ms.take i ++ m :: ms.drop i).length := by rw [ins_len hi9]
    have hx9 : (ms.flatMap Mk.cells) ++ (Mk.cells m) = (ms.take i ++ m :: ms.drop i).flatMap Mk.cells := by rw [hie, ins_end, List.flatMap_append, List.flatMap_cons, List.flatMap_nil, List.append_nil]
    rw [hn9, hx9] at hm
    exact ⟨B1, trivial, by rw [hn9], hm.sub (sub_cons rfl (sub_cons rfl sub_nil))⟩
  · skip
    refine T_seq (T_region ?_)
    refine TL_q (.int .i64 ((i : Nat) : Int)) (fun _ _ hρ _ => r_move (hρ _ _ rfl)) rfl rfl rfl (w_n rfl) ?_
    refine TL_q (.int .i64 ((ms.length : Nat) : Int)) (fun _ _ hρ _ => r_move (hρ _ _ rfl)) rfl rfl rfl (w_n rfl) ?_
    refine TL_q (.bool false) (fun _ _ hρ _ => r_as (r_eql (hρ _ _ rfl) (hρ _ _ rfl)) (bool_as (decide_eq_false hin))) rfl rfl rfl (w_n rfl) ?_
    refine TL_seq ?_
    refine T_cond_f rfl ?_
    refine T_skip' ?_
    refine p_seq ?_
    refine T_seq ?_
    by_cases hcp : ((cap : Nat) : Int) < ((ms.length + 1 : Nat) : Int)
    · skip
      refine T_row 957 rfl (by omega) (fun g2 ha2 => ?_)
      subst ha2
      refine T_rowcap 957 rfl (fun hrc2 => ?_)
      refine T_seq (T_region ?_)
      refine TL_q (.int .i64 ((ms.length : Nat) : Int)) (fun _ _ hρ _ => r_move (hρ _ _ rfl)) rfl rfl rfl (w_n rfl) ?_
      refine TL_q (.int .i64 1) (fun _ _ hρ _ => r_move (hρ _ _ rfl)) rfl rfl rfl (w_n rfl) ?_
      refine TL_q (.int .i64 ((ms.length + 1 : Nat) : Int)) (fun _ _ hρ _ => r_as (r_add (hρ _ _ rfl) (hρ _ _ rfl)) (int_as ((wrap64 (by omega) (by omega)).trans (by omega)))) rfl rfl rfl (w_n rfl) ?_
      refine TL_q (.slice (some ⟨g2, 0, none⟩) ms.length cap) (fun _ _ hρ _ => r_move (hρ _ _ rfl)) rfl rfl rfl (w_n rfl) ?_
      refine TL_q (.int .i64 ((cap : Nat) : Int)) (fun _ _ hρ _ => r_cap sl25 (hρ _ _ rfl)) rfl rfl rfl (w_n rfl) ?_
      refine TL_q (.bool true) (fun _ _ hρ _ => r_as (r_gtr (hρ _ _ rfl) (hρ _ _ rfl)) (bool_as (decide_eq_true hcp))) rfl rfl rfl (w_n rfl) ?_
      refine TL_seq ?_
      refine T_cond_t rfl ?_
      refine T_seq (T_region ?_)
      refine TL_q (.slice (some ⟨g2, 0, none⟩) ms.length cap) (fun _ _ hρ _ => r_move (hρ _ _ rfl)) rfl rfl rfl (w_n rfl) ?_
      refine TL_q (.int .i64 ((i : Nat) : Int)) (fun _ _ hρ _ => r_move (hρ _ _ rfl)) rfl rfl rfl (w_n rfl) ?_
      refine TL_q (.slice (some ⟨g2, 0, none⟩) i cap) (fun ρ _ hρ _ => r_as (r_sliceS (h := i) sl25 sz36 (hρ _ _ rfl) (bd_none ρ _) (bd_some (n := i) (hρ _ _ rfl)) (bd_none ρ _) (by simp) (by omega) (by omega) (by omega)) (by simp)) rfl rfl rfl (w_n rfl) ?_
      refine TL_q (.int .i64 ((ms.length : Nat) : Int)) (fun _ _ hρ _ => r_move (hρ _ _ rfl)) rfl rfl rfl (w_n rfl) ?_
      refine TL_q (.int .i64 1) (fun _ _ hρ _ => r_move (hρ _ _ rfl)) rfl rfl rfl (w_n rfl) ?_
      refine TL_q (.int .i64 ((ms.length + 1 : Nat) : Int)) (fun _ _ hρ _ => r_as (r_add (hρ _ _ rfl) (hρ _ _ rfl)) (int_as ((wrap64 (by omega) (by omega)).trans (by omega)))) rfl rfl rfl (w_n rfl) ?_
      refine TL_q (.int .i64 ((i : Nat) : Int)) (fun _ _ hρ _ => r_move (hρ _ _ rfl)) rfl rfl rfl (w_n rfl) ?_
      refine TL_q (.int .i64 ((ms.length + 1 - i : Nat) : Int)) (fun _ _ hρ _ => r_as (r_sub (hρ _ _ rfl) (hρ _ _ rfl)) (int_as ((wrap64 (by omega) (by omega)).trans (by omega)))) rfl rfl rfl (w_n rfl) ?_
      refine TL_op (ι := Nat × Nat) (fun B => .slice (some ⟨B.1, 0, none⟩) (i + ((ms.length + 1) - i)) B.2) _ (fun _ _ hρ hm => o_growMid (kn := .i64) (q := i) (k := ((ms.length + 1) - i)) (z := (.agg #[.int .u64 0, .int .i64 0, .int .u64 0, .pointer none] : Value)) 957 958 rfl rfl rfl (hρ _ _ rfl) (hρ _ _ rfl) sl25 (by kernel_rfl) sz36 rfl by36 (by kernel_rfl) rfl (by omega) (by omega) (by omega) (by omega) (by decide) hm) rfl rfl rfl (w_n rfl) ?_
      intro B3
      refine TL_q (.slice (some ⟨B3.1, 0, none⟩) (i + ((ms.length + 1) - i)) B3.2) (fun _ _ hρ _ => r_assign (hρ _ _ rfl)) rfl rfl rfl (w_n rfl) ?_
      refine TL_seq ?_
      refine T_sub [(0, .slice (some ⟨g2, 0, none⟩) ms.length cap), (1, .int .i64 ((i : Nat) : Int)), (2, .slice (some ⟨Bv, 0, none⟩) 1 1), (6, .slice none 0 0), (7, .int .i64 1), (8, .int .i64 ((ms.length : Nat) : Int)), (9, .slice (some ⟨B3.1, 0, none⟩) (i + ((ms.length + 1) - i)) B3.2)] [(958, .row (.slice (some ⟨B3.1, 0, none⟩) (i + ((ms.length + 1) - i)) B3.2) 36 4 (i + ((ms.length + 1) - i)) ((ms.flatMap Mk.cells).take (i * 4) ++ (List.replicate ((ms.length + 1) - i) (.agg #[.int .u64 0, .int .i64 0, .int .u64 0, .pointer none] : Value).cells.toList).flatten)), (955, .blk Bv (.cells #[.int .u64 m.i.t, .int .i64 m.i.s, .int .u64 m.i.q, .pointer m.ptr] 36)), (957, .row (.slice (some ⟨g2, 0, none⟩) ms.length cap) 36 4 ms.length (ms.flatMap Mk.cells)), (956, .blk Q9 (o))] (sub_cons rfl (sub_cons rfl (sub_cons rfl (sub_cons rfl (sub_cons rfl (sub_cons rfl (sub_cons rfl sub_nil))))))) (sub_cons rfl (sub_cons rfl (sub_cons rfl (sub_cons rfl sub_nil)))) ?_
      obtain ⟨h2, cq⟩ := B3
      show T _ _ _ [(0, .slice (some ⟨g2, 0, none⟩) ms.length cap), (1, .int .i64 ((i : Nat) : Int)), (2, .slice (some ⟨Bv, 0, none⟩) 1 1), (6, .slice none 0 0), (7, .int .i64 1), (8, .int .i64 ((ms.length : Nat) : Int)), (9, .slice (some ⟨h2, 0, none⟩) (i + ((ms.length + 1) - i)) cq)] [(958, .row (.slice (some ⟨h2, 0, none⟩) (i + ((ms.length + 1) - i)) cq) 36 4 (i + ((ms.length + 1) - i)) ((ms.flatMap Mk.cells).take (i * 4) ++ (List.replicate ((ms.length + 1) - i) (.agg #[.int .u64 0, .int .i64 0, .int .u64 0, .pointer none] : Value).cells.toList).flatten)), (955, .blk Bv (.cells #[.int .u64 m.i.t, .int .i64 m.i.s, .int .u64 m.i.q, .pointer m.ptr] 36)), (957, .row (.slice (some ⟨g2, 0, none⟩) ms.length cap) 36 4 ms.length (ms.flatMap Mk.cells)), (956, .blk Q9 (o))]
      refine T_rowcap 958 rfl (fun hrc8 => ?_)
      unfold Go.maxLen at hrc8
      refine T_seq (T_region ?_)
      refine TL_q (.slice (some ⟨h2, 0, none⟩) (i + ((ms.length + 1) - i)) cq) (fun _ _ hρ _ => r_move (hρ _ _ rfl)) rfl rfl rfl (w_n rfl) ?_
      refine TL_q (.int .i64 ((i : Nat) : Int)) (fun _ _ hρ _ => r_move (hρ _ _ rfl)) rfl rfl rfl (w_n rfl) ?_
      refine TL_q (.slice (some ⟨h2, i * 4, none⟩) ((i + ((ms.length + 1) - i)) - i) (cq - i)) (fun ρ _ hρ _ => r_as (r_sliceS (l := i) sl25 sz36 (hρ _ _ rfl) (bd_none ρ _) (bd_none ρ _) (bd_some (n := i) (hρ _ _ rfl)) (by simp) (by omega) (by omega) (by omega)) (by rw [if_neg (by omega), Nat.zero_add])) rfl rfl rfl (w_n rfl) ?_
      refine TL_q (.slice (some ⟨Bv, 0, none⟩) 1 1) (fun _ _ hρ _ => r_move (hρ _ _ rfl)) rfl rfl rfl (w_n rfl) ?_
      refine TL_op1 (.int .i64 1) _ (fun _ _ hρ hm => o_copyG (k := 1) (lo := i * 4) (s := 4) (news := Mk.cells m) 958 rfl (hρ _ _ rfl) (by omega) (hρ _ _ rfl) rfl sl25 sz36 (by omega) rfl (fun j u hj => cell_of (hm.at 955 rfl) (by rw [Nat.zero_add]; simpa using hj)) (Mk.cells_one m) (grow1 Mk.cells_len rfl hi9) hm) rfl rfl rfl (w_n rfl) ?_
      refine TL_seq ?_
      refine T_seq (T_draw (V := [(0, .slice (some ⟨h2, 0, none⟩) (i + ((ms.length + 1) - i)) cq), (1, .int .i64 ((i : Nat) : Int)), (2, .int .i64 1), (3, .int .i64 ((i + 1 : Nat) : Int)), (4, .slice (some ⟨h2, (i + 1) * 4, none⟩) ((i + ((ms.length + 1) - i)) - (i + 1)) (cq - (i + 1))), (5, .slice (some ⟨g2, 0, none⟩) ms.length cap), (6, .int .i64 ((i : Nat) : Int)), (7, .slice (some ⟨g2, i * 4, none⟩) (ms.length - i) (cap - i))]) [0, 0, 0, 6, 15, 0, 0, 96, 255] [[(9, none)], [(1, none)], [(7, none)], [(47, some 1), (48, some 2)], [(46, some 0), (49, some 3)], [(0, none)], [(1, none)], [(51, some 5), (52, some 6)], [(50, some 4), (53, some 7)]] 256 mixed (by kernel_rfl) ?_)
      refine G_step [0, 1, 2, 3, 4, 5, 6, 7] 8 [] (by kernel_rfl) (allM (all_cons (q_run (.slice (some ⟨h2, 0, none⟩) (i + ((ms.length + 1) - i)) cq) rfl rfl (wv_n rfl) rfl (fun _ _ hρ _ => r_move (hρ _ _ rfl))) (all_cons (q_run (.int .i64 ((i : Nat) : Int)) rfl rfl (wv_n rfl) rfl (fun _ _ hρ _ => r_move (hρ _ _ rfl))) (all_cons (q_run (.int .i64 1) rfl rfl (wv_n rfl) rfl (fun _ _ hρ _ => r_move (hρ _ _ rfl))) (all_cons (q_run (.int .i64 ((i + 1 : Nat) : Int)) rfl rfl (wv_n rfl) rfl (fun _ _ hρ _ => r_as (r_add (hρ _ _ rfl) (hρ _ _ rfl)) (int_as ((wrap64 (by omega) (by omega)).trans (by omega))))) (all_cons (q_run (.slice (some ⟨h2, (i + 1) * 4, none⟩) ((i + ((ms.length + 1) - i)) - (i + 1)) (cq - (i + 1))) rfl rfl (wv_n rfl) rfl (fun ρ _ hρ _ => r_as (r_sliceS (l := i + 1) sl25 sz36 (hρ _ _ rfl) (bd_none ρ _) (bd_none ρ _) (bd_some (n := i + 1) (hρ _ _ rfl)) (by simp) (by omega) (by omega) (by omega)) (by rw [if_neg (by omega), Nat.zero_add]))) (all_cons (q_run (.slice (some ⟨g2, 0, none⟩) ms.length cap) rfl rfl (wv_n rfl) rfl (fun _ _ hρ _ => r_move (hρ _ _ rfl))) (all_cons (q_run (.int .i64 ((i : Nat) : Int)) rfl rfl (wv_n rfl) rfl (fun _ _ hρ _ => r_move (hρ _ _ rfl))) (all_cons (q_run (.slice (some ⟨g2, i * 4, none⟩) (ms.length - i) (cap - i)) rfl rfl (wv_n rfl) rfl (fun ρ _ hρ _ => r_as (r_sliceS (l := i) sl25 sz36 (hρ _ _ rfl) (bd_none ρ _) (bd_none ρ _) (bd_some (n := i) (hρ _ _ rfl)) (by simp) (by omega) (by omega) (by omega)) (by rw [if_neg (by omega), Nat.zero_add]))) all_nil))))))))) (allM (all_cons ?_ all_nil))
      refine LOb_op1 (.int .i64 ((ms.length - i : Nat) : Int)) _ [] rfl (wv_n rfl) rfl rfl (fun _ _ hρ hm => o_copyG (k := ms.length - i) (lo := (i + 1) * 4) (s := 4) (news := ((ms.drop i).flatMap Mk.cells)) 958 rfl (hρ _ _ rfl) (by omega) (hρ _ _ rfl) rfl sl25 sz36 (by omega) (by rw [flat_length Mk.cells_len, List.length_drop]) (fun j u hj => row_cell (hm.row 957 rfl) (by rw [← flat_drop Mk.cells_len, List.getElem?_drop] at hj; exact hj)) mk_ones (grow2 Mk.cells_len rfl hi9) hm) (by kernel_rfl) ?_
      refine G_last [] [(0, .slice (some ⟨g2, 0, none⟩) ms.length cap), (1, .int .i64 ((i : Nat) : Int)), (2, .slice (some ⟨Bv, 0, none⟩) 1 1), (6, .slice none 0 0), (7, .int .i64 1), (8, .int .i64 ((ms.length : Nat) : Int)), (9, .slice (some ⟨h2, 0, none⟩) (i + ((ms.length + 1) - i)) cq)] (by kernel_rfl) (allM all_nil) (end_old rfl rfl (end_old rfl rfl (end_old rfl rfl (end_old rfl rfl (end_old rfl rfl (end_old rfl rfl (end_old rfl rfl end_nil))))))) ?_
      refine T_seq (T_region ?_)
      refine TL_q (.slice (some ⟨h2, 0, none⟩) (i + ((ms.length + 1) - i)) cq) (fun _ _ hρ _ => r_move (hρ _ _ rfl)) rfl rfl rfl (w_n rfl) ?_
      refine TL_q (.slice (some ⟨h2, 0, none⟩) (i + ((ms.length + 1) - i)) cq) (fun _ _ hρ _ => r_assign (hρ _ _ rfl)) rfl rfl rfl (w_n rfl) ?_
      refine TL_seq ?_
      refine T_ret' ?_
      refine p_then_r ?_
      refine ret_of rfl (.slice (some ⟨h2, 0, none⟩) (i + ((ms.length + 1) - i)) cq) (fun tmps w hk hm => res1 rfl (res_tmp (hk 6 _ rfl))) (fun w hm => ?_)
      have hn9 : (i + ((ms.length + 1) - i)) = (ms.take i ++ m :: ms.drop i).length := by first | exact (ins_len hi9).symm | (rw [ins_len hi9]; omega)
      rw [hn9] at hm
      exact ⟨(some ⟨h2, 0, none⟩, cq), trivial, by rw [← hn9], (hm.move 957 958 rfl rfl).sub (sub_cons rfl (sub_cons rfl sub_nil))⟩
    · skip
      refine T_row 957 rfl (by omega) (fun g6 ha6 => ?_)
      subst ha6
      refine T_rowcap 957 rfl (fun hrc6 => ?_)
      refine T_seq (T_region ?_)
      refine TL_q (.int .i64 ((ms.length : Nat) : Int)) (fun _ _ hρ _ => r_move (hρ _ _ rfl)) rfl rfl rfl (w_n rfl) ?_
      refine TL_q (.int .i64 1) (fun _ _ hρ _ => r_move (hρ _ _ rfl)) rfl rfl rfl (w_n rfl) ?_
      refine TL_q (.int .i64 ((ms.length + 1 : Nat) : Int)) (fun _ _ hρ _ => r_as (r_add (hρ _ _ rfl) (hρ _ _ rfl)) (int_as ((wrap64 (by omega) (by omega)).trans (by omega)))) rfl rfl rfl (w_n rfl) ?_
      refine TL_q (.slice (some ⟨g6, 0, none⟩) ms.length cap) (fun _ _ hρ _ => r_move (hρ _ _ rfl)) rfl rfl rfl (w_n rfl) ?_
      refine TL_q (.int .i64 ((cap : Nat) : Int)) (fun _ _ hρ _ => r_cap sl25 (hρ _ _ rfl)) rfl rfl rfl (w_n rfl) ?_
      refine TL_q (.bool false) (fun _ _ hρ _ => r_as (r_gtr (hρ _ _ rfl) (hρ _ _ rfl)) (bool_as (decide_eq_false hcp))) rfl rfl rfl (w_n rfl) ?_
      refine TL_seq ?_
      refine T_cond_f rfl ?_
      refine T_skip' ?_
      refine p_seq ?_
      refine T_more 957 rfl (by omega) (fun ys hys => ?_)
      refine T_seq (T_region ?_)
      refine TL_q (.slice (some ⟨g6, 0, none⟩) ms.length cap) (fun _ _ hρ _ => r_move (hρ _ _ rfl)) rfl rfl rfl (w_n rfl) ?_
      refine TL_q (.int .i64 ((ms.length : Nat) : Int)) (fun _ _ hρ _ => r_move (hρ _ _ rfl)) rfl rfl rfl (w_n rfl) ?_
      refine TL_q (.int .i64 1) (fun _ _ hρ _ => r_move (hρ _ _ rfl)) rfl rfl rfl (w_n rfl) ?_
      refine TL_q (.int .i64 ((ms.length + 1 : Nat) : Int)) (fun _ _ hρ _ => r_as (r_add (hρ _ _ rfl) (hρ _ _ rfl)) (int_as ((wrap64 (by omega) (by omega)).trans (by omega)))) rfl rfl rfl (w_n rfl) ?_
      refine TL_q (.slice (some ⟨g6, 0, none⟩) (ms.length + 1) cap) (fun ρ _ hρ _ => r_as (r_sliceS (h := (ms.length + 1)) sl25 sz36 (hρ _ _ rfl) (bd_none ρ _) (bd_some (n := (ms.length + 1)) (hρ _ _ rfl)) (bd_none ρ _) (by simp) (by omega) (by omega) (by omega)) (by simp)) rfl rfl rfl (w_n rfl) ?_
      refine TL_q (.slice (some ⟨g6, 0, none⟩) (ms.length + 1) cap) (fun _ _ hρ _ => r_assign (hρ _ _ rfl)) rfl rfl rfl (w_n rfl) ?_
      refine TL_seq ?_
      refine T_seq ?_
      refine T_seq (T_region ?_)
      refine TL_q (.slice (some ⟨Bv, 0, none⟩) 1 1) (fun _ _ hρ _ => r_move (hρ _ _ rfl)) rfl rfl rfl (w_n rfl) ?_
      refine TL_q (.slice (some ⟨g6, 0, none⟩) (ms.length + 1) cap) (fun _ _ hρ _ => r_move (hρ _ _ rfl)) rfl rfl rfl (w_n rfl) ?_
      refine TL_q (.int .i64 ((i : Nat) : Int)) (fun _ _ hρ _ => r_move (hρ _ _ rfl)) rfl rfl rfl (w_n rfl) ?_
      refine TL_q (.int .i64 1) (fun _ _ hρ _ => r_move (hρ _ _ rfl)) rfl rfl rfl (w_n rfl) ?_
      refine TL_q (.int .i64 ((i + 1 : Nat) : Int)) (fun _ _ hρ _ => r_as (r_add (hρ _ _ rfl) (hρ _ _ rfl)) (int_as ((wrap64 (by omega) (by omega)).trans (by omega)))) rfl rfl rfl (w_n rfl) ?_
      refine TL_q (.slice (some ⟨g6, (i + 1) * 4, none⟩) ((ms.length + 1) - (i + 1)) (cap - (i + 1))) (fun ρ _ hρ _ => r_as (r_sliceS (l := i + 1) sl25 sz36 (hρ _ _ rfl) (bd_none ρ _) (bd_none ρ _) (bd_some (n := i + 1) (hρ _ _ rfl)) (by simp) (by omega) (by omega) (by omega)) (by rw [if_neg (by omega), Nat.zero_add])) rfl rfl rfl (w_n rfl) ?_
      refine TL_q (.bool false) (fun _ _ hρ hm => r_callE (args := [.slice (some ⟨Bv, 0, none⟩) 1 1, .slice (some ⟨g6, (i + 1) * 4, none⟩) ((ms.length + 1) - (i + 1)) (cap - (i + 1))]) (hρ _ _ rfl) ((cons2 (hρ _ _ rfl) (cons2 (hρ _ _ rfl) rfl))) rfl (run_overlapsX (tS := 24) (tR := 4) (i := 957) (j := 955) (n := ms.length + 1) Try.func80 (by kernel_rfl) (by kernel_rfl) (by kernel_rfl) (by kernel_rfl) sl24 sz36 rfl rfl rfl (by omega) rfl hm)) rfl rfl rfl (w_n rfl) ?_
      refine TL_q (.bool true) (fun _ _ hρ _ => r_not (b := false) (hρ _ _ rfl)) rfl rfl rfl (w_n rfl) ?_
      refine TL_seq ?_
      refine T_sub [(1, .int .i64 ((i : Nat) : Int)), (2, .slice (some ⟨Bv, 0, none⟩) 1 1), (6, .slice none 0 0), (7, .int .i64 1), (8, .int .i64 ((ms.length : Nat) : Int)), (0, .slice (some ⟨g6, 0, none⟩) (ms.length + 1) cap), (68, .bool true)] [(957, .row (.slice (some ⟨g6, 0, none⟩) (ms.length + 1) cap) 36 4 (ms.length + 1) ((ms.flatMap Mk.cells) ++ ys)), (955, .blk Bv (.cells #[.int .u64 m.i.t, .int .i64 m.i.s, .int .u64 m.i.q, .pointer m.ptr] 36)), (956, .blk Q9 (o))] (sub_cons rfl (sub_cons rfl (sub_cons rfl (sub_cons rfl (sub_cons rfl (sub_cons rfl (sub_cons rfl sub_nil))))))) (sub_cons rfl (sub_cons rfl (sub_cons rfl sub_nil))) ?_
      refine T_cond_t rfl ?_
      refine T_seq (T_draw (V := [(0, .slice (some ⟨g6, 0, none⟩) (ms.length + 1) cap), (1, .int .i64 ((i : Nat) : Int)), (2, .int .i64 1), (3, .int .i64 ((i + 1 : Nat) : Int)), (4, .slice (some ⟨g6, (i + 1) * 4, none⟩) ((ms.length + 1) - (i + 1)) (cap - (i + 1))), (5, .slice (some ⟨g6, 0, none⟩) (ms.length + 1) cap), (6, .int .i64 ((i : Nat) : Int)), (7, .slice (some ⟨g6, i * 4, none⟩) ((ms.length + 1) - i) (cap - i))]) [0, 0, 0, 6, 15, 0, 0, 96, 255] [[(0, none)], [(1, none)], [(7, none)], [(70, some 1), (71, some 2)], [(69, some 0), (72, some 3)], [(0, none)], [(1, none)], [(74, some 5), (75, some 6)], [(73, some 4), (76, some 7)]] 256 mixed (by kernel_rfl) ?_)
      refine G_step [0, 1, 2, 3, 4, 5, 6, 7] 8 [] (by kernel_rfl) (allM (all_cons (q_run (.slice (some ⟨g6, 0, none⟩) (ms.length + 1) cap) rfl rfl (wv_n rfl) rfl (fun _ _ hρ _ => r_move (hρ _ _ rfl))) (all_cons (q_run (.int .i64 ((i : Nat) : Int)) rfl rfl (wv_n rfl) rfl (fun _ _ hρ _ => r_move (hρ _ _ rfl))) (all_cons (q_run (.int .i64 1) rfl rfl (wv_n rfl) rfl (fun _ _ hρ _ => r_move (hρ _ _ rfl))) (all_cons (q_run (.int .i64 ((i + 1 : Nat) : Int)) rfl rfl (wv_n rfl) rfl (fun _ _ hρ _ => r_as (r_add (hρ _ _ rfl) (hρ _ _ rfl)) (int_as ((wrap64 (by omega) (by omega)).trans (by omega))))) (all_cons (q_run (.slice (some ⟨g6, (i + 1) * 4, none⟩) ((ms.length + 1) - (i + 1)) (cap - (i + 1))) rfl rfl (wv_n rfl) rfl (fun ρ _ hρ _ => r_as (r_sliceS (l := i + 1) sl25 sz36 (hρ _ _ rfl) (bd_none ρ _) (bd_none ρ _) (bd_some (n := i + 1) (hρ _ _ rfl)) (by simp) (by omega) (by omega) (by omega)) (by rw [if_neg (by omega), Nat.zero_add]))) (all_cons (q_run (.slice (some ⟨g6, 0, none⟩) (ms.length + 1) cap) rfl rfl (wv_n rfl) rfl (fun _ _ hρ _ => r_move (hρ _ _ rfl))) (all_cons (q_run (.int .i64 ((i : Nat) : Int)) rfl rfl (wv_n rfl) rfl (fun _ _ hρ _ => r_move (hρ _ _ rfl))) (all_cons (q_run (.slice (some ⟨g6, i * 4, none⟩) ((ms.length + 1) - i) (cap - i)) rfl rfl (wv_n rfl) rfl (fun ρ _ hρ _ => r_as (r_sliceS (l := i) sl25 sz36 (hρ _ _ rfl) (bd_none ρ _) (bd_none ρ _) (bd_some (n := i) (hρ _ _ rfl)) (by simp) (by omega) (by omega) (by omega)) (by rw [if_neg (by omega), Nat.zero_add]))) all_nil))))))))) (allM (all_cons ?_ all_nil))
      refine LOb_op1 (.int .i64 ((ms.length - i : Nat) : Int)) _ [] rfl (wv_n rfl) rfl rfl (fun _ _ hρ hm => o_copyG (k := ms.length - i) (lo := (i + 1) * 4) (s := 4) (news := ((ms.drop i).flatMap Mk.cells)) 957 rfl (hρ _ _ rfl) (by omega) (hρ _ _ rfl) rfl sl25 sz36 (by omega) (by rw [flat_length Mk.cells_len, List.length_drop]) (fun j u hj => row_cell (hm.row 957 rfl) (by rw [← flat_drop Mk.cells_len, List.getElem?_drop] at hj; exact app_left hj)) mk_ones (room1 Mk.cells_len hys hi9) hm) (by kernel_rfl) ?_
      refine G_last [] [(1, .int .i64 ((i : Nat) : Int)), (2, .slice (some ⟨Bv, 0, none⟩) 1 1), (6, .slice none 0 0), (7, .int .i64 1), (8, .int .i64 ((ms.length : Nat) : Int)), (0, .slice (some ⟨g6, 0, none⟩) (ms.length + 1) cap)] (by kernel_rfl) (allM all_nil) (end_old rfl rfl (end_old rfl rfl (end_old rfl rfl (end_old rfl rfl (end_old rfl rfl (end_old rfl rfl end_nil)))))) ?_
      refine T_seq (T_region ?_)
      refine TL_q (.slice (some ⟨g6, 0, none⟩) (ms.length + 1) cap) (fun _ _ hρ _ => r_move (hρ _ _ rfl)) rfl rfl rfl (w_n rfl) ?_
      refine TL_q (.int .i64 ((i : Nat) : Int)) (fun _ _ hρ _ => r_move (hρ _ _ rfl)) rfl rfl rfl (w_n rfl) ?_
      refine TL_q (.slice (some ⟨g6, i * 4, none⟩) ((ms.length + 1) - i) (cap - i)) (fun ρ _ hρ _ => r_as (r_sliceS (l := i) sl25 sz36 (hρ _ _ rfl) (bd_none ρ _) (bd_none ρ _) (bd_some (n := i) (hρ _ _ rfl)) (by simp) (by omega) (by omega) (by omega)) (by rw [if_neg (by omega), Nat.zero_add])) rfl rfl rfl (w_n rfl) ?_
      refine TL_q (.slice (some ⟨Bv, 0, none⟩) 1 1) (fun _ _ hρ _ => r_move (hρ _ _ rfl)) rfl rfl rfl (w_n rfl) ?_
      refine TL_op1 (.int .i64 1) _ (fun _ _ hρ hm => o_copyG (k := 1) (lo := i * 4) (s := 4) (news := Mk.cells m) 957 rfl (hρ _ _ rfl) (by omega) (hρ _ _ rfl) rfl sl25 sz36 (by omega) rfl (fun j u hj => cell_of (hm.at 955 rfl) (by rw [Nat.zero_add]; simpa using hj)) (Mk.cells_one m) (room2 Mk.cells_len hys hi9) hm) rfl rfl rfl (w_n rfl) ?_
      refine TL_seq ?_
      refine T_seq (T_region ?_)
      refine TL_q (.slice (some ⟨g6, 0, none⟩) (ms.length + 1) cap) (fun _ _ hρ _ => r_move (hρ _ _ rfl)) rfl rfl rfl (w_n rfl) ?_
      refine TL_q (.slice (some ⟨g6, 0, none⟩) (ms.length + 1) cap) (fun _ _ hρ _ => r_assign (hρ _ _ rfl)) rfl rfl rfl (w_n rfl) ?_
      refine TL_seq ?_
      refine T_ret' ?_
      refine p_then_r ?_
      refine ret_of rfl (.slice (some ⟨g6, 0, none⟩) (ms.length + 1) cap) (fun tmps w hk hm => res1 rfl (res_tmp (hk 6 _ rfl))) (fun w hm => ?_)
      have hn9 : (ms.length + 1) = (ms.take i ++ m :: ms.drop i).length := by first | exact (ins_len hi9).symm | (rw [ins_len hi9]; omega)
      rw [hn9] at hm
      exact ⟨(some ⟨g6, 0, none⟩, cap), trivial, by rw [← hn9], hm.sub (sub_cons rfl (sub_cons rfl sub_nil))⟩

theorem del_ht (w₀ : World) (Q9 : Nat) (o : Obj) (Dd : Nat) (oD : Obj) (ms : List Mk) (a : Option Addr) (cap j : Nat) (hj1 : 1 ≤ j) (hj2 : j + 1 < ms.length) (hn9 : ms.length ≤ 7) : ∀ w, MemOk w₀ [(957, .row (.slice a ms.length cap) 36 4 ms.length (ms.flatMap Mk.cells)), (956, .blk Q9 o), (801, .blk Dd oD)] w → Calls Try.prog 73 #[.slice a ms.length cap, .int .i64 (j : Int), .int .i64 ((j + 1 : Nat) : Int)] w (HAns w₀ (fun _ : Option Addr × Nat => True) (fun x => .slice x.1 (ms.eraseIdx j).length x.2) (fun x => [(957, .row (.slice x.1 (ms.eraseIdx j).length x.2) 36 4 (ms.eraseIdx j).length ((ms.eraseIdx j).flatMap Mk.cells)), (956, .blk Q9 o), (801, .blk Dd oD)])) := by
  refine ht_of_T (l := [.slice a ms.length cap, .int .i64 ((j : Nat) : Int), .int .i64 ((j + 1 : Nat) : Int)]) (L := [(957, .row (.slice a ms.length cap) 36 4 ms.length (ms.flatMap Mk.cells)), (956, .blk Q9 (o)), (801, .blk Dd (oD))]) 33 Try.func73 rfl rfl rfl ?_
  show T _ _ _ [(0, .slice a ms.length cap), (1, .int .i64 ((j : Nat) : Int)), (2, .int .i64 ((j + 1 : Nat) : Int))] [(957, .row (.slice a ms.length cap) 36 4 ms.length (ms.flatMap Mk.cells)), (956, .blk Q9 (o)), (801, .blk Dd (oD))]
  refine T_seq (T_region ?_)
  refine TL_q (.slice none 0 0) (fun _ _ hρ _ => r_assign (hρ _ _ rfl)) rfl rfl rfl (w_n rfl) ?_
  refine TL_seq ?_
  refine T_rowcap 957 rfl (fun hrc => ?_)
  refine T_row 957 rfl (by omega) (fun g1 ha1 => ?_)
  subst ha1
  refine T_rowcap 957 rfl (fun hrc1 => ?_)
  refine T_seq (T_region ?_)
  refine TL_q (.slice (some ⟨g1, 0, none⟩) ms.length cap) (fun _ _ hρ _ => r_move (hρ _ _ rfl)) rfl rfl rfl (w_n rfl) ?_
  refine TL_q (.int .i64 ((j : Nat) : Int)) (fun _ _ hρ _ => r_move (hρ _ _ rfl)) rfl rfl rfl (w_n rfl) ?_
  refine TL_q (.int .i64 ((j + 1 : Nat) : Int)) (fun _ _ hρ _ => r_move (hρ _ _ rfl)) rfl rfl rfl (w_n rfl) ?_
  refine TL_q (.slice (some ⟨g1, 0, none⟩) ms.length cap) (fun _ _ hρ _ => r_move (hρ _ _ rfl)) rfl rfl rfl (w_n rfl) ?_
  refine TL_q (.int .i64 ((ms.length : Nat) : Int)) (fun _ _ hρ _ => r_len sl25 (hρ _ _ rfl)) rfl rfl rfl (w_n rfl) ?_
  refine TL_q (.slice (some ⟨g1, j * 4, none⟩) ((j + 1) - j) (ms.length - j)) (fun _ _ hρ _ => r_as (r_sliceS (l := j) (h := (j + 1)) (m := ms.length) sl25 sz36 (hρ _ _ rfl) (bd_some (n := ms.length) (hρ _ _ rfl)) (bd_some (n := (j + 1)) (hρ _ _ rfl)) (bd_some (n := j) (hρ _ _ rfl)) (by simp) (by omega) (by omega) (by omega)) (by rw [if_neg (by omega), Nat.zero_add])) rfl rfl rfl (w_n rfl) ?_
  refine TL_seq ?_
  refine T_seq ?_
  refine T_seq (T_region ?_)
  refine TL_q (.int .i64 ((j : Nat) : Int)) (fun _ _ hρ _ => r_move (hρ _ _ rfl)) rfl rfl rfl (w_n rfl) ?_
  refine TL_q (.int .i64 ((j + 1 : Nat) : Int)) (fun _ _ hρ _ => r_move (hρ _ _ rfl)) rfl rfl rfl (w_n rfl) ?_
  refine TL_q (.bool false) (fun _ _ hρ _ => r_as (r_eql (hρ _ _ rfl) (hρ _ _ rfl)) (bool_as (decide_eq_false (by omega)))) rfl rfl rfl (w_n rfl) ?_
  refine TL_seq ?_
  refine T_cond_f rfl ?_
  refine T_skip' ?_
  refine p_seq ?_
  refine T_seq (T_region ?_)
  refine TL_q (.slice (some ⟨g1, 0, none⟩) ms.length cap) (fun _ _ hρ _ => r_move (hρ _ _ rfl)) rfl rfl rfl (w_n rfl) ?_
  refine TL_q (.int .i64 ((ms.length : Nat) : Int)) (fun _ _ hρ _ => r_len sl25 (hρ _ _ rfl)) rfl rfl rfl (w_n rfl) ?_
  refine TL_q (.int .i64 ((ms.length : Nat) : Int)) (fun _ _ hρ _ => r_assign (hρ _ _ rfl)) rfl rfl rfl (w_n rfl) ?_
  refine TL_seq ?_
  refine T_seq (T_draw (V := [(0, .slice (some ⟨g1, 0, none⟩) ms.length cap), (1, .int .i64 ((j : Nat) : Int)), (2, .slice (some ⟨g1, 0, none⟩) j cap), (3, .slice (some ⟨g1, 0, none⟩) ms.length cap), (4, .int .i64 ((j + 1 : Nat) : Int)), (5, .slice (some ⟨g1, (j + 1) * 4, none⟩) (ms.length - (j + 1)) (cap - (j + 1)))]) [0, 0, 3, 0, 0, 24, 63, 127] [[(0, none)], [(1, none)], [(20, some 0), (21, some 1)], [(0, none)], [(2, none)], [(23, some 3), (24, some 4)], [(22, some 2), (25, some 5)], [(26, some 6)]] 64 mixed (by kernel_rfl) ?_)
  refine G_step [0, 1, 2, 3, 4, 5] 6 [] (by kernel_rfl) (allM (all_cons (q_run (.slice (some ⟨g1, 0, none⟩) ms.length cap) rfl rfl (wv_n rfl) rfl (fun _ _ hρ _ => r_move (hρ _ _ rfl))) (all_cons (q_run (.int .i64 ((j : Nat) : Int)) rfl rfl (wv_n rfl) rfl (fun _ _ hρ _ => r_move (hρ _ _ rfl))) (all_cons (q_run (.slice (some ⟨g1, 0, none⟩) j cap) rfl rfl (wv_n rfl) rfl (fun ρ _ hρ _ => r_as (r_sliceS (h := j) sl25 sz36 (hρ _ _ rfl) (bd_none ρ _) (bd_some (n := j) (hρ _ _ rfl)) (bd_none ρ _) (by simp) (by omega) (by omega) (by omega)) (by simp))) (all_cons (q_run (.slice (some ⟨g1, 0, none⟩) ms.length cap) rfl rfl (wv_n rfl) rfl (fun _ _ hρ _ => r_move (hρ _ _ rfl))) (all_cons (q_run (.int .i64 ((j + 1 : Nat) : Int)) rfl rfl (wv_n rfl) rfl (fun _ _ hρ _ => r_move (hρ _ _ rfl))) (all_cons (q_run (.slice (some ⟨g1, (j + 1) * 4, none⟩) (ms.length - (j + 1)) (cap - (j + 1))) rfl rfl (wv_n rfl) rfl (fun ρ _ hρ _ => r_as (r_sliceS (l := j + 1) sl25 sz36 (hρ _ _ rfl) (bd_none ρ _) (bd_none ρ _) (bd_some (n := j + 1) (hρ _ _ rfl)) (by simp) (by omega) (by omega) (by omega)) (by rw [if_neg (by omega), Nat.zero_add]))) all_nil))))))) (allM (all_cons ?_ all_nil))
  refine LOb_op1 (.slice (some ⟨g1, 0, none⟩) (j + (ms.length - (j + 1))) cap) _ [(7, .slice (some ⟨g1, 0, none⟩) (j + (ms.length - (j + 1))) cap)] rfl (wv_n rfl) rfl rfl (fun _ _ hρ hm => o_appDel (q := j) (p := j + 1) (m := ms.length - (j + 1)) 957 rfl rfl (hρ _ _ rfl) (hρ _ _ rfl) sl25 sz36 (by omega) (by omega) mk_ones hm) (by kernel_rfl) ?_
  refine G_last [7] [(6, .slice none 0 0), (7, .int .i64 ((ms.length : Nat) : Int)), (0, .slice (some ⟨g1, 0, none⟩) (j + (ms.length - (j + 1))) cap)] (by kernel_rfl) (allM (all_cons (q_run (.slice (some ⟨g1, 0, none⟩) (j + (ms.length - (j + 1))) cap) rfl rfl (wv_n rfl) rfl (fun _ _ hρ _ => r_assign (hρ _ _ rfl))) all_nil)) (end_old rfl rfl (end_old rfl rfl (end_new 7 rfl rfl end_nil))) ?_
  refine T_seq (T_region ?_)
  refine TL_q (.slice (some ⟨g1, 0, none⟩) (j + (ms.length - (j + 1))) cap) (fun _ _ hρ _ => r_move (hρ _ _ rfl)) rfl rfl rfl (w_n rfl) ?_
  refine TL_q (.slice (some ⟨g1, 0, none⟩) (j + (ms.length - (j + 1))) cap) (fun _ _ hρ _ => r_move (hρ _ _ rfl)) rfl rfl rfl (w_n rfl) ?_
  refine TL_q (.int .i64 (((j + (ms.length - (j + 1))) : Nat) : Int)) (fun _ _ hρ _ => r_len sl25 (hρ _ _ rfl)) rfl rfl rfl (w_n rfl) ?_
  refine TL_q (.int .i64 ((ms.length : Nat) : Int)) (fun _ _ hρ _ => r_move (hρ _ _ rfl)) rfl rfl rfl (w_n rfl) ?_
  refine TL_q (.slice (some ⟨g1, (j + (ms.length - (j + 1))) * 4, none⟩) (0 + 1) (cap - (j + (ms.length - (j + 1))))) (fun ρ _ hρ _ => r_as (r_sliceS (l := (j + (ms.length - (j + 1)))) (h := ms.length) sl25 sz36 (hρ _ _ rfl) (bd_none ρ _) (bd_some (n := ms.length) (hρ _ _ rfl)) (bd_some (n := (j + (ms.length - (j + 1)))) (hρ _ _ rfl)) (by simp) (by omega) (by omega) (by omega)) (by rw [if_neg (by omega), Nat.zero_add, show ms.length - (j + (ms.length - (j + 1))) = 0 + 1 by omega])) rfl rfl rfl (w_n rfl) ?_
  refine TL_opV _ (fun _ _ hρ hm => o_clearTail (n := (j + (ms.length - (j + 1)))) (k := 0) (z := (.agg #[.int .u64 0, .int .i64 0, .int .u64 0, .pointer none] : Value)) 957 rfl (hρ _ _ rfl) sl25 sz36 (by kernel_rfl) rfl rfl rfl (by omega) hm) rfl rfl (w_n rfl) ?_
  refine TL_seq ?_
  refine T_seq (T_region ?_)
  refine TL_q (.slice (some ⟨g1, 0, none⟩) (j + (ms.length - (j + 1))) cap) (fun _ _ hρ _ => r_move (hρ _ _ rfl)) rfl rfl rfl (w_n rfl) ?_
  refine TL_q (.slice (some ⟨g1, 0, none⟩) (j + (ms.length - (j + 1))) cap) (fun _ _ hρ _ => r_assign (hρ _ _ rfl)) rfl rfl rfl (w_n rfl) ?_
  refine TL_seq ?_
  refine T_ret' ?_
  refine ret_of rfl (.slice (some ⟨g1, 0, none⟩) (j + (ms.length - (j + 1))) cap) (fun tmps w hk hm => res1 rfl (res_tmp (hk 6 _ rfl))) (fun w hm => ?_)
  have hn9 : (j + (ms.length - (j + 1))) = (ms.eraseIdx j).length := by rw [List.length_eraseIdx_of_lt (by omega)]; omega
  have hx9 : (ms.flatMap Mk.cells).take (j * 4) ++ (ms.flatMap Mk.cells).drop ((j + 1) * 4) = (ms.eraseIdx j).flatMap Mk.cells := del1 Mk.cells_len (by omega)
  rw [hn9, hx9] at hm
  exact ⟨(some ⟨g1, 0, none⟩, cap), trivial, by rw [hn9], hm.sub (sub_cons rfl (sub_cons rfl (sub_cons rfl sub_nil)))⟩
end Go.Proofs.Ytmihoejecpcmjaa
/- marks: one put after the other (plainly). -/
namespace Go.Proofs.Ytmihoejecpcmjaa
open Go Go.RowKit
/-- The marks but the first and the last: which one, and how long it is there. -/
def innL (ms : List Mk) : List (Nat × Int) := (List.range (ms.length - 2)).map fun j => (j + 1, longI (timesG Mk.i ms) (j + 1))
abbrev encL (x : Nat × Int) : List Value := [.int .i64 (x.1 : Nat), .int .u64 x.2]
theorem inn_len (ms : List Mk) : (innL ms).length = ms.length - 2 := by unfold innL; rw [List.length_map, List.length_range]
theorem inn_at {ms : List Mk} {k : Nat} (h1 : 1 ≤ k) (h2 : k + 1 < ms.length) : (innL ms)[k - 1]? = some (k, longI (timesG Mk.i ms) k) := by
  unfold innL
  rw [List.getElem?_map, List.getElem?_range (by omega)]
  show some (k - 1 + 1, _) = _
  rw [show k - 1 + 1 = k by omega]
theorem inn_get {ms : List Mk} {k : Nat} {x : Nat × Int} (h : (innL ms)[k]? = some x) : x = (k + 1, longI (timesG Mk.i ms) (k + 1)) := by
  unfold innL at h
  rw [List.getElem?_map] at h
  cases e : (List.range (ms.length - 2))[k]? with
  | none => rw [e] at h; cases h
  | some j =>
    rw [e] at h
    have hj : j = k := by
      have := List.getElem?_eq_some_iff.1 e
      obtain ⟨h1, h2⟩ := this
      rw [List.getElem_range] at h2
      exact h2.symm
    subst hj
    cases h; rfl
theorem long_at {ms : List Mk} {k : Nat} {x y : Mk} (hx : ms[k - 1]? = some x) (hy : ms[k + 1]? = some y) : longI (timesG Mk.i ms) k = IntKind.wrap .u64 (y.i.t - x.i.t) := by
  unfold longI timesG
  rw [List.getD_eq_getElem?_getD, List.getD_eq_getElem?_getD, List.getElem?_map, List.getElem?_map, hx, hy]; rfl
theorem out_t {ts : List Int} {k : Nat} (h : (outF ts k).1 = 0 ∨ longI ts (k + 1) < (outF ts k).2) : outF ts (k + 1) = (k + 1, longI ts (k + 1)) := if_pos h
theorem out_f {ts : List Int} {k : Nat} (h : ¬ ((outF ts k).1 = 0 ∨ longI ts (k + 1) < (outF ts k).2)) : outF ts (k + 1) = outF ts k := if_neg h
theorem times_len (ms : List Mk) : (timesG Mk.i ms).length = ms.length := List.length_map _
theorem put_set {ms : List Mk} {m p : Mk} {n : Nat} (hn : n = aheadL (idsM ms) m.i) (hp : ms[n]? = some p) (he : p.i = m.i) (h6 : ms.length ≤ 6) : ms.set n m = putG Mk.i ms m := by
  have h1 : insG Mk.i ms m = ms.set n m := by
    unfold insG
    rw [← hn, if_pos (by rw [ids_at hp, he])]
  unfold putG
  rw [h1, if_pos (by rw [List.length_set]; exact h6)]
theorem ins_new {ms : List Mk} {m : Mk} {n : Nat} (hn : n = aheadL (idsM ms) m.i) (h : ∀ p, ms[n]? = some p → ¬ p.i = m.i) : insG Mk.i ms m = ms.take n ++ m :: ms.drop n := by
  unfold insG
  rw [← hn, if_neg]
  intro e
  cases hp : ms[n]? with
  | none => rw [List.getElem?_map, hp] at e; cases e
  | some p => rw [ids_at hp] at e; exact h p hp (Option.some.inj e)
theorem put_few {ms ns : List Mk} {m : Mk} (h : insG Mk.i ms m = ns) (hl : ns.length ≤ 6) : ns = putG Mk.i ms m := by
  unfold putG
  rw [h, if_pos hl]
theorem put_many {ms ns : List Mk} {m : Mk} {j : Nat} (h : insG Mk.i ms m = ns) (hl : ¬ ns.length ≤ 6) (hj : j = (outF (timesG Mk.i ns) (innL ns).length).1) : ns.eraseIdx j = putG Mk.i ms m := by
  unfold putG
  rw [h, if_neg hl, hj]
  unfold outN
  rw [times_len, inn_len]
theorem out_in {ns : List Mk} {j : Nat} (hl : ns.length = 7) (hj : j = (outF (timesG Mk.i ns) (innL ns).length).1) : 1 ≤ j ∧ j + 1 < ns.length := by
  have := out_bound (timesG Mk.i ns) (innL ns).length
  rw [← hj, inn_len, hl] at this
  omega
end Go.Proofs.Ytmihoejecpcmjaa
/- net and journal: A mark is put. Printed by a program of this seat's prover. -/
namespace Go.Proofs.Ytmihoejecpcmjaa
open Go Go.RowKit
set_option maxRecDepth 10000
theorem inner_iter {ι : Type} (w₀ : World) (p' : Nat → ι → Prop) (LJ : Nat → ι → Heap) (Q1 Q9 : Nat) (ms : List Mk) (a : Option Addr) (cap : Nat) (h7 : ms.length ≤ 7)
    (hQ1 : ∀ k i w, MemOk w₀ (LJ k i) w → hp w Q1 = some (.cells #[.pointer (some ⟨Q9, 0, none⟩)] 76)) (hQ9 : ∀ k i w, MemOk w₀ (LJ k i) w → hp w Q9 = some (.cells #[.slice a ms.length cap] 80))
    (hv : ∀ k i w, MemOk w₀ (LJ k i) w → SliceAt w a cap 4 Mk.cells ms) :
    IterAt Try.prog w₀ 82 #[.pointer (some ⟨Q1, 0, none⟩)] encL (innL ms) p' LJ := by
  intro l9 κ pX LX hY i₀ W₁ hp0 hm0
  show Calls _ _ #[.func (.yield l9) #[] #[], .pointer (some ⟨Q1, 0, none⟩)] _ _
  refine ht_of_T (l := [.func (.yield l9) #[] #[], .pointer (some ⟨Q1, 0, none⟩)]) (L := LJ 0 i₀) 39 Try.func82 rfl rfl rfl ?_ W₁ hm0
  show T _ _ _ [(0, .func (.yield l9) #[] #[]), (1, .pointer (some ⟨Q1, 0, none⟩))] (LJ 0 i₀)
  refine T_scope ?_
  refine T_label ?_
  refine T_seq (T_region ?_)
  refine TL_q (.int .i64 1) (fun _ _ hρ _ => r_assign (hρ _ _ rfl)) rfl rfl rfl (w_n rfl) ?_
  refine TL_seq ?_
  refine T_block ?_
  refine T_loopE (ι := Nat × ι) (fun (z : Nat × ι) => match z with | (k, i) => 1 ≤ k ∧ (k + 1 ≤ ms.length ∨ k = 1) ∧ p' (k - 1) i) (fun (z : Nat × ι) => match z with | (k, i) => [(0, .func (.yield l9) #[] #[]), (1, .pointer (some ⟨Q1, 0, none⟩)), (3, .int .i64 ((k : Nat) : Int))]) (fun (z : Nat × ι) => match z with | (k, i) => (LJ (k - 1) i)) (fun (z : Nat × ι) => match z with | (k, i) => ms.length - k) (1, i₀) ⟨Nat.le_refl _, .inr rfl, hp0⟩ (sub_cons rfl (sub_cons rfl (sub_cons rfl sub_nil))) rfl ?_
  rintro ⟨k, i⟩ hp
  obtain ⟨hk, hkl, hpi⟩ := hp
  show T _ _ _ [(0, .func (.yield l9) #[] #[]), (1, .pointer (some ⟨Q1, 0, none⟩)), (3, .int .i64 ((k : Nat) : Int))] (LJ (k - 1) i)
  refine T_seq ?_
  refine T_seq (T_region ?_)
  refine TL_q (.int .i64 ((k : Nat) : Int)) (fun _ _ hρ _ => r_move (hρ _ _ rfl)) rfl rfl rfl (w_n rfl) ?_
  refine TL_q (.int .i64 ((k + 1 : Nat) : Int)) (fun _ _ hρ _ => r_as (r_add (hρ _ _ rfl) (hρ _ _ rfl)) (int_as ((wrap64 (by omega) (by omega)).trans (by omega)))) rfl rfl rfl (w_n rfl) ?_
  refine TL_q (.pointer (some ⟨Q9, 0, none⟩)) (fun _ _ hρ hm => r_load ag76 (hρ _ _ rfl) (hQ1 _ _ _ hm) rfl) rfl rfl rfl (w_n rfl) ?_
  refine TL_q (.pointer (some ⟨Q9, 0, none⟩)) (fun _ _ hρ _ => r_nilCheck (hρ _ _ rfl) rfl) rfl rfl rfl (w_n rfl) ?_
  refine TL_q (.pointer (some ⟨Q9, 0, none⟩)) (fun _ _ hρ _ => r_fieldAddr fl80_0 sz25 (hρ _ _ rfl)) rfl rfl rfl (w_n rfl) ?_
  refine TL_q (.slice a ms.length cap) (fun _ _ hρ hm => r_load ag25 (hρ _ _ rfl) (hQ9 _ _ _ hm) rfl) rfl rfl rfl (w_n rfl) ?_
  refine TL_q (.int .i64 ((ms.length : Nat) : Int)) (fun _ _ hρ _ => r_len sl25 (hρ _ _ rfl)) rfl rfl rfl (w_n rfl) ?_
  refine TL_q (.bool (decide (((k + 1 : Nat) : Int) < ((ms.length : Nat) : Int)))) (fun _ _ hρ _ => r_lss (hρ _ _ rfl) (hρ _ _ rfl)) rfl rfl rfl (w_n rfl) ?_
  refine TL_seq ?_
  refine T_cond rfl (fun h1 => ?_) (fun h1 => ?_)
  · replace h1 := of_decide_eq_true h1
    refine T_skip' ?_
    refine p_seq ?_
    refine T_seq ?_
    refine T_block ?_
    obtain ⟨y9, hy9⟩ : ∃ x, ms[k + 1]? = some x := ⟨_, List.getElem?_eq_getElem (by omega)⟩
    obtain ⟨x9, hx9⟩ : ∃ x, ms[k - 1]? = some x := ⟨_, List.getElem?_eq_getElem (by omega)⟩
    refine T_open (fun _ hm => (hv _ _ _ hm)) (by omega) (fun b1 of1 ha1 => ?_)
    subst ha1
    refine T_seq (T_draw (V := [(0, .func (.yield l9) #[] #[]), (1, .int .i64 ((k : Nat) : Int)), (2, .pointer (some ⟨Q9, 0, none⟩)), (3, .pointer (some ⟨Q9, 0, none⟩)), (4, .pointer (some ⟨Q9, 0, none⟩)), (5, .slice (some ⟨b1, of1, none⟩) ms.length cap), (6, .int .i64 ((k : Nat) : Int)), (7, .int .i64 ((k + 1 : Nat) : Int)), (8, .pointer (some ⟨b1, of1 + (k + 1) * 4, none⟩)), (9, .pointer (some ⟨b1, of1 + (k + 1) * 4, none⟩)), (10, .pointer (some ⟨b1, of1 + (k + 1) * 4, none⟩)), (11, .int .u64 y9.i.t), (12, .pointer (some ⟨Q9, 0, none⟩)), (13, .pointer (some ⟨Q9, 0, none⟩)), (14, .pointer (some ⟨Q9, 0, none⟩)), (15, .slice (some ⟨b1, of1, none⟩) ms.length cap), (16, .int .i64 ((k : Nat) : Int)), (17, .int .i64 ((k - 1 : Nat) : Int)), (18, .pointer (some ⟨b1, of1 + (k - 1) * 4, none⟩)), (19, .pointer (some ⟨b1, of1 + (k - 1) * 4, none⟩)), (20, .pointer (some ⟨b1, of1 + (k - 1) * 4, none⟩)), (21, .int .u64 x9.i.t), (22, .int .u64 (longI (timesG Mk.i ms) k))]) [0, 0, 0, 4, 12, 28, 0, 64, 252, 508, 1020, 2044, 0, 4096, 12288, 28672, 0, 65536, 258048, 520192, 1044480, 2093056, 4194300, 8388607, 16777215] [[(0, none)], [(3, none)], [(1, none)], [(16, some 2)], [(17, some 3)], [(18, some 4)], [(3, none)], [(20, some 6)], [(19, some 5), (21, some 7)], [(22, some 8)], [(23, some 9)], [(24, some 10)], [(1, none)], [(26, some 12)], [(27, some 13)], [(28, some 14)], [(3, none)], [(30, some 16)], [(29, some 15), (31, some 17)], [(32, some 18)], [(33, some 19)], [(34, some 20)], [(25, some 11), (35, some 21)], [(15, some 1), (36, some 22), (14, some 0)], [(37, some 23)]] 8388608 mixed (by kernel_rfl) ?_)
    refine G_step [0, 1, 2, 3, 4, 5, 6, 7, 8, 9, 10, 11, 12, 13, 14, 15, 16, 17, 18, 19, 20, 21, 22] 23 [] (by kernel_rfl) (allM (all_cons (q_run (.func (.yield l9) #[] #[]) rfl rfl (wv_n rfl) rfl (fun _ _ hρ _ => r_move (hρ _ _ rfl))) (all_cons (q_run (.int .i64 ((k : Nat) : Int)) rfl rfl (wv_n rfl) rfl (fun _ _ hρ _ => r_move (hρ _ _ rfl))) (all_cons (q_run (.pointer (some ⟨Q9, 0, none⟩)) rfl rfl (wv_n rfl) rfl (fun _ _ hρ hm => r_load ag76 (hρ _ _ rfl) (hQ1 _ _ _ hm) rfl)) (all_cons (q_run (.pointer (some ⟨Q9, 0, none⟩)) rfl rfl (wv_n rfl) rfl (fun _ _ hρ _ => r_nilCheck (hρ _ _ rfl) rfl)) (all_cons (q_run (.pointer (some ⟨Q9, 0, none⟩)) rfl rfl (wv_n rfl) rfl (fun _ _ hρ _ => r_fieldAddr fl80_0 sz25 (hρ _ _ rfl))) (all_cons (q_run (.slice (some ⟨b1, of1, none⟩) ms.length cap) rfl rfl (wv_n rfl) rfl (fun _ _ hρ hm => r_load ag25 (hρ _ _ rfl) (hQ9 _ _ _ hm) rfl)) (all_cons (q_run (.int .i64 ((k : Nat) : Int)) rfl rfl (wv_n rfl) rfl (fun _ _ hρ _ => r_move (hρ _ _ rfl))) (all_cons (q_run (.int .i64 ((k + 1 : Nat) : Int)) rfl rfl (wv_n rfl) rfl (fun _ _ hρ _ => r_as (r_add (hρ _ _ rfl) (hρ _ _ rfl)) (int_as ((wrap64 (by omega) (by omega)).trans (by omega))))) (all_cons (q_run (.pointer (some ⟨b1, of1 + (k + 1) * 4, none⟩)) rfl rfl (wv_n rfl) rfl (fun _ _ hρ _ => r_indexAddrS (i := k + 1) sl25 sz36 (hρ _ _ rfl) (hρ _ _ rfl) (by omega))) (all_cons (q_run (.pointer (some ⟨b1, of1 + (k + 1) * 4, none⟩)) rfl rfl (wv_n rfl) rfl (fun _ _ hρ _ => r_fieldAddr (off := of1 + (k + 1) * 4) fl36_0 sz32 (hρ _ _ rfl))) (all_cons (q_run (.pointer (some ⟨b1, of1 + (k + 1) * 4, none⟩)) rfl rfl (wv_n rfl) rfl (fun _ _ hρ _ => r_fieldAddr (off := of1 + (k + 1) * 4) fl32_0 sz30 (hρ _ _ rfl))) (all_cons (q_run (.int .u64 y9.i.t) rfl rfl (wv_n rfl) rfl (fun _ _ hρ hm => r_loadS1 (f := Mk.cells) (u := y9) (l := ms) (i := k + 1) ag30 (hρ _ _ rfl) (hv _ _ _ hm) hy9 rfl)) (all_cons (q_run (.pointer (some ⟨Q9, 0, none⟩)) rfl rfl (wv_n rfl) rfl (fun _ _ hρ hm => r_load ag76 (hρ _ _ rfl) (hQ1 _ _ _ hm) rfl)) (all_cons (q_run (.pointer (some ⟨Q9, 0, none⟩)) rfl rfl (wv_n rfl) rfl (fun _ _ hρ _ => r_nilCheck (hρ _ _ rfl) rfl)) (all_cons (q_run (.pointer (some ⟨Q9, 0, none⟩)) rfl rfl (wv_n rfl) rfl (fun _ _ hρ _ => r_fieldAddr fl80_0 sz25 (hρ _ _ rfl))) (all_cons (q_run (.slice (some ⟨b1, of1, none⟩) ms.length cap) rfl rfl (wv_n rfl) rfl (fun _ _ hρ hm => r_load ag25 (hρ _ _ rfl) (hQ9 _ _ _ hm) rfl)) (all_cons (q_run (.int .i64 ((k : Nat) : Int)) rfl rfl (wv_n rfl) rfl (fun _ _ hρ _ => r_move (hρ _ _ rfl))) (all_cons (q_run (.int .i64 ((k - 1 : Nat) : Int)) rfl rfl (wv_n rfl) rfl (fun _ _ hρ _ => r_as (r_sub (hρ _ _ rfl) (hρ _ _ rfl)) (int_as ((wrap64 (by omega) (by omega)).trans (by omega))))) (all_cons (q_run (.pointer (some ⟨b1, of1 + (k - 1) * 4, none⟩)) rfl rfl (wv_n rfl) rfl (fun _ _ hρ _ => r_indexAddrS (i := k - 1) sl25 sz36 (hρ _ _ rfl) (hρ _ _ rfl) (by omega))) (all_cons (q_run (.pointer (some ⟨b1, of1 + (k - 1) * 4, none⟩)) rfl rfl (wv_n rfl) rfl (fun _ _ hρ _ => r_fieldAddr (off := of1 + (k - 1) * 4) fl36_0 sz32 (hρ _ _ rfl))) (all_cons (q_run (.pointer (some ⟨b1, of1 + (k - 1) * 4, none⟩)) rfl rfl (wv_n rfl) rfl (fun _ _ hρ _ => r_fieldAddr (off := of1 + (k - 1) * 4) fl32_0 sz30 (hρ _ _ rfl))) (all_cons (q_run (.int .u64 x9.i.t) rfl rfl (wv_n rfl) rfl (fun _ _ hρ hm => r_loadS1 (f := Mk.cells) (u := x9) (l := ms) (i := k - 1) ag30 (hρ _ _ rfl) (hv _ _ _ hm) hx9 rfl)) (all_cons (q_run (.int .u64 (longI (timesG Mk.i ms) k)) rfl rfl (wv_n rfl) rfl (fun _ _ hρ _ => r_as (r_sub (hρ _ _ rfl) (hρ _ _ rfl)) (int_as (long_at hx9 hy9).symm))) all_nil)))))))))))))))))))))))) (allM (all_cons ?_ all_nil))
    refine LOb_yieldB (fun i => p' (k - 1 + 1) i) (fun i => LJ (k - 1 + 1) i) pX LX (fun yx2 => [(24, .bool (!yx2.isLeft))]) rfl rfl (wv_n rfl) rfl rfl (fun _ _ hρ _ => r_yield (hρ _ _ rfl) ((cons2 (hρ _ _ rfl) (cons2 (hρ _ _ rfl) rfl)))) (fun W hm => hY (k - 1) (k, longI (timesG Mk.i ms) k) i W (inn_at hk (by omega)) hpi hm) (fun _ => by kernel_rfl) ?_
    intro yx2 hyx2
    refine G_last [24] [(0, .func (.yield l9) #[] #[]), (1, .pointer (some ⟨Q1, 0, none⟩)), (3, .int .i64 ((k : Nat) : Int)), (4, .int .i64 ((k : Nat) : Int)), (5, .int .i64 ((k + 1 : Nat) : Int)), (6, .pointer (some ⟨Q9, 0, none⟩)), (7, .pointer (some ⟨Q9, 0, none⟩)), (8, .pointer (some ⟨Q9, 0, none⟩)), (9, .slice (some ⟨b1, of1, none⟩) ms.length cap), (10, .int .i64 ((ms.length : Nat) : Int)), (11, .bool (decide (((k + 1 : Nat) : Int) < ((ms.length : Nat) : Int)))), (14, .func (.yield l9) #[] #[]), (15, .int .i64 ((k : Nat) : Int)), (16, .pointer (some ⟨Q9, 0, none⟩)), (17, .pointer (some ⟨Q9, 0, none⟩)), (18, .pointer (some ⟨Q9, 0, none⟩)), (19, .slice (some ⟨b1, of1, none⟩) ms.length cap), (20, .int .i64 ((k : Nat) : Int)), (21, .int .i64 ((k + 1 : Nat) : Int)), (22, .pointer (some ⟨b1, of1 + (k + 1) * 4, none⟩)), (23, .pointer (some ⟨b1, of1 + (k + 1) * 4, none⟩)), (24, .pointer (some ⟨b1, of1 + (k + 1) * 4, none⟩)), (25, .int .u64 y9.i.t), (26, .pointer (some ⟨Q9, 0, none⟩)), (27, .pointer (some ⟨Q9, 0, none⟩)), (28, .pointer (some ⟨Q9, 0, none⟩)), (29, .slice (some ⟨b1, of1, none⟩) ms.length cap), (30, .int .i64 ((k : Nat) : Int)), (31, .int .i64 ((k - 1 : Nat) : Int)), (32, .pointer (some ⟨b1, of1 + (k - 1) * 4, none⟩)), (33, .pointer (some ⟨b1, of1 + (k - 1) * 4, none⟩)), (34, .pointer (some ⟨b1, of1 + (k - 1) * 4, none⟩)), (35, .int .u64 x9.i.t), (36, .int .u64 (longI (timesG Mk.i ms) k)), (37, .bool yx2.isLeft), (38, .bool (!yx2.isLeft))] (by kernel_rfl) (allM (all_cons (q_run (.bool (!yx2.isLeft)) rfl rfl (wv_n rfl) rfl (fun _ _ hρ _ => r_not (b := yx2.isLeft) (hρ _ _ rfl))) all_nil)) (end_old rfl rfl (end_old rfl rfl (end_old rfl rfl (end_old rfl rfl (end_old rfl rfl (end_old rfl rfl (end_old rfl rfl (end_old rfl rfl (end_old rfl rfl (end_old rfl rfl (end_old rfl rfl (end_new 0 rfl rfl (end_new 1 rfl rfl (end_new 2 rfl rfl (end_new 3 rfl rfl (end_new 4 rfl rfl (end_new 5 rfl rfl (end_new 6 rfl rfl (end_new 7 rfl rfl (end_new 8 rfl rfl (end_new 9 rfl rfl (end_new 10 rfl rfl (end_new 11 rfl rfl (end_new 12 rfl rfl (end_new 13 rfl rfl (end_new 14 rfl rfl (end_new 15 rfl rfl (end_new 16 rfl rfl (end_new 17 rfl rfl (end_new 18 rfl rfl (end_new 19 rfl rfl (end_new 20 rfl rfl (end_new 21 rfl rfl (end_new 22 rfl rfl (end_new 23 rfl rfl (end_new 24 rfl rfl end_nil)))))))))))))))))))))))))))))))))))) ?_
    refine T_cond rfl (fun h2 => ?_) (fun h2 => ?_)
    · replace h2 := bnot_t h2
      obtain ⟨j, rfl⟩ := isR (by simpa using h2)
      refine T_exit' ?_
      refine p_blk_o rfl ?_
      refine p_then_x ?_
      refine p_then_x ?_
      refine p_blk_x ?_
      refine p_ng_n ?_
      refine p_end ?_
      refine ret_of rfl (.tuple #[]) (fun tmps w hk hm => results_none rfl _ _ _) (fun w hm => ?_)
      first
        | exact ⟨⟨_, rfl⟩, .inr ⟨j, hyx2, hm⟩⟩
        | (have hk8 : k - 1 = (innL ms).length := (by rw [inn_len]; omega); rw [hk8] at hpi hm; exact ⟨⟨_, rfl⟩, .inl ⟨i, hpi, hm⟩⟩)
    · replace h2 := bnot_f h2
      obtain ⟨i1, rfl⟩ := isL (by simpa using h2)
      refine T_skip' ?_
      refine p_blk_n ?_
      refine p_seq ?_
      refine T_region ?_
      refine TL_q (.int .i64 ((k : Nat) : Int)) (fun _ _ hρ _ => r_move (hρ _ _ rfl)) rfl rfl rfl (w_n rfl) ?_
      refine TL_q (.int .i64 ((k + 1 : Nat) : Int)) (fun _ _ hρ _ => r_as (r_add (hρ _ _ rfl) (hρ _ _ rfl)) (int_as ((wrap64 (by omega) (by omega)).trans (by omega)))) rfl rfl rfl (w_n rfl) ?_
      refine TL_q (.int .i64 ((k + 1 : Nat) : Int)) (fun _ _ hρ _ => r_assign (hρ _ _ rfl)) rfl rfl rfl (w_n rfl) ?_
      refine TL_nil ?_
      exact p_atE (k + 1, i1) ⟨⟨by omega, by omega, by have h9 := hyx2; rw [show k - 1 + 1 = k + 1 - 1 by omega] at h9; exact h9⟩, by dsimp only; omega⟩ (sub_cons rfl (sub_cons rfl (sub_cons rfl sub_nil))) (show LJ (k - 1 + 1) i1 = LJ (k + 1 - 1) i1 by rw [show k - 1 + 1 = k + 1 - 1 by omega])
  · replace h1 := of_decide_eq_false h1
    refine T_exit' ?_
    refine p_then_x ?_
    refine p_then_x ?_
    refine p_blk_x ?_
    refine p_ng_n ?_
    refine p_end ?_
    refine ret_of rfl (.tuple #[]) (fun tmps w hk hm => results_none rfl _ _ _) (fun w hm => ?_)
    first
      | exact ⟨⟨_, rfl⟩, .inr ⟨j, hyx2, hm⟩⟩
      | (have hk8 : k - 1 = (innL ms).length := (by rw [inn_len]; omega); rw [hk8] at hpi hm; exact ⟨⟨_, rfl⟩, .inl ⟨i, hpi, hm⟩⟩)

theorem inner_c (Q9 : Nat) (w : World) : Calls Try.prog 72 #[.pointer (some ⟨Q9, 0, none⟩)] w fun e w' => ∃ q, e = .returned (.func (.func 82) #[] #[.pointer (some ⟨q, 0, none⟩)]) ∧ Below w.heap.size w w' ∧ (Res.blk q (.cells #[.pointer (some ⟨Q9, 0, none⟩)] 76)).ok w.heap.size w' := by
  refine calls_of_T (l := [.pointer (some ⟨Q9, 0, none⟩)]) 4 Try.func72 rfl rfl rfl ?_
  show T _ _ _ [(0, .pointer (some ⟨Q9, 0, none⟩))] []
  refine T_seq (T_region ?_)
  refine TL_new 1 (.cells #[.pointer (some ⟨Q9, 0, none⟩)] 76) (fun B => .pointer (some ⟨B, 0, none⟩)) (fun _ _ hρ _ => r_box (hρ _ _ rfl) rfl) rfl rfl rfl (w_n rfl) ?_
  intro B1
  refine TL_q (.nilFunc) (fun _ _ hρ _ => r_assign (hρ _ _ rfl)) rfl rfl rfl (w_n rfl) ?_
  refine TL_seq ?_
  refine T_seq (T_region ?_)
  refine TL_q (.func (.func 82) #[] #[.pointer (some ⟨B1, 0, none⟩)]) (fun _ _ hρ _ => r_makeFunc (by simp) (map_arr (cons2 (hρ _ _ rfl) rfl))) rfl rfl rfl (w_n rfl) ?_
  refine TL_q (.func (.func 82) #[] #[.pointer (some ⟨B1, 0, none⟩)]) (fun _ _ hρ _ => r_assign (hρ _ _ rfl)) rfl rfl rfl (w_n rfl) ?_
  refine TL_seq ?_
  refine T_ret' ?_
  refine ret_of rfl (.func (.func 82) #[] #[.pointer (some ⟨B1, 0, none⟩)]) (fun tmps w hk hm => res1 rfl (res_tmp (hk 2 _ rfl))) (fun w hm => ?_)
  exact ⟨B1, rfl, hm.ext, hm.own 1 _ rfl⟩

theorem mput_ht (w₀ : World) (Q9 : Nat) (m : Mk) (ms : List Mk) (a : Option Addr) (cap : Nat) (h6 : ms.length ≤ 6) : ∀ w, MemOk w₀ [(957, .row (.slice a ms.length cap) 36 4 ms.length (ms.flatMap Mk.cells)), (956, .blk Q9 (.cells #[.slice a ms.length cap] 80))] w → Calls Try.prog 54 #[.pointer (some ⟨Q9, 0, none⟩), m.v] w (HAns w₀ (fun _ : Option Addr × Nat => True) (fun _ => .tuple #[]) (fun x => [(957, .row (.slice x.1 (putG Mk.i ms m).length x.2) 36 4 (putG Mk.i ms m).length ((putG Mk.i ms m).flatMap Mk.cells)), (956, .blk Q9 (.cells #[.slice x.1 (putG Mk.i ms m).length x.2] 80))])) := by
  refine ht_of_T (l := [.pointer (some ⟨Q9, 0, none⟩), .agg #[.int .u64 m.i.t, .int .i64 m.i.s, .int .u64 m.i.q, .pointer m.ptr]]) (L := [(957, .row (.slice a ms.length cap) 36 4 ms.length (ms.flatMap Mk.cells)), (956, .blk Q9 (.cells #[.slice a ms.length cap] 80))]) 81 Try.func54 rfl rfl rfl ?_
  show T _ _ _ [(0, .pointer (some ⟨Q9, 0, none⟩)), (1, .agg #[.int .u64 m.i.t, .int .i64 m.i.s, .int .u64 m.i.q, .pointer m.ptr])] [(957, .row (.slice a ms.length cap) 36 4 ms.length (ms.flatMap Mk.cells)), (956, .blk Q9 (.cells #[.slice a ms.length cap] 80))]
  refine T_seq (T_region ?_)
  refine TL_new 954 (.cells #[.int .u64 m.i.t, .int .i64 m.i.s, .int .u64 m.i.q, .pointer m.ptr] 36) (fun B => .pointer (some ⟨B, 0, none⟩)) (fun _ _ hρ _ => r_box (hρ _ _ rfl) rfl) rfl rfl rfl (w_n rfl) ?_
  intro B1
  refine TL_seq ?_
  refine T_seq (T_region ?_)
  refine TL_q (.pointer (some ⟨Q9, 0, none⟩)) (fun _ _ hρ _ => r_move (hρ _ _ rfl)) rfl rfl rfl (w_n rfl) ?_
  refine TL_q (.pointer (some ⟨B1, 0, none⟩)) (fun _ _ hρ _ => r_fieldAddr fl36_0 sz32 (hρ _ _ rfl)) rfl rfl rfl (w_n rfl) ?_
  refine TL_q (.agg #[.int .u64 m.i.t, .int .i64 m.i.s, .int .u64 m.i.q]) (fun _ _ hρ hm => r_loadA ag32 sz32 (hρ _ _ rfl) (hm.at 954 rfl) rfl rfl) rfl rfl rfl (w_n rfl) ?_
  refine TL_call (.int .i64 ((aheadL (idsM ms) m.i : Nat) : Int)) (fun _ _ hρ _ => r_call (args := [.pointer (some ⟨Q9, 0, none⟩), .agg #[.int .u64 m.i.t, .int .i64 m.i.s, .int .u64 m.i.q]]) (enters_of Try.func59 (by kernel_rfl) rfl) (hρ _ _ rfl) ((cons2 (hρ _ _ rfl) (cons2 (hρ _ _ rfl) rfl))) rfl) (fun w hm => ahead_c ms a cap m.i Q9 w (SliceAt.own Mk.cells_len (hm.row 957 rfl) rfl rfl) (row_cap (hm.row 957 rfl)) (hm.at 956 rfl)) rfl rfl rfl (w_n rfl) ?_
  refine TL_q (.int .i64 ((aheadL (idsM ms) m.i : Nat) : Int)) (fun _ _ hρ _ => r_assign (hρ _ _ rfl)) rfl rfl rfl (w_n rfl) ?_
  refine TL_seq ?_
  refine T_seq ?_
  obtain ⟨n, hn⟩ : ∃ z, z = aheadL (idsM ms) m.i := ⟨_, rfl⟩
  rw [← hn]
  have hnl : n ≤ ms.length := by rw [hn, ← ids_len ms]; exact ahead_le _ _
  by_cases hlt : ((n : Nat) : Int) < ((ms.length : Nat) : Int)
  · skip
    obtain ⟨p9, hp9⟩ : ∃ x, ms[n]? = some x := ⟨_, List.getElem?_eq_getElem (by omega)⟩
    refine T_row 957 rfl (by omega) (fun g2 ha2 => ?_)
    subst ha2
    refine T_rowcap 957 rfl (fun hrc2 => ?_)
    by_cases heq : p9.i = m.i
    · skip
      refine T_seq (T_draw (V := [(0, .int .i64 ((n : Nat) : Int)), (1, .pointer (some ⟨Q9, 0, none⟩)), (2, .pointer (some ⟨Q9, 0, none⟩)), (3, .pointer (some ⟨Q9, 0, none⟩)), (4, .slice (some ⟨g2, 0, none⟩) ms.length cap), (5, .int .i64 ((ms.length : Nat) : Int)), (6, .bool true), (7, .bool true), (8, .pointer (some ⟨Q9, 0, none⟩)), (9, .pointer (some ⟨Q9, 0, none⟩)), (10, .pointer (some ⟨Q9, 0, none⟩)), (11, .slice (some ⟨g2, 0, none⟩) ms.length cap), (12, .int .i64 ((n : Nat) : Int)), (13, .pointer (some ⟨g2, 0 + n * 4, none⟩)), (14, .pointer (some ⟨g2, 0 + n * 4, none⟩)), (15, .agg #[.int .u64 p9.i.t, .int .i64 p9.i.s, .int .u64 p9.i.q]), (16, .pointer (some ⟨B1, 0, none⟩)), (17, .agg #[.int .u64 m.i.t, .int .i64 m.i.s, .int .u64 m.i.q]), (18, .bool true), (19, .bool true)]) [0, 0, 2, 6, 14, 30, 63, 127, 255, 511, 1023, 2047, 255, 8191, 16383, 32767, 255, 65791, 262143, 524287] [[(4, none)], [(0, none)], [(14, some 1)], [(15, some 2)], [(16, some 3)], [(17, some 4)], [(13, some 0), (18, some 5)], [(19, some 6)], [(0, none)], [(21, some 8)], [(22, some 9)], [(23, some 10)], [(4, none)], [(24, some 11), (25, some 12)], [(26, some 13)], [(27, some 14)], [(3, none)], [(29, some 16)], [(28, some 15), (30, some 17)], [(31, some 18), (20, some 7)]] 0 mixed (by kernel_rfl) ?_)
      refine G_last [0, 1, 2, 3, 4, 5, 6, 7, 8, 9, 10, 11, 12, 13, 14, 15, 16, 17, 18, 19] [(0, .pointer (some ⟨Q9, 0, none⟩)), (3, .pointer (some ⟨B1, 0, none⟩)), (4, .int .i64 ((n : Nat) : Int)), (32, .bool true)] (by kernel_rfl) (allM (all_cons (q_run (.int .i64 ((n : Nat) : Int)) rfl rfl (wv_n rfl) rfl (fun _ _ hρ _ => r_move (hρ _ _ rfl))) (all_cons (q_run (.pointer (some ⟨Q9, 0, none⟩)) rfl rfl (wv_n rfl) rfl (fun _ _ hρ _ => r_move (hρ _ _ rfl))) (all_cons (q_run (.pointer (some ⟨Q9, 0, none⟩)) rfl rfl (wv_n rfl) rfl (fun _ _ hρ _ => r_nilCheck (hρ _ _ rfl) rfl)) (all_cons (q_run (.pointer (some ⟨Q9, 0, none⟩)) rfl rfl (wv_n rfl) rfl (fun _ _ hρ _ => r_fieldAddr fl80_0 sz25 (hρ _ _ rfl))) (all_cons (q_run (.slice (some ⟨g2, 0, none⟩) ms.length cap) rfl rfl (wv_n rfl) rfl (fun _ _ hρ hm => r_load ag25 (hρ _ _ rfl) (hm.at 956 rfl) rfl)) (all_cons (q_run (.int .i64 ((ms.length : Nat) : Int)) rfl rfl (wv_n rfl) rfl (fun _ _ hρ _ => r_len sl25 (hρ _ _ rfl))) (all_cons (q_run (.bool true) rfl rfl (wv_n rfl) rfl (fun _ _ hρ _ => r_as (r_lss (hρ _ _ rfl) (hρ _ _ rfl)) (bool_as (decide_eq_true hlt)))) (all_cons (q_run (.bool true) rfl rfl (wv_n rfl) rfl (fun _ _ hρ _ => r_move (hρ _ _ rfl))) (all_cons (q_run (.pointer (some ⟨Q9, 0, none⟩)) rfl rfl (wv_y rfl rfl) rfl (fun _ _ hρ _ => r_move (hρ _ _ rfl))) (all_cons (q_run (.pointer (some ⟨Q9, 0, none⟩)) rfl rfl (wv_y rfl rfl) rfl (fun _ _ hρ _ => r_nilCheck (hρ _ _ rfl) rfl)) (all_cons (q_run (.pointer (some ⟨Q9, 0, none⟩)) rfl rfl (wv_y rfl rfl) rfl (fun _ _ hρ _ => r_fieldAddr fl80_0 sz25 (hρ _ _ rfl))) (all_cons (q_run (.slice (some ⟨g2, 0, none⟩) ms.length cap) rfl rfl (wv_y rfl rfl) rfl (fun _ _ hρ hm => r_load ag25 (hρ _ _ rfl) (hm.at 956 rfl) rfl)) (all_cons (q_run (.int .i64 ((n : Nat) : Int)) rfl rfl (wv_y rfl rfl) rfl (fun _ _ hρ _ => r_move (hρ _ _ rfl))) (all_cons (q_run (.pointer (some ⟨g2, 0 + n * 4, none⟩)) rfl rfl (wv_y rfl rfl) rfl (fun _ _ hρ _ => r_indexAddrS (i := n) sl25 sz36 (hρ _ _ rfl) (hρ _ _ rfl) (by omega))) (all_cons (q_run (.pointer (some ⟨g2, 0 + n * 4, none⟩)) rfl rfl (wv_y rfl rfl) rfl (fun _ _ hρ _ => r_fieldAddr (off := 0 + n * 4) fl36_0 sz32 (hρ _ _ rfl))) (all_cons (q_run (.agg #[.int .u64 p9.i.t, .int .i64 p9.i.s, .int .u64 p9.i.q]) rfl rfl (wv_y rfl rfl) rfl (fun _ _ hρ hm => r_loadOwnP (f := Mk.cells) (u := p9) (l := ms) ag32 sz32 (hρ _ _ rfl) (hm.row 957 rfl) rfl rfl Mk.cells_len hp9 rfl rfl)) (all_cons (q_run (.pointer (some ⟨B1, 0, none⟩)) rfl rfl (wv_y rfl rfl) rfl (fun _ _ hρ _ => r_fieldAddr fl36_0 sz32 (hρ _ _ rfl))) (all_cons (q_run (.agg #[.int .u64 m.i.t, .int .i64 m.i.s, .int .u64 m.i.q]) rfl rfl (wv_y rfl rfl) rfl (fun _ _ hρ hm => r_loadA ag32 sz32 (hρ _ _ rfl) (hm.at 954 rfl) rfl rfl)) (all_cons (q_run (.bool true) rfl rfl (wv_y rfl rfl) rfl (fun _ _ hρ _ => r_as (r_as (r_eqlA (by kernel_rfl) (hρ _ _ rfl) (hρ _ _ rfl) (run_equalI (l := [(0, .u64), (1, .i64), (2, .u64)]) (by kernel_rfl) rfl rfl)) (bool_as (eqTid p9.i m.i))) (bool_as (decide_eq_true heq)))) (all_cons (q_run (.bool true) rfl rfl (wv_n rfl) rfl (fun _ _ hρ _ => r_pick_t (hρ _ _ rfl) (hρ _ _ rfl))) all_nil))))))))))))))))))))) (end_old rfl rfl (end_old rfl rfl (end_old rfl rfl (end_new 19 rfl rfl end_nil)))) ?_
      refine T_cond_t rfl ?_
      refine T_seq (T_draw (V := [(0, .pointer (some ⟨Q9, 0, none⟩)), (1, .pointer (some ⟨Q9, 0, none⟩)), (2, .pointer (some ⟨Q9, 0, none⟩)), (3, .slice (some ⟨g2, 0, none⟩) ms.length cap), (4, .int .i64 ((n : Nat) : Int)), (5, .agg #[.int .u64 m.i.t, .int .i64 m.i.s, .int .u64 m.i.q, .pointer m.ptr]), (6, .pointer (some ⟨g2, 0 + n * 4, none⟩))]) [0, 1, 3, 7, 0, 0, 63, 127] [[(0, none)], [(33, some 0)], [(34, some 1)], [(35, some 2)], [(4, none)], [(3, none)], [(36, some 3), (37, some 4)], [(39, some 6), (38, some 5)]] 128 mixed (by kernel_rfl) ?_)
      refine G_step [0, 1, 2, 3, 4, 5, 6] 7 [] (by kernel_rfl) (allM (all_cons (q_run (.pointer (some ⟨Q9, 0, none⟩)) rfl rfl (wv_n rfl) rfl (fun _ _ hρ _ => r_move (hρ _ _ rfl))) (all_cons (q_run (.pointer (some ⟨Q9, 0, none⟩)) rfl rfl (wv_n rfl) rfl (fun _ _ hρ _ => r_nilCheck (hρ _ _ rfl) rfl)) (all_cons (q_run (.pointer (some ⟨Q9, 0, none⟩)) rfl rfl (wv_n rfl) rfl (fun _ _ hρ _ => r_fieldAddr fl80_0 sz25 (hρ _ _ rfl))) (all_cons (q_run (.slice (some ⟨g2, 0, none⟩) ms.length cap) rfl rfl (wv_n rfl) rfl (fun _ _ hρ hm => r_load ag25 (hρ _ _ rfl) (hm.at 956 rfl) rfl)) (all_cons (q_run (.int .i64 ((n : Nat) : Int)) rfl rfl (wv_n rfl) rfl (fun _ _ hρ _ => r_move (hρ _ _ rfl))) (all_cons (q_run (.agg #[.int .u64 m.i.t, .int .i64 m.i.s, .int .u64 m.i.q, .pointer m.ptr]) rfl rfl (wv_n rfl) rfl (fun _ _ hρ hm => r_loadA ag36 sz36 (hρ _ _ rfl) (hm.at 954 rfl) rfl rfl)) (all_cons (q_run (.pointer (some ⟨g2, 0 + n * 4, none⟩)) rfl rfl (wv_n rfl) rfl (fun _ _ hρ _ => r_indexAddrS (i := n) sl25 sz36 (hρ _ _ rfl) (hρ _ _ rfl) (by omega))) all_nil)))))))) (allM (all_cons ?_ all_nil))
      refine LOb_storeRow (f := Mk.cells) (l := ms) (u := m) (k := n) 957 [] rfl rfl rfl (wv_n rfl) rfl rfl sz36 Mk.cells_len (by omega) rfl rfl (by kernel_rfl) ?_
      refine G_last [] [(0, .pointer (some ⟨Q9, 0, none⟩)), (3, .pointer (some ⟨B1, 0, none⟩)), (4, .int .i64 ((n : Nat) : Int))] (by kernel_rfl) (allM all_nil) (end_old rfl rfl (end_old rfl rfl (end_old rfl rfl end_nil))) ?_
      refine T_ret' ?_
      refine p_then_r ?_
      refine ret_of rfl (.tuple #[]) (fun tmps w hk hm => results_none rfl _ _ _) (fun w hm => ?_)
      have hse := put_set hn hp9 heq h6
      have hl9 : ms.length = (ms.set n m).length := by rw [List.length_set]
      rw [hl9, hse] at hm
      exact ⟨((some ⟨g2, 0, none⟩), cap), trivial, rfl, hm.sub (sub_cons rfl (sub_cons rfl sub_nil))⟩
    · skip
      refine T_seq (T_draw (V := [(0, .int .i64 ((n : Nat) : Int)), (1, .pointer (some ⟨Q9, 0, none⟩)), (2, .pointer (some ⟨Q9, 0, none⟩)), (3, .pointer (some ⟨Q9, 0, none⟩)), (4, .slice (some ⟨g2, 0, none⟩) ms.length cap), (5, .int .i64 ((ms.length : Nat) : Int)), (6, .bool true), (7, .bool true), (8, .pointer (some ⟨Q9, 0, none⟩)), (9, .pointer (some ⟨Q9, 0, none⟩)), (10, .pointer (some ⟨Q9, 0, none⟩)), (11, .slice (some ⟨g2, 0, none⟩) ms.length cap), (12, .int .i64 ((n : Nat) : Int)), (13, .pointer (some ⟨g2, 0 + n * 4, none⟩)), (14, .pointer (some ⟨g2, 0 + n * 4, none⟩)), (15, .agg #[.int .u64 p9.i.t, .int .i64 p9.i.s, .int .u64 p9.i.q]), (16, .pointer (some ⟨B1, 0, none⟩)), (17, .agg #[.int .u64 m.i.t, .int .i64 m.i.s, .int .u64 m.i.q]), (18, .bool false), (19, .bool false)]) [0, 0, 2, 6, 14, 30, 63, 127, 255, 511, 1023, 2047, 255, 8191, 16383, 32767, 255, 65791, 262143, 524287] [[(4, none)], [(0, none)], [(14, some 1)], [(15, some 2)], [(16, some 3)], [(17, some 4)], [(13, some 0), (18, some 5)], [(19, some 6)], [(0, none)], [(21, some 8)], [(22, some 9)], [(23, some 10)], [(4, none)], [(24, some 11), (25, some 12)], [(26, some 13)], [(27, some 14)], [(3, none)], [(29, some 16)], [(28, some 15), (30, some 17)], [(31, some 18), (20, some 7)]] 0 mixed (by kernel_rfl) ?_)
      refine G_last [0, 1, 2, 3, 4, 5, 6, 7, 8, 9, 10, 11, 12, 13, 14, 15, 16, 17, 18, 19] [(0, .pointer (some ⟨Q9, 0, none⟩)), (3, .pointer (some ⟨B1, 0, none⟩)), (4, .int .i64 ((n : Nat) : Int)), (32, .bool false)] (by kernel_rfl) (allM (all_cons (q_run (.int .i64 ((n : Nat) : Int)) rfl rfl (wv_n rfl) rfl (fun _ _ hρ _ => r_move (hρ _ _ rfl))) (all_cons (q_run (.pointer (some ⟨Q9, 0, none⟩)) rfl rfl (wv_n rfl) rfl (fun _ _ hρ _ => r_move (hρ _ _ rfl))) (all_cons (q_run (.pointer (some ⟨Q9, 0, none⟩)) rfl rfl (wv_n rfl) rfl (fun _ _ hρ _ => r_nilCheck (hρ _ _ rfl) rfl)) (all_cons (q_run (.pointer (some ⟨Q9, 0, none⟩)) rfl rfl (wv_n rfl) rfl (fun _ _ hρ _ => r_fieldAddr fl80_0 sz25 (hρ _ _ rfl))) (all_cons (q_run (.slice (some ⟨g2, 0, none⟩) ms.length cap) rfl rfl (wv_n rfl) rfl (fun _ _ hρ hm => r_load ag25 (hρ _ _ rfl) (hm.at 956 rfl) rfl)) (all_cons (q_run (.int .i64 ((ms.length : Nat) : Int)) rfl rfl (wv_n rfl) rfl (fun _ _ hρ _ => r_len sl25 (hρ _ _ rfl))) (all_cons (q_run (.bool true) rfl rfl (wv_n rfl) rfl (fun _ _ hρ _ => r_as (r_lss (hρ _ _ rfl) (hρ _ _ rfl)) (bool_as (decide_eq_true hlt)))) (all_cons (q_run (.bool true) rfl rfl (wv_n rfl) rfl (fun _ _ hρ _ => r_move (hρ _ _ rfl))) (all_cons (q_run (.pointer (some ⟨Q9, 0, none⟩)) rfl rfl (wv_y rfl rfl) rfl (fun _ _ hρ _ => r_move (hρ _ _ rfl))) (all_cons (q_run (.pointer (some ⟨Q9, 0, none⟩)) rfl rfl (wv_y rfl rfl) rfl (fun _ _ hρ _ => r_nilCheck (hρ _ _ rfl) rfl)) (all_cons (q_run (.pointer (some ⟨Q9, 0, none⟩)) rfl rfl (wv_y rfl rfl) rfl (fun _ _ hρ _ => r_fieldAddr fl80_0 sz25 (hρ _ _ rfl))) (all_cons (q_run (.slice (some ⟨g2, 0, none⟩) ms.length cap) rfl rfl (wv_y rfl rfl) rfl (fun _ _ hρ hm => r_load ag25 (hρ _ _ rfl) (hm.at 956 rfl) rfl)) (all_cons (q_run (.int .i64 ((n : Nat) : Int)) rfl rfl (wv_y rfl rfl) rfl (fun _ _ hρ _ => r_move (hρ _ _ rfl))) (all_cons (q_run (.pointer (some ⟨g2, 0 + n * 4, none⟩)) rfl rfl (wv_y rfl rfl) rfl (fun _ _ hρ _ => r_indexAddrS (i := n) sl25 sz36 (hρ _ _ rfl) (hρ _ _ rfl) (by omega))) (all_cons (q_run (.pointer (some ⟨g2, 0 + n * 4, none⟩)) rfl rfl (wv_y rfl rfl) rfl (fun _ _ hρ _ => r_fieldAddr (off := 0 + n * 4) fl36_0 sz32 (hρ _ _ rfl))) (all_cons (q_run (.agg #[.int .u64 p9.i.t, .int .i64 p9.i.s, .int .u64 p9.i.q]) rfl rfl (wv_y rfl rfl) rfl (fun _ _ hρ hm => r_loadOwnP (f := Mk.cells) (u := p9) (l := ms) ag32 sz32 (hρ _ _ rfl) (hm.row 957 rfl) rfl rfl Mk.cells_len hp9 rfl rfl)) (all_cons (q_run (.pointer (some ⟨B1, 0, none⟩)) rfl rfl (wv_y rfl rfl) rfl (fun _ _ hρ _ => r_fieldAddr fl36_0 sz32 (hρ _ _ rfl))) (all_cons (q_run (.agg #[.int .u64 m.i.t, .int .i64 m.i.s, .int .u64 m.i.q]) rfl rfl (wv_y rfl rfl) rfl (fun _ _ hρ hm => r_loadA ag32 sz32 (hρ _ _ rfl) (hm.at 954 rfl) rfl rfl)) (all_cons (q_run (.bool false) rfl rfl (wv_y rfl rfl) rfl (fun _ _ hρ _ => r_as (r_as (r_eqlA (by kernel_rfl) (hρ _ _ rfl) (hρ _ _ rfl) (run_equalI (l := [(0, .u64), (1, .i64), (2, .u64)]) (by kernel_rfl) rfl rfl)) (bool_as (eqTid p9.i m.i))) (bool_as (decide_eq_false heq)))) (all_cons (q_run (.bool false) rfl rfl (wv_n rfl) rfl (fun _ _ hρ _ => r_pick_t (hρ _ _ rfl) (hρ _ _ rfl))) all_nil))))))))))))))))))))) (end_old rfl rfl (end_old rfl rfl (end_old rfl rfl (end_new 19 rfl rfl end_nil)))) ?_
      refine T_cond_f rfl ?_
      refine T_skip' ?_
      refine p_seq ?_
      refine T_seq (T_draw (V := [(0, .pointer (some ⟨Q9, 0, none⟩)), (1, .pointer (some ⟨Q9, 0, none⟩)), (2, .pointer (some ⟨Q9, 0, none⟩)), (3, .pointer (some ⟨Q9, 0, none⟩)), (4, .slice (some ⟨g2, 0, none⟩) ms.length cap), (5, .int .i64 ((n : Nat) : Int)), (6, .agg #[.int .u64 m.i.t, .int .i64 m.i.s, .int .u64 m.i.q, .pointer m.ptr])]) [0, 0, 2, 6, 14, 0, 0, 64, 254, 511, 1023, 2047] [[(0, none)], [(0, none)], [(41, some 1)], [(42, some 2)], [(43, some 3)], [(4, none)], [(3, none)], [(46, some 6)], [(44, some 4), (45, some 5), (47, some 7)], [(40, some 0)], [(49, some 9)], [(50, some 10), (48, some 8)]] 2432 mixed (by kernel_rfl) ?_)
      refine G_step [0, 1, 2, 3, 4, 5, 6] 7 [] (by kernel_rfl) (allM (all_cons (q_run (.pointer (some ⟨Q9, 0, none⟩)) rfl rfl (wv_n rfl) rfl (fun _ _ hρ _ => r_move (hρ _ _ rfl))) (all_cons (q_run (.pointer (some ⟨Q9, 0, none⟩)) rfl rfl (wv_n rfl) rfl (fun _ _ hρ _ => r_move (hρ _ _ rfl))) (all_cons (q_run (.pointer (some ⟨Q9, 0, none⟩)) rfl rfl (wv_n rfl) rfl (fun _ _ hρ _ => r_nilCheck (hρ _ _ rfl) rfl)) (all_cons (q_run (.pointer (some ⟨Q9, 0, none⟩)) rfl rfl (wv_n rfl) rfl (fun _ _ hρ _ => r_fieldAddr fl80_0 sz25 (hρ _ _ rfl))) (all_cons (q_run (.slice (some ⟨g2, 0, none⟩) ms.length cap) rfl rfl (wv_n rfl) rfl (fun _ _ hρ hm => r_load ag25 (hρ _ _ rfl) (hm.at 956 rfl) rfl)) (all_cons (q_run (.int .i64 ((n : Nat) : Int)) rfl rfl (wv_n rfl) rfl (fun _ _ hρ _ => r_move (hρ _ _ rfl))) (all_cons (q_run (.agg #[.int .u64 m.i.t, .int .i64 m.i.s, .int .u64 m.i.q, .pointer m.ptr]) rfl rfl (wv_n rfl) rfl (fun _ _ hρ hm => r_loadA ag36 sz36 (hρ _ _ rfl) (hm.at 954 rfl) rfl rfl)) all_nil)))))))) (allM (all_cons ?_ all_nil))
      refine LOb_new 1001 (.cells #[.int .u64 m.i.t, .int .i64 m.i.s, .int .u64 m.i.q, .pointer m.ptr] 36) (fun B => .slice (some ⟨B, 0, none⟩) 1 1) (fun B => []) rfl (wv_n rfl) rfl rfl (fun _ _ hρ _ => r_buildSlice (vs := [(0, .agg #[.int .u64 m.i.t, .int .i64 m.i.s, .int .u64 m.i.q, .pointer m.ptr])]) (by kernel_rfl) (cons2 (pair2 (hρ _ _ rfl)) rfl)) (fun B => by kernel_rfl) ?_
      intro B4
      refine G_step [0, 1, 2, 3, 4, 5] 8 [] (by kernel_rfl) (allM (all_cons (q_run (.pointer (some ⟨Q9, 0, none⟩)) rfl rfl (wv_n rfl) rfl (fun _ _ hρ _ => r_move (hρ _ _ rfl))) (all_cons (q_run (.pointer (some ⟨Q9, 0, none⟩)) rfl rfl (wv_n rfl) rfl (fun _ _ hρ _ => r_move (hρ _ _ rfl))) (all_cons (q_run (.pointer (some ⟨Q9, 0, none⟩)) rfl rfl (wv_n rfl) rfl (fun _ _ hρ _ => r_nilCheck (hρ _ _ rfl) rfl)) (all_cons (q_run (.pointer (some ⟨Q9, 0, none⟩)) rfl rfl (wv_n rfl) rfl (fun _ _ hρ _ => r_fieldAddr fl80_0 sz25 (hρ _ _ rfl))) (all_cons (q_run (.slice (some ⟨g2, 0, none⟩) ms.length cap) rfl rfl (wv_n rfl) rfl (fun _ _ hρ hm => r_load ag25 (hρ _ _ rfl) (hm.at 956 rfl) rfl)) (all_cons (q_run (.int .i64 ((n : Nat) : Int)) rfl rfl (wv_n rfl) rfl (fun _ _ hρ _ => r_move (hρ _ _ rfl))) all_nil))))))) (allM (all_cons ?_ all_nil))
      refine LOb_callH (fun _ : Option Addr × Nat => True) (fun (ai5, ci5) => .slice ai5 ((ms.take n ++ m :: ms.drop n).length) ci5) (fun (ai5, ci5) => [(957, .row (.slice ai5 ((ms.take n ++ m :: ms.drop n).length) ci5) 36 4 ((ms.take n ++ m :: ms.drop n).length) ((ms.take n ++ m :: ms.drop n).flatMap Mk.cells)), (956, .blk Q9 (.cells #[.slice (some ⟨g2, 0, none⟩) ms.length cap] 80))]) (fun _ => [(9, .pointer (some ⟨Q9, 0, none⟩)), (10, .pointer (some ⟨Q9, 0, none⟩))]) rfl (wv_n rfl) rfl rfl (fun _ _ hρ _ => r_call (args := [.slice (some ⟨g2, 0, none⟩) ms.length cap, .int .i64 ((n : Nat) : Int), .slice (some ⟨B4, 0, none⟩) 1 1]) (enters_of Try.func71 (by kernel_rfl) rfl) (hρ _ _ rfl) ((cons2 (hρ _ _ rfl) (cons2 (hρ _ _ rfl) (cons2 (hρ _ _ rfl) rfl)))) rfl) (fun w hm => ins_ht _ Q9 B4 _ m ms (some ⟨g2, 0, none⟩) cap n (by omega) (by omega) w ((hm.move 955 1001 rfl rfl).sub (sub_cons rfl (sub_cons rfl (sub_cons rfl sub_nil))))) (fun _ => by kernel_rfl) ?_
      rintro ⟨ai5, ci5⟩ -
      refine G_step [0, 9, 10] 11 [] (by kernel_rfl) (allM (all_cons (q_run (.pointer (some ⟨Q9, 0, none⟩)) rfl rfl (wv_n rfl) rfl (fun _ _ hρ _ => r_move (hρ _ _ rfl))) (all_cons (q_run (.pointer (some ⟨Q9, 0, none⟩)) rfl rfl (wv_n rfl) rfl (fun _ _ hρ _ => r_nilCheck (hρ _ _ rfl) rfl)) (all_cons (q_run (.pointer (some ⟨Q9, 0, none⟩)) rfl rfl (wv_n rfl) rfl (fun _ _ hρ _ => r_fieldAddr fl80_0 sz25 (hρ _ _ rfl))) all_nil)))) (allM (all_cons ?_ all_nil))
      refine LOb_store 956 (.cells #[.slice ai5 ((ms.take n ++ m :: ms.drop n).length) ci5] 80) [] rfl (wv_n rfl) rfl rfl rfl (fun _ _ hρ hm => r_store sz25 (hρ _ _ rfl) (hρ _ _ rfl) (hm.at 956 rfl) rfl rfl rfl rfl) (by kernel_rfl) ?_
      refine G_last [] [(0, .pointer (some ⟨Q9, 0, none⟩))] (by kernel_rfl) (allM all_nil) (end_old rfl rfl end_nil) ?_
      refine T_seq ?_
      have hin : insG Mk.i ms m = (ms.take n ++ m :: ms.drop n) := ins_new hn (fun p h9 => by rw [hp9] at h9; cases h9; exact heq)
      have hnl7 := ins_len (m := m) (ms := ms) (i := n) hnl
      obtain ⟨ns, hns⟩ : ∃ z, z = (ms.take n ++ m :: ms.drop n) := ⟨_, rfl⟩
      rw [← hns] at hin hnl7
      rw [← hns]
      by_cases h6c : ((ns.length : Nat) : Int) ≤ 6
      · skip
        refine T_seq (T_region ?_)
        refine TL_q (.pointer (some ⟨Q9, 0, none⟩)) (fun _ _ hρ _ => r_move (hρ _ _ rfl)) rfl rfl rfl (w_n rfl) ?_
        refine TL_q (.pointer (some ⟨Q9, 0, none⟩)) (fun _ _ hρ _ => r_nilCheck (hρ _ _ rfl) rfl) rfl rfl rfl (w_n rfl) ?_
        refine TL_q (.pointer (some ⟨Q9, 0, none⟩)) (fun _ _ hρ _ => r_fieldAddr fl80_0 sz25 (hρ _ _ rfl)) rfl rfl rfl (w_n rfl) ?_
        refine TL_q (.slice ai5 ns.length ci5) (fun _ _ hρ hm => r_load ag25 (hρ _ _ rfl) (hm.at 956 rfl) rfl) rfl rfl rfl (w_n rfl) ?_
        refine TL_q (.int .i64 ((ns.length : Nat) : Int)) (fun _ _ hρ _ => r_len sl25 (hρ _ _ rfl)) rfl rfl rfl (w_n rfl) ?_
        refine TL_q (.bool true) (fun _ _ hρ _ => r_as (r_leq (hρ _ _ rfl) (hρ _ _ rfl)) (bool_as (decide_eq_true h6c))) rfl rfl rfl (w_n rfl) ?_
        refine TL_seq ?_
        refine T_cond_t rfl ?_
        refine T_ret' ?_
        refine p_then_r ?_
        refine ret_of rfl (.tuple #[]) (fun tmps w hk hm => results_none rfl _ _ _) (fun w hm => ?_)
        have hpf := put_few hin (by omega)
        rw [hpf] at hm
        exact ⟨(ai5, ci5), trivial, rfl, hm.sub (sub_cons rfl (sub_cons rfl sub_nil))⟩
      · skip
        refine T_seq (T_region ?_)
        refine TL_q (.pointer (some ⟨Q9, 0, none⟩)) (fun _ _ hρ _ => r_move (hρ _ _ rfl)) rfl rfl rfl (w_n rfl) ?_
        refine TL_q (.pointer (some ⟨Q9, 0, none⟩)) (fun _ _ hρ _ => r_nilCheck (hρ _ _ rfl) rfl) rfl rfl rfl (w_n rfl) ?_
        refine TL_q (.pointer (some ⟨Q9, 0, none⟩)) (fun _ _ hρ _ => r_fieldAddr fl80_0 sz25 (hρ _ _ rfl)) rfl rfl rfl (w_n rfl) ?_
        refine TL_q (.slice ai5 ns.length ci5) (fun _ _ hρ hm => r_load ag25 (hρ _ _ rfl) (hm.at 956 rfl) rfl) rfl rfl rfl (w_n rfl) ?_
        refine TL_q (.int .i64 ((ns.length : Nat) : Int)) (fun _ _ hρ _ => r_len sl25 (hρ _ _ rfl)) rfl rfl rfl (w_n rfl) ?_
        refine TL_q (.bool false) (fun _ _ hρ _ => r_as (r_leq (hρ _ _ rfl) (hρ _ _ rfl)) (bool_as (decide_eq_false h6c))) rfl rfl rfl (w_n rfl) ?_
        refine TL_seq ?_
        refine T_cond_f rfl ?_
        refine T_skip' ?_
        refine p_seq ?_
        refine T_seq (T_region ?_)
        refine TL_new 961 (.cells #[.int .i64 0] 3) (fun B => .pointer (some ⟨B, 0, none⟩)) (fun _ _ _ _ => r_alloc (v := .int .i64 0) (by kernel_rfl) rfl) rfl rfl rfl (w_n rfl) ?_
        intro B6
        refine TL_new 962 (.cells #[.int .u64 0] 30) (fun B => .pointer (some ⟨B, 0, none⟩)) (fun _ _ _ _ => r_alloc (v := .int .u64 0) (by kernel_rfl) rfl) rfl rfl rfl (w_n rfl) ?_
        intro B7
        refine TL_store 961 (.cells #[.int .i64 0] 3) rfl (fun _ _ hρ hm => r_store sz3 (hρ _ _ rfl) (hρ _ _ rfl) (hm.at 961 rfl) rfl rfl rfl rfl) rfl rfl (w_n rfl) ?_
        refine TL_store 962 (.cells #[.int .u64 0] 30) rfl (fun _ _ hρ hm => r_store sz30 (hρ _ _ rfl) (hρ _ _ rfl) (hm.at 962 rfl) rfl rfl rfl rfl) rfl rfl (w_n rfl) ?_
        refine TL_seq ?_
        refine T_seq ?_
        refine T_seq (T_region ?_)
        refine TL_q (.pointer (some ⟨Q9, 0, none⟩)) (fun _ _ hρ _ => r_move (hρ _ _ rfl)) rfl rfl rfl (w_n rfl) ?_
        refine TL_callN (fun (_ : Nat) => True) (fun qi8 => .func (.func 82) #[] #[.pointer (some ⟨qi8, 0, none⟩)]) (fun qi8 => [(908, .blk qi8 (.cells #[.pointer (some ⟨Q9, 0, none⟩)] 76))]) (fun _ _ hρ _ => r_call (args := [.pointer (some ⟨Q9, 0, none⟩)]) (enters_of Try.func72 (by kernel_rfl) rfl) (hρ _ _ rfl) ((cons2 (hρ _ _ rfl) rfl)) rfl) (fun w _ => (inner_c Q9 w).mono fun e w' ⟨q, he, hb, r1⟩ => ⟨q, trivial, he, hb, newOk1 908 r1⟩) rfl rfl rfl (w_n rfl) ?_
        rintro qi8 -
        refine TL_seq ?_
        refine T_block ?_
        refine T_sub [(0, .pointer (some ⟨Q9, 0, none⟩)), (5, .pointer (some ⟨B6, 0, none⟩)), (6, .pointer (some ⟨B7, 0, none⟩)), (58, .func (.func 82) #[] #[.pointer (some ⟨qi8, 0, none⟩)])] [(908, .blk qi8 (.cells #[.pointer (some ⟨Q9, 0, none⟩)] 76)), (957, .row (.slice ai5 ns.length ci5) 36 4 ns.length (ns.flatMap Mk.cells)), (956, .blk Q9 (.cells #[.slice ai5 ns.length ci5] 80)), (961, .blk B6 (.cells #[.int .i64 0] 3)), (962, .blk B7 (.cells #[.int .u64 0] 30))] (sub_cons rfl (sub_cons rfl (sub_cons rfl (sub_cons rfl sub_nil)))) (sub_cons rfl (sub_cons rfl (sub_cons rfl (sub_cons rfl (sub_cons rfl sub_nil))))) ?_
        refine T_range (ι := Unit) (encs := encL) (xs := innL ns) rfl rfl (enters_of Try.func82 (by kernel_rfl) rfl) (fun _ => rfl) rfl 801 802 rfl (fun (k : Nat) (_u : Unit) => True) (fun (k : Nat) (_u : Unit) => [(908, .blk qi8 (.cells #[.pointer (some ⟨Q9, 0, none⟩)] 76)), (957, .row (.slice ai5 ns.length ci5) 36 4 ns.length (ns.flatMap Mk.cells)), (956, .blk Q9 (.cells #[.slice ai5 ns.length ci5] 80)), (961, .blk B6 (.cells #[.int .i64 (((outF (timesG Mk.i ns) k).1 : Nat) : Int)] 3)), (962, .blk B7 (.cells #[.int .u64 ((outF (timesG Mk.i ns) k).2)] 30))]) (fun _ _ => False) (fun _ => []) (fun x => [(0, .pointer (some ⟨Q9, 0, none⟩)), (5, .pointer (some ⟨B6, 0, none⟩)), (6, .pointer (some ⟨B7, 0, none⟩)), (58, .func (.func 82) #[] #[.pointer (some ⟨qi8, 0, none⟩)]), (7, .int .i64 ((x.1 : Nat) : Int)), (8, .int .u64 x.2)]) (fun D l rec => inner_iter _ (fun _ (_ : Unit) => True) _ qi8 Q9 ns ai5 ci5 (by omega) (fun _ _ w hm => hm.at 908 rfl) (fun _ _ w hm => hm.at 956 rfl) (fun _ _ w hm => SliceAt.own Mk.cells_len (hm.row 957 rfl) rfl rfl)) (fun _ _ => ⟨rfl, rfl⟩) (fun _ => ⟨rfl, rfl⟩) () trivial (sub_cons rfl (sub_cons rfl (sub_cons rfl (sub_cons rfl (sub_cons rfl sub_nil))))) ?_ ?_ ?_ (fun _ _ _ h => h.elim)
        · intro D1 l1 rec1 k x _u hx1 hp1
          refine T_sub [(0, .pointer (some ⟨Q9, 0, none⟩)), (5, .pointer (some ⟨B6, 0, none⟩)), (6, .pointer (some ⟨B7, 0, none⟩)), (58, .func (.func 82) #[] #[.pointer (some ⟨qi8, 0, none⟩)]), (59, .int .i64 ((x.1 : Nat) : Int)), (60, .int .u64 x.2)] [(801, .blk D1 (.deferred (some []))), (802, .blk l1 (.loop rec1)), (908, .blk qi8 (.cells #[.pointer (some ⟨Q9, 0, none⟩)] 76)), (957, .row (.slice ai5 ns.length ci5) 36 4 ns.length (ns.flatMap Mk.cells)), (956, .blk Q9 (.cells #[.slice ai5 ns.length ci5] 80)), (961, .blk B6 (.cells #[.int .i64 (((outF (timesG Mk.i ns) k).1 : Nat) : Int)] 3)), (962, .blk B7 (.cells #[.int .u64 ((outF (timesG Mk.i ns) k).2)] 30))] (sub_cons rfl (sub_cons rfl (sub_cons rfl (sub_cons rfl (sub_cons rfl (sub_cons rfl sub_nil)))))) (sub_cons rfl (sub_cons rfl (sub_cons rfl (sub_cons rfl (sub_cons rfl (sub_cons rfl (sub_cons rfl sub_nil))))))) ?_
          refine T_seq (T_region ?_)
          refine TL_q (.int .i64 ((x.1 : Nat) : Int)) (fun _ _ hρ _ => r_assign (hρ _ _ rfl)) rfl rfl rfl (w_n rfl) ?_
          refine TL_seq ?_
          refine T_region ?_
          refine TL_q (.int .u64 x.2) (fun _ _ hρ _ => r_assign (hρ _ _ rfl)) rfl rfl rfl (w_n rfl) ?_
          refine TL_nil ?_
          exact p_at () trivial (sub_cons rfl (sub_cons rfl (sub_cons rfl (sub_cons rfl (sub_cons rfl (sub_cons rfl sub_nil)))))) (sub_cons rfl (sub_cons rfl (sub_cons rfl (sub_cons rfl (sub_cons rfl (sub_cons rfl (sub_cons rfl sub_nil)))))))
        · intro D1 l1 rec1 k x _u hx1 hp1
          show T _ _ _ [(0, .pointer (some ⟨Q9, 0, none⟩)), (5, .pointer (some ⟨B6, 0, none⟩)), (6, .pointer (some ⟨B7, 0, none⟩)), (58, .func (.func 82) #[] #[.pointer (some ⟨qi8, 0, none⟩)]), (7, .int .i64 ((x.1 : Nat) : Int)), (8, .int .u64 x.2)] [(801, .blk D1 (.deferred (some []))), (802, .blk l1 (.loop { rec1 with state := .busy })), (908, .blk qi8 (.cells #[.pointer (some ⟨Q9, 0, none⟩)] 76)), (957, .row (.slice ai5 ns.length ci5) 36 4 ns.length (ns.flatMap Mk.cells)), (956, .blk Q9 (.cells #[.slice ai5 ns.length ci5] 80)), (961, .blk B6 (.cells #[.int .i64 (((outF (timesG Mk.i ns) k).1 : Nat) : Int)] 3)), (962, .blk B7 (.cells #[.int .u64 ((outF (timesG Mk.i ns) k).2)] 30))]
          refine T_block ?_
          by_cases hz0 : (((outF (timesG Mk.i ns) k).1 : Nat) : Int) = 0
          · skip
            refine T_seq (T_region ?_)
            refine TL_q (.int .i64 (((outF (timesG Mk.i ns) k).1 : Nat) : Int)) (fun _ _ hρ hm => r_load ag3 (hρ _ _ rfl) (hm.at 961 rfl) rfl) rfl rfl rfl (w_n rfl) ?_
            refine TL_q (.bool true) (fun _ _ hρ _ => r_as (r_eql (hρ _ _ rfl) (hρ _ _ rfl)) (bool_as (decide_eq_true hz0))) rfl rfl rfl (w_n rfl) ?_
            refine TL_q (.bool true) (fun _ _ hρ _ => r_move (hρ _ _ rfl)) rfl rfl rfl (w_n rfl) ?_
            refine TL_no rfl rfl (want_n 63 rfl rfl rfl) ?_
            refine TL_no rfl rfl (want_n 63 rfl rfl rfl) ?_
            refine TL_no rfl rfl (want_n 63 rfl rfl rfl) ?_
            refine TL_q (.bool true) (fun _ _ hρ _ => r_pick_t (hρ _ _ rfl) (hρ _ _ rfl)) rfl rfl rfl (w_n rfl) ?_
            refine TL_seq ?_
            refine T_cond_t rfl ?_
            refine T_region ?_
            refine TL_q (.int .i64 ((x.1 : Nat) : Int)) (fun _ _ hρ _ => r_move (hρ _ _ rfl)) rfl rfl rfl (w_n rfl) ?_
            refine TL_q (.int .u64 x.2) (fun _ _ hρ _ => r_move (hρ _ _ rfl)) rfl rfl rfl (w_n rfl) ?_
            refine TL_store 961 (.cells #[.int .i64 ((x.1 : Nat) : Int)] 3) rfl (fun _ _ hρ hm => r_store sz3 (hρ _ _ rfl) (hρ _ _ rfl) (hm.at 961 rfl) rfl rfl rfl rfl) rfl rfl (w_n rfl) ?_
            refine TL_store 962 (.cells #[.int .u64 x.2] 30) rfl (fun _ _ hρ hm => r_store sz30 (hρ _ _ rfl) (hρ _ _ rfl) (hm.at 962 rfl) rfl rfl rfl rfl) rfl rfl (w_n rfl) ?_
            refine TL_nil ?_
            refine p_blk_n ?_
            have hx8 := inn_get hx1
            have h9 : outF (timesG Mk.i ns) (k + 1) = x := (out_t (.inl (by omega))).trans hx8.symm
            exact p_round_n () trivial (sub_cons rfl (sub_cons rfl (sub_cons rfl (sub_cons rfl (sub_cons rfl (sub_cons (by rw [h9]; rfl) (sub_cons (by rw [h9]; rfl) sub_nil)))))))
          · skip
            by_cases hz1 : x.2 < (outF (timesG Mk.i ns) k).2
            · skip
              refine T_seq (T_region ?_)
              refine TL_q (.int .i64 (((outF (timesG Mk.i ns) k).1 : Nat) : Int)) (fun _ _ hρ hm => r_load ag3 (hρ _ _ rfl) (hm.at 961 rfl) rfl) rfl rfl rfl (w_n rfl) ?_
              refine TL_q (.bool false) (fun _ _ hρ _ => r_as (r_eql (hρ _ _ rfl) (hρ _ _ rfl)) (bool_as (decide_eq_false hz0))) rfl rfl rfl (w_n rfl) ?_
              refine TL_q (.bool false) (fun _ _ hρ _ => r_move (hρ _ _ rfl)) rfl rfl rfl (w_n rfl) ?_
              refine TL_q (.int .u64 x.2) (fun _ _ hρ _ => r_move (hρ _ _ rfl)) rfl rfl rfl (want_y 63 rfl rfl rfl) ?_
              refine TL_q (.int .u64 ((outF (timesG Mk.i ns) k).2)) (fun _ _ hρ hm => r_load ag30 (hρ _ _ rfl) (hm.at 962 rfl) rfl) rfl rfl rfl (want_y 63 rfl rfl rfl) ?_
              refine TL_q (.bool true) (fun _ _ hρ _ => r_as (r_lss (hρ _ _ rfl) (hρ _ _ rfl)) (bool_as (decide_eq_true hz1))) rfl rfl rfl (want_y 63 rfl rfl rfl) ?_
              refine TL_q (.bool true) (fun _ _ hρ _ => r_pick_f (hρ _ _ rfl) (hρ _ _ rfl)) rfl rfl rfl (w_n rfl) ?_
              refine TL_seq ?_
              refine T_cond_t rfl ?_
              refine T_region ?_
              refine TL_q (.int .i64 ((x.1 : Nat) : Int)) (fun _ _ hρ _ => r_move (hρ _ _ rfl)) rfl rfl rfl (w_n rfl) ?_
              refine TL_q (.int .u64 x.2) (fun _ _ hρ _ => r_move (hρ _ _ rfl)) rfl rfl rfl (w_n rfl) ?_
              refine TL_store 961 (.cells #[.int .i64 ((x.1 : Nat) : Int)] 3) rfl (fun _ _ hρ hm => r_store sz3 (hρ _ _ rfl) (hρ _ _ rfl) (hm.at 961 rfl) rfl rfl rfl rfl) rfl rfl (w_n rfl) ?_
              refine TL_store 962 (.cells #[.int .u64 x.2] 30) rfl (fun _ _ hρ hm => r_store sz30 (hρ _ _ rfl) (hρ _ _ rfl) (hm.at 962 rfl) rfl rfl rfl rfl) rfl rfl (w_n rfl) ?_
              refine TL_nil ?_
              refine p_blk_n ?_
              have hx8 := inn_get hx1
              have h9 : outF (timesG Mk.i ns) (k + 1) = x := (out_t (.inr (by rw [hx8] at hz1; exact hz1))).trans hx8.symm
              exact p_round_n () trivial (sub_cons rfl (sub_cons rfl (sub_cons rfl (sub_cons rfl (sub_cons rfl (sub_cons (by rw [h9]; rfl) (sub_cons (by rw [h9]; rfl) sub_nil)))))))
            · skip
              refine T_seq (T_region ?_)
              refine TL_q (.int .i64 (((outF (timesG Mk.i ns) k).1 : Nat) : Int)) (fun _ _ hρ hm => r_load ag3 (hρ _ _ rfl) (hm.at 961 rfl) rfl) rfl rfl rfl (w_n rfl) ?_
              refine TL_q (.bool false) (fun _ _ hρ _ => r_as (r_eql (hρ _ _ rfl) (hρ _ _ rfl)) (bool_as (decide_eq_false hz0))) rfl rfl rfl (w_n rfl) ?_
              refine TL_q (.bool false) (fun _ _ hρ _ => r_move (hρ _ _ rfl)) rfl rfl rfl (w_n rfl) ?_
              refine TL_q (.int .u64 x.2) (fun _ _ hρ _ => r_move (hρ _ _ rfl)) rfl rfl rfl (want_y 63 rfl rfl rfl) ?_
              refine TL_q (.int .u64 ((outF (timesG Mk.i ns) k).2)) (fun _ _ hρ hm => r_load ag30 (hρ _ _ rfl) (hm.at 962 rfl) rfl) rfl rfl rfl (want_y 63 rfl rfl rfl) ?_
              refine TL_q (.bool false) (fun _ _ hρ _ => r_as (r_lss (hρ _ _ rfl) (hρ _ _ rfl)) (bool_as (decide_eq_false hz1))) rfl rfl rfl (want_y 63 rfl rfl rfl) ?_
              refine TL_q (.bool false) (fun _ _ hρ _ => r_pick_f (hρ _ _ rfl) (hρ _ _ rfl)) rfl rfl rfl (w_n rfl) ?_
              refine TL_seq ?_
              refine T_cond_f rfl ?_
              refine T_skip' ?_
              refine p_blk_n ?_
              have hx8 := inn_get hx1
              have h9 : outF (timesG Mk.i ns) (k + 1) = outF (timesG Mk.i ns) k := out_f (fun h => h.elim (fun e => hz0 (by rw [e]; rfl)) (fun e => hz1 (by rw [hx8]; exact e)))
              exact p_round_n () trivial (sub_cons rfl (sub_cons rfl (sub_cons rfl (sub_cons rfl (sub_cons rfl (sub_cons (by rw [h9]; rfl) (sub_cons (by rw [h9]; rfl) sub_nil)))))))
        · intro D1 _u hp1
          refine p_sub [(0, .pointer (some ⟨Q9, 0, none⟩)), (5, .pointer (some ⟨B6, 0, none⟩)), (6, .pointer (some ⟨B7, 0, none⟩)), (58, .func (.func 82) #[] #[.pointer (some ⟨qi8, 0, none⟩)])] [(801, .blk D1 (.deferred (some []))), (908, .blk qi8 (.cells #[.pointer (some ⟨Q9, 0, none⟩)] 76)), (957, .row (.slice ai5 ns.length ci5) 36 4 ns.length (ns.flatMap Mk.cells)), (956, .blk Q9 (.cells #[.slice ai5 ns.length ci5] 80)), (961, .blk B6 (.cells #[.int .i64 (((outF (timesG Mk.i ns) (innL ns).length).1 : Nat) : Int)] 3)), (962, .blk B7 (.cells #[.int .u64 ((outF (timesG Mk.i ns) (innL ns).length).2)] 30))] (sub_cons rfl (sub_cons rfl (sub_cons rfl (sub_cons rfl sub_nil)))) (sub_cons rfl (sub_cons rfl (sub_cons rfl (sub_cons rfl (sub_cons rfl (sub_cons rfl sub_nil)))))) ?_
          refine p_blk_n ?_
          refine p_seq ?_
          have hl7 : ns.length = 7 := by omega
          obtain ⟨j, hj⟩ : ∃ z, z = (outF (timesG Mk.i ns) (innL ns).length).1 := ⟨_, rfl⟩
          have hjb := out_in hl7 hj
          rw [← hj]
          refine T_draw (V := [(0, .pointer (some ⟨Q9, 0, none⟩)), (1, .pointer (some ⟨Q9, 0, none⟩)), (2, .pointer (some ⟨Q9, 0, none⟩)), (3, .pointer (some ⟨Q9, 0, none⟩)), (4, .slice ai5 ns.length ci5), (5, .int .i64 ((j : Nat) : Int)), (6, .int .i64 ((j : Nat) : Int)), (7, .int .i64 ((j + 1 : Nat) : Int))]) [0, 0, 2, 6, 14, 0, 0, 64, 254, 511, 1023, 2047] [[(0, none)], [(0, none)], [(71, some 1)], [(72, some 2)], [(73, some 3)], [(5, none)], [(5, none)], [(76, some 6)], [(74, some 4), (75, some 5), (77, some 7)], [(70, some 0)], [(79, some 9)], [(80, some 10), (78, some 8)]] 2304 mixed (by kernel_rfl) ?_
          refine G_step [0, 1, 2, 3, 4, 5, 6, 7] 8 [] (by kernel_rfl) (allM (all_cons (q_run (.pointer (some ⟨Q9, 0, none⟩)) rfl rfl (wv_n rfl) rfl (fun _ _ hρ _ => r_move (hρ _ _ rfl))) (all_cons (q_run (.pointer (some ⟨Q9, 0, none⟩)) rfl rfl (wv_n rfl) rfl (fun _ _ hρ _ => r_move (hρ _ _ rfl))) (all_cons (q_run (.pointer (some ⟨Q9, 0, none⟩)) rfl rfl (wv_n rfl) rfl (fun _ _ hρ _ => r_nilCheck (hρ _ _ rfl) rfl)) (all_cons (q_run (.pointer (some ⟨Q9, 0, none⟩)) rfl rfl (wv_n rfl) rfl (fun _ _ hρ _ => r_fieldAddr fl80_0 sz25 (hρ _ _ rfl))) (all_cons (q_run (.slice ai5 ns.length ci5) rfl rfl (wv_n rfl) rfl (fun _ _ hρ hm => r_load ag25 (hρ _ _ rfl) (hm.at 956 rfl) rfl)) (all_cons (q_run (.int .i64 ((j : Nat) : Int)) rfl rfl (wv_n rfl) rfl (fun _ _ hρ hm => r_load ag3 (hρ _ _ rfl) (hm.at 961 rfl) rfl)) (all_cons (q_run (.int .i64 ((j : Nat) : Int)) rfl rfl (wv_n rfl) rfl (fun _ _ hρ hm => r_load ag3 (hρ _ _ rfl) (hm.at 961 rfl) rfl)) (all_cons (q_run (.int .i64 ((j + 1 : Nat) : Int)) rfl rfl (wv_n rfl) rfl (fun _ _ hρ _ => r_as (r_add (hρ _ _ rfl) (hρ _ _ rfl)) (int_as ((wrap64 (by omega) (by omega)).trans (by omega))))) all_nil))))))))) (allM (all_cons ?_ all_nil))
          refine LOb_callH (fun _ : Option Addr × Nat => True) (fun (ad10, cd10) => .slice ad10 ((ns.eraseIdx j).length) cd10) (fun (ad10, cd10) => [(957, .row (.slice ad10 ((ns.eraseIdx j).length) cd10) 36 4 ((ns.eraseIdx j).length) ((ns.eraseIdx j).flatMap Mk.cells)), (956, .blk Q9 (.cells #[.slice ai5 ns.length ci5] 80)), (801, .blk D1 (.deferred (some [])))]) (fun _ => [(9, .pointer (some ⟨Q9, 0, none⟩)), (10, .pointer (some ⟨Q9, 0, none⟩))]) rfl (wv_n rfl) rfl rfl (fun _ _ hρ _ => r_call (args := [.slice ai5 ns.length ci5, .int .i64 ((j : Nat) : Int), .int .i64 ((j + 1 : Nat) : Int)]) (enters_of Try.func73 (by kernel_rfl) rfl) (hρ _ _ rfl) ((cons2 (hρ _ _ rfl) (cons2 (hρ _ _ rfl) (cons2 (hρ _ _ rfl) rfl)))) rfl) (fun w hm => del_ht _ Q9 _ _ _ ns ai5 ci5 j (by omega) (by omega) (by omega) w (hm.sub (sub_cons rfl (sub_cons rfl (sub_cons rfl sub_nil))))) (fun _ => by kernel_rfl) ?_
          rintro ⟨ad10, cd10⟩ -
          refine G_step [0, 9, 10] 11 [] (by kernel_rfl) (allM (all_cons (q_run (.pointer (some ⟨Q9, 0, none⟩)) rfl rfl (wv_n rfl) rfl (fun _ _ hρ _ => r_move (hρ _ _ rfl))) (all_cons (q_run (.pointer (some ⟨Q9, 0, none⟩)) rfl rfl (wv_n rfl) rfl (fun _ _ hρ _ => r_nilCheck (hρ _ _ rfl) rfl)) (all_cons (q_run (.pointer (some ⟨Q9, 0, none⟩)) rfl rfl (wv_n rfl) rfl (fun _ _ hρ _ => r_fieldAddr fl80_0 sz25 (hρ _ _ rfl))) all_nil)))) (allM (all_cons ?_ all_nil))
          refine LOb_store 956 (.cells #[.slice ad10 ((ns.eraseIdx j).length) cd10] 80) [] rfl (wv_n rfl) rfl rfl rfl (fun _ _ hρ hm => r_store sz25 (hρ _ _ rfl) (hρ _ _ rfl) (hm.at 956 rfl) rfl rfl rfl rfl) (by kernel_rfl) ?_
          refine G_lastQ [] [] (by kernel_rfl) (allM all_nil) end_nil ?_
          refine p_end ?_
          refine ret_of1 801 D1 rfl rfl (.tuple #[]) (fun tmps w hk hm => results_none rfl _ _ _) (fun w hm => ?_)
          have hpf := put_many hin (by omega) hj
          rw [hpf] at hm
          exact ⟨(ad10, cd10), trivial, rfl, hm.sub (sub_cons rfl (sub_cons rfl sub_nil))⟩
  · skip
    refine T_seq (T_draw (V := [(0, .int .i64 ((n : Nat) : Int)), (1, .pointer (some ⟨Q9, 0, none⟩)), (2, .pointer (some ⟨Q9, 0, none⟩)), (3, .pointer (some ⟨Q9, 0, none⟩)), (4, .slice a ms.length cap), (5, .int .i64 ((ms.length : Nat) : Int)), (6, .bool false), (7, .bool false), (8, undef), (9, undef), (10, undef), (11, undef), (12, undef), (13, undef), (14, undef), (15, undef), (16, undef), (17, undef), (18, undef), (19, .bool false)]) [0, 0, 2, 6, 14, 30, 63, 127, 255, 511, 1023, 2047, 255, 8191, 16383, 32767, 255, 65791, 262143, 524287] [[(4, none)], [(0, none)], [(14, some 1)], [(15, some 2)], [(16, some 3)], [(17, some 4)], [(13, some 0), (18, some 5)], [(19, some 6)], [(0, none)], [(21, some 8)], [(22, some 9)], [(23, some 10)], [(4, none)], [(24, some 11), (25, some 12)], [(26, some 13)], [(27, some 14)], [(3, none)], [(29, some 16)], [(28, some 15), (30, some 17)], [(31, some 18), (20, some 7)]] 0 mixed (by kernel_rfl) ?_)
    refine G_last [0, 1, 2, 3, 4, 5, 6, 7, 8, 9, 10, 11, 12, 13, 14, 15, 16, 17, 18, 19] [(0, .pointer (some ⟨Q9, 0, none⟩)), (3, .pointer (some ⟨B1, 0, none⟩)), (4, .int .i64 ((n : Nat) : Int)), (32, .bool false)] (by kernel_rfl) (allM (all_cons (q_run (.int .i64 ((n : Nat) : Int)) rfl rfl (wv_n rfl) rfl (fun _ _ hρ _ => r_move (hρ _ _ rfl))) (all_cons (q_run (.pointer (some ⟨Q9, 0, none⟩)) rfl rfl (wv_n rfl) rfl (fun _ _ hρ _ => r_move (hρ _ _ rfl))) (all_cons (q_run (.pointer (some ⟨Q9, 0, none⟩)) rfl rfl (wv_n rfl) rfl (fun _ _ hρ _ => r_nilCheck (hρ _ _ rfl) rfl)) (all_cons (q_run (.pointer (some ⟨Q9, 0, none⟩)) rfl rfl (wv_n rfl) rfl (fun _ _ hρ _ => r_fieldAddr fl80_0 sz25 (hρ _ _ rfl))) (all_cons (q_run (.slice a ms.length cap) rfl rfl (wv_n rfl) rfl (fun _ _ hρ hm => r_load ag25 (hρ _ _ rfl) (hm.at 956 rfl) rfl)) (all_cons (q_run (.int .i64 ((ms.length : Nat) : Int)) rfl rfl (wv_n rfl) rfl (fun _ _ hρ _ => r_len sl25 (hρ _ _ rfl))) (all_cons (q_run (.bool false) rfl rfl (wv_n rfl) rfl (fun _ _ hρ _ => r_as (r_lss (hρ _ _ rfl) (hρ _ _ rfl)) (bool_as (decide_eq_false hlt)))) (all_cons (q_run (.bool false) rfl rfl (wv_n rfl) rfl (fun _ _ hρ _ => r_move (hρ _ _ rfl))) (all_cons (q_no rfl rfl (wv_no rfl rfl)) (all_cons (q_no rfl rfl (wv_no rfl rfl)) (all_cons (q_no rfl rfl (wv_no rfl rfl)) (all_cons (q_no rfl rfl (wv_no rfl rfl)) (all_cons (q_no rfl rfl (wv_no rfl rfl)) (all_cons (q_no rfl rfl (wv_no rfl rfl)) (all_cons (q_no rfl rfl (wv_no rfl rfl)) (all_cons (q_no rfl rfl (wv_no rfl rfl)) (all_cons (q_no rfl rfl (wv_no rfl rfl)) (all_cons (q_no rfl rfl (wv_no rfl rfl)) (all_cons (q_no rfl rfl (wv_no rfl rfl)) (all_cons (q_run (.bool false) rfl rfl (wv_n rfl) rfl (fun _ _ hρ _ => r_pick_f (hρ _ _ rfl) (hρ _ _ rfl))) all_nil))))))))))))))))))))) (end_old rfl rfl (end_old rfl rfl (end_old rfl rfl (end_new 19 rfl rfl end_nil)))) ?_
    refine T_cond_f rfl ?_
    refine T_skip' ?_
    refine p_seq ?_
    refine T_seq (T_draw (V := [(0, .pointer (some ⟨Q9, 0, none⟩)), (1, .pointer (some ⟨Q9, 0, none⟩)), (2, .pointer (some ⟨Q9, 0, none⟩)), (3, .pointer (some ⟨Q9, 0, none⟩)), (4, .slice a ms.length cap), (5, .int .i64 ((n : Nat) : Int)), (6, .agg #[.int .u64 m.i.t, .int .i64 m.i.s, .int .u64 m.i.q, .pointer m.ptr])]) [0, 0, 2, 6, 14, 0, 0, 64, 254, 511, 1023, 2047] [[(0, none)], [(0, none)], [(41, some 1)], [(42, some 2)], [(43, some 3)], [(4, none)], [(3, none)], [(46, some 6)], [(44, some 4), (45, some 5), (47, some 7)], [(40, some 0)], [(49, some 9)], [(50, some 10), (48, some 8)]] 2432 mixed (by kernel_rfl) ?_)
    refine G_step [0, 1, 2, 3, 4, 5, 6] 7 [] (by kernel_rfl) (allM (all_cons (q_run (.pointer (some ⟨Q9, 0, none⟩)) rfl rfl (wv_n rfl) rfl (fun _ _ hρ _ => r_move (hρ _ _ rfl))) (all_cons (q_run (.pointer (some ⟨Q9, 0, none⟩)) rfl rfl (wv_n rfl) rfl (fun _ _ hρ _ => r_move (hρ _ _ rfl))) (all_cons (q_run (.pointer (some ⟨Q9, 0, none⟩)) rfl rfl (wv_n rfl) rfl (fun _ _ hρ _ => r_nilCheck (hρ _ _ rfl) rfl)) (all_cons (q_run (.pointer (some ⟨Q9, 0, none⟩)) rfl rfl (wv_n rfl) rfl (fun _ _ hρ _ => r_fieldAddr fl80_0 sz25 (hρ _ _ rfl))) (all_cons (q_run (.slice a ms.length cap) rfl rfl (wv_n rfl) rfl (fun _ _ hρ hm => r_load ag25 (hρ _ _ rfl) (hm.at 956 rfl) rfl)) (all_cons (q_run (.int .i64 ((n : Nat) : Int)) rfl rfl (wv_n rfl) rfl (fun _ _ hρ _ => r_move (hρ _ _ rfl))) (all_cons (q_run (.agg #[.int .u64 m.i.t, .int .i64 m.i.s, .int .u64 m.i.q, .pointer m.ptr]) rfl rfl (wv_n rfl) rfl (fun _ _ hρ hm => r_loadA ag36 sz36 (hρ _ _ rfl) (hm.at 954 rfl) rfl rfl)) all_nil)))))))) (allM (all_cons ?_ all_nil))
    refine LOb_new 1002 (.cells #[.int .u64 m.i.t, .int .i64 m.i.s, .int .u64 m.i.q, .pointer m.ptr] 36) (fun B => .slice (some ⟨B, 0, none⟩) 1 1) (fun B => []) rfl (wv_n rfl) rfl rfl (fun _ _ hρ _ => r_buildSlice (vs := [(0, .agg #[.int .u64 m.i.t, .int .i64 m.i.s, .int .u64 m.i.q, .pointer m.ptr])]) (by kernel_rfl) (cons2 (pair2 (hρ _ _ rfl)) rfl)) (fun B => by kernel_rfl) ?_
    intro B12
    refine G_step [0, 1, 2, 3, 4, 5] 8 [] (by kernel_rfl) (allM (all_cons (q_run (.pointer (some ⟨Q9, 0, none⟩)) rfl rfl (wv_n rfl) rfl (fun _ _ hρ _ => r_move (hρ _ _ rfl))) (all_cons (q_run (.pointer (some ⟨Q9, 0, none⟩)) rfl rfl (wv_n rfl) rfl (fun _ _ hρ _ => r_move (hρ _ _ rfl))) (all_cons (q_run (.pointer (some ⟨Q9, 0, none⟩)) rfl rfl (wv_n rfl) rfl (fun _ _ hρ _ => r_nilCheck (hρ _ _ rfl) rfl)) (all_cons (q_run (.pointer (some ⟨Q9, 0, none⟩)) rfl rfl (wv_n rfl) rfl (fun _ _ hρ _ => r_fieldAddr fl80_0 sz25 (hρ _ _ rfl))) (all_cons (q_run (.slice a ms.length cap) rfl rfl (wv_n rfl) rfl (fun _ _ hρ hm => r_load ag25 (hρ _ _ rfl) (hm.at 956 rfl) rfl)) (all_cons (q_run (.int .i64 ((n : Nat) : Int)) rfl rfl (wv_n rfl) rfl (fun _ _ hρ _ => r_move (hρ _ _ rfl))) all_nil))))))) (allM (all_cons ?_ all_nil))
    refine LOb_callH (fun _ : Option Addr × Nat => True) (fun (ai13, ci13) => .slice ai13 ((ms.take n ++ m :: ms.drop n).length) ci13) (fun (ai13, ci13) => [(957, .row (.slice ai13 ((ms.take n ++ m :: ms.drop n).length) ci13) 36 4 ((ms.take n ++ m :: ms.drop n).length) ((ms.take n ++ m :: ms.drop n).flatMap Mk.cells)), (956, .blk Q9 (.cells #[.slice a ms.length cap] 80))]) (fun _ => [(9, .pointer (some ⟨Q9, 0, none⟩)), (10, .pointer (some ⟨Q9, 0, none⟩))]) rfl (wv_n rfl) rfl rfl (fun _ _ hρ _ => r_call (args := [.slice a ms.length cap, .int .i64 ((n : Nat) : Int), .slice (some ⟨B12, 0, none⟩) 1 1]) (enters_of Try.func71 (by kernel_rfl) rfl) (hρ _ _ rfl) ((cons2 (hρ _ _ rfl) (cons2 (hρ _ _ rfl) (cons2 (hρ _ _ rfl) rfl)))) rfl) (fun w hm => ins_ht _ Q9 B12 _ m ms a cap n (by omega) (by omega) w ((hm.move 955 1002 rfl rfl).sub (sub_cons rfl (sub_cons rfl (sub_cons rfl sub_nil))))) (fun _ => by kernel_rfl) ?_
    rintro ⟨ai13, ci13⟩ -
    refine G_step [0, 9, 10] 11 [] (by kernel_rfl) (allM (all_cons (q_run (.pointer (some ⟨Q9, 0, none⟩)) rfl rfl (wv_n rfl) rfl (fun _ _ hρ _ => r_move (hρ _ _ rfl))) (all_cons (q_run (.pointer (some ⟨Q9, 0, none⟩)) rfl rfl (wv_n rfl) rfl (fun _ _ hρ _ => r_nilCheck (hρ _ _ rfl) rfl)) (all_cons (q_run (.pointer (some ⟨Q9, 0, none⟩)) rfl rfl (wv_n rfl) rfl (fun _ _ hρ _ => r_fieldAddr fl80_0 sz25 (hρ _ _ rfl))) all_nil)))) (allM (all_cons ?_ all_nil))
    refine LOb_store 956 (.cells #[.slice ai13 ((ms.take n ++ m :: ms.drop n).length) ci13] 80) [] rfl (wv_n rfl) rfl rfl rfl (fun _ _ hρ hm => r_store sz25 (hρ _ _ rfl) (hρ _ _ rfl) (hm.at 956 rfl) rfl rfl rfl rfl) (by kernel_rfl) ?_
    refine G_last [] [(0, .pointer (some ⟨Q9, 0, none⟩))] (by kernel_rfl) (allM all_nil) (end_old rfl rfl end_nil) ?_
    refine T_seq ?_
    have hin : insG Mk.i ms m = (ms.take n ++ m :: ms.drop n) := ins_new hn (fun p h9 => absurd (List.getElem?_eq_some_iff.1 h9).1 (by omega))
    have hnl7 := ins_len (m := m) (ms := ms) (i := n) hnl
    obtain ⟨ns, hns⟩ : ∃ z, z = (ms.take n ++ m :: ms.drop n) := ⟨_, rfl⟩
    rw [← hns] at hin hnl7
    rw [← hns]
    by_cases h6c : ((ns.length : Nat) : Int) ≤ 6
    · skip
      refine T_seq (T_region ?_)
      refine TL_q (.pointer (some ⟨Q9, 0, none⟩)) (fun _ _ hρ _ => r_move (hρ _ _ rfl)) rfl rfl rfl (w_n rfl) ?_
      refine TL_q (.pointer (some ⟨Q9, 0, none⟩)) (fun _ _ hρ _ => r_nilCheck (hρ _ _ rfl) rfl) rfl rfl rfl (w_n rfl) ?_
      refine TL_q (.pointer (some ⟨Q9, 0, none⟩)) (fun _ _ hρ _ => r_fieldAddr fl80_0 sz25 (hρ _ _ rfl)) rfl rfl rfl (w_n rfl) ?_
      refine TL_q (.slice ai13 ns.length ci13) (fun _ _ hρ hm => r_load ag25 (hρ _ _ rfl) (hm.at 956 rfl) rfl) rfl rfl rfl (w_n rfl) ?_
      refine TL_q (.int .i64 ((ns.length : Nat) : Int)) (fun _ _ hρ _ => r_len sl25 (hρ _ _ rfl)) rfl rfl rfl (w_n rfl) ?_
      refine TL_q (.bool true) (fun _ _ hρ _ => r_as (r_leq (hρ _ _ rfl) (hρ _ _ rfl)) (bool_as (decide_eq_true h6c))) rfl rfl rfl (w_n rfl) ?_
      refine TL_seq ?_
      refine T_cond_t rfl ?_
      refine T_ret' ?_
      refine p_then_r ?_
      refine ret_of rfl (.tuple #[]) (fun tmps w hk hm => results_none rfl _ _ _) (fun w hm => ?_)
      have hpf := put_few hin (by omega)
      rw [hpf] at hm
      exact ⟨(ai13, ci13), trivial, rfl, hm.sub (sub_cons rfl (sub_cons rfl sub_nil))⟩
    · skip
      refine T_seq (T_region ?_)
      refine TL_q (.pointer (some ⟨Q9, 0, none⟩)) (fun _ _ hρ _ => r_move (hρ _ _ rfl)) rfl rfl rfl (w_n rfl) ?_
      refine TL_q (.pointer (some ⟨Q9, 0, none⟩)) (fun _ _ hρ _ => r_nilCheck (hρ _ _ rfl) rfl) rfl rfl rfl (w_n rfl) ?_
      refine TL_q (.pointer (some ⟨Q9, 0, none⟩)) (fun _ _ hρ _ => r_fieldAddr fl80_0 sz25 (hρ _ _ rfl)) rfl rfl rfl (w_n rfl) ?_
      refine TL_q (.slice ai13 ns.length ci13) (fun _ _ hρ hm => r_load ag25 (hρ _ _ rfl) (hm.at 956 rfl) rfl) rfl rfl rfl (w_n rfl) ?_
      refine TL_q (.int .i64 ((ns.length : Nat) : Int)) (fun _ _ hρ _ => r_len sl25 (hρ _ _ rfl)) rfl rfl rfl (w_n rfl) ?_
      refine TL_q (.bool false) (fun _ _ hρ _ => r_as (r_leq (hρ _ _ rfl) (hρ _ _ rfl)) (bool_as (decide_eq_false h6c))) rfl rfl rfl (w_n rfl) ?_
      refine TL_seq ?_
      refine T_cond_f rfl ?_
      refine T_skip' ?_
      refine p_seq ?_
      refine T_seq (T_region ?_)
      refine TL_new 961 (.cells #[.int .i64 0] 3) (fun B => .pointer (some ⟨B, 0, none⟩)) (fun _ _ _ _ => r_alloc (v := .int .i64 0) (by kernel_rfl) rfl) rfl rfl rfl (w_n rfl) ?_
      intro B14
      refine TL_new 962 (.cells #[.int .u64 0] 30) (fun B => .pointer (some ⟨B, 0, none⟩)) (fun _ _ _ _ => r_alloc (v := .int .u64 0) (by kernel_rfl) rfl) rfl rfl rfl (w_n rfl) ?_
      intro B15
      refine TL_store 961 (.cells #[.int .i64 0] 3) rfl (fun _ _ hρ hm => r_store sz3 (hρ _ _ rfl) (hρ _ _ rfl) (hm.at 961 rfl) rfl rfl rfl rfl) rfl rfl (w_n rfl) ?_
      refine TL_store 962 (.cells #[.int .u64 0] 30) rfl (fun _ _ hρ hm => r_store sz30 (hρ _ _ rfl) (hρ _ _ rfl) (hm.at 962 rfl) rfl rfl rfl rfl) rfl rfl (w_n rfl) ?_
      refine TL_seq ?_
      refine T_seq ?_
      refine T_seq (T_region ?_)
      refine TL_q (.pointer (some ⟨Q9, 0, none⟩)) (fun _ _ hρ _ => r_move (hρ _ _ rfl)) rfl rfl rfl (w_n rfl) ?_
      refine TL_callN (fun (_ : Nat) => True) (fun qi16 => .func (.func 82) #[] #[.pointer (some ⟨qi16, 0, none⟩)]) (fun qi16 => [(908, .blk qi16 (.cells #[.pointer (some ⟨Q9, 0, none⟩)] 76))]) (fun _ _ hρ _ => r_call (args := [.pointer (some ⟨Q9, 0, none⟩)]) (enters_of Try.func72 (by kernel_rfl) rfl) (hρ _ _ rfl) ((cons2 (hρ _ _ rfl) rfl)) rfl) (fun w _ => (inner_c Q9 w).mono fun e w' ⟨q, he, hb, r1⟩ => ⟨q, trivial, he, hb, newOk1 908 r1⟩) rfl rfl rfl (w_n rfl) ?_
      rintro qi16 -
      refine TL_seq ?_
      refine T_block ?_
      refine T_sub [(0, .pointer (some ⟨Q9, 0, none⟩)), (5, .pointer (some ⟨B14, 0, none⟩)), (6, .pointer (some ⟨B15, 0, none⟩)), (58, .func (.func 82) #[] #[.pointer (some ⟨qi16, 0, none⟩)])] [(908, .blk qi16 (.cells #[.pointer (some ⟨Q9, 0, none⟩)] 76)), (957, .row (.slice ai13 ns.length ci13) 36 4 ns.length (ns.flatMap Mk.cells)), (956, .blk Q9 (.cells #[.slice ai13 ns.length ci13] 80)), (961, .blk B14 (.cells #[.int .i64 0] 3)), (962, .blk B15 (.cells #[.int .u64 0] 30))] (sub_cons rfl (sub_cons rfl (sub_cons rfl (sub_cons rfl sub_nil)))) (sub_cons rfl (sub_cons rfl (sub_cons rfl (sub_cons rfl (sub_cons rfl sub_nil))))) ?_
      refine T_range (ι := Unit) (encs := encL) (xs := innL ns) rfl rfl (enters_of Try.func82 (by kernel_rfl) rfl) (fun _ => rfl) rfl 801 802 rfl (fun (k : Nat) (_u : Unit) => True) (fun (k : Nat) (_u : Unit) => [(908, .blk qi16 (.cells #[.pointer (some ⟨Q9, 0, none⟩)] 76)), (957, .row (.slice ai13 ns.length ci13) 36 4 ns.length (ns.flatMap Mk.cells)), (956, .blk Q9 (.cells #[.slice ai13 ns.length ci13] 80)), (961, .blk B14 (.cells #[.int .i64 (((outF (timesG Mk.i ns) k).1 : Nat) : Int)] 3)), (962, .blk B15 (.cells #[.int .u64 ((outF (timesG Mk.i ns) k).2)] 30))]) (fun _ _ => False) (fun _ => []) (fun x => [(0, .pointer (some ⟨Q9, 0, none⟩)), (5, .pointer (some ⟨B14, 0, none⟩)), (6, .pointer (some ⟨B15, 0, none⟩)), (58, .func (.func 82) #[] #[.pointer (some ⟨qi16, 0, none⟩)]), (7, .int .i64 ((x.1 : Nat) : Int)), (8, .int .u64 x.2)]) (fun D l rec => inner_iter _ (fun _ (_ : Unit) => True) _ qi16 Q9 ns ai13 ci13 (by omega) (fun _ _ w hm => hm.at 908 rfl) (fun _ _ w hm => hm.at 956 rfl) (fun _ _ w hm => SliceAt.own Mk.cells_len (hm.row 957 rfl) rfl rfl)) (fun _ _ => ⟨rfl, rfl⟩) (fun _ => ⟨rfl, rfl⟩) () trivial (sub_cons rfl (sub_cons rfl (sub_cons rfl (sub_cons rfl (sub_cons rfl sub_nil))))) ?_ ?_ ?_ (fun _ _ _ h => h.elim)
      · intro D2 l2 rec2 k x _u hx2 hp2
        refine T_sub [(0, .pointer (some ⟨Q9, 0, none⟩)), (5, .pointer (some ⟨B14, 0, none⟩)), (6, .pointer (some ⟨B15, 0, none⟩)), (58, .func (.func 82) #[] #[.pointer (some ⟨qi16, 0, none⟩)]), (59, .int .i64 ((x.1 : Nat) : Int)), (60, .int .u64 x.2)] [(801, .blk D2 (.deferred (some []))), (802, .blk l2 (.loop rec2)), (908, .blk qi16 (.cells #[.pointer (some ⟨Q9, 0, none⟩)] 76)), (957, .row (.slice ai13 ns.length ci13) 36 4 ns.length (ns.flatMap Mk.cells)), (956, .blk Q9 (.cells #[.slice ai13 ns.length ci13] 80)), (961, .blk B14 (.cells #[.int .i64 (((outF (timesG Mk.i ns) k).1 : Nat) : Int)] 3)), (962, .blk B15 (.cells #[.int .u64 ((outF (timesG Mk.i ns) k).2)] 30))] (sub_cons rfl (sub_cons rfl (sub_cons rfl (sub_cons rfl (sub_cons rfl (sub_cons rfl sub_nil)))))) (sub_cons rfl (sub_cons rfl (sub_cons rfl (sub_cons rfl (sub_cons rfl (sub_cons rfl (sub_cons rfl sub_nil))))))) ?_
        refine T_seq (T_region ?_)
        refine TL_q (.int .i64 ((x.1 : Nat) : Int)) (fun _ _ hρ _ => r_assign (hρ _ _ rfl)) rfl rfl rfl (w_n rfl) ?_
        refine TL_seq ?_
        refine T_region ?_
        refine TL_q (.int .u64 x.2) (fun _ _ hρ _ => r_assign (hρ _ _ rfl)) rfl rfl rfl (w_n rfl) ?_
        refine TL_nil ?_
        exact p_at () trivial (sub_cons rfl (sub_cons rfl (sub_cons rfl (sub_cons rfl (sub_cons rfl (sub_cons rfl sub_nil)))))) (sub_cons rfl (sub_cons rfl (sub_cons rfl (sub_cons rfl (sub_cons rfl (sub_cons rfl (sub_cons rfl sub_nil)))))))
      · intro D2 l2 rec2 k x _u hx2 hp2
        show T _ _ _ [(0, .pointer (some ⟨Q9, 0, none⟩)), (5, .pointer (some ⟨B14, 0, none⟩)), (6, .pointer (some ⟨B15, 0, none⟩)), (58, .func (.func 82) #[] #[.pointer (some ⟨qi16, 0, none⟩)]), (7, .int .i64 ((x.1 : Nat) : Int)), (8, .int .u64 x.2)] [(801, .blk D2 (.deferred (some []))), (802, .blk l2 (.loop { rec2 with state := .busy })), (908, .blk qi16 (.cells #[.pointer (some ⟨Q9, 0, none⟩)] 76)), (957, .row (.slice ai13 ns.length ci13) 36 4 ns.length (ns.flatMap Mk.cells)), (956, .blk Q9 (.cells #[.slice ai13 ns.length ci13] 80)), (961, .blk B14 (.cells #[.int .i64 (((outF (timesG Mk.i ns) k).1 : Nat) : Int)] 3)), (962, .blk B15 (.cells #[.int .u64 ((outF (timesG Mk.i ns) k).2)] 30))]
        refine T_block ?_
        by_cases hz0 : (((outF (timesG Mk.i ns) k).1 : Nat) : Int) = 0
        · skip
          refine T_seq (T_region ?_)
          refine TL_q (.int .i64 (((outF (timesG Mk.i ns) k).1 : Nat) : Int)) (fun _ _ hρ hm => r_load ag3 (hρ _ _ rfl) (hm.at 961 rfl) rfl) rfl rfl rfl (w_n rfl) ?_
          refine TL_q (.bool true) (fun _ _ hρ _ => r_as (r_eql (hρ _ _ rfl) (hρ _ _ rfl)) (bool_as (decide_eq_true hz0))) rfl rfl rfl (w_n rfl) ?_
          refine TL_q (.bool true) (fun _ _ hρ _ => r_move (hρ _ _ rfl)) rfl rfl rfl (w_n rfl) ?_
          refine TL_no rfl rfl (want_n 63 rfl rfl rfl) ?_
          refine TL_no rfl rfl (want_n 63 rfl rfl rfl) ?_
          refine TL_no rfl rfl (want_n 63 rfl rfl rfl) ?_
          refine TL_q (.bool true) (fun _ _ hρ _ => r_pick_t (hρ _ _ rfl) (hρ _ _ rfl)) rfl rfl rfl (w_n rfl) ?_
          refine TL_seq ?_
          refine T_cond_t rfl ?_
          refine T_region ?_
          refine TL_q (.int .i64 ((x.1 : Nat) : Int)) (fun _ _ hρ _ => r_move (hρ _ _ rfl)) rfl rfl rfl (w_n rfl) ?_
          refine TL_q (.int .u64 x.2) (fun _ _ hρ _ => r_move (hρ _ _ rfl)) rfl rfl rfl (w_n rfl) ?_
          refine TL_store 961 (.cells #[.int .i64 ((x.1 : Nat) : Int)] 3) rfl (fun _ _ hρ hm => r_store sz3 (hρ _ _ rfl) (hρ _ _ rfl) (hm.at 961 rfl) rfl rfl rfl rfl) rfl rfl (w_n rfl) ?_
          refine TL_store 962 (.cells #[.int .u64 x.2] 30) rfl (fun _ _ hρ hm => r_store sz30 (hρ _ _ rfl) (hρ _ _ rfl) (hm.at 962 rfl) rfl rfl rfl rfl) rfl rfl (w_n rfl) ?_
          refine TL_nil ?_
          refine p_blk_n ?_
          have hx8 := inn_get hx2
          have h9 : outF (timesG Mk.i ns) (k + 1) = x := (out_t (.inl (by omega))).trans hx8.symm
          exact p_round_n () trivial (sub_cons rfl (sub_cons rfl (sub_cons rfl (sub_cons rfl (sub_cons rfl (sub_cons (by rw [h9]; rfl) (sub_cons (by rw [h9]; rfl) sub_nil)))))))
        · skip
          by_cases hz1 : x.2 < (outF (timesG Mk.i ns) k).2
          · skip
            refine T_seq (T_region ?_)
            refine TL_q (.int .i64 (((outF (timesG Mk.i ns) k).1 : Nat) : Int)) (fun _ _ hρ hm => r_load ag3 (hρ _ _ rfl) (hm.at 961 rfl) rfl) rfl rfl rfl (w_n rfl) ?_
            refine TL_q (.bool false) (fun _ _ hρ _ => r_as (r_eql (hρ _ _ rfl) (hρ _ _ rfl)) (bool_as (decide_eq_false hz0))) rfl rfl rfl (w_n rfl) ?_
            refine TL_q (.bool false) (fun _ _ hρ _ => r_move (hρ _ _ rfl)) rfl rfl rfl (w_n rfl) ?_
            refine TL_q (.int .u64 x.2) (fun _ _ hρ _ => r_move (hρ _ _ rfl)) rfl rfl rfl (want_y 63 rfl rfl rfl) ?_
            refine TL_q (.int .u64 ((outF (timesG Mk.i ns) k).2)) (fun _ _ hρ hm => r_load ag30 (hρ _ _ rfl) (hm.at 962 rfl) rfl) rfl rfl rfl (want_y 63 rfl rfl rfl) ?_
            refine TL_q (.bool true) (fun _ _ hρ _ => r_as (r_lss (hρ _ _ rfl) (hρ _ _ rfl)) (bool_as (decide_eq_true hz1))) rfl rfl rfl (want_y 63 rfl rfl rfl) ?_
            refine TL_q (.bool true) (fun _ _ hρ _ => r_pick_f (hρ _ _ rfl) (hρ _ _ rfl)) rfl rfl rfl (w_n rfl) ?_
            refine TL_seq ?_
            refine T_cond_t rfl ?_
            refine T_region ?_
            refine TL_q (.int .i64 ((x.1 : Nat) : Int)) (fun _ _ hρ _ => r_move (hρ _ _ rfl)) rfl rfl rfl (w_n rfl) ?_
            refine TL_q (.int .u64 x.2) (fun _ _ hρ _ => r_move (hρ _ _ rfl)) rfl rfl rfl (w_n rfl) ?_
            refine TL_store 961 (.cells #[.int .i64 ((x.1 : Nat) : Int)] 3) rfl (fun _ _ hρ hm => r_store sz3 (hρ _ _ rfl) (hρ _ _ rfl) (hm.at 961 rfl) rfl rfl rfl rfl) rfl rfl (w_n rfl) ?_
            refine TL_store 962 (.cells #[.int .u64 x.2] 30) rfl (fun _ _ hρ hm => r_store sz30 (hρ _ _ rfl) (hρ _ _ rfl) (hm.at 962 rfl) rfl rfl rfl rfl) rfl rfl (w_n rfl) ?_
            refine TL_nil ?_
            refine p_blk_n ?_
            have hx8 := inn_get hx2
            have h9 : outF (timesG Mk.i ns) (k + 1) = x := (out_t (.inr (by rw [hx8] at hz1; exact hz1))).trans hx8.symm
            exact p_round_n () trivial (sub_cons rfl (sub_cons rfl (sub_cons rfl (sub_cons rfl (sub_cons rfl (sub_cons (by rw [h9]; rfl) (sub_cons (by rw [h9]; rfl) sub_nil)))))))
          · skip
            refine T_seq (T_region ?_)
            refine TL_q (.int .i64 (((outF (timesG Mk.i ns) k).1 : Nat) : Int)) (fun _ _ hρ hm => r_load ag3 (hρ _ _ rfl) (hm.at 961 rfl) rfl) rfl rfl rfl (w_n rfl) ?_
            refine TL_q (.bool false) (fun _ _ hρ _ => r_as (r_eql (hρ _ _ rfl) (hρ _ _ rfl)) (bool_as (decide_eq_false hz0))) rfl rfl rfl (w_n rfl) ?_
            refine TL_q (.bool false) (fun _ _ hρ _ => r_move (hρ _ _ rfl)) rfl rfl rfl (w_n rfl) ?_
            refine TL_q (.int .u64 x.2) (fun _ _ hρ _ => r_move (hρ _ _ rfl)) rfl rfl rfl (want_y 63 rfl rfl rfl) ?_
            refine TL_q (.int .u64 ((outF (timesG Mk.i ns) k).2)) (fun _ _ hρ hm => r_load ag30 (hρ _ _ rfl) (hm.at 962 rfl) rfl) rfl rfl rfl (want_y 63 rfl rfl rfl) ?_
            refine TL_q (.bool false) (fun _ _ hρ _ => r_as (r_lss (hρ _ _ rfl) (hρ _ _ rfl)) (bool_as (decide_eq_false hz1))) rfl rfl rfl (want_y 63 rfl rfl rfl) ?_
            refine TL_q (.bool false) (fun _ _ hρ _ => r_pick_f (hρ _ _ rfl) (hρ _ _ rfl)) rfl rfl rfl (w_n rfl) ?_
            refine TL_seq ?_
            refine T_cond_f rfl ?_
            refine T_skip' ?_
            refine p_blk_n ?_
            have hx8 := inn_get hx2
            have h9 : outF (timesG Mk.i ns) (k + 1) = outF (timesG Mk.i ns) k := out_f (fun h => h.elim (fun e => hz0 (by rw [e]; rfl)) (fun e => hz1 (by rw [hx8]; exact e)))
            exact p_round_n () trivial (sub_cons rfl (sub_cons rfl (sub_cons rfl (sub_cons rfl (sub_cons rfl (sub_cons (by rw [h9]; rfl) (sub_cons (by rw [h9]; rfl) sub_nil)))))))
      · intro D2 _u hp2
        refine p_sub [(0, .pointer (some ⟨Q9, 0, none⟩)), (5, .pointer (some ⟨B14, 0, none⟩)), (6, .pointer (some ⟨B15, 0, none⟩)), (58, .func (.func 82) #[] #[.pointer (some ⟨qi16, 0, none⟩)])] [(801, .blk D2 (.deferred (some []))), (908, .blk qi16 (.cells #[.pointer (some ⟨Q9, 0, none⟩)] 76)), (957, .row (.slice ai13 ns.length ci13) 36 4 ns.length (ns.flatMap Mk.cells)), (956, .blk Q9 (.cells #[.slice ai13 ns.length ci13] 80)), (961, .blk B14 (.cells #[.int .i64 (((outF (timesG Mk.i ns) (innL ns).length).1 : Nat) : Int)] 3)), (962, .blk B15 (.cells #[.int .u64 ((outF (timesG Mk.i ns) (innL ns).length).2)] 30))] (sub_cons rfl (sub_cons rfl (sub_cons rfl (sub_cons rfl sub_nil)))) (sub_cons rfl (sub_cons rfl (sub_cons rfl (sub_cons rfl (sub_cons rfl (sub_cons rfl sub_nil)))))) ?_
        refine p_blk_n ?_
        refine p_seq ?_
        have hl7 : ns.length = 7 := by omega
        obtain ⟨j, hj⟩ : ∃ z, z = (outF (timesG Mk.i ns) (innL ns).length).1 := ⟨_, rfl⟩
        have hjb := out_in hl7 hj
        rw [← hj]
        refine T_draw (V := [(0, .pointer (some ⟨Q9, 0, none⟩)), (1, .pointer (some ⟨Q9, 0, none⟩)), (2, .pointer (some ⟨Q9, 0, none⟩)), (3, .pointer (some ⟨Q9, 0, none⟩)), (4, .slice ai13 ns.length ci13), (5, .int .i64 ((j : Nat) : Int)), (6, .int .i64 ((j : Nat) : Int)), (7, .int .i64 ((j + 1 : Nat) : Int))]) [0, 0, 2, 6, 14, 0, 0, 64, 254, 511, 1023, 2047] [[(0, none)], [(0, none)], [(71, some 1)], [(72, some 2)], [(73, some 3)], [(5, none)], [(5, none)], [(76, some 6)], [(74, some 4), (75, some 5), (77, some 7)], [(70, some 0)], [(79, some 9)], [(80, some 10), (78, some 8)]] 2304 mixed (by kernel_rfl) ?_
        refine G_step [0, 1, 2, 3, 4, 5, 6, 7] 8 [] (by kernel_rfl) (allM (all_cons (q_run (.pointer (some ⟨Q9, 0, none⟩)) rfl rfl (wv_n rfl) rfl (fun _ _ hρ _ => r_move (hρ _ _ rfl))) (all_cons (q_run (.pointer (some ⟨Q9, 0, none⟩)) rfl rfl (wv_n rfl) rfl (fun _ _ hρ _ => r_move (hρ _ _ rfl))) (all_cons (q_run (.pointer (some ⟨Q9, 0, none⟩)) rfl rfl (wv_n rfl) rfl (fun _ _ hρ _ => r_nilCheck (hρ _ _ rfl) rfl)) (all_cons (q_run (.pointer (some ⟨Q9, 0, none⟩)) rfl rfl (wv_n rfl) rfl (fun _ _ hρ _ => r_fieldAddr fl80_0 sz25 (hρ _ _ rfl))) (all_cons (q_run (.slice ai13 ns.length ci13) rfl rfl (wv_n rfl) rfl (fun _ _ hρ hm => r_load ag25 (hρ _ _ rfl) (hm.at 956 rfl) rfl)) (all_cons (q_run (.int .i64 ((j : Nat) : Int)) rfl rfl (wv_n rfl) rfl (fun _ _ hρ hm => r_load ag3 (hρ _ _ rfl) (hm.at 961 rfl) rfl)) (all_cons (q_run (.int .i64 ((j : Nat) : Int)) rfl rfl (wv_n rfl) rfl (fun _ _ hρ hm => r_load ag3 (hρ _ _ rfl) (hm.at 961 rfl) rfl)) (all_cons (q_run (.int .i64 ((j + 1 : Nat) : Int)) rfl rfl (wv_n rfl) rfl (fun _ _ hρ _ => r_as (r_add (hρ _ _ rfl) (hρ _ _ rfl)) (int_as ((wrap64 (by omega) (by omega)).trans (by omega))))) all_nil))))))))) (allM (all_cons ?_ all_nil))
        refine LOb_callH (fun _ : Option Addr × Nat => True) (fun (ad18, cd18) => .slice ad18 ((ns.eraseIdx j).length) cd18) (fun (ad18, cd18) => [(957, .row (.slice ad18 ((ns.eraseIdx j).length) cd18) 36 4 ((ns.eraseIdx j).length) ((ns.eraseIdx j).flatMap Mk.cells)), (956, .blk Q9 (.cells #[.slice ai13 ns.length ci13] 80)), (801, .blk D2 (.deferred (some [])))]) (fun _ => [(9, .pointer (some ⟨Q9, 0, none⟩)), (10, .pointer (some ⟨Q9, 0, none⟩))]) rfl (wv_n rfl) rfl rfl (fun _ _ hρ _ => r_call (args := [.slice ai13 ns.length ci13, .int .i64 ((j : Nat) : Int), .int .i64 ((j + 1 : Nat) : Int)]) (enters_of Try.func73 (by kernel_rfl) rfl) (hρ _ _ rfl) ((cons2 (hρ _ _ rfl) (cons2 (hρ _ _ rfl) (cons2 (hρ _ _ rfl) rfl)))) rfl) (fun w hm => del_ht _ Q9 _ _ _ ns ai13 ci13 j (by omega) (by omega) (by omega) w (hm.sub (sub_cons rfl (sub_cons rfl (sub_cons rfl sub_nil))))) (fun _ => by kernel_rfl) ?_
        rintro ⟨ad18, cd18⟩ -
        refine G_step [0, 9, 10] 11 [] (by kernel_rfl) (allM (all_cons (q_run (.pointer (some ⟨Q9, 0, none⟩)) rfl rfl (wv_n rfl) rfl (fun _ _ hρ _ => r_move (hρ _ _ rfl))) (all_cons (q_run (.pointer (some ⟨Q9, 0, none⟩)) rfl rfl (wv_n rfl) rfl (fun _ _ hρ _ => r_nilCheck (hρ _ _ rfl) rfl)) (all_cons (q_run (.pointer (some ⟨Q9, 0, none⟩)) rfl rfl (wv_n rfl) rfl (fun _ _ hρ _ => r_fieldAddr fl80_0 sz25 (hρ _ _ rfl))) all_nil)))) (allM (all_cons ?_ all_nil))
        refine LOb_store 956 (.cells #[.slice ad18 ((ns.eraseIdx j).length) cd18] 80) [] rfl (wv_n rfl) rfl rfl rfl (fun _ _ hρ hm => r_store sz25 (hρ _ _ rfl) (hρ _ _ rfl) (hm.at 956 rfl) rfl rfl rfl rfl) (by kernel_rfl) ?_
        refine G_lastQ [] [] (by kernel_rfl) (allM all_nil) end_nil ?_
        refine p_end ?_
        refine ret_of1 801 D2 rfl rfl (.tuple #[]) (fun tmps w hk hm => results_none rfl _ _ _) (fun w hm => ?_)
        have hpf := put_many hin (by omega) hj
        rw [hpf] at hm
        exact ⟨(ad18, cd18), trivial, rfl, hm.sub (sub_cons rfl (sub_cons rfl sub_nil))⟩
end Go.Proofs.Ytmihoejecpcmjaa
/- marks: canvases that are painted; rows of marks (plainly). -/
namespace Go.Proofs.Ytmihoejecpcmjaa
open Go Go.RowKit
def andI (x y : Int) : Int := IntKind.wrap .i64 ((BitVec.ofInt IntKind.i64.bits x &&& BitVec.ofInt IntKind.i64.bits y).toNat : Int)
def shr4 (x : Int) : Int := x.fdiv (2 ^ 4)
section
variable {P : Program} {w : World} {ρ : Operand → Value} {d : Option Tmp} {ty : TypeId} {ps : String} {af : Array Edge} {g : Option (Nat × Bool)} {x y : Operand} {t t' : TypeId}
theorem r_andI {a b : Int} (hx : ρ x = .int .i64 a) (hy : ρ y = .int .i64 b) : (execOp ρ (mk d (.binOp .and t x y t') ty ps af g)).run P w = .ok (.value (.int .i64 (andI a b))) w :=
  r_arith hx hy (by
    simp only [binOp, ne_eq, not_true_eq_false, if_false]
    unfold Op.intBits
    rfl)
theorem r_shr4 {a : Int} (hx : ρ x = .int .i64 a) (hy : ρ y = .int .u64 4) : (execOp ρ (mk d (.binOp .shr t x y t') ty ps af g)).run P w = .ok (.value (.int .i64 (shr4 a))) w :=
  r_bin (.inl ⟨by decide, by decide⟩) hx hy (by
    show (Op.shift .shr .i64 _ .u64 _).run P w = _
    unfold Op.shift
    rw [if_neg (by decide)]
    rfl)
end
abbrev dotN (n : Int) : Dt := ⟨andI n 15, andI (shr4 n) 7, ⟨IntKind.wrap .u8 n, 0, 0, 255⟩⟩
def paint (n : Int) : List T64 := putDs 2 1 (List.replicate (2 * 1) zeroT) [dotN n]
/-- The canvas of a number. -/
def Painted (c : Cv) (n : Int) : Prop := c.wd = 2 ∧ c.hg = 1 ∧ c.ts = paint n
/-- Marks whose canvases are of the numbers from b on. -/
def PaintOk (ms : List Mk) (cs : List Cv) (b : Nat) : Prop := ∀ j m, ms[j]? = some m → ∃ c, c ∈ cs ∧ m.c = some c ∧ Painted c ((b + j : Nat) : Int)
theorem ids_app (l : List Mk) (m : Mk) : idsM (l ++ [m]) = idsM l ++ [m.i] := by unfold idsM; rw [List.map_append]; rfl
@[simp] theorem ptr_mk (i : Tid) (c : Cv) : Mk.ptr ⟨i, some c⟩ = some ⟨c.p, 0, none⟩ := rfl
theorem paint_nil (b : Nat) : PaintOk [] [] b := fun j m h => by simp at h
theorem paint_more {ms : List Mk} {cs : List Cv} {b : Nat} (h : PaintOk ms cs b) {i : Tid} {d : Cv} (hd : Painted d ((b + ms.length : Nat) : Int)) : PaintOk (ms ++ [⟨i, some d⟩]) (d :: cs) b := fun j m hm => by
  rw [List.getElem?_append] at hm
  split at hm
  · obtain ⟨c, hc, h1, h2⟩ := h j m hm
    exact ⟨c, List.mem_cons_of_mem _ hc, h1, h2⟩
  · rename_i hj
    have : j = ms.length := by
      have := (List.getElem?_eq_some_iff.1 hm).1
      simp only [List.length_singleton] at this; omega
    subst this
    rw [Nat.sub_self] at hm
    cases hm
    exact ⟨d, List.mem_cons_self, rfl, hd⟩
theorem paint_some {ms : List Mk} {cs : List Cv} {b : Nat} (h : PaintOk ms cs b) : ∀ m ∈ ms, m.c.isSome = true := fun m hm => by
  obtain ⟨j, hj⟩ := List.getElem?_of_mem hm
  obtain ⟨c, _, h1, _⟩ := h j m hj
  rw [h1]; rfl
end Go.Proofs.Ytmihoejecpcmjaa
/- net and journal: Put; rows of marks. Printed by a program of this seat's prover. -/
namespace Go.Proofs.Ytmihoejecpcmjaa
open Go Go.RowKit
set_option maxRecDepth 10000
theorem put_ok (ms : List Mk) (a : Option Addr) (cap : Nat) (xs : List Mk) (b : Option Addr) (capb : Nat) (w : World) (hv : SliceAt w a cap 4 Mk.cells ms) (hcap : cap ≤ Go.maxLen) (hu : SliceAt w b capb 4 Mk.cells xs) (hcapb : capb ≤ Go.maxLen) (hmk : marksB ms = true) (hok : xs.all okM = true) : Calls Try.prog 21 #[.slice a ms.length cap, .slice b xs.length capb] w fun e w' => ∃ a' cap', e = .returned (.tuple #[.slice a' (putsG Mk.i ms xs).length cap', .int .i64 0]) ∧ Below w.heap.size w w' ∧ w'.ownsRow w.heap.size 36 4 (.slice a' (putsG Mk.i ms xs).length cap') (putsG Mk.i ms xs).length ((putsG Mk.i ms xs).flatMap Mk.cells) := by
  have hvl := hv.1
  unfold Go.maxLen at hcap
  have hm6 := (marksB_iff.1 hmk).2.2
  have hul := hu.1
  unfold Go.maxLen at hcapb
  have han : ¬ (xs.any (fun x : Mk => !okM x)) = true := fun e => by have := all_not okM xs; rw [hok, e] at this; cases this
  refine calls_of_T (l := [.slice a ms.length cap, .slice b xs.length capb]) 35 Try.func21 rfl rfl rfl ?_
  show T _ _ _ [(0, .slice a ms.length cap), (1, .slice b xs.length capb)] []
  refine T_seq (T_region ?_)
  refine TL_q (.slice none 0 0) (fun _ _ hρ _ => r_assign (hρ _ _ rfl)) rfl rfl rfl (w_n rfl) ?_
  refine TL_q (.int .i64 0) (fun _ _ hρ _ => r_assign (hρ _ _ rfl)) rfl rfl rfl (w_n rfl) ?_
  refine TL_seq ?_
  refine T_seq ?_
  refine T_seq (T_region ?_)
  refine TL_q (.slice a ms.length cap) (fun _ _ hρ _ => r_move (hρ _ _ rfl)) rfl rfl rfl (w_n rfl) ?_
  refine TL_call (.int .i64 0) (fun _ _ hρ _ => r_call (args := [.slice a ms.length cap]) (enters_of Try.func14 (by kernel_rfl) rfl) (hρ _ _ rfl) ((cons2 (hρ _ _ rfl) rfl)) rfl) (fun w hm => (check_c ms a cap w (hv.keep hm.ext) hcap).mono fun _ _ h => ⟨h.1.trans (congrArg Ending.returned (int_as (if_pos hmk))), h.2⟩) rfl rfl rfl (w_n rfl) ?_
  refine TL_q (.bool false) (fun _ _ hρ _ => r_as (r_neq (hρ _ _ rfl) (hρ _ _ rfl)) (by rfl)) rfl rfl rfl (w_n rfl) ?_
  refine TL_q (.bool false) (fun _ _ hρ _ => r_move (hρ _ _ rfl)) rfl rfl rfl (w_n rfl) ?_
  refine TL_q (.slice b xs.length capb) (fun _ _ hρ _ => r_move (hρ _ _ rfl)) rfl rfl rfl (want_y 13 rfl rfl rfl) ?_
  refine TL_call (.bool false) (fun _ _ hρ _ => r_call (args := [.slice b xs.length capb, .func (.func 52) #[] #[]]) (enters_of Try.func51 (by kernel_rfl) rfl) (hρ _ _ rfl) ((cons2 (hρ _ _ rfl) (cons2 (hρ _ _ rfl) rfl))) rfl) (fun w hm => (mcon_c xs b capb w (hu.keep hm.ext) hcapb 52 #[] (enters_of Try.func52 (by kernel_rfl) rfl) (fun x : Mk => !okM x) (fun w2 hb2 x hx => put1_c x w2)).mono fun _ _ h => ⟨h.1.trans (congrArg Ending.returned (bool_as (eq_false_of_ne_true han))), h.2⟩) rfl rfl rfl (want_y 13 rfl rfl rfl) ?_
  refine TL_q (.bool false) (fun _ _ hρ _ => r_pick_f (hρ _ _ rfl) (hρ _ _ rfl)) rfl rfl rfl (w_n rfl) ?_
  refine TL_seq ?_
  refine T_cond_f rfl ?_
  refine T_skip' ?_
  refine p_seq ?_
  refine T_seq (T_region ?_)
  refine TL_q (.slice a ms.length cap) (fun _ _ hρ _ => r_move (hρ _ _ rfl)) rfl rfl rfl (w_n rfl) ?_
  refine TL_callN (fun (_ : Nat × Option Addr) => True) (fun (qo1, ao1) => .pointer (some ⟨qo1, 0, none⟩)) (fun (qo1, ao1) => [(956, .blk qo1 (.cells #[.slice ao1 ((ms).length) ((ms).length)] 80)), (957, .row (.slice ao1 ((ms).length) ((ms).length)) 36 4 ((ms).length) ((ms).flatMap Mk.cells))]) (fun _ _ hρ _ => r_call (args := [.slice a ms.length cap]) (enters_of Try.func53 (by kernel_rfl) rfl) (hρ _ _ rfl) ((cons2 (hρ _ _ rfl) rfl)) rfl) (fun w hm => (of_c ms a cap w (hv.keep hm.ext) hcap (by omega)).mono fun e w' ⟨q, a', he, hb, hn⟩ => ⟨(q, a'), trivial, he, hb, newOk_at 956 957 (by decide) hn⟩) rfl rfl rfl (w_n rfl) ?_
  rintro ⟨qo1, ao1⟩ -
  refine TL_q (.pointer (some ⟨qo1, 0, none⟩)) (fun _ _ hρ _ => r_assign (hρ _ _ rfl)) rfl rfl rfl (w_n rfl) ?_
  refine TL_seq ?_
  refine T_seq (T_region ?_)
  refine TL_q (.pointer (some ⟨qo1, 0, none⟩)) (fun _ _ hρ _ => r_move (hρ _ _ rfl)) rfl rfl rfl (w_n rfl) ?_
  refine TL_q (.func (.func 54) #[.pointer (some ⟨qo1, 0, none⟩)] #[]) (fun _ _ hρ _ => r_makeFunc (map_arr (cons2 (hρ _ _ rfl) rfl)) (by simp)) rfl rfl rfl (w_n rfl) ?_
  refine TL_q (.func (.func 54) #[.pointer (some ⟨qo1, 0, none⟩)] #[]) (fun _ _ hρ _ => r_assign (hρ _ _ rfl)) rfl rfl rfl (w_n rfl) ?_
  refine TL_seq ?_
  refine T_seq ?_
  refine T_seq (T_region ?_)
  refine TL_q (.slice b xs.length capb) (fun _ _ hρ _ => r_move (hρ _ _ rfl)) rfl rfl rfl (w_n rfl) ?_
  refine TL_q (.int .i64 ((xs.length : Nat) : Int)) (fun _ _ hρ _ => r_len sl24 (hρ _ _ rfl)) rfl rfl rfl (w_n rfl) ?_
  refine TL_q (.int .i64 0) (fun _ _ hρ _ => r_move (hρ _ _ rfl)) rfl rfl rfl (w_n rfl) ?_
  refine TL_seq ?_
  refine T_block ?_
  refine T_loop (ι := Nat × List Mk × Option Addr × Nat) (fun (z : Nat × List Mk × Option Addr × Nat) => match z with | (k, ns, na, nc) => k ≤ xs.length ∧ ns = putsG Mk.i ms (xs.take k) ∧ ns.length ≤ 6) (fun (z : Nat × List Mk × Option Addr × Nat) => match z with | (k, ns, na, nc) => [(4, .slice none 0 0), (5, .int .i64 0), (6, .pointer (some ⟨qo1, 0, none⟩)), (7, .func (.func 54) #[.pointer (some ⟨qo1, 0, none⟩)] #[]), (21, .slice b xs.length capb), (22, .int .i64 ((xs.length : Nat) : Int)), (23, .int .i64 ((k : Nat) : Int))]) (fun (z : Nat × List Mk × Option Addr × Nat) => match z with | (k, ns, na, nc) => [(956, .blk qo1 (.cells #[.slice na ns.length nc] 80)), (957, .row (.slice na ns.length nc) 36 4 ns.length (ns.flatMap Mk.cells))]) (fun (z : Nat × List Mk × Option Addr × Nat) => match z with | (k, ns, na, nc) => xs.length - k) (0, ms, ao1, (ms).length) ⟨Nat.zero_le _, rfl, hm6⟩ (sub_cons rfl (sub_cons rfl (sub_cons rfl (sub_cons rfl (sub_cons rfl (sub_cons rfl (sub_cons rfl sub_nil))))))) (sub_cons rfl (sub_cons rfl sub_nil)) ?_
  rintro ⟨k, ns, na, nc⟩ hp
  obtain ⟨hk, hns, h6n⟩ := hp
  show T _ _ _ [(4, .slice none 0 0), (5, .int .i64 0), (6, .pointer (some ⟨qo1, 0, none⟩)), (7, .func (.func 54) #[.pointer (some ⟨qo1, 0, none⟩)] #[]), (21, .slice b xs.length capb), (22, .int .i64 ((xs.length : Nat) : Int)), (23, .int .i64 ((k : Nat) : Int))] [(956, .blk qo1 (.cells #[.slice na ns.length nc] 80)), (957, .row (.slice na ns.length nc) 36 4 ns.length (ns.flatMap Mk.cells))]
  refine T_seq (T_region ?_)
  refine TL_q (.bool (decide (((k : Nat) : Int) < ((xs.length : Nat) : Int)))) (fun _ _ hρ _ => r_lss (hρ _ _ rfl) (hρ _ _ rfl)) rfl rfl rfl (w_n rfl) ?_
  refine TL_seq ?_
  refine T_seq ?_
  refine T_cond rfl (fun h1 => ?_) (fun h1 => ?_)
  · replace h1 := of_decide_eq_true h1
    refine T_skip' ?_
    refine p_seq ?_
    refine T_seq ?_
    refine T_block ?_
    obtain ⟨x9, hx9⟩ : ∃ x, xs[k]? = some x := ⟨_, List.getElem?_eq_getElem (by omega)⟩
    obtain ⟨b2, of2, cs2, T2, fz2, ha2, hq2, hr2⟩ := hu.open (i := k) (by omega)
    subst ha2
    refine T_seq (T_region ?_)
    refine TL_q (.pointer (some ⟨b2, of2 + k * 4, none⟩)) (fun _ _ hρ _ => r_indexAddrS (i := k) sl24 sz36 (hρ _ _ rfl) (hρ _ _ rfl) (by omega)) rfl rfl rfl (w_n rfl) ?_
    refine TL_q (.agg #[.int .u64 x9.i.t, .int .i64 x9.i.s, .int .u64 x9.i.q, .pointer x9.ptr]) (fun _ _ hρ hm => r_loadRow (f := Mk.cells) (u := x9) ag36 sz36 (hρ _ _ rfl) (hm.old hq2) hr2 hx9) rfl rfl rfl (w_n rfl) ?_
    refine TL_new 1 (.cells #[.int .u64 0, .int .i64 0, .int .u64 0, .pointer none] 36) (fun B => .pointer (some ⟨B, 0, none⟩)) (fun _ _ _ _ => r_alloc (v := .agg #[.int .u64 0, .int .i64 0, .int .u64 0, .pointer none]) (by kernel_rfl) rfl) rfl rfl rfl (w_n rfl) ?_
    intro B3
    refine TL_store 1 (.cells #[.int .u64 x9.i.t, .int .i64 x9.i.s, .int .u64 x9.i.q, .pointer x9.ptr] 36) rfl (fun _ _ hρ hm => r_store sz36 (hρ _ _ rfl) (hρ _ _ rfl) (hm.at 1 rfl) rfl rfl rfl rfl) rfl rfl (w_n rfl) ?_
    refine TL_seq ?_
    refine T_region ?_
    refine TL_q (.func (.func 54) #[.pointer (some ⟨qo1, 0, none⟩)] #[]) (fun _ _ hρ _ => r_move (hρ _ _ rfl)) rfl rfl rfl (w_n rfl) ?_
    refine TL_q (.agg #[.int .u64 x9.i.t, .int .i64 x9.i.s, .int .u64 x9.i.q, .pointer x9.ptr]) (fun _ _ hρ hm => r_loadA ag36 sz36 (hρ _ _ rfl) (hm.at 1 rfl) rfl rfl) rfl rfl rfl (w_n rfl) ?_
    refine TL_callH (fun _ : Option Addr × Nat => True) (fun (am4, cm4) => .tuple #[]) (fun (am4, cm4) => [(957, .row (.slice am4 ((putG Mk.i ns x9).length) cm4) 36 4 ((putG Mk.i ns x9).length) ((putG Mk.i ns x9).flatMap Mk.cells)), (956, .blk qo1 (.cells #[.slice am4 ((putG Mk.i ns x9).length) cm4] 80))]) (fun _ _ hρ _ => r_call (args := [.agg #[.int .u64 x9.i.t, .int .i64 x9.i.s, .int .u64 x9.i.q, .pointer x9.ptr]]) (enters_of Try.func54 (by kernel_rfl) rfl) (hρ _ _ rfl) ((cons2 (hρ _ _ rfl) rfl)) rfl) (fun w hm => mput_ht _ qo1 x9 ns na nc (by omega) w (hm.sub (sub_cons rfl (sub_cons rfl sub_nil)))) rfl rfl rfl (w_n rfl) ?_
    rintro ⟨am4, cm4⟩ -
    refine TL_nil ?_
    refine p_blk_n ?_
    refine p_seq ?_
    refine T_region ?_
    refine TL_q (.int .i64 ((k + 1 : Nat) : Int)) (fun _ _ hρ _ => r_as (r_add (hρ _ _ rfl) (hρ _ _ rfl)) (int_as ((wrap64 (by omega) (by omega)).trans (by omega)))) rfl rfl rfl (w_n rfl) ?_
    refine TL_q (.int .i64 ((k + 1 : Nat) : Int)) (fun _ _ hρ _ => r_move (hρ _ _ rfl)) rfl rfl rfl (w_n rfl) ?_
    refine TL_nil ?_
    have hpg := putG_len Mk.i x9 h6n
    exact p_at (k + 1, putG Mk.i ns x9, am4, cm4) ⟨⟨by omega, by rw [putsG_step Mk.i hx9, ← hns], hpg⟩, by dsimp only; omega⟩ (sub_cons rfl (sub_cons rfl (sub_cons rfl (sub_cons rfl (sub_cons rfl (sub_cons rfl (sub_cons rfl sub_nil))))))) (sub_cons rfl (sub_cons rfl sub_nil))
  · replace h1 := of_decide_eq_false h1
    refine T_exit' ?_
    refine p_then_x ?_
    refine p_then_x ?_
    refine p_blk_x ?_
    refine p_seq ?_
    refine T_seq (T_region ?_)
    refine TL_q (.pointer (some ⟨qo1, 0, none⟩)) (fun _ _ hρ _ => r_move (hρ _ _ rfl)) rfl rfl rfl (w_n rfl) ?_
    refine TL_q (.pointer (some ⟨qo1, 0, none⟩)) (fun _ _ hρ _ => r_nilCheck (hρ _ _ rfl) rfl) rfl rfl rfl (w_n rfl) ?_
    refine TL_q (.pointer (some ⟨qo1, 0, none⟩)) (fun _ _ hρ _ => r_fieldAddr fl80_0 sz25 (hρ _ _ rfl)) rfl rfl rfl (w_n rfl) ?_
    refine TL_q (.slice na ns.length nc) (fun _ _ hρ hm => r_load ag25 (hρ _ _ rfl) (hm.at 956 rfl) rfl) rfl rfl rfl (w_n rfl) ?_
    refine TL_q (.slice na ns.length nc) (fun _ _ hρ _ => r_assign (hρ _ _ rfl)) rfl rfl rfl (w_n rfl) ?_
    refine TL_q (.int .i64 0) (fun _ _ hρ _ => r_assign (hρ _ _ rfl)) rfl rfl rfl (w_n rfl) ?_
    refine TL_seq ?_
    refine T_ret' ?_
    refine ret_of rfl (.tuple #[.slice na ns.length nc, .int .i64 0]) (fun tmps w hk hm => res2 rfl (res_tmp (hk 4 _ rfl)) (res_tmp (hk 5 _ rfl))) (fun w hm => ?_)
    have hke : k = xs.length := by omega
    subst hke
    rw [List.take_length] at hns
    subst hns
    exact ⟨na, nc, rfl, hm.ext, hm.row 957 rfl⟩

theorem put_no0 (ms : List Mk) (a : Option Addr) (cap : Nat) (xs : List Mk) (b : Option Addr) (capb : Nat) (w : World) (hv : SliceAt w a cap 4 Mk.cells ms) (hcap : cap ≤ Go.maxLen) (hu : SliceAt w b capb 4 Mk.cells xs) (hcapb : capb ≤ Go.maxLen) (hmk : ¬ marksB ms = true) : Calls Try.prog 21 #[.slice a ms.length cap, .slice b xs.length capb] w fun e w' => e = .returned (.tuple #[.slice none 0 0, .int .i64 260]) ∧ Below w.heap.size w w' := by
  have hvl := hv.1
  unfold Go.maxLen at hcap
  have hul := hu.1
  unfold Go.maxLen at hcapb
  refine calls_of_T (l := [.slice a ms.length cap, .slice b xs.length capb]) 35 Try.func21 rfl rfl rfl ?_
  show T _ _ _ [(0, .slice a ms.length cap), (1, .slice b xs.length capb)] []
  refine T_seq (T_region ?_)
  refine TL_q (.slice none 0 0) (fun _ _ hρ _ => r_assign (hρ _ _ rfl)) rfl rfl rfl (w_n rfl) ?_
  refine TL_q (.int .i64 0) (fun _ _ hρ _ => r_assign (hρ _ _ rfl)) rfl rfl rfl (w_n rfl) ?_
  refine TL_seq ?_
  refine T_seq ?_
  refine T_seq (T_region ?_)
  refine TL_q (.slice a ms.length cap) (fun _ _ hρ _ => r_move (hρ _ _ rfl)) rfl rfl rfl (w_n rfl) ?_
  refine TL_call (.int .i64 260) (fun _ _ hρ _ => r_call (args := [.slice a ms.length cap]) (enters_of Try.func14 (by kernel_rfl) rfl) (hρ _ _ rfl) ((cons2 (hρ _ _ rfl) rfl)) rfl) (fun w hm => (check_c ms a cap w (hv.keep hm.ext) hcap).mono fun _ _ h => ⟨h.1.trans (congrArg Ending.returned (int_as (if_neg hmk))), h.2⟩) rfl rfl rfl (w_n rfl) ?_
  refine TL_q (.bool true) (fun _ _ hρ _ => r_as (r_neq (hρ _ _ rfl) (hρ _ _ rfl)) (by rfl)) rfl rfl rfl (w_n rfl) ?_
  refine TL_q (.bool true) (fun _ _ hρ _ => r_move (hρ _ _ rfl)) rfl rfl rfl (w_n rfl) ?_
  refine TL_no rfl rfl (want_n 13 rfl rfl rfl) ?_
  refine TL_no rfl rfl (want_n 13 rfl rfl rfl) ?_
  refine TL_q (.bool true) (fun _ _ hρ _ => r_pick_t (hρ _ _ rfl) (hρ _ _ rfl)) rfl rfl rfl (w_n rfl) ?_
  refine TL_seq ?_
  refine T_cond_t rfl ?_
  refine T_seq (T_region ?_)
  refine TL_q (.slice none 0 0) (fun _ _ hρ _ => r_assign (hρ _ _ rfl)) rfl rfl rfl (w_n rfl) ?_
  refine TL_q (.int .i64 260) (fun _ _ hρ _ => r_assign (hρ _ _ rfl)) rfl rfl rfl (w_n rfl) ?_
  refine TL_seq ?_
  refine T_ret' ?_
  refine p_then_r ?_
  refine ret_of rfl (.tuple #[.slice none 0 0, .int .i64 260]) (fun tmps w hk hm => res2 rfl (res_tmp (hk 4 _ rfl)) (res_tmp (hk 5 _ rfl))) (fun w hm => ?_)
  exact ⟨rfl, hm.ext⟩

theorem put_no1 (ms : List Mk) (a : Option Addr) (cap : Nat) (xs : List Mk) (b : Option Addr) (capb : Nat) (w : World) (hv : SliceAt w a cap 4 Mk.cells ms) (hcap : cap ≤ Go.maxLen) (hu : SliceAt w b capb 4 Mk.cells xs) (hcapb : capb ≤ Go.maxLen) (hmk : marksB ms = true) (han : xs.any (fun x : Mk => !okM x) = true) : Calls Try.prog 21 #[.slice a ms.length cap, .slice b xs.length capb] w fun e w' => e = .returned (.tuple #[.slice none 0 0, .int .i64 260]) ∧ Below w.heap.size w w' := by
  have hvl := hv.1
  unfold Go.maxLen at hcap
  have hul := hu.1
  unfold Go.maxLen at hcapb
  refine calls_of_T (l := [.slice a ms.length cap, .slice b xs.length capb]) 35 Try.func21 rfl rfl rfl ?_
  show T _ _ _ [(0, .slice a ms.length cap), (1, .slice b xs.length capb)] []
  refine T_seq (T_region ?_)
  refine TL_q (.slice none 0 0) (fun _ _ hρ _ => r_assign (hρ _ _ rfl)) rfl rfl rfl (w_n rfl) ?_
  refine TL_q (.int .i64 0) (fun _ _ hρ _ => r_assign (hρ _ _ rfl)) rfl rfl rfl (w_n rfl) ?_
  refine TL_seq ?_
  refine T_seq ?_
  refine T_seq (T_region ?_)
  refine TL_q (.slice a ms.length cap) (fun _ _ hρ _ => r_move (hρ _ _ rfl)) rfl rfl rfl (w_n rfl) ?_
  refine TL_call (.int .i64 0) (fun _ _ hρ _ => r_call (args := [.slice a ms.length cap]) (enters_of Try.func14 (by kernel_rfl) rfl) (hρ _ _ rfl) ((cons2 (hρ _ _ rfl) rfl)) rfl) (fun w hm => (check_c ms a cap w (hv.keep hm.ext) hcap).mono fun _ _ h => ⟨h.1.trans (congrArg Ending.returned (int_as (if_pos hmk))), h.2⟩) rfl rfl rfl (w_n rfl) ?_
  refine TL_q (.bool false) (fun _ _ hρ _ => r_as (r_neq (hρ _ _ rfl) (hρ _ _ rfl)) (by rfl)) rfl rfl rfl (w_n rfl) ?_
  refine TL_q (.bool false) (fun _ _ hρ _ => r_move (hρ _ _ rfl)) rfl rfl rfl (w_n rfl) ?_
  refine TL_q (.slice b xs.length capb) (fun _ _ hρ _ => r_move (hρ _ _ rfl)) rfl rfl rfl (want_y 13 rfl rfl rfl) ?_
  refine TL_call (.bool true) (fun _ _ hρ _ => r_call (args := [.slice b xs.length capb, .func (.func 52) #[] #[]]) (enters_of Try.func51 (by kernel_rfl) rfl) (hρ _ _ rfl) ((cons2 (hρ _ _ rfl) (cons2 (hρ _ _ rfl) rfl))) rfl) (fun w hm => (mcon_c xs b capb w (hu.keep hm.ext) hcapb 52 #[] (enters_of Try.func52 (by kernel_rfl) rfl) (fun x : Mk => !okM x) (fun w2 hb2 x hx => put1_c x w2)).mono fun _ _ h => ⟨h.1.trans (congrArg Ending.returned (bool_as han)), h.2⟩) rfl rfl rfl (want_y 13 rfl rfl rfl) ?_
  refine TL_q (.bool true) (fun _ _ hρ _ => r_pick_f (hρ _ _ rfl) (hρ _ _ rfl)) rfl rfl rfl (w_n rfl) ?_
  refine TL_seq ?_
  refine T_cond_t rfl ?_
  refine T_seq (T_region ?_)
  refine TL_q (.slice none 0 0) (fun _ _ hρ _ => r_assign (hρ _ _ rfl)) rfl rfl rfl (w_n rfl) ?_
  refine TL_q (.int .i64 260) (fun _ _ hρ _ => r_assign (hρ _ _ rfl)) rfl rfl rfl (w_n rfl) ?_
  refine TL_seq ?_
  refine T_ret' ?_
  refine p_then_r ?_
  refine ret_of rfl (.tuple #[.slice none 0 0, .int .i64 260]) (fun tmps w hk hm => res2 rfl (res_tmp (hk 4 _ rfl)) (res_tmp (hk 5 _ rfl))) (fun w hm => ?_)
  exact ⟨rfl, hm.ext⟩

theorem put_no (ms : List Mk) (a : Option Addr) (cap : Nat) (xs : List Mk) (b : Option Addr) (capb : Nat) (w : World) (hv : SliceAt w a cap 4 Mk.cells ms) (hcap : cap ≤ Go.maxLen) (hu : SliceAt w b capb 4 Mk.cells xs) (hcapb : capb ≤ Go.maxLen) (hno : ¬ (marksB ms = true ∧ xs.all okM = true)) : Calls Try.prog 21 #[.slice a ms.length cap, .slice b xs.length capb] w fun e w' => e = .returned (.tuple #[.slice none 0 0, .int .i64 260]) ∧ Below w.heap.size w w' := by
  by_cases h1 : marksB ms = true
  · refine put_no1 ms a cap xs b capb w hv hcap hu hcapb h1 ?_
    cases e : xs.any fun x : Mk => !okM x with
    | true => rfl
    | false => exact absurd ⟨h1, (by have := all_not okM xs; rw [e] at this; exact this.symm)⟩ hno
  · exact put_no0 ms a cap xs b capb w hv hcap hu hcapb h1

theorem id_c (t : Int) (w : World) : Calls Try.prog 25 #[.int .u64 t] w fun e w' => e = .returned (.agg #[.int .u64 t, .int .i64 1, .int .u64 1]) ∧ Below w.heap.size w w' := by
  refine calls_of_T (l := [.int .u64 t]) 5 Try.func25 rfl rfl rfl ?_
  show T _ _ _ [(0, .int .u64 t)] []
  refine T_seq (T_region ?_)
  refine TL_new 1 (.cells #[.int .u64 0, .int .i64 0, .int .u64 0] 32) (fun B => .pointer (some ⟨B, 0, none⟩)) (fun _ _ _ _ => r_alloc (v := .agg #[.int .u64 0, .int .i64 0, .int .u64 0]) (by kernel_rfl) rfl) rfl rfl rfl (w_n rfl) ?_
  intro B1
  refine TL_seq ?_
  refine T_seq (T_region ?_)
  refine TL_q (.int .u64 t) (fun _ _ hρ _ => r_move (hρ _ _ rfl)) rfl rfl rfl (w_n rfl) ?_
  refine TL_q (.agg #[.int .u64 t, .int .i64 1, .int .u64 1]) (fun _ _ hρ _ => r_build (vs := [(0, .int .u64 t), (1, .int .i64 1), (2, .int .u64 1)]) (by kernel_rfl) (cons2 (pair2 (hρ _ _ rfl)) (cons2 (pair2 (hρ _ _ rfl)) (cons2 (pair2 (hρ _ _ rfl)) rfl)))) rfl rfl rfl (w_n rfl) ?_
  refine TL_store 1 (.cells #[.int .u64 t, .int .i64 1, .int .u64 1] 32) rfl (fun _ _ hρ hm => r_store sz32 (hρ _ _ rfl) (hρ _ _ rfl) (hm.at 1 rfl) rfl rfl rfl rfl) rfl rfl (w_n rfl) ?_
  refine TL_seq ?_
  refine T_ret' ?_
  refine ret_of rfl (.agg #[.int .u64 t, .int .i64 1, .int .u64 1]) (fun tmps w hk hm => res1 rfl (res_cell (hk 2 _ rfl) (run_loadVar_agg ag32 sz32 (hm.at 1 rfl) (Nat.le_of_ble_eq_true rfl) rfl))) (fun w hm => ?_)
  exact ⟨rfl, hm.ext⟩

theorem painted_c (n : Int) (w : World) : Calls Try.prog 24 #[.int .i64 n] w fun e w' => ∃ d : Cv, e = .returned (.pointer (some ⟨d.p, 0, none⟩)) ∧ CvNew w w' [] d ∧ Painted d n := by
  refine calls_of_T (l := [.int .i64 n]) 23 Try.func24 rfl rfl rfl ?_
  show T _ _ _ [(0, .int .i64 n)] []
  refine T_seq (T_region ?_)
  refine TL_q (.pointer none) (fun _ _ hρ _ => r_assign (hρ _ _ rfl)) rfl rfl rfl (w_n rfl) ?_
  refine TL_seq ?_
  refine T_mem (_ :: _) (fun _ hm => hm.cvs0 960) ?_
  refine T_seq (T_region ?_)
  refine TL_callX (ι := Cv) (fun (c1 : Cv) e w w' => e = .returned (.tuple #[.pointer (some ⟨c1.p, 0, none⟩), .int .i64 0]) ∧ CvNew w w' [] c1 ∧ c1.wd = 2 ∧ c1.hg = 1 ∧ c1.ts = List.replicate (2 * 1) zeroT) (fun c1 => .tuple #[.pointer (some ⟨c1.p, 0, none⟩), .int .i64 0]) _ (fun _ _ hρ _ => r_call (args := [.int .i64 2, .int .i64 1]) (enters_of Try.func57 (by kernel_rfl) rfl) (hρ _ _ rfl) ((cons2 (hρ _ _ rfl) (cons2 (hρ _ _ rfl) rfl))) rfl) (fun w _ => new_c 2 1 w (by decide) (by decide)) (fun _ e w w' hm h => ⟨h.1, hm.cvGet 960 rfl h.2.1 (fun _ hx => nomatch hx)⟩) rfl rfl rfl (w_n rfl) ?_
  rintro c1 ⟨_, w1_c1, w2_c1, _, hn_c1, hw1, hh1, ht1⟩
  refine TL_q (.tuple #[.pointer (some ⟨c1.p, 0, none⟩), .int .i64 0]) (fun _ _ hρ _ => r_move (hρ _ _ rfl)) rfl rfl rfl (w_n rfl) ?_
  refine TL_q (.pointer (some ⟨c1.p, 0, none⟩)) (fun _ _ hρ _ => r_extract (hρ _ _ rfl) rfl) rfl rfl rfl (w_n rfl) ?_
  refine TL_q (.int .i64 0) (fun _ _ hρ _ => r_extract (hρ _ _ rfl) rfl) rfl rfl rfl (w_n rfl) ?_
  refine TL_q (.pointer (some ⟨c1.p, 0, none⟩)) (fun _ _ hρ _ => r_assign (hρ _ _ rfl)) rfl rfl rfl (w_n rfl) ?_
  refine TL_q (.int .i64 0) (fun _ _ hρ _ => r_assign (hρ _ _ rfl)) rfl rfl rfl (w_n rfl) ?_
  refine TL_seq ?_
  refine T_seq ?_
  refine T_seq (T_region ?_)
  refine TL_q (.int .i64 0) (fun _ _ hρ _ => r_move (hρ _ _ rfl)) rfl rfl rfl (w_n rfl) ?_
  refine TL_q (.bool false) (fun _ _ hρ _ => r_as (r_neq (hρ _ _ rfl) (hρ _ _ rfl)) (by rfl)) rfl rfl rfl (w_n rfl) ?_
  refine TL_seq ?_
  refine T_cond_f rfl ?_
  refine T_skip' ?_
  refine p_seq ?_
  refine T_seq (T_region ?_)
  refine TL_q (.pointer (some ⟨c1.p, 0, none⟩)) (fun _ _ hρ _ => r_move (hρ _ _ rfl)) rfl rfl rfl (w_n rfl) ?_
  refine TL_q (.int .i64 n) (fun _ _ hρ _ => r_move (hρ _ _ rfl)) rfl rfl rfl (w_n rfl) ?_
  refine TL_q (.int .i64 (andI n 15)) (fun _ _ hρ _ => r_andI (hρ _ _ rfl) (hρ _ _ rfl)) rfl rfl rfl (w_n rfl) ?_
  refine TL_q (.int .i64 n) (fun _ _ hρ _ => r_move (hρ _ _ rfl)) rfl rfl rfl (w_n rfl) ?_
  refine TL_q (.int .i64 (shr4 n)) (fun _ _ hρ _ => r_shr4 (hρ _ _ rfl) (hρ _ _ rfl)) rfl rfl rfl (w_n rfl) ?_
  refine TL_q (.int .i64 (andI (shr4 n) 7)) (fun _ _ hρ _ => r_andI (hρ _ _ rfl) (hρ _ _ rfl)) rfl rfl rfl (w_n rfl) ?_
  refine TL_q (.int .i64 n) (fun _ _ hρ _ => r_move (hρ _ _ rfl)) rfl rfl rfl (w_n rfl) ?_
  refine TL_q (.int .u8 (IntKind.wrap .u8 n)) (fun _ _ hρ _ => r_conv un3 io5 (hρ _ _ rfl)) rfl rfl rfl (w_n rfl) ?_
  refine TL_q (.agg #[.int .u8 (IntKind.wrap .u8 n), .int .u8 0, .int .u8 0, .int .u8 255]) (fun _ _ hρ _ => r_build (vs := [(0, .int .u8 (IntKind.wrap .u8 n)), (3, .int .u8 255)]) (by kernel_rfl) (cons2 (pair2 (hρ _ _ rfl)) (cons2 (pair2 (hρ _ _ rfl)) rfl))) rfl rfl rfl (w_n rfl) ?_
  refine TL_q (.agg #[.int .i64 (andI n 15), .int .i64 (andI (shr4 n) 7), .int .u8 (IntKind.wrap .u8 n), .int .u8 0, .int .u8 0, .int .u8 255]) (fun _ _ hρ _ => r_build (vs := [(0, .int .i64 (andI n 15)), (1, .int .i64 (andI (shr4 n) 7)), (2, .agg #[.int .u8 (IntKind.wrap .u8 n), .int .u8 0, .int .u8 0, .int .u8 255])]) (by kernel_rfl) (cons2 (pair2 (hρ _ _ rfl)) (cons2 (pair2 (hρ _ _ rfl)) (cons2 (pair2 (hρ _ _ rfl)) rfl)))) rfl rfl rfl (w_n rfl) ?_
  refine TL_new 1 (.cells #[.int .i64 (andI n 15), .int .i64 (andI (shr4 n) 7), .int .u8 (IntKind.wrap .u8 n), .int .u8 0, .int .u8 0, .int .u8 255] 97) (fun B => .slice (some ⟨B, 0, none⟩) 1 1) (fun _ _ hρ _ => r_buildSlice (vs := [(0, .agg #[.int .i64 (andI n 15), .int .i64 (andI (shr4 n) 7), .int .u8 (IntKind.wrap .u8 n), .int .u8 0, .int .u8 0, .int .u8 255])]) (by kernel_rfl) (cons2 (pair2 (hρ _ _ rfl)) rfl)) rfl rfl rfl (w_n rfl) ?_
  intro B1
  refine TL_callX (ι := Cv) (fun (c2 : Cv) e w w' => e = .returned (.pointer (some ⟨c2.p, 0, none⟩)) ∧ CvNew w w' [c1] c2 ∧ c2.wd = c1.wd ∧ c2.hg = c1.hg ∧ c2.ts = putDs c1.wd c1.hg c1.ts [(⟨(andI n 15), (andI (shr4 n) 7), ⟨(IntKind.wrap .u8 n), 0, 0, 255⟩⟩ : Dt)] ∧ Shares w.heap.size c1 c2) (fun c2 => .pointer (some ⟨c2.p, 0, none⟩)) _ (fun _ _ hρ _ => r_call (args := [.pointer (some ⟨c1.p, 0, none⟩), .slice (some ⟨B1, 0, none⟩) 1 1]) (enters_of Try.func58 (by kernel_rfl) rfl) (hρ _ _ rfl) ((cons2 (hρ _ _ rfl) (cons2 (hρ _ _ rfl) rfl))) rfl) (fun w hm => with_canvas c1 [(⟨(andI n 15), (andI (shr4 n) 7), ⟨(IntKind.wrap .u8 n), 0, 0, 255⟩⟩ : Dt)] (some ⟨B1, 0, none⟩) 1 w (hm.cv 960 rfl (List.mem_singleton.2 rfl)) ⟨Nat.le_of_ble_eq_true rfl, (fun e => by cases e), .inr ⟨_, 0, _, _, _, rfl, (hm.at 1 rfl), row_of_take (fun _ => rfl) rfl⟩⟩ (Nat.le_of_ble_eq_true rfl)) (fun _ e w w' hm h => ⟨h.1, hm.cvGet 960 rfl h.2.1 (fun x hx => by rw [List.mem_singleton.1 hx]; exact List.mem_singleton.2 rfl)⟩) rfl rfl rfl (w_n rfl) ?_
  rintro c2 ⟨_, w1_c2, w2_c2, _, hn_c2, hw2, hh2, ht2, hs2⟩
  refine TL_q (.pointer (some ⟨c2.p, 0, none⟩)) (fun _ _ hρ _ => r_assign (hρ _ _ rfl)) rfl rfl rfl (w_n rfl) ?_
  refine TL_seq ?_
  refine T_ret' ?_
  refine ret_of rfl (.pointer (some ⟨c2.p, 0, none⟩)) (fun tmps w hk hm => res1 rfl (res_tmp (hk 2 _ rfl))) (fun w hm => ?_)
  exact ⟨c2, rfl, ⟨hm.ext, hm.cv 960 rfl List.mem_cons_self, fun b hb => .inl ((hm.own 960 _ rfl).2.1 b ⟨c2, List.mem_cons_self, hb⟩).1⟩, hw2.trans hw1, hh2.trans hh1, by rw [ht2, hw1, hh1, ht1]; rfl⟩

theorem row_c (l : List Tid) (a : Option Addr) (cap : Nat) (b : Nat) (w : World) (hv : SliceAt w a cap 3 Tid.cells l) (hcap : cap ≤ Go.maxLen) (hb : b ≤ 1000) (hlen : l.length ≤ 1000) : Calls Try.prog 9 #[.slice a l.length cap, .int .i64 (b : Int)] w fun e w' => ∃ (ms : List Mk) (cs : List Cv) (a' : Option Addr) (cap' : Nat), e = .returned (.slice a' ms.length cap') ∧ Below w.heap.size w w' ∧ NewOk w w' [(0, .row (.slice a' ms.length cap') 36 4 ms.length (ms.flatMap Mk.cells)), (1, .cvs cs)] ∧ idsM ms = l ∧ PaintOk ms cs b := by
  have hvl := hv.1
  unfold Go.maxLen at hcap
  refine calls_of_T (l := [.slice a l.length cap, .int .i64 ((b : Nat) : Int)]) 26 Try.func9 rfl rfl rfl ?_
  show T _ _ _ [(0, .slice a l.length cap), (1, .int .i64 ((b : Nat) : Int))] []
  refine T_seq (T_region ?_)
  refine TL_q (.slice none 0 0) (fun _ _ hρ _ => r_assign (hρ _ _ rfl)) rfl rfl rfl (w_n rfl) ?_
  refine TL_seq ?_
  refine T_seq (T_region ?_)
  refine TL_q (.slice none 0 0) (fun _ _ hρ _ => r_assign (hρ _ _ rfl)) rfl rfl rfl (w_n rfl) ?_
  refine TL_seq ?_
  refine T_seq ?_
  refine T_mem (_ :: _) (fun _ hm => hm.nilRow 950 36 4) ?_
  refine T_mem (_ :: _) (fun _ hm => hm.cvs0 960) ?_
  refine T_seq (T_region ?_)
  refine TL_q (.slice a l.length cap) (fun _ _ hρ _ => r_move (hρ _ _ rfl)) rfl rfl rfl (w_n rfl) ?_
  refine TL_q (.int .i64 ((l.length : Nat) : Int)) (fun _ _ hρ _ => r_len sl22 (hρ _ _ rfl)) rfl rfl rfl (w_n rfl) ?_
  refine TL_q (.int .i64 0) (fun _ _ hρ _ => r_move (hρ _ _ rfl)) rfl rfl rfl (w_n rfl) ?_
  refine TL_seq ?_
  refine T_block ?_
  refine T_loop (ι := Nat × List Mk × List Cv × Option Addr × Nat) (fun (z : Nat × List Mk × List Cv × Option Addr × Nat) => match z with | (k, os, cs, oa, oc) => k ≤ l.length ∧ idsM os = l.take k ∧ PaintOk os cs b) (fun (z : Nat × List Mk × List Cv × Option Addr × Nat) => match z with | (k, os, cs, oa, oc) => [(1, .int .i64 ((b : Nat) : Int)), (4, .slice none 0 0), (8, .slice a l.length cap), (9, .int .i64 ((l.length : Nat) : Int)), (10, .int .i64 ((k : Nat) : Int)), (5, .slice oa os.length oc)]) (fun (z : Nat × List Mk × List Cv × Option Addr × Nat) => match z with | (k, os, cs, oa, oc) => [(950, .row (.slice oa os.length oc) 36 4 os.length (os.flatMap Mk.cells)), (960, .cvs cs)]) (fun (z : Nat × List Mk × List Cv × Option Addr × Nat) => match z with | (k, os, cs, oa, oc) => l.length - k) (0, [], [], none, 0) ⟨Nat.zero_le _, rfl, paint_nil b⟩ (sub_cons rfl (sub_cons rfl (sub_cons rfl (sub_cons rfl (sub_cons rfl (sub_cons rfl sub_nil)))))) (sub_cons rfl (sub_cons rfl sub_nil)) ?_
  rintro ⟨k, os, cs, oa, oc⟩ hp
  obtain ⟨hk, hos, hpo⟩ := hp
  have hol : os.length = k := by rw [← ids_len os, hos, List.length_take]; omega
  show T _ _ _ [(1, .int .i64 ((b : Nat) : Int)), (4, .slice none 0 0), (8, .slice a l.length cap), (9, .int .i64 ((l.length : Nat) : Int)), (10, .int .i64 ((k : Nat) : Int)), (5, .slice oa os.length oc)] [(950, .row (.slice oa os.length oc) 36 4 os.length (os.flatMap Mk.cells)), (960, .cvs cs)]
  refine T_seq (T_region ?_)
  refine TL_q (.bool (decide (((k : Nat) : Int) < ((l.length : Nat) : Int)))) (fun _ _ hρ _ => r_lss (hρ _ _ rfl) (hρ _ _ rfl)) rfl rfl rfl (w_n rfl) ?_
  refine TL_seq ?_
  refine T_seq ?_
  refine T_cond rfl (fun h1 => ?_) (fun h1 => ?_)
  · replace h1 := of_decide_eq_true h1
    refine T_skip' ?_
    refine p_seq ?_
    refine T_seq ?_
    refine T_block ?_
    obtain ⟨x9, hx9⟩ : ∃ x, l[k]? = some x := ⟨_, List.getElem?_eq_getElem (by omega)⟩
    obtain ⟨b1, of1, cs1, T1, fz1, ha1, hq1, hr1⟩ := hv.open (i := k) (by omega)
    subst ha1
    refine T_seq (T_region ?_)
    refine TL_q (.int .i64 ((k : Nat) : Int)) (fun _ _ hρ _ => r_move (hρ _ _ rfl)) rfl rfl rfl (w_n rfl) ?_
    refine TL_q (.pointer (some ⟨b1, of1 + k * 3, none⟩)) (fun _ _ hρ _ => r_indexAddrS (i := k) sl22 sz32 (hρ _ _ rfl) (hρ _ _ rfl) (by omega)) rfl rfl rfl (w_n rfl) ?_
    refine TL_q (.agg #[.int .u64 x9.t, .int .i64 x9.s, .int .u64 x9.q]) (fun _ _ hρ hm => r_loadRow (f := Tid.cells) (u := x9) ag32 sz32 (hρ _ _ rfl) (hm.old hq1) hr1 hx9) rfl rfl rfl (w_n rfl) ?_
    refine TL_new 1 (.cells #[.int .u64 0, .int .i64 0, .int .u64 0] 32) (fun B => .pointer (some ⟨B, 0, none⟩)) (fun _ _ _ _ => r_alloc (v := .agg #[.int .u64 0, .int .i64 0, .int .u64 0]) (by kernel_rfl) rfl) rfl rfl rfl (w_n rfl) ?_
    intro B2
    refine TL_q (.int .i64 ((k : Nat) : Int)) (fun _ _ hρ _ => r_assign (hρ _ _ rfl)) rfl rfl rfl (w_n rfl) ?_
    refine TL_store 1 (.cells #[.int .u64 x9.t, .int .i64 x9.s, .int .u64 x9.q] 32) rfl (fun _ _ hρ hm => r_store sz32 (hρ _ _ rfl) (hρ _ _ rfl) (hm.at 1 rfl) rfl rfl rfl rfl) rfl rfl (w_n rfl) ?_
    refine TL_seq ?_
    refine T_draw (V := [(0, .slice oa os.length oc), (1, .agg #[.int .u64 x9.t, .int .i64 x9.s, .int .u64 x9.q]), (2, .int .i64 ((b : Nat) : Int)), (3, .int .i64 ((k : Nat) : Int)), (4, .int .i64 ((b + k : Nat) : Int))]) [0, 0, 0, 0, 12, 28, 62, 126, 255, 511] [[(5, none)], [(7, none)], [(1, none)], [(6, none)], [(17, some 2), (18, some 3)], [(19, some 4)], [(16, some 1), (20, some 5)], [(21, some 6)], [(15, some 0), (22, some 7)], [(23, some 8)]] 416 mixed (by kernel_rfl) ?_
    refine G_step [0, 1, 2, 3, 4] 5 [] (by kernel_rfl) (allM (all_cons (q_run (.slice oa os.length oc) rfl rfl (wv_n rfl) rfl (fun _ _ hρ _ => r_move (hρ _ _ rfl))) (all_cons (q_run (.agg #[.int .u64 x9.t, .int .i64 x9.s, .int .u64 x9.q]) rfl rfl (wv_n rfl) rfl (fun _ _ hρ hm => r_loadA ag32 sz32 (hρ _ _ rfl) (hm.at 1 rfl) rfl rfl)) (all_cons (q_run (.int .i64 ((b : Nat) : Int)) rfl rfl (wv_n rfl) rfl (fun _ _ hρ _ => r_move (hρ _ _ rfl))) (all_cons (q_run (.int .i64 ((k : Nat) : Int)) rfl rfl (wv_n rfl) rfl (fun _ _ hρ _ => r_move (hρ _ _ rfl))) (all_cons (q_run (.int .i64 ((b + k : Nat) : Int)) rfl rfl (wv_n rfl) rfl (fun _ _ hρ _ => r_as (r_add (hρ _ _ rfl) (hρ _ _ rfl)) (int_as ((wrap64 (by omega) (by omega)).trans (by omega))))) all_nil)))))) (allM (all_cons ?_ all_nil))
    refine LOb_callX (ι := Cv) (fun (dv4 : Cv) e w w' => e = .returned (.pointer (some ⟨dv4.p, 0, none⟩)) ∧ CvNew w w' [] dv4 ∧ Painted dv4 ((b + k : Nat) : Int)) (fun dv4 => .pointer (some ⟨dv4.p, 0, none⟩)) _ (fun dv4 => [(6, .agg #[.int .u64 x9.t, .int .i64 x9.s, .int .u64 x9.q, .pointer (some ⟨dv4.p, 0, none⟩)])]) rfl (wv_n rfl) rfl rfl (fun _ _ hρ _ => r_call (args := [.int .i64 ((b + k : Nat) : Int)]) (enters_of Try.func24 (by kernel_rfl) rfl) (hρ _ _ rfl) ((cons2 (hρ _ _ rfl) rfl)) rfl) (fun w _ => painted_c ((b + k : Nat) : Int) w) (fun _ e w w' hm h => ⟨h.1, hm.cvGet 960 rfl h.2.1 (fun _ hx => nomatch hx)⟩) (fun dv4 => by kernel_rfl) ?_
    rintro dv4 ⟨_, w1_dv4, w2_dv4, _, hn_dv4, hp_dv4⟩
    refine G_step [0, 1, 6] 7 [] (by kernel_rfl) (allM (all_cons (q_run (.slice oa os.length oc) rfl rfl (wv_n rfl) rfl (fun _ _ hρ _ => r_move (hρ _ _ rfl))) (all_cons (q_run (.agg #[.int .u64 x9.t, .int .i64 x9.s, .int .u64 x9.q]) rfl rfl (wv_n rfl) rfl (fun _ _ hρ hm => r_loadA ag32 sz32 (hρ _ _ rfl) (hm.at 1 rfl) rfl rfl)) (all_cons (q_run (.agg #[.int .u64 x9.t, .int .i64 x9.s, .int .u64 x9.q, .pointer (some ⟨dv4.p, 0, none⟩)]) rfl rfl (wv_n rfl) rfl (fun _ _ hρ _ => r_build (vs := [(0, .agg #[.int .u64 x9.t, .int .i64 x9.s, .int .u64 x9.q]), (1, .pointer (some ⟨dv4.p, 0, none⟩))]) (by kernel_rfl) (cons2 (pair2 (hρ _ _ rfl)) (cons2 (pair2 (hρ _ _ rfl)) rfl)))) all_nil)))) (allM (all_cons ?_ all_nil))
    refine LOb_new 2 (.cells #[.int .u64 x9.t, .int .i64 x9.s, .int .u64 x9.q, .pointer (some ⟨dv4.p, 0, none⟩)] 36) (fun B => .slice (some ⟨B, 0, none⟩) 1 1) (fun B => []) rfl (wv_n rfl) rfl rfl (fun _ _ hρ _ => r_buildSlice (vs := [(0, .agg #[.int .u64 x9.t, .int .i64 x9.s, .int .u64 x9.q, .pointer (some ⟨dv4.p, 0, none⟩)])]) (by kernel_rfl) (cons2 (pair2 (hρ _ _ rfl)) rfl)) (fun B => by kernel_rfl) ?_
    intro B5
    refine G_step [0] 8 [] (by kernel_rfl) (allM (all_cons (q_run (.slice oa os.length oc) rfl rfl (wv_n rfl) rfl (fun _ _ hρ _ => r_move (hρ _ _ rfl))) all_nil)) (allM (all_cons ?_ all_nil))
    refine LOb_append (n := os.length) (m := 1) (xs := (os.flatMap Mk.cells)) (news := [.int .u64 x9.t, .int .i64 x9.s, .int .u64 x9.q, .pointer (some ⟨dv4.p, 0, none⟩)]) (z := .agg #[.int .u64 0, .int .i64 0, .int .u64 0, .pointer none]) 950 (fun a cap => [(9, .slice a (os.length + 1) cap)]) rfl (wv_n rfl) rfl rfl rfl sl25 sz36 by36 (by kernel_rfl) rfl rfl (.inl rfl) (fun _ hm => src_blk (news := [.int .u64 x9.t, .int .i64 x9.s, .int .u64 x9.q, .pointer (some ⟨dv4.p, 0, none⟩)]) (hm.at 2 rfl) rfl) (by simp [Value.oneCell']) (by omega) (by omega) (fun a cap => by kernel_rfl) ?_
    intro a6 cap6
    refine G_lastQ [9] [(1, .int .i64 ((b : Nat) : Int)), (4, .slice none 0 0), (8, .slice (some ⟨b1, of1, none⟩) l.length cap), (9, .int .i64 ((l.length : Nat) : Int)), (10, .int .i64 ((k : Nat) : Int)), (11, .bool (decide (((k : Nat) : Int) < ((l.length : Nat) : Int)))), (12, .int .i64 ((k : Nat) : Int)), (13, .pointer (some ⟨b1, of1 + k * 3, none⟩)), (14, .agg #[.int .u64 x9.t, .int .i64 x9.s, .int .u64 x9.q]), (7, .pointer (some ⟨B2, 0, none⟩)), (6, .int .i64 ((k : Nat) : Int)), (15, .slice oa os.length oc), (16, .agg #[.int .u64 x9.t, .int .i64 x9.s, .int .u64 x9.q]), (17, .int .i64 ((b : Nat) : Int)), (18, .int .i64 ((k : Nat) : Int)), (19, .int .i64 ((b + k : Nat) : Int)), (20, .pointer (some ⟨dv4.p, 0, none⟩)), (21, .agg #[.int .u64 x9.t, .int .i64 x9.s, .int .u64 x9.q, .pointer (some ⟨dv4.p, 0, none⟩)]), (22, .slice (some ⟨B5, 0, none⟩) 1 1), (23, .slice a6 (os.length + 1) cap6), (5, .slice a6 (os.length + 1) cap6)] (by kernel_rfl) (allM (all_cons (q_run (.slice a6 (os.length + 1) cap6) rfl rfl (wv_n rfl) rfl (fun _ _ hρ _ => r_assign (hρ _ _ rfl))) all_nil)) (end_old rfl rfl (end_old rfl rfl (end_old rfl rfl (end_old rfl rfl (end_old rfl rfl (end_old rfl rfl (end_old rfl rfl (end_old rfl rfl (end_old rfl rfl (end_old rfl rfl (end_old rfl rfl (end_new 0 rfl rfl (end_new 1 rfl rfl (end_new 2 rfl rfl (end_new 3 rfl rfl (end_new 4 rfl rfl (end_new 5 rfl rfl (end_new 6 rfl rfl (end_new 7 rfl rfl (end_new 8 rfl rfl (end_new 9 rfl rfl end_nil))))))))))))))))))))) ?_
    refine p_blk_n ?_
    refine p_seq ?_
    refine T_region ?_
    refine TL_q (.int .i64 ((k + 1 : Nat) : Int)) (fun _ _ hρ _ => r_as (r_add (hρ _ _ rfl) (hρ _ _ rfl)) (int_as ((wrap64 (by omega) (by omega)).trans (by omega)))) rfl rfl rfl (w_n rfl) ?_
    refine TL_q (.int .i64 ((k + 1 : Nat) : Int)) (fun _ _ hρ _ => r_move (hρ _ _ rfl)) rfl rfl rfl (w_n rfl) ?_
    refine TL_nil ?_
    have hn7 : (os.length + 1) = (os ++ [(⟨x9, some dv4⟩ : Mk)]).length := by simp
    have hx7 : ((os.flatMap Mk.cells) ++ [.int .u64 x9.t, .int .i64 x9.s, .int .u64 x9.q, .pointer (some ⟨dv4.p, 0, none⟩)]) = (os ++ [(⟨x9, some dv4⟩ : Mk)]).flatMap Mk.cells := by simp [Mk.cells]
    rw [hx7, hn7]
    exact p_at (k + 1, os ++ [(⟨x9, some dv4⟩ : Mk)], dv4 :: cs, a6, cap6) ⟨⟨by omega, by rw [ids_app, hos, List.take_add_one, hx9]; rfl, paint_more hpo (by rw [hol]; exact hp_dv4)⟩, by dsimp only; omega⟩ (sub_cons rfl (sub_cons rfl (sub_cons rfl (sub_cons rfl (sub_cons rfl (sub_cons rfl sub_nil)))))) (sub_cons rfl (sub_cons rfl sub_nil))
  · replace h1 := of_decide_eq_false h1
    refine T_exit' ?_
    refine p_then_x ?_
    refine p_then_x ?_
    refine p_blk_x ?_
    refine p_seq ?_
    refine T_seq (T_region ?_)
    refine TL_q (.slice oa os.length oc) (fun _ _ hρ _ => r_move (hρ _ _ rfl)) rfl rfl rfl (w_n rfl) ?_
    refine TL_q (.slice oa os.length oc) (fun _ _ hρ _ => r_assign (hρ _ _ rfl)) rfl rfl rfl (w_n rfl) ?_
    refine TL_seq ?_
    refine T_ret' ?_
    refine ret_of rfl (.slice oa os.length oc) (fun tmps w hk hm => res1 rfl (res_tmp (hk 4 _ rfl))) (fun w hm => ?_)
    have hke : k = l.length := by omega
    subst hke
    rw [List.take_length] at hos
    exact ⟨os, cs, oa, oc, rfl, hm.ext, newOk2 0 1 (hm.own 950 _ rfl) (hm.own 960 _ rfl) (hm.sep 950 960 _ _ rfl rfl (by decide)), hos, hpo⟩
end Go.Proofs.Ytmihoejecpcmjaa
/- marks: what putting keeps (plainly). -/
namespace Go.Proofs.Ytmihoejecpcmjaa
open Go Go.RowKit
abbrev Up (l : List Tid) : Prop := l.Pairwise fun x y => lessI x y = true
theorem less_asym {a b : Tid} (h : lessI a b = true) : ¬ lessI b a = true := fun h2 => less_irr a (less_trans h h2)
theorem up_rises : ∀ {l : List Tid}, Up l → (∀ x ∈ l, okI x = true) → risesB l = true
  | [], _, _ => rfl
  | [a], _, h => by unfold risesB; rw [h a List.mem_cons_self]; rfl
  | a :: b :: r, hp, h => by
    rw [rises_cons, Bool.and_eq_true, Bool.and_eq_true]
    obtain ⟨h1, h2⟩ := List.pairwise_cons.1 hp
    exact ⟨h a List.mem_cons_self, h1 b List.mem_cons_self, up_rises h2 fun x hx => h x (List.mem_cons_of_mem _ hx)⟩
theorem rises_iff {l : List Tid} : risesB l = true ↔ Up l ∧ ∀ x ∈ l, okI x = true := ⟨fun h => ⟨rises_pair h, rises_right h⟩, fun h => up_rises h.1 h.2⟩
/-- Of a rising row those ahead of an id stand in front. -/
theorem ahead_cut : ∀ {l : List Tid} (i : Tid), Up l → l.take (aheadL l i) = l.filter (fun x => lessI x i) ∧ ∀ x ∈ l.drop (aheadL l i), ¬ lessI x i = true
  | [], i, _ => ⟨rfl, fun x hx => by simp at hx⟩
  | a :: l, i, h => by
    obtain ⟨h1, h2⟩ := List.pairwise_cons.1 h
    by_cases ha : lessI a i = true
    · have e : aheadL (a :: l) i = aheadL l i + 1 := by unfold aheadL; rw [List.filter_cons, if_pos ha]; rfl
      obtain ⟨g1, g2⟩ := ahead_cut i h2
      rw [e, List.take_succ_cons, List.drop_succ_cons, g1, List.filter_cons, if_pos ha]
      exact ⟨rfl, g2⟩
    · have hn : ∀ x ∈ a :: l, ¬ lessI x i = true := fun x hx hx2 => by
        rcases List.mem_cons.1 hx with rfl | hx
        · exact ha hx2
        · exact ha (less_trans (h1 x hx) hx2)
      have e : (a :: l).filter (fun x => lessI x i) = [] := List.filter_eq_nil_iff.2 hn
      have e2 : aheadL (a :: l) i = 0 := by unfold aheadL; rw [e]; rfl
      rw [e2, e]
      exact ⟨rfl, hn⟩
theorem ahead_front {l : List Tid} {i : Tid} (h : Up l) : ∀ x ∈ l.take (aheadL l i), lessI x i = true := fun x hx => by
  rw [(ahead_cut i h).1] at hx
  exact (List.mem_filter.1 hx).2
/-- Is it there, it stands behind those ahead of it. -/
theorem ahead_there {l : List Tid} {i : Tid} (h : Up l) (hi : i ∈ l) : l[aheadL l i]? = some i := by
  have hc := ahead_cut i h
  have hm : i ∈ l.drop (aheadL l i) := by
    rw [← List.take_append_drop (aheadL l i) l] at hi
    rcases List.mem_append.1 hi with h1 | h1
    · exact absurd (ahead_front h i h1) (less_irr i)
    · exact h1
  cases e : l.drop (aheadL l i) with
  | nil => rw [e] at hm; cases hm
  | cons b r =>
    have hp : Up (b :: r) := by rw [← e]; exact h.sublist (List.drop_sublist _ _)
    have hb : ¬ lessI b i = true := hc.2 b (by rw [e]; exact List.mem_cons_self)
    have hbi : b = i := by
      rw [e] at hm
      rcases List.mem_cons.1 hm with rfl | hm
      · rfl
      · exact absurd ((List.pairwise_cons.1 hp).1 i hm) hb
    have : l[aheadL l i]? = (l.drop (aheadL l i))[0]? := by rw [List.getElem?_drop, Nat.add_zero]
    rw [this, e, hbi]; rfl
theorem ins_up {l : List Tid} {i : Tid} (h : Up l) : Up (insG id l i) := by
  unfold insG
  rw [List.map_id, show id i = i from rfl]
  split
  · rename_i e
    have hl := (List.getElem?_eq_some_iff.1 e)
    obtain ⟨h1, h2⟩ := hl
    have : l.set (aheadL l i) i = l := by
      conv => lhs; arg 3; rw [← h2]
      exact List.set_getElem_self h1
    rw [this]; exact h
  · rename_i e
    have hne : i ∉ l := fun hm => e (ahead_there h hm)
    obtain ⟨c1, c2⟩ := ahead_cut i h
    refine List.pairwise_append.2 ⟨h.sublist (List.take_sublist _ _), List.pairwise_cons.2 ⟨fun y hy => ?_, h.sublist (List.drop_sublist _ _)⟩, fun x hx y hy => ?_⟩
    · rcases less_tri i y with h1 | h1 | h1
      · exact h1
      · exact absurd (h1 ▸ List.mem_of_mem_drop hy) hne
      · exact absurd h1 (c2 y hy)
    · have hxi := ahead_front h x hx
      rcases List.mem_cons.1 hy with rfl | hy
      · exact hxi
      · have hp := List.pairwise_append.1 (show Up (l.take (aheadL l i) ++ l.drop (aheadL l i)) by rw [List.take_append_drop]; exact h)
        exact hp.2.2 x hx y hy
theorem insG_mem {α : Type} {key : α → Tid} {l : List α} {x y : α} (h : y ∈ insG key l x) : y ∈ l ∨ y = x := by
  unfold insG at h
  split at h
  · rcases List.mem_or_eq_of_mem_set h with h1 | h1
    · exact .inl h1
    · exact .inr h1
  · rcases List.mem_append.1 h with h1 | h1
    · exact .inl (List.mem_of_mem_take h1)
    · rcases List.mem_cons.1 h1 with h1 | h1
      · exact .inr h1
      · exact .inl (List.mem_of_mem_drop h1)
theorem putG_mem {α : Type} {key : α → Tid} {l : List α} {x y : α} (h : y ∈ putG key l x) : y ∈ l ∨ y = x := by
  unfold putG at h
  split at h
  · exact insG_mem h
  · exact insG_mem (List.mem_of_mem_eraseIdx h)
theorem putsG_mem {α : Type} {key : α → Tid} {y : α} : ∀ {xs l : List α}, y ∈ putsG key l xs → y ∈ l ∨ y ∈ xs
  | [], l, h => .inl h
  | x :: xs, l, h => by
    rcases putsG_mem (xs := xs) (l := putG key l x) h with h1 | h1
    · rcases putG_mem h1 with h2 | h2
      · exact .inl h2
      · exact .inr (h2 ▸ List.mem_cons_self)
    · exact .inr (List.mem_cons_of_mem _ h1)
theorem put_up {l : List Tid} {i : Tid} (h : Up l) : Up (putG id l i) := by
  unfold putG
  split
  · exact ins_up h
  · exact (ins_up h).sublist (List.eraseIdx_sublist _ _)
theorem puts_up : ∀ {xs l : List Tid}, Up l → Up (putsG id l xs)
  | [], l, h => h
  | x :: xs, l, h => puts_up (xs := xs) (put_up h)
theorem putsG_len {α : Type} (key : α → Tid) : ∀ (xs : List α) {l : List α}, l.length ≤ 6 → (putsG key l xs).length ≤ 6
  | [], l, h => h
  | x :: xs, l, h => putsG_len key xs (putG_len key x h)
theorem ids_puts (l xs : List Mk) : idsM (putsG Mk.i l xs) = putsG id (idsM l) (idsM xs) := putsG_map (key' := id) (fun _ => rfl) xs l
theorem marks_iff {l : List Mk} : marksB l = true ↔ Up (idsM l) ∧ (∀ m ∈ l, okM m = true) ∧ l.length ≤ 6 := by
  rw [marksB_iff, rises_iff]
  constructor
  · rintro ⟨⟨h1, h2⟩, h3, h4⟩
    exact ⟨h1, fun m hm => okM_iff.2 ⟨h2 _ (List.mem_map_of_mem hm), h3 m hm⟩, h4⟩
  · rintro ⟨h1, h2, h4⟩
    refine ⟨⟨h1, fun x hx => ?_⟩, fun m hm => (okM_iff.1 (h2 m hm)).2, h4⟩
    obtain ⟨m, hm, rfl⟩ := List.mem_map.1 hx
    exact (okM_iff.1 (h2 m hm)).1
theorem puts_marks {l xs : List Mk} (h : marksB l = true) (hx : xs.all okM = true) : marksB (putsG Mk.i l xs) = true := by
  obtain ⟨h1, h2, h3⟩ := marks_iff.1 h
  refine marks_iff.2 ⟨by rw [ids_puts]; exact puts_up h1, fun m hm => ?_, putsG_len _ _ h3⟩
  rcases putsG_mem hm with h4 | h4
  · exact h2 m h4
  · exact List.all_eq_true.1 hx m h4
theorem marks_sub {l m : List Mk} (h : marksB m = true) (hs : l.Sublist m) : marksB l = true := by
  obtain ⟨h1, h2, h3⟩ := marks_iff.1 h
  exact marks_iff.2 ⟨h1.sublist (hs.map _), fun x hx => h2 x (hs.subset hx), Nat.le_trans hs.length_le h3⟩
theorem mk_take {l m : List Mk} {k : Nat} (h : marksB m = true) (hl : l = m.take k) : marksB l = true := by subst hl; exact marks_sub h (List.take_sublist _ _)
theorem row_okM {ms : List Mk} {cs : List Cv} {b : Nat} {l : List Tid} (h1 : idsM ms = l) (h2 : PaintOk ms cs b) : ms.all okM = l.all okI := by
  subst h1
  rw [Bool.eq_iff_iff, List.all_eq_true, List.all_eq_true]
  constructor
  · intro h x hx
    obtain ⟨m, hm, rfl⟩ := List.mem_map.1 hx
    exact (okM_iff.1 (h m hm)).1
  · intro h m hm
    exact okM_iff.2 ⟨h _ (List.mem_map_of_mem hm), paint_some h2 m hm⟩
theorem row_marks {ms : List Mk} {cs : List Cv} {b : Nat} {l : List Tid} (h1 : idsM ms = l) (h2 : PaintOk ms cs b) : marksB ms = (risesB l && decide (l.length ≤ 6)) := by
  subst h1
  unfold marksB
  rw [ids_len, show ms.all (fun m => m.c.isSome) = true from List.all_eq_true.2 (paint_some h2), Bool.true_and]
theorem bel_i (ms : List Mk) (i : Tid) : (belM ms i).i = (((idsM ms).take (aheadL (idsM ms) i))[((idsM ms).take (aheadL (idsM ms) i)).length - 1]?).getD ⟨0, 0, 0⟩ := by
  unfold belM
  rw [← ids_take, ids_len, List.getElem?_map]
  cases (ms.take (aheadL (idsM ms) i))[(ms.take (aheadL (idsM ms) i)).length - 1]? <;> rfl
theorem take_ids_len (ms : List Mk) (k : Nat) : (ms.take k).length = ((idsM ms).take k).length := by rw [← ids_take, ids_len]
theorem fold_ids (ms : List Mk) (t : Int) : idsM (ms.filter fun x : Mk => decide (t < x.i.t)) = (idsM ms).filter fun x => decide (t < x.t) := by
  unfold idsM
  rw [List.filter_map]; rfl
theorem fold_len (ms : List Mk) (t : Int) : (ms.filter fun x : Mk => decide (t < x.i.t)).length = ((idsM ms).filter fun x => decide (t < x.t)).length := by rw [← fold_ids, ids_len]
end Go.Proofs.Ytmihoejecpcmjaa
/- net and journal: wakes. Printed by a program of this seat's prover. -/
namespace Go.Proofs.Ytmihoejecpcmjaa
open Go Go.RowKit
set_option maxRecDepth 10000
set_option maxHeartbeats 4000000 in
theorem wakes_c (w : World) : Calls Try.prog 8 #[] w fun e w' => e = .returned (.bool true) ∧ Below w.heap.size w w' := by
  refine calls_of_T (l := []) 139 Try.func8 rfl rfl rfl ?_
  show T _ _ _ [] []
  refine T_seq (T_region ?_)
  refine TL_q (.bool false) (fun _ _ hρ _ => r_assign (hρ _ _ rfl)) rfl rfl rfl (w_n rfl) ?_
  refine TL_seq ?_
  refine T_seq (T_region ?_)
  refine TL_call (.agg #[.int .u64 1, .int .i64 1, .int .u64 1]) (fun _ _ hρ _ => r_call (args := [.int .u64 1]) (enters_of Try.func25 (by kernel_rfl) rfl) (hρ _ _ rfl) ((cons2 (hρ _ _ rfl) rfl)) rfl) (fun w _ => id_c 1 w) rfl rfl rfl (w_n rfl) ?_
  refine TL_call (.agg #[.int .u64 2, .int .i64 1, .int .u64 1]) (fun _ _ hρ _ => r_call (args := [.int .u64 2]) (enters_of Try.func25 (by kernel_rfl) rfl) (hρ _ _ rfl) ((cons2 (hρ _ _ rfl) rfl)) rfl) (fun w _ => id_c 2 w) rfl rfl rfl (w_n rfl) ?_
  refine TL_call (.agg #[.int .u64 3, .int .i64 1, .int .u64 1]) (fun _ _ hρ _ => r_call (args := [.int .u64 3]) (enters_of Try.func25 (by kernel_rfl) rfl) (hρ _ _ rfl) ((cons2 (hρ _ _ rfl) rfl)) rfl) (fun w _ => id_c 3 w) rfl rfl rfl (w_n rfl) ?_
  refine TL_call (.agg #[.int .u64 4, .int .i64 1, .int .u64 1]) (fun _ _ hρ _ => r_call (args := [.int .u64 4]) (enters_of Try.func25 (by kernel_rfl) rfl) (hρ _ _ rfl) ((cons2 (hρ _ _ rfl) rfl)) rfl) (fun w _ => id_c 4 w) rfl rfl rfl (w_n rfl) ?_
  refine TL_call (.agg #[.int .u64 5, .int .i64 1, .int .u64 1]) (fun _ _ hρ _ => r_call (args := [.int .u64 5]) (enters_of Try.func25 (by kernel_rfl) rfl) (hρ _ _ rfl) ((cons2 (hρ _ _ rfl) rfl)) rfl) (fun w _ => id_c 5 w) rfl rfl rfl (w_n rfl) ?_
  refine TL_call (.agg #[.int .u64 6, .int .i64 1, .int .u64 1]) (fun _ _ hρ _ => r_call (args := [.int .u64 6]) (enters_of Try.func25 (by kernel_rfl) rfl) (hρ _ _ rfl) ((cons2 (hρ _ _ rfl) rfl)) rfl) (fun w _ => id_c 6 w) rfl rfl rfl (w_n rfl) ?_
  refine TL_new 1 (.cells #[.int .u64 1, .int .i64 1, .int .u64 1, .int .u64 2, .int .i64 1, .int .u64 1, .int .u64 3, .int .i64 1, .int .u64 1, .int .u64 4, .int .i64 1, .int .u64 1, .int .u64 5, .int .i64 1, .int .u64 1, .int .u64 6, .int .i64 1, .int .u64 1] 32) (fun B => .slice (some ⟨B, 0, none⟩) 6 6) (fun _ _ hρ _ => r_buildSlice (vs := [(0, .agg #[.int .u64 1, .int .i64 1, .int .u64 1]), (1, .agg #[.int .u64 2, .int .i64 1, .int .u64 1]), (2, .agg #[.int .u64 3, .int .i64 1, .int .u64 1]), (3, .agg #[.int .u64 4, .int .i64 1, .int .u64 1]), (4, .agg #[.int .u64 5, .int .i64 1, .int .u64 1]), (5, .agg #[.int .u64 6, .int .i64 1, .int .u64 1])]) (by kernel_rfl) (cons2 (pair2 (hρ _ _ rfl)) (cons2 (pair2 (hρ _ _ rfl)) (cons2 (pair2 (hρ _ _ rfl)) (cons2 (pair2 (hρ _ _ rfl)) (cons2 (pair2 (hρ _ _ rfl)) (cons2 (pair2 (hρ _ _ rfl)) rfl))))))) rfl rfl rfl (w_n rfl) ?_
  intro B1
  refine TL_callN (fun ((mr2, cs2, ar2, cr2) : List Mk × List Cv × Option Addr × Nat) => idsM mr2 = [(⟨1, 1, 1⟩ : Tid), (⟨2, 1, 1⟩ : Tid), (⟨3, 1, 1⟩ : Tid), (⟨4, 1, 1⟩ : Tid), (⟨5, 1, 1⟩ : Tid), (⟨6, 1, 1⟩ : Tid)] ∧ PaintOk mr2 cs2 0) (fun (mr2, cs2, ar2, cr2) => .slice ar2 mr2.length cr2) (fun (mr2, cs2, ar2, cr2) => [(951, .row (.slice ar2 mr2.length cr2) 36 4 mr2.length (mr2.flatMap Mk.cells)), (961, .cvs cs2)]) (fun _ _ hρ _ => r_call (args := [.slice (some ⟨B1, 0, none⟩) 6 6, .int .i64 0]) (enters_of Try.func9 (by kernel_rfl) rfl) (hρ _ _ rfl) ((cons2 (hρ _ _ rfl) (cons2 (hρ _ _ rfl) rfl))) rfl) (fun w hm => (row_c [(⟨1, 1, 1⟩ : Tid), (⟨2, 1, 1⟩ : Tid), (⟨3, 1, 1⟩ : Tid), (⟨4, 1, 1⟩ : Tid), (⟨5, 1, 1⟩ : Tid), (⟨6, 1, 1⟩ : Tid)] (some ⟨B1, 0, none⟩) 6 0 w ⟨Nat.le_of_ble_eq_true rfl, (fun e => by cases e), .inr ⟨_, 0, _, _, _, rfl, (hm.at 1 rfl), row_of_take (fun _ => rfl) rfl⟩⟩ (Nat.le_of_ble_eq_true rfl) (by omega) (by decide)).mono fun e w' ⟨m, c, a', cap', he, hb, hn, h1, h2⟩ => ⟨(m, c, a', cap'), ⟨h1, h2⟩, he, hb, newOk_at 951 961 (by decide) hn⟩) rfl rfl rfl (w_n rfl) ?_
  rintro ⟨mr2, cs2, ar2, cr2⟩ hr2
  refine TL_callN (fun (_ : Option Addr × Nat) => True) (fun (ar3, cr3) => .tuple #[.slice ar3 ((putsG Mk.i [] mr2).length) cr3, .int .i64 0]) (fun (ar3, cr3) => [(941, .row (.slice ar3 ((putsG Mk.i [] mr2).length) cr3) 36 4 ((putsG Mk.i [] mr2).length) ((putsG Mk.i [] mr2).flatMap Mk.cells))]) (fun _ _ hρ _ => r_call (args := [.slice none 0 0, .slice ar2 mr2.length cr2]) (enters_of Try.func21 (by kernel_rfl) rfl) (hρ _ _ rfl) ((cons2 (hρ _ _ rfl) (cons2 (hρ _ _ rfl) rfl))) rfl) (fun w hm => (put_ok [] none 0 mr2 ar2 cr2 w (sliceNil w) (by decide) (SliceAt.own Mk.cells_len (hm.row 951 rfl) rfl rfl) (row_cap (hm.row 951 rfl)) (rfl : marksB [] = true) (by rw [row_okM hr2.1 hr2.2]; decide +kernel)).mono fun e w' ⟨a', cap', he, hb, hr⟩ => ⟨(a', cap'), trivial, he, hb, newOk1 941 hr⟩) rfl rfl rfl (w_n rfl) ?_
  rintro ⟨ar3, cr3⟩ -
  refine TL_q (.tuple #[.slice ar3 ((putsG Mk.i [] mr2).length) cr3, .int .i64 0]) (fun _ _ hρ _ => r_move (hρ _ _ rfl)) rfl rfl rfl (w_n rfl) ?_
  refine TL_q (.slice ar3 ((putsG Mk.i [] mr2).length) cr3) (fun _ _ hρ _ => r_extract (hρ _ _ rfl) rfl) rfl rfl rfl (w_n rfl) ?_
  refine TL_q (.int .i64 0) (fun _ _ hρ _ => r_extract (hρ _ _ rfl) rfl) rfl rfl rfl (w_n rfl) ?_
  refine TL_q (.slice ar3 ((putsG Mk.i [] mr2).length) cr3) (fun _ _ hρ _ => r_assign (hρ _ _ rfl)) rfl rfl rfl (w_n rfl) ?_
  refine TL_q (.int .i64 0) (fun _ _ hρ _ => r_assign (hρ _ _ rfl)) rfl rfl rfl (w_n rfl) ?_
  refine TL_seq ?_
  obtain ⟨m1, hm1⟩ : ∃ z, z = putsG Mk.i [] mr2 := ⟨_, rfl⟩
  rw [← hm1]
  have hm1i : idsM m1 = [(⟨1, 1, 1⟩ : Tid), (⟨2, 1, 1⟩ : Tid), (⟨3, 1, 1⟩ : Tid), (⟨4, 1, 1⟩ : Tid), (⟨5, 1, 1⟩ : Tid), (⟨6, 1, 1⟩ : Tid)] := by rw [hm1, ids_puts, hr2.1]; decide +kernel
  have hm1k : marksB m1 = true := by rw [hm1]; exact puts_marks rfl (by rw [row_okM hr2.1 hr2.2]; decide +kernel)
  have hm1l : m1.length = 6 := by rw [← ids_len, hm1i]; rfl
  refine T_seq (T_region ?_)
  refine TL_q (.slice ar3 m1.length cr3) (fun _ _ hρ _ => r_move (hρ _ _ rfl)) rfl rfl rfl (w_n rfl) ?_
  refine TL_call (.agg #[.int .u64 7, .int .i64 1, .int .u64 1]) (fun _ _ hρ _ => r_call (args := [.int .u64 7]) (enters_of Try.func25 (by kernel_rfl) rfl) (hρ _ _ rfl) ((cons2 (hρ _ _ rfl) rfl)) rfl) (fun w _ => id_c 7 w) rfl rfl rfl (w_n rfl) ?_
  refine TL_new 2 (.cells #[.int .u64 7, .int .i64 1, .int .u64 1] 32) (fun B => .slice (some ⟨B, 0, none⟩) 1 1) (fun _ _ hρ _ => r_buildSlice (vs := [(0, .agg #[.int .u64 7, .int .i64 1, .int .u64 1])]) (by kernel_rfl) (cons2 (pair2 (hρ _ _ rfl)) rfl)) rfl rfl rfl (w_n rfl) ?_
  intro B4
  refine TL_callN (fun ((mr5, cs5, ar5, cr5) : List Mk × List Cv × Option Addr × Nat) => idsM mr5 = [(⟨7, 1, 1⟩ : Tid)] ∧ PaintOk mr5 cs5 9) (fun (mr5, cs5, ar5, cr5) => .slice ar5 mr5.length cr5) (fun (mr5, cs5, ar5, cr5) => [(952, .row (.slice ar5 mr5.length cr5) 36 4 mr5.length (mr5.flatMap Mk.cells)), (962, .cvs cs5)]) (fun _ _ hρ _ => r_call (args := [.slice (some ⟨B4, 0, none⟩) 1 1, .int .i64 9]) (enters_of Try.func9 (by kernel_rfl) rfl) (hρ _ _ rfl) ((cons2 (hρ _ _ rfl) (cons2 (hρ _ _ rfl) rfl))) rfl) (fun w hm => (row_c [(⟨7, 1, 1⟩ : Tid)] (some ⟨B4, 0, none⟩) 1 9 w ⟨Nat.le_of_ble_eq_true rfl, (fun e => by cases e), .inr ⟨_, 0, _, _, _, rfl, (hm.at 2 rfl), row_of_take (fun _ => rfl) rfl⟩⟩ (Nat.le_of_ble_eq_true rfl) (by omega) (by decide)).mono fun e w' ⟨m, c, a', cap', he, hb, hn, h1, h2⟩ => ⟨(m, c, a', cap'), ⟨h1, h2⟩, he, hb, newOk_at 952 962 (by decide) hn⟩) rfl rfl rfl (w_n rfl) ?_
  rintro ⟨mr5, cs5, ar5, cr5⟩ hr5
  refine TL_callN (fun (_ : Option Addr × Nat) => True) (fun (ar6, cr6) => .tuple #[.slice ar6 ((putsG Mk.i m1 mr5).length) cr6, .int .i64 0]) (fun (ar6, cr6) => [(942, .row (.slice ar6 ((putsG Mk.i m1 mr5).length) cr6) 36 4 ((putsG Mk.i m1 mr5).length) ((putsG Mk.i m1 mr5).flatMap Mk.cells))]) (fun _ _ hρ _ => r_call (args := [.slice ar3 m1.length cr3, .slice ar5 mr5.length cr5]) (enters_of Try.func21 (by kernel_rfl) rfl) (hρ _ _ rfl) ((cons2 (hρ _ _ rfl) (cons2 (hρ _ _ rfl) rfl))) rfl) (fun w hm => (put_ok m1 ar3 cr3 mr5 ar5 cr5 w (SliceAt.own Mk.cells_len (hm.row 941 rfl) rfl rfl) (row_cap (hm.row 941 rfl)) (SliceAt.own Mk.cells_len (hm.row 952 rfl) rfl rfl) (row_cap (hm.row 952 rfl)) hm1k (by rw [row_okM hr5.1 hr5.2]; decide +kernel)).mono fun e w' ⟨a', cap', he, hb, hr⟩ => ⟨(a', cap'), trivial, he, hb, newOk1 942 hr⟩) rfl rfl rfl (w_n rfl) ?_
  rintro ⟨ar6, cr6⟩ -
  refine TL_q (.tuple #[.slice ar6 ((putsG Mk.i m1 mr5).length) cr6, .int .i64 0]) (fun _ _ hρ _ => r_move (hρ _ _ rfl)) rfl rfl rfl (w_n rfl) ?_
  refine TL_q (.slice ar6 ((putsG Mk.i m1 mr5).length) cr6) (fun _ _ hρ _ => r_extract (hρ _ _ rfl) rfl) rfl rfl rfl (w_n rfl) ?_
  refine TL_q (.int .i64 0) (fun _ _ hρ _ => r_extract (hρ _ _ rfl) rfl) rfl rfl rfl (w_n rfl) ?_
  refine TL_q (.slice ar6 ((putsG Mk.i m1 mr5).length) cr6) (fun _ _ hρ _ => r_assign (hρ _ _ rfl)) rfl rfl rfl (w_n rfl) ?_
  refine TL_q (.int .i64 0) (fun _ _ hρ _ => r_assign (hρ _ _ rfl)) rfl rfl rfl (w_n rfl) ?_
  refine TL_seq ?_
  obtain ⟨m2, hm2⟩ : ∃ z, z = putsG Mk.i m1 mr5 := ⟨_, rfl⟩
  rw [← hm2]
  have hm2i : idsM m2 = [(⟨1, 1, 1⟩ : Tid), (⟨3, 1, 1⟩ : Tid), (⟨4, 1, 1⟩ : Tid), (⟨5, 1, 1⟩ : Tid), (⟨6, 1, 1⟩ : Tid), (⟨7, 1, 1⟩ : Tid)] := by rw [hm2, ids_puts, hm1i, hr5.1]; decide +kernel
  have hm2k : marksB m2 = true := by rw [hm2]; exact puts_marks hm1k (by rw [row_okM hr5.1 hr5.2]; decide +kernel)
  refine T_seq (T_region ?_)
  refine TL_call (.agg #[.int .u64 10, .int .i64 1, .int .u64 1]) (fun _ _ hρ _ => r_call (args := [.int .u64 10]) (enters_of Try.func25 (by kernel_rfl) rfl) (hρ _ _ rfl) ((cons2 (hρ _ _ rfl) rfl)) rfl) (fun w _ => id_c 10 w) rfl rfl rfl (w_n rfl) ?_
  refine TL_call (.agg #[.int .u64 20, .int .i64 1, .int .u64 1]) (fun _ _ hρ _ => r_call (args := [.int .u64 20]) (enters_of Try.func25 (by kernel_rfl) rfl) (hρ _ _ rfl) ((cons2 (hρ _ _ rfl) rfl)) rfl) (fun w _ => id_c 20 w) rfl rfl rfl (w_n rfl) ?_
  refine TL_call (.agg #[.int .u64 21, .int .i64 1, .int .u64 1]) (fun _ _ hρ _ => r_call (args := [.int .u64 21]) (enters_of Try.func25 (by kernel_rfl) rfl) (hρ _ _ rfl) ((cons2 (hρ _ _ rfl) rfl)) rfl) (fun w _ => id_c 21 w) rfl rfl rfl (w_n rfl) ?_
  refine TL_call (.agg #[.int .u64 30, .int .i64 1, .int .u64 1]) (fun _ _ hρ _ => r_call (args := [.int .u64 30]) (enters_of Try.func25 (by kernel_rfl) rfl) (hρ _ _ rfl) ((cons2 (hρ _ _ rfl) rfl)) rfl) (fun w _ => id_c 30 w) rfl rfl rfl (w_n rfl) ?_
  refine TL_call (.agg #[.int .u64 40, .int .i64 1, .int .u64 1]) (fun _ _ hρ _ => r_call (args := [.int .u64 40]) (enters_of Try.func25 (by kernel_rfl) rfl) (hρ _ _ rfl) ((cons2 (hρ _ _ rfl) rfl)) rfl) (fun w _ => id_c 40 w) rfl rfl rfl (w_n rfl) ?_
  refine TL_call (.agg #[.int .u64 50, .int .i64 1, .int .u64 1]) (fun _ _ hρ _ => r_call (args := [.int .u64 50]) (enters_of Try.func25 (by kernel_rfl) rfl) (hρ _ _ rfl) ((cons2 (hρ _ _ rfl) rfl)) rfl) (fun w _ => id_c 50 w) rfl rfl rfl (w_n rfl) ?_
  refine TL_call (.agg #[.int .u64 60, .int .i64 1, .int .u64 1]) (fun _ _ hρ _ => r_call (args := [.int .u64 60]) (enters_of Try.func25 (by kernel_rfl) rfl) (hρ _ _ rfl) ((cons2 (hρ _ _ rfl) rfl)) rfl) (fun w _ => id_c 60 w) rfl rfl rfl (w_n rfl) ?_
  refine TL_new 3 (.cells #[.int .u64 10, .int .i64 1, .int .u64 1, .int .u64 20, .int .i64 1, .int .u64 1, .int .u64 21, .int .i64 1, .int .u64 1, .int .u64 30, .int .i64 1, .int .u64 1, .int .u64 40, .int .i64 1, .int .u64 1, .int .u64 50, .int .i64 1, .int .u64 1, .int .u64 60, .int .i64 1, .int .u64 1] 32) (fun B => .slice (some ⟨B, 0, none⟩) 7 7) (fun _ _ hρ _ => r_buildSlice (vs := [(0, .agg #[.int .u64 10, .int .i64 1, .int .u64 1]), (1, .agg #[.int .u64 20, .int .i64 1, .int .u64 1]), (2, .agg #[.int .u64 21, .int .i64 1, .int .u64 1]), (3, .agg #[.int .u64 30, .int .i64 1, .int .u64 1]), (4, .agg #[.int .u64 40, .int .i64 1, .int .u64 1]), (5, .agg #[.int .u64 50, .int .i64 1, .int .u64 1]), (6, .agg #[.int .u64 60, .int .i64 1, .int .u64 1])]) (by kernel_rfl) (cons2 (pair2 (hρ _ _ rfl)) (cons2 (pair2 (hρ _ _ rfl)) (cons2 (pair2 (hρ _ _ rfl)) (cons2 (pair2 (hρ _ _ rfl)) (cons2 (pair2 (hρ _ _ rfl)) (cons2 (pair2 (hρ _ _ rfl)) (cons2 (pair2 (hρ _ _ rfl)) rfl)))))))) rfl rfl rfl (w_n rfl) ?_
  intro B7
  refine TL_callN (fun ((mr8, cs8, ar8, cr8) : List Mk × List Cv × Option Addr × Nat) => idsM mr8 = [(⟨10, 1, 1⟩ : Tid), (⟨20, 1, 1⟩ : Tid), (⟨21, 1, 1⟩ : Tid), (⟨30, 1, 1⟩ : Tid), (⟨40, 1, 1⟩ : Tid), (⟨50, 1, 1⟩ : Tid), (⟨60, 1, 1⟩ : Tid)] ∧ PaintOk mr8 cs8 0) (fun (mr8, cs8, ar8, cr8) => .slice ar8 mr8.length cr8) (fun (mr8, cs8, ar8, cr8) => [(953, .row (.slice ar8 mr8.length cr8) 36 4 mr8.length (mr8.flatMap Mk.cells)), (963, .cvs cs8)]) (fun _ _ hρ _ => r_call (args := [.slice (some ⟨B7, 0, none⟩) 7 7, .int .i64 0]) (enters_of Try.func9 (by kernel_rfl) rfl) (hρ _ _ rfl) ((cons2 (hρ _ _ rfl) (cons2 (hρ _ _ rfl) rfl))) rfl) (fun w hm => (row_c [(⟨10, 1, 1⟩ : Tid), (⟨20, 1, 1⟩ : Tid), (⟨21, 1, 1⟩ : Tid), (⟨30, 1, 1⟩ : Tid), (⟨40, 1, 1⟩ : Tid), (⟨50, 1, 1⟩ : Tid), (⟨60, 1, 1⟩ : Tid)] (some ⟨B7, 0, none⟩) 7 0 w ⟨Nat.le_of_ble_eq_true rfl, (fun e => by cases e), .inr ⟨_, 0, _, _, _, rfl, (hm.at 3 rfl), row_of_take (fun _ => rfl) rfl⟩⟩ (Nat.le_of_ble_eq_true rfl) (by omega) (by decide)).mono fun e w' ⟨m, c, a', cap', he, hb, hn, h1, h2⟩ => ⟨(m, c, a', cap'), ⟨h1, h2⟩, he, hb, newOk_at 953 963 (by decide) hn⟩) rfl rfl rfl (w_n rfl) ?_
  rintro ⟨mr8, cs8, ar8, cr8⟩ hr8
  refine TL_callN (fun (_ : Option Addr × Nat) => True) (fun (ar9, cr9) => .tuple #[.slice ar9 ((putsG Mk.i [] mr8).length) cr9, .int .i64 0]) (fun (ar9, cr9) => [(943, .row (.slice ar9 ((putsG Mk.i [] mr8).length) cr9) 36 4 ((putsG Mk.i [] mr8).length) ((putsG Mk.i [] mr8).flatMap Mk.cells))]) (fun _ _ hρ _ => r_call (args := [.slice none 0 0, .slice ar8 mr8.length cr8]) (enters_of Try.func21 (by kernel_rfl) rfl) (hρ _ _ rfl) ((cons2 (hρ _ _ rfl) (cons2 (hρ _ _ rfl) rfl))) rfl) (fun w hm => (put_ok [] none 0 mr8 ar8 cr8 w (sliceNil w) (by decide) (SliceAt.own Mk.cells_len (hm.row 953 rfl) rfl rfl) (row_cap (hm.row 953 rfl)) (rfl : marksB [] = true) (by rw [row_okM hr8.1 hr8.2]; decide +kernel)).mono fun e w' ⟨a', cap', he, hb, hr⟩ => ⟨(a', cap'), trivial, he, hb, newOk1 943 hr⟩) rfl rfl rfl (w_n rfl) ?_
  rintro ⟨ar9, cr9⟩ -
  refine TL_q (.tuple #[.slice ar9 ((putsG Mk.i [] mr8).length) cr9, .int .i64 0]) (fun _ _ hρ _ => r_move (hρ _ _ rfl)) rfl rfl rfl (w_n rfl) ?_
  refine TL_q (.slice ar9 ((putsG Mk.i [] mr8).length) cr9) (fun _ _ hρ _ => r_extract (hρ _ _ rfl) rfl) rfl rfl rfl (w_n rfl) ?_
  refine TL_q (.int .i64 0) (fun _ _ hρ _ => r_extract (hρ _ _ rfl) rfl) rfl rfl rfl (w_n rfl) ?_
  refine TL_q (.slice ar9 ((putsG Mk.i [] mr8).length) cr9) (fun _ _ hρ _ => r_assign (hρ _ _ rfl)) rfl rfl rfl (w_n rfl) ?_
  refine TL_q (.int .i64 0) (fun _ _ hρ _ => r_assign (hρ _ _ rfl)) rfl rfl rfl (w_n rfl) ?_
  refine TL_seq ?_
  refine T_sub [(0, .bool false), (1, .slice ar3 m1.length cr3), (2, .int .i64 0), (3, .slice ar6 m2.length cr6), (4, .int .i64 0), (5, .slice ar9 ((putsG Mk.i [] mr8).length) cr9), (6, .int .i64 0)] [(943, .row (.slice ar9 ((putsG Mk.i [] mr8).length) cr9) 36 4 ((putsG Mk.i [] mr8).length) ((putsG Mk.i [] mr8).flatMap Mk.cells)), (953, .row (.slice ar8 mr8.length cr8) 36 4 mr8.length (mr8.flatMap Mk.cells)), (963, .cvs cs8), (942, .row (.slice ar6 m2.length cr6) 36 4 m2.length (m2.flatMap Mk.cells)), (952, .row (.slice ar5 mr5.length cr5) 36 4 mr5.length (mr5.flatMap Mk.cells)), (962, .cvs cs5), (941, .row (.slice ar3 m1.length cr3) 36 4 m1.length (m1.flatMap Mk.cells)), (951, .row (.slice ar2 mr2.length cr2) 36 4 mr2.length (mr2.flatMap Mk.cells)), (961, .cvs cs2), (1, .blk B1 (.cells #[.int .u64 1, .int .i64 1, .int .u64 1, .int .u64 2, .int .i64 1, .int .u64 1, .int .u64 3, .int .i64 1, .int .u64 1, .int .u64 4, .int .i64 1, .int .u64 1, .int .u64 5, .int .i64 1, .int .u64 1, .int .u64 6, .int .i64 1, .int .u64 1] 32)), (2, .blk B4 (.cells #[.int .u64 7, .int .i64 1, .int .u64 1] 32)), (3, .blk B7 (.cells #[.int .u64 10, .int .i64 1, .int .u64 1, .int .u64 20, .int .i64 1, .int .u64 1, .int .u64 21, .int .i64 1, .int .u64 1, .int .u64 30, .int .i64 1, .int .u64 1, .int .u64 40, .int .i64 1, .int .u64 1, .int .u64 50, .int .i64 1, .int .u64 1, .int .u64 60, .int .i64 1, .int .u64 1] 32))] (sub_cons rfl (sub_cons rfl (sub_cons rfl (sub_cons rfl (sub_cons rfl (sub_cons rfl (sub_cons rfl sub_nil))))))) (sub_cons rfl (sub_cons rfl (sub_cons rfl (sub_cons rfl (sub_cons rfl (sub_cons rfl (sub_cons rfl (sub_cons rfl (sub_cons rfl (sub_cons rfl (sub_cons rfl (sub_cons rfl sub_nil)))))))))))) ?_
  obtain ⟨m3, hm3⟩ : ∃ z, z = putsG Mk.i [] mr8 := ⟨_, rfl⟩
  rw [← hm3]
  have hm3i : idsM m3 = [(⟨10, 1, 1⟩ : Tid), (⟨20, 1, 1⟩ : Tid), (⟨30, 1, 1⟩ : Tid), (⟨40, 1, 1⟩ : Tid), (⟨50, 1, 1⟩ : Tid), (⟨60, 1, 1⟩ : Tid)] := by rw [hm3, ids_puts, hr8.1]; decide +kernel
  have hm3k : marksB m3 = true := by rw [hm3]; exact puts_marks rfl (by rw [row_okM hr8.1 hr8.2]; decide +kernel)
  refine T_seq (T_region ?_)
  refine TL_q (.slice ar3 m1.length cr3) (fun _ _ hρ _ => r_move (hρ _ _ rfl)) rfl rfl rfl (w_n rfl) ?_
  refine TL_call (.agg #[.int .u64 4, .int .i64 1, .int .u64 1]) (fun _ _ hρ _ => r_call (args := [.int .u64 4]) (enters_of Try.func25 (by kernel_rfl) rfl) (hρ _ _ rfl) ((cons2 (hρ _ _ rfl) rfl)) rfl) (fun w _ => id_c 4 w) rfl rfl rfl (w_n rfl) ?_
  refine TL_call (.tuple #[.agg #[.int .u64 ((belM m1 (⟨4, 1, 1⟩ : Tid)).i.t), .int .i64 ((belM m1 (⟨4, 1, 1⟩ : Tid)).i.s), .int .u64 ((belM m1 (⟨4, 1, 1⟩ : Tid)).i.q), .pointer (belM m1 (⟨4, 1, 1⟩ : Tid)).ptr], .bool true]) (fun _ _ hρ _ => r_call (args := [.slice ar3 m1.length cr3, .agg #[.int .u64 4, .int .i64 1, .int .u64 1]]) (enters_of Try.func26 (by kernel_rfl) rfl) (hρ _ _ rfl) ((cons2 (hρ _ _ rfl) (cons2 (hρ _ _ rfl) rfl))) rfl) (fun w hm => (below_ok m1 ar3 cr3 (⟨4, 1, 1⟩ : Tid) w (SliceAt.own Mk.cells_len (hm.row 941 rfl) rfl rfl) (row_cap (hm.row 941 rfl)) hm1k).mono fun _ _ h => ⟨h.1.trans (congrArg Ending.returned (congrArg (fun z => Value.tuple #[(belM m1 (⟨4, 1, 1⟩ : Tid)).v, .bool z]) (show decide _ = true by rw [take_ids_len, hm1i]; decide +kernel))), h.2⟩) rfl rfl rfl (w_n rfl) ?_
  refine TL_q (.tuple #[.agg #[.int .u64 ((belM m1 (⟨4, 1, 1⟩ : Tid)).i.t), .int .i64 ((belM m1 (⟨4, 1, 1⟩ : Tid)).i.s), .int .u64 ((belM m1 (⟨4, 1, 1⟩ : Tid)).i.q), .pointer (belM m1 (⟨4, 1, 1⟩ : Tid)).ptr], .bool true]) (fun _ _ hρ _ => r_move (hρ _ _ rfl)) rfl rfl rfl (w_n rfl) ?_
  refine TL_q (.agg #[.int .u64 ((belM m1 (⟨4, 1, 1⟩ : Tid)).i.t), .int .i64 ((belM m1 (⟨4, 1, 1⟩ : Tid)).i.s), .int .u64 ((belM m1 (⟨4, 1, 1⟩ : Tid)).i.q), .pointer (belM m1 (⟨4, 1, 1⟩ : Tid)).ptr]) (fun _ _ hρ _ => r_extract (hρ _ _ rfl) rfl) rfl rfl rfl (w_n rfl) ?_
  refine TL_q (.bool true) (fun _ _ hρ _ => r_extract (hρ _ _ rfl) rfl) rfl rfl rfl (w_n rfl) ?_
  refine TL_new 4 (.cells #[.int .u64 0, .int .i64 0, .int .u64 0, .pointer none] 36) (fun B => .pointer (some ⟨B, 0, none⟩)) (fun _ _ _ _ => r_alloc (v := .agg #[.int .u64 0, .int .i64 0, .int .u64 0, .pointer none]) (by kernel_rfl) rfl) rfl rfl rfl (w_n rfl) ?_
  intro B10
  refine TL_store 4 (.cells #[.int .u64 ((belM m1 (⟨4, 1, 1⟩ : Tid)).i.t), .int .i64 ((belM m1 (⟨4, 1, 1⟩ : Tid)).i.s), .int .u64 ((belM m1 (⟨4, 1, 1⟩ : Tid)).i.q), .pointer (belM m1 (⟨4, 1, 1⟩ : Tid)).ptr] 36) rfl (fun _ _ hρ hm => r_store sz36 (hρ _ _ rfl) (hρ _ _ rfl) (hm.at 4 rfl) rfl rfl rfl rfl) rfl rfl (w_n rfl) ?_
  refine TL_q (.bool true) (fun _ _ hρ _ => r_assign (hρ _ _ rfl)) rfl rfl rfl (w_n rfl) ?_
  refine TL_seq ?_
  refine T_seq (T_region ?_)
  refine TL_q (.slice ar3 m1.length cr3) (fun _ _ hρ _ => r_move (hρ _ _ rfl)) rfl rfl rfl (w_n rfl) ?_
  refine TL_call (.agg #[.int .u64 1, .int .i64 1, .int .u64 1]) (fun _ _ hρ _ => r_call (args := [.int .u64 1]) (enters_of Try.func25 (by kernel_rfl) rfl) (hρ _ _ rfl) ((cons2 (hρ _ _ rfl) rfl)) rfl) (fun w _ => id_c 1 w) rfl rfl rfl (w_n rfl) ?_
  refine TL_call (.tuple #[.agg #[.int .u64 ((belM m1 (⟨1, 1, 1⟩ : Tid)).i.t), .int .i64 ((belM m1 (⟨1, 1, 1⟩ : Tid)).i.s), .int .u64 ((belM m1 (⟨1, 1, 1⟩ : Tid)).i.q), .pointer (belM m1 (⟨1, 1, 1⟩ : Tid)).ptr], .bool false]) (fun _ _ hρ _ => r_call (args := [.slice ar3 m1.length cr3, .agg #[.int .u64 1, .int .i64 1, .int .u64 1]]) (enters_of Try.func26 (by kernel_rfl) rfl) (hρ _ _ rfl) ((cons2 (hρ _ _ rfl) (cons2 (hρ _ _ rfl) rfl))) rfl) (fun w hm => (below_ok m1 ar3 cr3 (⟨1, 1, 1⟩ : Tid) w (SliceAt.own Mk.cells_len (hm.row 941 rfl) rfl rfl) (row_cap (hm.row 941 rfl)) hm1k).mono fun _ _ h => ⟨h.1.trans (congrArg Ending.returned (congrArg (fun z => Value.tuple #[(belM m1 (⟨1, 1, 1⟩ : Tid)).v, .bool z]) (show decide _ = false by rw [take_ids_len, hm1i]; decide +kernel))), h.2⟩) rfl rfl rfl (w_n rfl) ?_
  refine TL_q (.tuple #[.agg #[.int .u64 ((belM m1 (⟨1, 1, 1⟩ : Tid)).i.t), .int .i64 ((belM m1 (⟨1, 1, 1⟩ : Tid)).i.s), .int .u64 ((belM m1 (⟨1, 1, 1⟩ : Tid)).i.q), .pointer (belM m1 (⟨1, 1, 1⟩ : Tid)).ptr], .bool false]) (fun _ _ hρ _ => r_move (hρ _ _ rfl)) rfl rfl rfl (w_n rfl) ?_
  refine TL_q (.agg #[.int .u64 ((belM m1 (⟨1, 1, 1⟩ : Tid)).i.t), .int .i64 ((belM m1 (⟨1, 1, 1⟩ : Tid)).i.s), .int .u64 ((belM m1 (⟨1, 1, 1⟩ : Tid)).i.q), .pointer (belM m1 (⟨1, 1, 1⟩ : Tid)).ptr]) (fun _ _ hρ _ => r_extract (hρ _ _ rfl) rfl) rfl rfl rfl (w_n rfl) ?_
  refine TL_q (.bool false) (fun _ _ hρ _ => r_extract (hρ _ _ rfl) rfl) rfl rfl rfl (w_n rfl) ?_
  refine TL_new 5 (.cells #[.int .u64 0, .int .i64 0, .int .u64 0, .pointer none] 36) (fun B => .pointer (some ⟨B, 0, none⟩)) (fun _ _ _ _ => r_alloc (v := .agg #[.int .u64 0, .int .i64 0, .int .u64 0, .pointer none]) (by kernel_rfl) rfl) rfl rfl rfl (w_n rfl) ?_
  intro B11
  refine TL_store 5 (.cells #[.int .u64 ((belM m1 (⟨1, 1, 1⟩ : Tid)).i.t), .int .i64 ((belM m1 (⟨1, 1, 1⟩ : Tid)).i.s), .int .u64 ((belM m1 (⟨1, 1, 1⟩ : Tid)).i.q), .pointer (belM m1 (⟨1, 1, 1⟩ : Tid)).ptr] 36) rfl (fun _ _ hρ hm => r_store sz36 (hρ _ _ rfl) (hρ _ _ rfl) (hm.at 5 rfl) rfl rfl rfl rfl) rfl rfl (w_n rfl) ?_
  refine TL_q (.bool false) (fun _ _ hρ _ => r_assign (hρ _ _ rfl)) rfl rfl rfl (w_n rfl) ?_
  refine TL_seq ?_
  refine T_rowcap 941 rfl (fun hrc9 => ?_)
  obtain ⟨l12, hl12, hn12⟩ : ∃ lz, lz = m1.take (min m1.length 3) ∧ lz.length = min m1.length 3 := ⟨_, rfl, by rw [List.length_take]; omega⟩
  refine T_seq (T_draw (V := [(0, .slice ar3 m1.length cr3), (1, .slice ar3 m1.length cr3), (2, .int .i64 ((m1.length : Nat) : Int)), (3, .int .i64 ((min m1.length 3 : Nat) : Int)), (4, .slice ar3 l12.length cr3)]) [0, 0, 2, 6, 15, 0, 32, 96, 224, 480, 992, 2016, 4064, 8191, 16383] [[(1, none)], [(1, none)], [(58, some 1)], [(59, some 2)], [(57, some 0), (60, some 3)], [], [], [], [], [], [], [], [(62, some 5), (63, some 6), (64, some 7), (65, some 8), (66, some 9), (67, some 10), (68, some 11)], [(61, some 4), (69, some 12)], [(70, some 13)]] 16352 mixed (by kernel_rfl) ?_)
  refine G_step [0, 1, 2, 3, 4] 5 [] (by kernel_rfl) (allM (all_cons (q_run (.slice ar3 m1.length cr3) rfl rfl (wv_n rfl) rfl (fun _ _ hρ _ => r_move (hρ _ _ rfl))) (all_cons (q_run (.slice ar3 m1.length cr3) rfl rfl (wv_n rfl) rfl (fun _ _ hρ _ => r_move (hρ _ _ rfl))) (all_cons (q_run (.int .i64 ((m1.length : Nat) : Int)) rfl rfl (wv_n rfl) rfl (fun _ _ hρ _ => r_len sl25 (hρ _ _ rfl))) (all_cons (q_run (.int .i64 ((min m1.length 3 : Nat) : Int)) rfl rfl (wv_n rfl) rfl (fun _ _ hρ _ => r_as (r_min (hρ _ _ rfl) (hρ _ _ rfl)) (int_as (minI _ 3)))) (all_cons (q_run (.slice ar3 l12.length cr3) rfl rfl (wv_n rfl) rfl (fun ρ _ hρ _ => r_as (r_sliceO sl25 sz36 (hρ _ _ rfl) (bd_none ρ _) (bd_some (n := min m1.length 3) (hρ _ _ rfl)) (bd_none ρ _) (by simp) (by omega) (by omega) (by omega)) (by rw [hn12]; exact slo_zero _ _ _ _))) all_nil)))))) (allM (all_cons ?_ all_nil))
  refine LOb_call (.agg #[.int .u64 3, .int .i64 1, .int .u64 1]) [] rfl (wv_n rfl) rfl rfl (fun _ _ hρ _ => r_call (args := [.int .u64 3]) (enters_of Try.func25 (by kernel_rfl) rfl) (hρ _ _ rfl) ((cons2 (hρ _ _ rfl) rfl)) rfl) (fun w _ => id_c 3 w) (by kernel_rfl) ?_
  refine G_step [0, 1, 2, 3, 4] 6 [] (by kernel_rfl) (allM (all_cons (q_run (.slice ar3 m1.length cr3) rfl rfl (wv_n rfl) rfl (fun _ _ hρ _ => r_move (hρ _ _ rfl))) (all_cons (q_run (.slice ar3 m1.length cr3) rfl rfl (wv_n rfl) rfl (fun _ _ hρ _ => r_move (hρ _ _ rfl))) (all_cons (q_run (.int .i64 ((m1.length : Nat) : Int)) rfl rfl (wv_n rfl) rfl (fun _ _ hρ _ => r_len sl25 (hρ _ _ rfl))) (all_cons (q_run (.int .i64 ((min m1.length 3 : Nat) : Int)) rfl rfl (wv_n rfl) rfl (fun _ _ hρ _ => r_as (r_min (hρ _ _ rfl) (hρ _ _ rfl)) (int_as (minI _ 3)))) (all_cons (q_run (.slice ar3 l12.length cr3) rfl rfl (wv_n rfl) rfl (fun ρ _ hρ _ => r_as (r_sliceO sl25 sz36 (hρ _ _ rfl) (bd_none ρ _) (bd_some (n := min m1.length 3) (hρ _ _ rfl)) (bd_none ρ _) (by simp) (by omega) (by omega) (by omega)) (by rw [hn12]; exact slo_zero _ _ _ _))) all_nil)))))) (allM (all_cons ?_ all_nil))
  refine LOb_call (.agg #[.int .u64 4, .int .i64 1, .int .u64 1]) [] rfl (wv_n rfl) rfl rfl (fun _ _ hρ _ => r_call (args := [.int .u64 4]) (enters_of Try.func25 (by kernel_rfl) rfl) (hρ _ _ rfl) ((cons2 (hρ _ _ rfl) rfl)) rfl) (fun w _ => id_c 4 w) (by kernel_rfl) ?_
  refine G_step [0, 1, 2, 3, 4] 7 [] (by kernel_rfl) (allM (all_cons (q_run (.slice ar3 m1.length cr3) rfl rfl (wv_n rfl) rfl (fun _ _ hρ _ => r_move (hρ _ _ rfl))) (all_cons (q_run (.slice ar3 m1.length cr3) rfl rfl (wv_n rfl) rfl (fun _ _ hρ _ => r_move (hρ _ _ rfl))) (all_cons (q_run (.int .i64 ((m1.length : Nat) : Int)) rfl rfl (wv_n rfl) rfl (fun _ _ hρ _ => r_len sl25 (hρ _ _ rfl))) (all_cons (q_run (.int .i64 ((min m1.length 3 : Nat) : Int)) rfl rfl (wv_n rfl) rfl (fun _ _ hρ _ => r_as (r_min (hρ _ _ rfl) (hρ _ _ rfl)) (int_as (minI _ 3)))) (all_cons (q_run (.slice ar3 l12.length cr3) rfl rfl (wv_n rfl) rfl (fun ρ _ hρ _ => r_as (r_sliceO sl25 sz36 (hρ _ _ rfl) (bd_none ρ _) (bd_some (n := min m1.length 3) (hρ _ _ rfl)) (bd_none ρ _) (by simp) (by omega) (by omega) (by omega)) (by rw [hn12]; exact slo_zero _ _ _ _))) all_nil)))))) (allM (all_cons ?_ all_nil))
  refine LOb_call (.agg #[.int .u64 5, .int .i64 1, .int .u64 1]) [] rfl (wv_n rfl) rfl rfl (fun _ _ hρ _ => r_call (args := [.int .u64 5]) (enters_of Try.func25 (by kernel_rfl) rfl) (hρ _ _ rfl) ((cons2 (hρ _ _ rfl) rfl)) rfl) (fun w _ => id_c 5 w) (by kernel_rfl) ?_
  refine G_step [0, 1, 2, 3, 4] 8 [] (by kernel_rfl) (allM (all_cons (q_run (.slice ar3 m1.length cr3) rfl rfl (wv_n rfl) rfl (fun _ _ hρ _ => r_move (hρ _ _ rfl))) (all_cons (q_run (.slice ar3 m1.length cr3) rfl rfl (wv_n rfl) rfl (fun _ _ hρ _ => r_move (hρ _ _ rfl))) (all_cons (q_run (.int .i64 ((m1.length : Nat) : Int)) rfl rfl (wv_n rfl) rfl (fun _ _ hρ _ => r_len sl25 (hρ _ _ rfl))) (all_cons (q_run (.int .i64 ((min m1.length 3 : Nat) : Int)) rfl rfl (wv_n rfl) rfl (fun _ _ hρ _ => r_as (r_min (hρ _ _ rfl) (hρ _ _ rfl)) (int_as (minI _ 3)))) (all_cons (q_run (.slice ar3 l12.length cr3) rfl rfl (wv_n rfl) rfl (fun ρ _ hρ _ => r_as (r_sliceO sl25 sz36 (hρ _ _ rfl) (bd_none ρ _) (bd_some (n := min m1.length 3) (hρ _ _ rfl)) (bd_none ρ _) (by simp) (by omega) (by omega) (by omega)) (by rw [hn12]; exact slo_zero _ _ _ _))) all_nil)))))) (allM (all_cons ?_ all_nil))
  refine LOb_call (.agg #[.int .u64 6, .int .i64 1, .int .u64 1]) [] rfl (wv_n rfl) rfl rfl (fun _ _ hρ _ => r_call (args := [.int .u64 6]) (enters_of Try.func25 (by kernel_rfl) rfl) (hρ _ _ rfl) ((cons2 (hρ _ _ rfl) rfl)) rfl) (fun w _ => id_c 6 w) (by kernel_rfl) ?_
  refine G_step [0, 1, 2, 3, 4] 9 [] (by kernel_rfl) (allM (all_cons (q_run (.slice ar3 m1.length cr3) rfl rfl (wv_n rfl) rfl (fun _ _ hρ _ => r_move (hρ _ _ rfl))) (all_cons (q_run (.slice ar3 m1.length cr3) rfl rfl (wv_n rfl) rfl (fun _ _ hρ _ => r_move (hρ _ _ rfl))) (all_cons (q_run (.int .i64 ((m1.length : Nat) : Int)) rfl rfl (wv_n rfl) rfl (fun _ _ hρ _ => r_len sl25 (hρ _ _ rfl))) (all_cons (q_run (.int .i64 ((min m1.length 3 : Nat) : Int)) rfl rfl (wv_n rfl) rfl (fun _ _ hρ _ => r_as (r_min (hρ _ _ rfl) (hρ _ _ rfl)) (int_as (minI _ 3)))) (all_cons (q_run (.slice ar3 l12.length cr3) rfl rfl (wv_n rfl) rfl (fun ρ _ hρ _ => r_as (r_sliceO sl25 sz36 (hρ _ _ rfl) (bd_none ρ _) (bd_some (n := min m1.length 3) (hρ _ _ rfl)) (bd_none ρ _) (by simp) (by omega) (by omega) (by omega)) (by rw [hn12]; exact slo_zero _ _ _ _))) all_nil)))))) (allM (all_cons ?_ all_nil))
  refine LOb_call (.agg #[.int .u64 7, .int .i64 1, .int .u64 1]) [] rfl (wv_n rfl) rfl rfl (fun _ _ hρ _ => r_call (args := [.int .u64 7]) (enters_of Try.func25 (by kernel_rfl) rfl) (hρ _ _ rfl) ((cons2 (hρ _ _ rfl) rfl)) rfl) (fun w _ => id_c 7 w) (by kernel_rfl) ?_
  refine G_step [0, 1, 2, 3, 4] 10 [] (by kernel_rfl) (allM (all_cons (q_run (.slice ar3 m1.length cr3) rfl rfl (wv_n rfl) rfl (fun _ _ hρ _ => r_move (hρ _ _ rfl))) (all_cons (q_run (.slice ar3 m1.length cr3) rfl rfl (wv_n rfl) rfl (fun _ _ hρ _ => r_move (hρ _ _ rfl))) (all_cons (q_run (.int .i64 ((m1.length : Nat) : Int)) rfl rfl (wv_n rfl) rfl (fun _ _ hρ _ => r_len sl25 (hρ _ _ rfl))) (all_cons (q_run (.int .i64 ((min m1.length 3 : Nat) : Int)) rfl rfl (wv_n rfl) rfl (fun _ _ hρ _ => r_as (r_min (hρ _ _ rfl) (hρ _ _ rfl)) (int_as (minI _ 3)))) (all_cons (q_run (.slice ar3 l12.length cr3) rfl rfl (wv_n rfl) rfl (fun ρ _ hρ _ => r_as (r_sliceO sl25 sz36 (hρ _ _ rfl) (bd_none ρ _) (bd_some (n := min m1.length 3) (hρ _ _ rfl)) (bd_none ρ _) (by simp) (by omega) (by omega) (by omega)) (by rw [hn12]; exact slo_zero _ _ _ _))) all_nil)))))) (allM (all_cons ?_ all_nil))
  refine LOb_call (.agg #[.int .u64 8, .int .i64 1, .int .u64 1]) [] rfl (wv_n rfl) rfl rfl (fun _ _ hρ _ => r_call (args := [.int .u64 8]) (enters_of Try.func25 (by kernel_rfl) rfl) (hρ _ _ rfl) ((cons2 (hρ _ _ rfl) rfl)) rfl) (fun w _ => id_c 8 w) (by kernel_rfl) ?_
  refine G_step [0, 1, 2, 3, 4] 11 [] (by kernel_rfl) (allM (all_cons (q_run (.slice ar3 m1.length cr3) rfl rfl (wv_n rfl) rfl (fun _ _ hρ _ => r_move (hρ _ _ rfl))) (all_cons (q_run (.slice ar3 m1.length cr3) rfl rfl (wv_n rfl) rfl (fun _ _ hρ _ => r_move (hρ _ _ rfl))) (all_cons (q_run (.int .i64 ((m1.length : Nat) : Int)) rfl rfl (wv_n rfl) rfl (fun _ _ hρ _ => r_len sl25 (hρ _ _ rfl))) (all_cons (q_run (.int .i64 ((min m1.length 3 : Nat) : Int)) rfl rfl (wv_n rfl) rfl (fun _ _ hρ _ => r_as (r_min (hρ _ _ rfl) (hρ _ _ rfl)) (int_as (minI _ 3)))) (all_cons (q_run (.slice ar3 l12.length cr3) rfl rfl (wv_n rfl) rfl (fun ρ _ hρ _ => r_as (r_sliceO sl25 sz36 (hρ _ _ rfl) (bd_none ρ _) (bd_some (n := min m1.length 3) (hρ _ _ rfl)) (bd_none ρ _) (by simp) (by omega) (by omega) (by omega)) (by rw [hn12]; exact slo_zero _ _ _ _))) all_nil)))))) (allM (all_cons ?_ all_nil))
  refine LOb_call (.agg #[.int .u64 9, .int .i64 1, .int .u64 1]) [] rfl (wv_n rfl) rfl rfl (fun _ _ hρ _ => r_call (args := [.int .u64 9]) (enters_of Try.func25 (by kernel_rfl) rfl) (hρ _ _ rfl) ((cons2 (hρ _ _ rfl) rfl)) rfl) (fun w _ => id_c 9 w) (by kernel_rfl) ?_
  refine G_step [0, 1, 2, 3, 4] 12 [] (by kernel_rfl) (allM (all_cons (q_run (.slice ar3 m1.length cr3) rfl rfl (wv_n rfl) rfl (fun _ _ hρ _ => r_move (hρ _ _ rfl))) (all_cons (q_run (.slice ar3 m1.length cr3) rfl rfl (wv_n rfl) rfl (fun _ _ hρ _ => r_move (hρ _ _ rfl))) (all_cons (q_run (.int .i64 ((m1.length : Nat) : Int)) rfl rfl (wv_n rfl) rfl (fun _ _ hρ _ => r_len sl25 (hρ _ _ rfl))) (all_cons (q_run (.int .i64 ((min m1.length 3 : Nat) : Int)) rfl rfl (wv_n rfl) rfl (fun _ _ hρ _ => r_as (r_min (hρ _ _ rfl) (hρ _ _ rfl)) (int_as (minI _ 3)))) (all_cons (q_run (.slice ar3 l12.length cr3) rfl rfl (wv_n rfl) rfl (fun ρ _ hρ _ => r_as (r_sliceO sl25 sz36 (hρ _ _ rfl) (bd_none ρ _) (bd_some (n := min m1.length 3) (hρ _ _ rfl)) (bd_none ρ _) (by simp) (by omega) (by omega) (by omega)) (by rw [hn12]; exact slo_zero _ _ _ _))) all_nil)))))) (allM (all_cons ?_ all_nil))
  refine LOb_new 6 (.cells #[.int .u64 3, .int .i64 1, .int .u64 1, .int .u64 4, .int .i64 1, .int .u64 1, .int .u64 5, .int .i64 1, .int .u64 1, .int .u64 6, .int .i64 1, .int .u64 1, .int .u64 7, .int .i64 1, .int .u64 1, .int .u64 8, .int .i64 1, .int .u64 1, .int .u64 9, .int .i64 1, .int .u64 1] 32) (fun B => .slice (some ⟨B, 0, none⟩) 7 7) (fun B => []) rfl (wv_n rfl) rfl rfl (fun _ _ hρ _ => r_buildSlice (vs := [(0, .agg #[.int .u64 3, .int .i64 1, .int .u64 1]), (1, .agg #[.int .u64 4, .int .i64 1, .int .u64 1]), (2, .agg #[.int .u64 5, .int .i64 1, .int .u64 1]), (3, .agg #[.int .u64 6, .int .i64 1, .int .u64 1]), (4, .agg #[.int .u64 7, .int .i64 1, .int .u64 1]), (5, .agg #[.int .u64 8, .int .i64 1, .int .u64 1]), (6, .agg #[.int .u64 9, .int .i64 1, .int .u64 1])]) (by kernel_rfl) (cons2 (pair2 (hρ _ _ rfl)) (cons2 (pair2 (hρ _ _ rfl)) (cons2 (pair2 (hρ _ _ rfl)) (cons2 (pair2 (hρ _ _ rfl)) (cons2 (pair2 (hρ _ _ rfl)) (cons2 (pair2 (hρ _ _ rfl)) (cons2 (pair2 (hρ _ _ rfl)) rfl)))))))) (fun B => by kernel_rfl) ?_
  intro B14
  refine G_step [0, 1, 2, 3, 4] 13 [] (by kernel_rfl) (allM (all_cons (q_run (.slice ar3 m1.length cr3) rfl rfl (wv_n rfl) rfl (fun _ _ hρ _ => r_move (hρ _ _ rfl))) (all_cons (q_run (.slice ar3 m1.length cr3) rfl rfl (wv_n rfl) rfl (fun _ _ hρ _ => r_move (hρ _ _ rfl))) (all_cons (q_run (.int .i64 ((m1.length : Nat) : Int)) rfl rfl (wv_n rfl) rfl (fun _ _ hρ _ => r_len sl25 (hρ _ _ rfl))) (all_cons (q_run (.int .i64 ((min m1.length 3 : Nat) : Int)) rfl rfl (wv_n rfl) rfl (fun _ _ hρ _ => r_as (r_min (hρ _ _ rfl) (hρ _ _ rfl)) (int_as (minI _ 3)))) (all_cons (q_run (.slice ar3 l12.length cr3) rfl rfl (wv_n rfl) rfl (fun ρ _ hρ _ => r_as (r_sliceO sl25 sz36 (hρ _ _ rfl) (bd_none ρ _) (bd_some (n := min m1.length 3) (hρ _ _ rfl)) (bd_none ρ _) (by simp) (by omega) (by omega) (by omega)) (by rw [hn12]; exact slo_zero _ _ _ _))) all_nil)))))) (allM (all_cons ?_ all_nil))
  refine LOb_callN (fun (_ : Option Addr × Nat) => True) (fun (ar15, cr15) => .slice ar15 ((dueI (idsM l12) [(⟨3, 1, 1⟩ : Tid), (⟨4, 1, 1⟩ : Tid), (⟨5, 1, 1⟩ : Tid), (⟨6, 1, 1⟩ : Tid), (⟨7, 1, 1⟩ : Tid), (⟨8, 1, 1⟩ : Tid), (⟨9, 1, 1⟩ : Tid)] 2).length) cr15) (fun (ar15, cr15) => [(944, .row (.slice ar15 ((dueI (idsM l12) [(⟨3, 1, 1⟩ : Tid), (⟨4, 1, 1⟩ : Tid), (⟨5, 1, 1⟩ : Tid), (⟨6, 1, 1⟩ : Tid), (⟨7, 1, 1⟩ : Tid), (⟨8, 1, 1⟩ : Tid), (⟨9, 1, 1⟩ : Tid)] 2).length) cr15) 32 3 ((dueI (idsM l12) [(⟨3, 1, 1⟩ : Tid), (⟨4, 1, 1⟩ : Tid), (⟨5, 1, 1⟩ : Tid), (⟨6, 1, 1⟩ : Tid), (⟨7, 1, 1⟩ : Tid), (⟨8, 1, 1⟩ : Tid), (⟨9, 1, 1⟩ : Tid)] 2).length) ((dueI (idsM l12) [(⟨3, 1, 1⟩ : Tid), (⟨4, 1, 1⟩ : Tid), (⟨5, 1, 1⟩ : Tid), (⟨6, 1, 1⟩ : Tid), (⟨7, 1, 1⟩ : Tid), (⟨8, 1, 1⟩ : Tid), (⟨9, 1, 1⟩ : Tid)] 2).flatMap Tid.cells))]) (fun (ar15, cr15) => [(14, .slice ar15 ((dueI (idsM l12) [(⟨3, 1, 1⟩ : Tid), (⟨4, 1, 1⟩ : Tid), (⟨5, 1, 1⟩ : Tid), (⟨6, 1, 1⟩ : Tid), (⟨7, 1, 1⟩ : Tid), (⟨8, 1, 1⟩ : Tid), (⟨9, 1, 1⟩ : Tid)] 2).length) cr15)]) rfl (wv_n rfl) rfl rfl (fun _ _ hρ _ => r_call (args := [.slice ar3 l12.length cr3, .slice (some ⟨B14, 0, none⟩) 7 7, .int .i64 2]) (enters_of Try.func11 (by kernel_rfl) rfl) (hρ _ _ rfl) ((cons2 (hρ _ _ rfl) (cons2 (hρ _ _ rfl) (cons2 (hρ _ _ rfl) rfl)))) rfl) (fun w hm => (due_ok 2 l12 ar3 cr3 [(⟨3, 1, 1⟩ : Tid), (⟨4, 1, 1⟩ : Tid), (⟨5, 1, 1⟩ : Tid), (⟨6, 1, 1⟩ : Tid), (⟨7, 1, 1⟩ : Tid), (⟨8, 1, 1⟩ : Tid), (⟨9, 1, 1⟩ : Tid)] (some ⟨B14, 0, none⟩) 7 w (by have hs := SliceAt.front (l := m1) (SliceAt.own Mk.cells_len (hm.row 941 rfl) rfl rfl) (n := min m1.length 3) (m := cr3) (by omega) (by omega) (by omega); rw [← hl12] at hs; exact hs) (row_cap (hm.row 941 rfl)) ⟨Nat.le_of_ble_eq_true rfl, (fun e => by cases e), .inr ⟨_, 0, _, _, _, rfl, (hm.at 6 rfl), row_of_take (fun _ => rfl) rfl⟩⟩ (Nat.le_of_ble_eq_true rfl) (by decide) (mk_take hm1k hl12) (by decide) (by decide) (by decide +kernel) (by decide +kernel)).mono fun e w' ⟨a', cap', he, hb, hr⟩ => ⟨(a', cap'), trivial, he, hb, newOk1 944 hr⟩) (fun (ar15, cr15) => by kernel_rfl) ?_
  rintro ⟨ar15, cr15⟩ -
  refine G_last [14] [(0, .bool false), (1, .slice ar3 m1.length cr3), (2, .int .i64 0), (3, .slice ar6 m2.length cr6), (4, .int .i64 0), (5, .slice ar9 m3.length cr9), (6, .int .i64 0), (7, .pointer (some ⟨B10, 0, none⟩)), (8, .bool true), (10, .bool false), (11, .slice ar15 ((dueI (idsM l12) [(⟨3, 1, 1⟩ : Tid), (⟨4, 1, 1⟩ : Tid), (⟨5, 1, 1⟩ : Tid), (⟨6, 1, 1⟩ : Tid), (⟨7, 1, 1⟩ : Tid), (⟨8, 1, 1⟩ : Tid), (⟨9, 1, 1⟩ : Tid)] 2).length) cr15)] (by kernel_rfl) (allM (all_cons (q_run (.slice ar15 ((dueI (idsM l12) [(⟨3, 1, 1⟩ : Tid), (⟨4, 1, 1⟩ : Tid), (⟨5, 1, 1⟩ : Tid), (⟨6, 1, 1⟩ : Tid), (⟨7, 1, 1⟩ : Tid), (⟨8, 1, 1⟩ : Tid), (⟨9, 1, 1⟩ : Tid)] 2).length) cr15) rfl rfl (wv_n rfl) rfl (fun _ _ hρ _ => r_assign (hρ _ _ rfl))) all_nil)) (end_old rfl rfl (end_old rfl rfl (end_old rfl rfl (end_old rfl rfl (end_old rfl rfl (end_old rfl rfl (end_old rfl rfl (end_old rfl rfl (end_old rfl rfl (end_old rfl rfl (end_new 14 rfl rfl end_nil))))))))))) ?_
  refine T_seq (T_draw (V := [(0, .int .i64 0), (1, .bool true), (2, .bool true), (3, .int .i64 0), (4, .bool true), (5, .bool true), (6, .bool true), (7, .int .i64 0), (8, .bool true), (9, .bool true), (10, .bool true), (11, .bool true), (12, .bool true), (13, .bool true), (14, .bool false), (15, .bool true), (16, .bool true), (17, .bool true), (18, .pointer (some ⟨B10, 0, none⟩)), (19, .agg #[.int .u64 ((belM m1 (⟨4, 1, 1⟩ : Tid)).i.t), .int .i64 ((belM m1 (⟨4, 1, 1⟩ : Tid)).i.s), .int .u64 ((belM m1 (⟨4, 1, 1⟩ : Tid)).i.q)])]) [0, 1, 3, 7, 15, 31, 63, 127, 255, 511, 1023, 2047, 4095, 8191, 16383, 32767, 65535, 131071, 262143, 524287, 262143, 2097151, 4194303, 8388607, 16777215, 33554431, 67108863, 134217727, 268435455, 536870911, 1073741823, 2147483647, 4294967295, 8589934591, 17179869183, 34359738367, 68719476735, 137438953471, 274877906943, 549755813887, 1099511627775, 2199023255551, 4398046511103, 8796093022207, 17592186044415, 35184372088831, 70368744177663, 140737488355327, 281474976710655, 281474976710655, 1125899906842623, 2251799813685247, 4503599627370495, 9007199254740991, 18014398509481983, 36028797018963967, 72057594037927935, 144115188075855871, 288230376151711743, 576460752303423487, 1152921504606846975, 2305843009213693951, 2305843009213693951, 6917529027641081855, 16140901064495857663, 34587645138205409279, 73786976294838206463, 147573952589676412927, 295147905179352825855] [[(2, none)], [(71, some 0)], [(72, some 1)], [(4, none)], [(74, some 3)], [(75, some 4), (73, some 2)], [(76, some 5)], [(6, none)], [(78, some 7)], [(79, some 8), (77, some 6)], [(80, some 9)], [(8, none)], [(82, some 11), (81, some 10)], [(83, some 12)], [(10, none)], [(85, some 14)], [(86, some 15), (84, some 13)], [(87, some 16)], [(7, none)], [(89, some 18)], [], [(90, some 19), (91, some 20)], [(92, some 21), (88, some 17)], [(93, some 22)], [(3, none)], [(95, some 24)], [], [], [], [], [], [], [(97, some 26), (98, some 27), (99, some 28), (100, some 29), (101, some 30), (102, some 31)], [(96, some 25), (103, some 32)], [(104, some 33), (94, some 23)], [(105, some 34)], [(5, none)], [(107, some 36)], [], [], [], [], [], [], [(109, some 38), (110, some 39), (111, some 40), (112, some 41), (113, some 42), (114, some 43)], [(108, some 37), (115, some 44)], [(116, some 45), (106, some 35)], [(117, some 46)], [(1, none)], [], [(119, some 48), (120, some 49)], [(121, some 50)], [(122, some 51)], [(123, some 52), (118, some 47)], [(124, some 53)], [(1, none)], [(126, some 55)], [(127, some 56)], [(128, some 57)], [(129, some 58), (125, some 54)], [(130, some 59)], [(11, none)], [], [], [], [(133, some 62), (134, some 63), (135, some 64)], [(132, some 61), (136, some 65)], [(137, some 66), (131, some 60)], [(138, some 67)]] 143036083263599804416 mixed (by kernel_rfl) ?_)
  refine G_step [0, 1, 2, 3, 4, 5, 6, 7, 8, 9, 10, 11, 12, 13, 14, 15, 16, 17, 18, 19] 20 [] (by kernel_rfl) (allM (all_cons (q_run (.int .i64 0) rfl rfl (wv_n rfl) rfl (fun _ _ hρ _ => r_move (hρ _ _ rfl))) (all_cons (q_run (.bool true) rfl rfl (wv_n rfl) rfl (fun _ _ hρ _ => r_as (r_eql (hρ _ _ rfl) (hρ _ _ rfl)) (by rfl))) (all_cons (q_run (.bool true) rfl rfl (wv_n rfl) rfl (fun _ _ hρ _ => r_move (hρ _ _ rfl))) (all_cons (q_run (.int .i64 0) rfl rfl (wv_y rfl rfl) rfl (fun _ _ hρ _ => r_move (hρ _ _ rfl))) (all_cons (q_run (.bool true) rfl rfl (wv_y rfl rfl) rfl (fun _ _ hρ _ => r_as (r_eql (hρ _ _ rfl) (hρ _ _ rfl)) (by rfl))) (all_cons (q_run (.bool true) rfl rfl (wv_n rfl) rfl (fun _ _ hρ _ => r_pick_t (hρ _ _ rfl) (hρ _ _ rfl))) (all_cons (q_run (.bool true) rfl rfl (wv_n rfl) rfl (fun _ _ hρ _ => r_move (hρ _ _ rfl))) (all_cons (q_run (.int .i64 0) rfl rfl (wv_y rfl rfl) rfl (fun _ _ hρ _ => r_move (hρ _ _ rfl))) (all_cons (q_run (.bool true) rfl rfl (wv_y rfl rfl) rfl (fun _ _ hρ _ => r_as (r_eql (hρ _ _ rfl) (hρ _ _ rfl)) (by rfl))) (all_cons (q_run (.bool true) rfl rfl (wv_n rfl) rfl (fun _ _ hρ _ => r_pick_t (hρ _ _ rfl) (hρ _ _ rfl))) (all_cons (q_run (.bool true) rfl rfl (wv_n rfl) rfl (fun _ _ hρ _ => r_move (hρ _ _ rfl))) (all_cons (q_run (.bool true) rfl rfl (wv_y rfl rfl) rfl (fun _ _ hρ _ => r_move (hρ _ _ rfl))) (all_cons (q_run (.bool true) rfl rfl (wv_n rfl) rfl (fun _ _ hρ _ => r_pick_t (hρ _ _ rfl) (hρ _ _ rfl))) (all_cons (q_run (.bool true) rfl rfl (wv_n rfl) rfl (fun _ _ hρ _ => r_move (hρ _ _ rfl))) (all_cons (q_run (.bool false) rfl rfl (wv_y rfl rfl) rfl (fun _ _ hρ _ => r_move (hρ _ _ rfl))) (all_cons (q_run (.bool true) rfl rfl (wv_y rfl rfl) rfl (fun _ _ hρ _ => r_not (b := false) (hρ _ _ rfl))) (all_cons (q_run (.bool true) rfl rfl (wv_n rfl) rfl (fun _ _ hρ _ => r_pick_t (hρ _ _ rfl) (hρ _ _ rfl))) (all_cons (q_run (.bool true) rfl rfl (wv_n rfl) rfl (fun _ _ hρ _ => r_move (hρ _ _ rfl))) (all_cons (q_run (.pointer (some ⟨B10, 0, none⟩)) rfl rfl (wv_y rfl rfl) rfl (fun _ _ hρ _ => r_fieldAddr fl36_0 sz32 (hρ _ _ rfl))) (all_cons (q_run (.agg #[.int .u64 ((belM m1 (⟨4, 1, 1⟩ : Tid)).i.t), .int .i64 ((belM m1 (⟨4, 1, 1⟩ : Tid)).i.s), .int .u64 ((belM m1 (⟨4, 1, 1⟩ : Tid)).i.q)]) rfl rfl (wv_y rfl rfl) rfl (fun _ _ hρ hm => r_loadA ag32 sz32 (hρ _ _ rfl) (hm.at 4 rfl) rfl rfl)) all_nil))))))))))))))))))))) (allM (all_cons ?_ all_nil))
  refine LOb_call (.agg #[.int .u64 3, .int .i64 1, .int .u64 1]) [(21, .bool true), (22, .bool true), (23, .bool true), (24, .slice ar6 m2.length cr6)] rfl (wv_y rfl rfl) rfl rfl (fun _ _ hρ _ => r_call (args := [.int .u64 3]) (enters_of Try.func25 (by kernel_rfl) rfl) (hρ _ _ rfl) ((cons2 (hρ _ _ rfl) rfl)) rfl) (fun w _ => id_c 3 w) (by kernel_rfl) ?_
  refine G_step [18, 19, 21, 22, 23, 24] 25 [] (by kernel_rfl) (allM (all_cons (q_run (.pointer (some ⟨B10, 0, none⟩)) rfl rfl (wv_y rfl rfl) rfl (fun _ _ hρ _ => r_fieldAddr fl36_0 sz32 (hρ _ _ rfl))) (all_cons (q_run (.agg #[.int .u64 ((belM m1 (⟨4, 1, 1⟩ : Tid)).i.t), .int .i64 ((belM m1 (⟨4, 1, 1⟩ : Tid)).i.s), .int .u64 ((belM m1 (⟨4, 1, 1⟩ : Tid)).i.q)]) rfl rfl (wv_y rfl rfl) rfl (fun _ _ hρ hm => r_loadA ag32 sz32 (hρ _ _ rfl) (hm.at 4 rfl) rfl rfl)) (all_cons (q_run (.bool true) rfl rfl (wv_y rfl rfl) rfl (fun _ _ hρ _ => r_as (r_as (r_eqlA (by kernel_rfl) (hρ _ _ rfl) (hρ _ _ rfl) (run_equalI (l := [(0, .u64), (1, .i64), (2, .u64)]) (by kernel_rfl) rfl rfl)) (bool_as (eqTid ((belM m1 (⟨4, 1, 1⟩ : Tid)).i) (⟨3, 1, 1⟩ : Tid)))) (bool_as (decide_eq_true (show (belM m1 (⟨4, 1, 1⟩ : Tid)).i = _ by rw [bel_i, hm1i]; decide +kernel))))) (all_cons (q_run (.bool true) rfl rfl (wv_n rfl) rfl (fun _ _ hρ _ => r_pick_t (hρ _ _ rfl) (hρ _ _ rfl))) (all_cons (q_run (.bool true) rfl rfl (wv_n rfl) rfl (fun _ _ hρ _ => r_move (hρ _ _ rfl))) (all_cons (q_run (.slice ar6 m2.length cr6) rfl rfl (wv_y rfl rfl) rfl (fun _ _ hρ _ => r_move (hρ _ _ rfl))) all_nil))))))) (allM (all_cons ?_ all_nil))
  refine LOb_callN (fun (_ : Option Addr × Nat) => True) (fun (ar20, cr20) => .slice ar20 ((idsM m2).length) cr20) (fun (ar20, cr20) => [(945, .row (.slice ar20 ((idsM m2).length) cr20) 32 3 ((idsM m2).length) ((idsM m2).flatMap Tid.cells))]) (fun (ar20, cr20) => []) rfl (wv_y rfl rfl) rfl rfl (fun _ _ hρ _ => r_call (args := [.slice ar6 m2.length cr6]) (enters_of Try.func34 (by kernel_rfl) rfl) (hρ _ _ rfl) ((cons2 (hρ _ _ rfl) rfl)) rfl) (fun w hm => (ids_ok m2 ar6 cr6 w (SliceAt.own Mk.cells_len (hm.row 942 rfl) rfl rfl) (row_cap (hm.row 942 rfl)) hm2k).mono fun e w' ⟨a', cap', he, hb, hr⟩ => ⟨(a', cap'), trivial, he, hb, newOk1 945 hr⟩) (fun (ar20, cr20) => by kernel_rfl) ?_
  rintro ⟨ar20, cr20⟩ -
  refine G_step [] 26 [] (by kernel_rfl) (allM all_nil) (allM (all_cons ?_ all_nil))
  refine LOb_call (.agg #[.int .u64 1, .int .i64 1, .int .u64 1]) [] rfl (wv_y rfl rfl) rfl rfl (fun _ _ hρ _ => r_call (args := [.int .u64 1]) (enters_of Try.func25 (by kernel_rfl) rfl) (hρ _ _ rfl) ((cons2 (hρ _ _ rfl) rfl)) rfl) (fun w _ => id_c 1 w) (by kernel_rfl) ?_
  refine G_step [] 27 [] (by kernel_rfl) (allM all_nil) (allM (all_cons ?_ all_nil))
  refine LOb_call (.agg #[.int .u64 3, .int .i64 1, .int .u64 1]) [] rfl (wv_y rfl rfl) rfl rfl (fun _ _ hρ _ => r_call (args := [.int .u64 3]) (enters_of Try.func25 (by kernel_rfl) rfl) (hρ _ _ rfl) ((cons2 (hρ _ _ rfl) rfl)) rfl) (fun w _ => id_c 3 w) (by kernel_rfl) ?_
  refine G_step [] 28 [] (by kernel_rfl) (allM all_nil) (allM (all_cons ?_ all_nil))
  refine LOb_call (.agg #[.int .u64 4, .int .i64 1, .int .u64 1]) [] rfl (wv_y rfl rfl) rfl rfl (fun _ _ hρ _ => r_call (args := [.int .u64 4]) (enters_of Try.func25 (by kernel_rfl) rfl) (hρ _ _ rfl) ((cons2 (hρ _ _ rfl) rfl)) rfl) (fun w _ => id_c 4 w) (by kernel_rfl) ?_
  refine G_step [] 29 [] (by kernel_rfl) (allM all_nil) (allM (all_cons ?_ all_nil))
  refine LOb_call (.agg #[.int .u64 5, .int .i64 1, .int .u64 1]) [] rfl (wv_y rfl rfl) rfl rfl (fun _ _ hρ _ => r_call (args := [.int .u64 5]) (enters_of Try.func25 (by kernel_rfl) rfl) (hρ _ _ rfl) ((cons2 (hρ _ _ rfl) rfl)) rfl) (fun w _ => id_c 5 w) (by kernel_rfl) ?_
  refine G_step [] 30 [] (by kernel_rfl) (allM all_nil) (allM (all_cons ?_ all_nil))
  refine LOb_call (.agg #[.int .u64 6, .int .i64 1, .int .u64 1]) [] rfl (wv_y rfl rfl) rfl rfl (fun _ _ hρ _ => r_call (args := [.int .u64 6]) (enters_of Try.func25 (by kernel_rfl) rfl) (hρ _ _ rfl) ((cons2 (hρ _ _ rfl) rfl)) rfl) (fun w _ => id_c 6 w) (by kernel_rfl) ?_
  refine G_step [] 31 [] (by kernel_rfl) (allM all_nil) (allM (all_cons ?_ all_nil))
  refine LOb_call (.agg #[.int .u64 7, .int .i64 1, .int .u64 1]) [] rfl (wv_y rfl rfl) rfl rfl (fun _ _ hρ _ => r_call (args := [.int .u64 7]) (enters_of Try.func25 (by kernel_rfl) rfl) (hρ _ _ rfl) ((cons2 (hρ _ _ rfl) rfl)) rfl) (fun w _ => id_c 7 w) (by kernel_rfl) ?_
  refine G_step [] 32 [] (by kernel_rfl) (allM all_nil) (allM (all_cons ?_ all_nil))
  refine LOb_new 7 (.cells #[.int .u64 1, .int .i64 1, .int .u64 1, .int .u64 3, .int .i64 1, .int .u64 1, .int .u64 4, .int .i64 1, .int .u64 1, .int .u64 5, .int .i64 1, .int .u64 1, .int .u64 6, .int .i64 1, .int .u64 1, .int .u64 7, .int .i64 1, .int .u64 1] 32) (fun B => .slice (some ⟨B, 0, none⟩) 6 6) (fun B => []) rfl (wv_y rfl rfl) rfl rfl (fun _ _ hρ _ => r_buildSlice (vs := [(0, .agg #[.int .u64 1, .int .i64 1, .int .u64 1]), (1, .agg #[.int .u64 3, .int .i64 1, .int .u64 1]), (2, .agg #[.int .u64 4, .int .i64 1, .int .u64 1]), (3, .agg #[.int .u64 5, .int .i64 1, .int .u64 1]), (4, .agg #[.int .u64 6, .int .i64 1, .int .u64 1]), (5, .agg #[.int .u64 7, .int .i64 1, .int .u64 1])]) (by kernel_rfl) (cons2 (pair2 (hρ _ _ rfl)) (cons2 (pair2 (hρ _ _ rfl)) (cons2 (pair2 (hρ _ _ rfl)) (cons2 (pair2 (hρ _ _ rfl)) (cons2 (pair2 (hρ _ _ rfl)) (cons2 (pair2 (hρ _ _ rfl)) rfl))))))) (fun B => by kernel_rfl) ?_
  intro B21
  refine G_step [] 33 [] (by kernel_rfl) (allM all_nil) (allM (all_cons ?_ all_nil))
  refine LOb_call (.bool true) [(34, .bool true), (35, .bool true), (36, .slice ar9 m3.length cr9)] rfl (wv_y rfl rfl) rfl rfl (fun _ _ hρ _ => r_call (args := [.slice ar20 ((idsM m2).length) cr20, .slice (some ⟨B21, 0, none⟩) 6 6]) (enters_of Try.func33 (by kernel_rfl) rfl) (hρ _ _ rfl) ((cons2 (hρ _ _ rfl) (cons2 (hρ _ _ rfl) rfl))) rfl) (fun w hm => (equal_i (idsM m2) [(⟨1, 1, 1⟩ : Tid), (⟨3, 1, 1⟩ : Tid), (⟨4, 1, 1⟩ : Tid), (⟨5, 1, 1⟩ : Tid), (⟨6, 1, 1⟩ : Tid), (⟨7, 1, 1⟩ : Tid)] ar20 (some ⟨B21, 0, none⟩) cr20 6 w (SliceAt.own Tid.cells_len (hm.row 945 rfl) rfl rfl) ⟨Nat.le_of_ble_eq_true rfl, (fun e => by cases e), .inr ⟨_, 0, _, _, _, rfl, (hm.at 7 rfl), row_of_take (fun _ => rfl) rfl⟩⟩ (by rw [hm2i]; decide) (by decide)).mono fun _ _ h => ⟨h.1.trans (congrArg Ending.returned (bool_as (decide_eq_true hm2i))), h.2⟩) (by kernel_rfl) ?_
  refine G_step [34, 35, 36] 37 [] (by kernel_rfl) (allM (all_cons (q_run (.bool true) rfl rfl (wv_n rfl) rfl (fun _ _ hρ _ => r_pick_t (hρ _ _ rfl) (hρ _ _ rfl))) (all_cons (q_run (.bool true) rfl rfl (wv_n rfl) rfl (fun _ _ hρ _ => r_move (hρ _ _ rfl))) (all_cons (q_run (.slice ar9 m3.length cr9) rfl rfl (wv_y rfl rfl) rfl (fun _ _ hρ _ => r_move (hρ _ _ rfl))) all_nil)))) (allM (all_cons ?_ all_nil))
  refine LOb_callN (fun (_ : Option Addr × Nat) => True) (fun (ar22, cr22) => .slice ar22 ((idsM m3).length) cr22) (fun (ar22, cr22) => [(946, .row (.slice ar22 ((idsM m3).length) cr22) 32 3 ((idsM m3).length) ((idsM m3).flatMap Tid.cells))]) (fun (ar22, cr22) => []) rfl (wv_y rfl rfl) rfl rfl (fun _ _ hρ _ => r_call (args := [.slice ar9 m3.length cr9]) (enters_of Try.func34 (by kernel_rfl) rfl) (hρ _ _ rfl) ((cons2 (hρ _ _ rfl) rfl)) rfl) (fun w hm => (ids_ok m3 ar9 cr9 w (SliceAt.own Mk.cells_len (hm.row 943 rfl) rfl rfl) (row_cap (hm.row 943 rfl)) hm3k).mono fun e w' ⟨a', cap', he, hb, hr⟩ => ⟨(a', cap'), trivial, he, hb, newOk1 946 hr⟩) (fun (ar22, cr22) => by kernel_rfl) ?_
  rintro ⟨ar22, cr22⟩ -
  refine G_step [] 38 [] (by kernel_rfl) (allM all_nil) (allM (all_cons ?_ all_nil))
  refine LOb_call (.agg #[.int .u64 10, .int .i64 1, .int .u64 1]) [] rfl (wv_y rfl rfl) rfl rfl (fun _ _ hρ _ => r_call (args := [.int .u64 10]) (enters_of Try.func25 (by kernel_rfl) rfl) (hρ _ _ rfl) ((cons2 (hρ _ _ rfl) rfl)) rfl) (fun w _ => id_c 10 w) (by kernel_rfl) ?_
  refine G_step [] 39 [] (by kernel_rfl) (allM all_nil) (allM (all_cons ?_ all_nil))
  refine LOb_call (.agg #[.int .u64 20, .int .i64 1, .int .u64 1]) [] rfl (wv_y rfl rfl) rfl rfl (fun _ _ hρ _ => r_call (args := [.int .u64 20]) (enters_of Try.func25 (by kernel_rfl) rfl) (hρ _ _ rfl) ((cons2 (hρ _ _ rfl) rfl)) rfl) (fun w _ => id_c 20 w) (by kernel_rfl) ?_
  refine G_step [] 40 [] (by kernel_rfl) (allM all_nil) (allM (all_cons ?_ all_nil))
  refine LOb_call (.agg #[.int .u64 30, .int .i64 1, .int .u64 1]) [] rfl (wv_y rfl rfl) rfl rfl (fun _ _ hρ _ => r_call (args := [.int .u64 30]) (enters_of Try.func25 (by kernel_rfl) rfl) (hρ _ _ rfl) ((cons2 (hρ _ _ rfl) rfl)) rfl) (fun w _ => id_c 30 w) (by kernel_rfl) ?_
  refine G_step [] 41 [] (by kernel_rfl) (allM all_nil) (allM (all_cons ?_ all_nil))
  refine LOb_call (.agg #[.int .u64 40, .int .i64 1, .int .u64 1]) [] rfl (wv_y rfl rfl) rfl rfl (fun _ _ hρ _ => r_call (args := [.int .u64 40]) (enters_of Try.func25 (by kernel_rfl) rfl) (hρ _ _ rfl) ((cons2 (hρ _ _ rfl) rfl)) rfl) (fun w _ => id_c 40 w) (by kernel_rfl) ?_
  refine G_step [] 42 [] (by kernel_rfl) (allM all_nil) (allM (all_cons ?_ all_nil))
  refine LOb_call (.agg #[.int .u64 50, .int .i64 1, .int .u64 1]) [] rfl (wv_y rfl rfl) rfl rfl (fun _ _ hρ _ => r_call (args := [.int .u64 50]) (enters_of Try.func25 (by kernel_rfl) rfl) (hρ _ _ rfl) ((cons2 (hρ _ _ rfl) rfl)) rfl) (fun w _ => id_c 50 w) (by kernel_rfl) ?_
  refine G_step [] 43 [] (by kernel_rfl) (allM all_nil) (allM (all_cons ?_ all_nil))
  refine LOb_call (.agg #[.int .u64 60, .int .i64 1, .int .u64 1]) [] rfl (wv_y rfl rfl) rfl rfl (fun _ _ hρ _ => r_call (args := [.int .u64 60]) (enters_of Try.func25 (by kernel_rfl) rfl) (hρ _ _ rfl) ((cons2 (hρ _ _ rfl) rfl)) rfl) (fun w _ => id_c 60 w) (by kernel_rfl) ?_
  refine G_step [] 44 [] (by kernel_rfl) (allM all_nil) (allM (all_cons ?_ all_nil))
  refine LOb_new 8 (.cells #[.int .u64 10, .int .i64 1, .int .u64 1, .int .u64 20, .int .i64 1, .int .u64 1, .int .u64 30, .int .i64 1, .int .u64 1, .int .u64 40, .int .i64 1, .int .u64 1, .int .u64 50, .int .i64 1, .int .u64 1, .int .u64 60, .int .i64 1, .int .u64 1] 32) (fun B => .slice (some ⟨B, 0, none⟩) 6 6) (fun B => []) rfl (wv_y rfl rfl) rfl rfl (fun _ _ hρ _ => r_buildSlice (vs := [(0, .agg #[.int .u64 10, .int .i64 1, .int .u64 1]), (1, .agg #[.int .u64 20, .int .i64 1, .int .u64 1]), (2, .agg #[.int .u64 30, .int .i64 1, .int .u64 1]), (3, .agg #[.int .u64 40, .int .i64 1, .int .u64 1]), (4, .agg #[.int .u64 50, .int .i64 1, .int .u64 1]), (5, .agg #[.int .u64 60, .int .i64 1, .int .u64 1])]) (by kernel_rfl) (cons2 (pair2 (hρ _ _ rfl)) (cons2 (pair2 (hρ _ _ rfl)) (cons2 (pair2 (hρ _ _ rfl)) (cons2 (pair2 (hρ _ _ rfl)) (cons2 (pair2 (hρ _ _ rfl)) (cons2 (pair2 (hρ _ _ rfl)) rfl))))))) (fun B => by kernel_rfl) ?_
  intro B23
  refine G_step [] 45 [] (by kernel_rfl) (allM all_nil) (allM (all_cons ?_ all_nil))
  refine LOb_call (.bool true) [(46, .bool true), (47, .bool true), (48, .slice ar3 m1.length cr3)] rfl (wv_y rfl rfl) rfl rfl (fun _ _ hρ _ => r_call (args := [.slice ar22 ((idsM m3).length) cr22, .slice (some ⟨B23, 0, none⟩) 6 6]) (enters_of Try.func33 (by kernel_rfl) rfl) (hρ _ _ rfl) ((cons2 (hρ _ _ rfl) (cons2 (hρ _ _ rfl) rfl))) rfl) (fun w hm => (equal_i (idsM m3) [(⟨10, 1, 1⟩ : Tid), (⟨20, 1, 1⟩ : Tid), (⟨30, 1, 1⟩ : Tid), (⟨40, 1, 1⟩ : Tid), (⟨50, 1, 1⟩ : Tid), (⟨60, 1, 1⟩ : Tid)] ar22 (some ⟨B23, 0, none⟩) cr22 6 w (SliceAt.own Tid.cells_len (hm.row 946 rfl) rfl rfl) ⟨Nat.le_of_ble_eq_true rfl, (fun e => by cases e), .inr ⟨_, 0, _, _, _, rfl, (hm.at 8 rfl), row_of_take (fun _ => rfl) rfl⟩⟩ (by rw [hm3i]; decide) (by decide)).mono fun _ _ h => ⟨h.1.trans (congrArg Ending.returned (bool_as (decide_eq_true hm3i))), h.2⟩) (by kernel_rfl) ?_
  refine G_step [46, 47, 48] 49 [] (by kernel_rfl) (allM (all_cons (q_run (.bool true) rfl rfl (wv_n rfl) rfl (fun _ _ hρ _ => r_pick_t (hρ _ _ rfl) (hρ _ _ rfl))) (all_cons (q_run (.bool true) rfl rfl (wv_n rfl) rfl (fun _ _ hρ _ => r_move (hρ _ _ rfl))) (all_cons (q_run (.slice ar3 m1.length cr3) rfl rfl (wv_y rfl rfl) rfl (fun _ _ hρ _ => r_move (hρ _ _ rfl))) all_nil)))) (allM (all_cons ?_ all_nil))
  refine LOb_call (.agg #[.int .u64 4, .int .i64 1, .int .u64 1]) [] rfl (wv_y rfl rfl) rfl rfl (fun _ _ hρ _ => r_call (args := [.int .u64 4]) (enters_of Try.func25 (by kernel_rfl) rfl) (hρ _ _ rfl) ((cons2 (hρ _ _ rfl) rfl)) rfl) (fun w _ => id_c 4 w) (by kernel_rfl) ?_
  refine G_step [48] 50 [] (by kernel_rfl) (allM (all_cons (q_run (.slice ar3 m1.length cr3) rfl rfl (wv_y rfl rfl) rfl (fun _ _ hρ _ => r_move (hρ _ _ rfl))) all_nil)) (allM (all_cons ?_ all_nil))
  refine LOb_callN (fun (_ : Option Addr × Nat) => True) (fun (ar24, cr24) => .slice ar24 ((m1.take (aheadL (idsM m1) (⟨4, 1, 1⟩ : Tid))).length) cr24) (fun (ar24, cr24) => [(947, .row (.slice ar24 ((m1.take (aheadL (idsM m1) (⟨4, 1, 1⟩ : Tid))).length) cr24) 36 4 ((m1.take (aheadL (idsM m1) (⟨4, 1, 1⟩ : Tid))).length) ((m1.take (aheadL (idsM m1) (⟨4, 1, 1⟩ : Tid))).flatMap Mk.cells))]) (fun (ar24, cr24) => [(51, .int .i64 (((m1.take (aheadL (idsM m1) (⟨4, 1, 1⟩ : Tid))).length : Nat) : Int)), (52, .bool true), (53, .bool true), (54, .bool true), (55, .slice ar3 m1.length cr3)]) rfl (wv_y rfl rfl) rfl rfl (fun _ _ hρ _ => r_call (args := [.slice ar3 m1.length cr3, .agg #[.int .u64 4, .int .i64 1, .int .u64 1]]) (enters_of Try.func27 (by kernel_rfl) rfl) (hρ _ _ rfl) ((cons2 (hρ _ _ rfl) (cons2 (hρ _ _ rfl) rfl))) rfl) (fun w hm => (drop_ok m1 ar3 cr3 (⟨4, 1, 1⟩ : Tid) w (SliceAt.own Mk.cells_len (hm.row 941 rfl) rfl rfl) (row_cap (hm.row 941 rfl)) hm1k).mono fun e w' ⟨a', cap', he, hb, hr⟩ => ⟨(a', cap'), trivial, he, hb, newOk1 947 hr⟩) (fun (ar24, cr24) => by kernel_rfl) ?_
  rintro ⟨ar24, cr24⟩ -
  refine G_step [51, 52, 53, 54, 55] 56 [] (by kernel_rfl) (allM (all_cons (q_run (.int .i64 (((m1.take (aheadL (idsM m1) (⟨4, 1, 1⟩ : Tid))).length : Nat) : Int)) rfl rfl (wv_y rfl rfl) rfl (fun _ _ hρ _ => r_len sl25 (hρ _ _ rfl))) (all_cons (q_run (.bool true) rfl rfl (wv_y rfl rfl) rfl (fun _ _ hρ _ => r_as (r_eql (hρ _ _ rfl) (hρ _ _ rfl)) (bool_as (decide_eq_true (by rw [take_ids_len, hm1i]; decide +kernel))))) (all_cons (q_run (.bool true) rfl rfl (wv_n rfl) rfl (fun _ _ hρ _ => r_pick_t (hρ _ _ rfl) (hρ _ _ rfl))) (all_cons (q_run (.bool true) rfl rfl (wv_n rfl) rfl (fun _ _ hρ _ => r_move (hρ _ _ rfl))) (all_cons (q_run (.slice ar3 m1.length cr3) rfl rfl (wv_y rfl rfl) rfl (fun _ _ hρ _ => r_move (hρ _ _ rfl))) all_nil)))))) (allM (all_cons ?_ all_nil))
  refine LOb_callN (fun (_ : Option Addr × Nat) => True) (fun (ar25, cr25) => .slice ar25 ((m1.filter (fun x : Mk => decide (4 < x.i.t))).length) cr25) (fun (ar25, cr25) => [(948, .row (.slice ar25 ((m1.filter (fun x : Mk => decide (4 < x.i.t))).length) cr25) 36 4 ((m1.filter (fun x : Mk => decide (4 < x.i.t))).length) ((m1.filter (fun x : Mk => decide (4 < x.i.t))).flatMap Mk.cells))]) (fun (ar25, cr25) => [(57, .int .i64 (((m1.filter (fun x : Mk => decide (4 < x.i.t))).length : Nat) : Int)), (58, .bool true), (59, .bool true), (60, .bool true), (61, .slice ar15 ((dueI (idsM l12) [(⟨3, 1, 1⟩ : Tid), (⟨4, 1, 1⟩ : Tid), (⟨5, 1, 1⟩ : Tid), (⟨6, 1, 1⟩ : Tid), (⟨7, 1, 1⟩ : Tid), (⟨8, 1, 1⟩ : Tid), (⟨9, 1, 1⟩ : Tid)] 2).length) cr15)]) rfl (wv_y rfl rfl) rfl rfl (fun _ _ hρ _ => r_call (args := [.slice ar3 m1.length cr3, .int .u64 4]) (enters_of Try.func28 (by kernel_rfl) rfl) (hρ _ _ rfl) ((cons2 (hρ _ _ rfl) (cons2 (hρ _ _ rfl) rfl))) rfl) (fun w hm => (fold_ok m1 ar3 cr3 4 w (SliceAt.own Mk.cells_len (hm.row 941 rfl) rfl rfl) (row_cap (hm.row 941 rfl)) hm1k).mono fun e w' ⟨a', cap', he, hb, hr⟩ => ⟨(a', cap'), trivial, he, hb, newOk1 948 hr⟩) (fun (ar25, cr25) => by kernel_rfl) ?_
  rintro ⟨ar25, cr25⟩ -
  refine G_step [57, 58, 59, 60, 61] 62 [] (by kernel_rfl) (allM (all_cons (q_run (.int .i64 (((m1.filter (fun x : Mk => decide (4 < x.i.t))).length : Nat) : Int)) rfl rfl (wv_y rfl rfl) rfl (fun _ _ hρ _ => r_len sl25 (hρ _ _ rfl))) (all_cons (q_run (.bool true) rfl rfl (wv_y rfl rfl) rfl (fun _ _ hρ _ => r_as (r_eql (hρ _ _ rfl) (hρ _ _ rfl)) (bool_as (decide_eq_true (by rw [fold_len, hm1i]; decide +kernel))))) (all_cons (q_run (.bool true) rfl rfl (wv_n rfl) rfl (fun _ _ hρ _ => r_pick_t (hρ _ _ rfl) (hρ _ _ rfl))) (all_cons (q_run (.bool true) rfl rfl (wv_n rfl) rfl (fun _ _ hρ _ => r_move (hρ _ _ rfl))) (all_cons (q_run (.slice ar15 ((dueI (idsM l12) [(⟨3, 1, 1⟩ : Tid), (⟨4, 1, 1⟩ : Tid), (⟨5, 1, 1⟩ : Tid), (⟨6, 1, 1⟩ : Tid), (⟨7, 1, 1⟩ : Tid), (⟨8, 1, 1⟩ : Tid), (⟨9, 1, 1⟩ : Tid)] 2).length) cr15) rfl rfl (wv_y rfl rfl) rfl (fun _ _ hρ _ => r_move (hρ _ _ rfl))) all_nil)))))) (allM (all_cons ?_ all_nil))
  refine LOb_call (.agg #[.int .u64 5, .int .i64 1, .int .u64 1]) [] rfl (wv_y rfl rfl) rfl rfl (fun _ _ hρ _ => r_call (args := [.int .u64 5]) (enters_of Try.func25 (by kernel_rfl) rfl) (hρ _ _ rfl) ((cons2 (hρ _ _ rfl) rfl)) rfl) (fun w _ => id_c 5 w) (by kernel_rfl) ?_
  refine G_step [61] 63 [] (by kernel_rfl) (allM (all_cons (q_run (.slice ar15 ((dueI (idsM l12) [(⟨3, 1, 1⟩ : Tid), (⟨4, 1, 1⟩ : Tid), (⟨5, 1, 1⟩ : Tid), (⟨6, 1, 1⟩ : Tid), (⟨7, 1, 1⟩ : Tid), (⟨8, 1, 1⟩ : Tid), (⟨9, 1, 1⟩ : Tid)] 2).length) cr15) rfl rfl (wv_y rfl rfl) rfl (fun _ _ hρ _ => r_move (hρ _ _ rfl))) all_nil)) (allM (all_cons ?_ all_nil))
  refine LOb_call (.agg #[.int .u64 7, .int .i64 1, .int .u64 1]) [] rfl (wv_y rfl rfl) rfl rfl (fun _ _ hρ _ => r_call (args := [.int .u64 7]) (enters_of Try.func25 (by kernel_rfl) rfl) (hρ _ _ rfl) ((cons2 (hρ _ _ rfl) rfl)) rfl) (fun w _ => id_c 7 w) (by kernel_rfl) ?_
  refine G_step [61] 64 [] (by kernel_rfl) (allM (all_cons (q_run (.slice ar15 ((dueI (idsM l12) [(⟨3, 1, 1⟩ : Tid), (⟨4, 1, 1⟩ : Tid), (⟨5, 1, 1⟩ : Tid), (⟨6, 1, 1⟩ : Tid), (⟨7, 1, 1⟩ : Tid), (⟨8, 1, 1⟩ : Tid), (⟨9, 1, 1⟩ : Tid)] 2).length) cr15) rfl rfl (wv_y rfl rfl) rfl (fun _ _ hρ _ => r_move (hρ _ _ rfl))) all_nil)) (allM (all_cons ?_ all_nil))
  refine LOb_call (.agg #[.int .u64 9, .int .i64 1, .int .u64 1]) [] rfl (wv_y rfl rfl) rfl rfl (fun _ _ hρ _ => r_call (args := [.int .u64 9]) (enters_of Try.func25 (by kernel_rfl) rfl) (hρ _ _ rfl) ((cons2 (hρ _ _ rfl) rfl)) rfl) (fun w _ => id_c 9 w) (by kernel_rfl) ?_
  refine G_step [61] 65 [] (by kernel_rfl) (allM (all_cons (q_run (.slice ar15 ((dueI (idsM l12) [(⟨3, 1, 1⟩ : Tid), (⟨4, 1, 1⟩ : Tid), (⟨5, 1, 1⟩ : Tid), (⟨6, 1, 1⟩ : Tid), (⟨7, 1, 1⟩ : Tid), (⟨8, 1, 1⟩ : Tid), (⟨9, 1, 1⟩ : Tid)] 2).length) cr15) rfl rfl (wv_y rfl rfl) rfl (fun _ _ hρ _ => r_move (hρ _ _ rfl))) all_nil)) (allM (all_cons ?_ all_nil))
  refine LOb_new 9 (.cells #[.int .u64 5, .int .i64 1, .int .u64 1, .int .u64 7, .int .i64 1, .int .u64 1, .int .u64 9, .int .i64 1, .int .u64 1] 32) (fun B => .slice (some ⟨B, 0, none⟩) 3 3) (fun B => []) rfl (wv_y rfl rfl) rfl rfl (fun _ _ hρ _ => r_buildSlice (vs := [(0, .agg #[.int .u64 5, .int .i64 1, .int .u64 1]), (1, .agg #[.int .u64 7, .int .i64 1, .int .u64 1]), (2, .agg #[.int .u64 9, .int .i64 1, .int .u64 1])]) (by kernel_rfl) (cons2 (pair2 (hρ _ _ rfl)) (cons2 (pair2 (hρ _ _ rfl)) (cons2 (pair2 (hρ _ _ rfl)) rfl)))) (fun B => by kernel_rfl) ?_
  intro B26
  refine G_step [61] 66 [] (by kernel_rfl) (allM (all_cons (q_run (.slice ar15 ((dueI (idsM l12) [(⟨3, 1, 1⟩ : Tid), (⟨4, 1, 1⟩ : Tid), (⟨5, 1, 1⟩ : Tid), (⟨6, 1, 1⟩ : Tid), (⟨7, 1, 1⟩ : Tid), (⟨8, 1, 1⟩ : Tid), (⟨9, 1, 1⟩ : Tid)] 2).length) cr15) rfl rfl (wv_y rfl rfl) rfl (fun _ _ hρ _ => r_move (hρ _ _ rfl))) all_nil)) (allM (all_cons ?_ all_nil))
  refine LOb_call (.bool true) [(67, .bool true), (68, .bool true)] rfl (wv_y rfl rfl) rfl rfl (fun _ _ hρ _ => r_call (args := [.slice ar15 ((dueI (idsM l12) [(⟨3, 1, 1⟩ : Tid), (⟨4, 1, 1⟩ : Tid), (⟨5, 1, 1⟩ : Tid), (⟨6, 1, 1⟩ : Tid), (⟨7, 1, 1⟩ : Tid), (⟨8, 1, 1⟩ : Tid), (⟨9, 1, 1⟩ : Tid)] 2).length) cr15, .slice (some ⟨B26, 0, none⟩) 3 3]) (enters_of Try.func33 (by kernel_rfl) rfl) (hρ _ _ rfl) ((cons2 (hρ _ _ rfl) (cons2 (hρ _ _ rfl) rfl))) rfl) (fun w hm => (equal_i (dueI (idsM l12) [(⟨3, 1, 1⟩ : Tid), (⟨4, 1, 1⟩ : Tid), (⟨5, 1, 1⟩ : Tid), (⟨6, 1, 1⟩ : Tid), (⟨7, 1, 1⟩ : Tid), (⟨8, 1, 1⟩ : Tid), (⟨9, 1, 1⟩ : Tid)] 2) [(⟨5, 1, 1⟩ : Tid), (⟨7, 1, 1⟩ : Tid), (⟨9, 1, 1⟩ : Tid)] ar15 (some ⟨B26, 0, none⟩) cr15 3 w (SliceAt.own Tid.cells_len (hm.row 944 rfl) rfl rfl) ⟨Nat.le_of_ble_eq_true rfl, (fun e => by cases e), .inr ⟨_, 0, _, _, _, rfl, (hm.at 9 rfl), row_of_take (fun _ => rfl) rfl⟩⟩ (by rw [hl12, ids_take, hm1i, hm1l]; decide +kernel) (by decide)).mono fun _ _ h => ⟨h.1.trans (congrArg Ending.returned (bool_as (decide_eq_true (by rw [hl12, ids_take, hm1i, hm1l]; decide +kernel)))), h.2⟩) (by kernel_rfl) ?_
  refine G_last [67, 68] [(0, .bool true)] (by kernel_rfl) (allM (all_cons (q_run (.bool true) rfl rfl (wv_n rfl) rfl (fun _ _ hρ _ => r_pick_t (hρ _ _ rfl) (hρ _ _ rfl))) (all_cons (q_run (.bool true) rfl rfl (wv_n rfl) rfl (fun _ _ hρ _ => r_assign (hρ _ _ rfl))) all_nil))) (end_new 68 rfl rfl end_nil) ?_
  refine T_ret' ?_
  refine ret_of rfl (.bool true) (fun tmps w hk hm => res1 rfl (res_tmp (hk 0 _ rfl))) (fun w hm => ?_)
  exact ⟨rfl, hm.ext⟩
end Go.Proofs.Ytmihoejecpcmjaa
/- Arguments that are slices of what lies in memory (slices of slices ..), read. Over any program. -/
namespace Go.Proofs.Ytmihoejecpcmjaa
open Go Go.RowKit Go.ChangeShapes Go.WideShapes Go.Deep
/-- Cells that are read at this type, in this memory, are those of some x. -/
def RdsAt (P : Program) (w : World) (t : TypeId) {α : Type} (f : α → List Value) (ok : α → Prop) : Prop :=
  ∀ (H : Type) (enc : TypeId × Value → H) (base : Nat) (spare : Nat → Bool) (held : Bool) (fuel : Nat) (cs : List Value) (x : DataW H × List MemPlace), DataW.trod enc P w base spare held fuel t cs = some x → ∃ a, cs = f a ∧ ok a
theorem Rds.at {P : Program} {t : TypeId} {α : Type} {f : α → List Value} {ok : α → Prop} (h : Rds P t f ok) (w : World) : RdsAt P w t f ok := fun H enc base spare held fuel cs x hx => h H enc w base spare held fuel cs x hx
/-- A slice that came in. -/
theorem read_sliceW {P : Program} {t e : TypeId} {s : Nat} {α : Type} {f : α → List Value} {ok : α → Prop} (ht : sliOf P t = some e) (hs : szOf P e = some s) (hf : ∀ x, (f x).length = s) (hsp : 0 < s) {w : World} (h : RdsAt P w e f ok)
    {H : Type} {enc : TypeId × Value → H} {base : Nat} {spare : Nat → Bool} {held : Bool} {fuel : Nat} {cs : List Value} {x : DataW H × List MemPlace} (hx : DataW.trod enc P w base spare held fuel t cs = some x) :
    ∃ (l : List α) (a : Option Addr) (cap : Nat), cs = [.slice a l.length cap] ∧ SliceAt w a cap s f l ∧ (∀ x ∈ l, ok x) ∧ cap ≤ Go.maxLen := by
  rcases open_slice (und_sli ht) hx with ⟨rfl, _⟩ | ⟨a, len, cap, m, n, D, Pl, rfl, hb, hl, hm, hmm, _, hi⟩
  · exact ⟨[], none, 0, rfl, sliceNil w, (fun x hx => by cases hx), by unfold Go.maxLen; omega⟩
  · have hlm : len ≤ m := by rw [hmm]; split <;> omega
    rw [cellsOf_sz hs] at hi
    by_cases h0 : len = 0
    · subst h0
      exact ⟨[], some a, cap, rfl, ⟨by simp, (fun e => by cases e), .inl rfl⟩, (fun x hx => by cases hx), hm⟩
    · obtain ⟨l, h1, h2⟩ := list_of (p := fun i y => (∀ j, j < s → w.cell? ((a.add (i * s)).add j) = (f y)[j]?) ∧ ok y) len (fun i hil => by
        obtain ⟨cs', hc, ht'⟩ := hi i (by omega)
        obtain ⟨y, hy, oy⟩ := h _ enc base spare held n _ _ ht'
        obtain ⟨_, _, hcell⟩ := World.cells?_some hc
        exact ⟨y, fun j hj => by rw [hcell j hj, hy], oy⟩)
      have hl0 : l[0]? = some (l[0]'(by omega)) := List.getElem?_eq_getElem (by omega)
      have hc0 := (h2 0 _ hl0).1 0 hsp
      rw [List.getElem?_eq_getElem (by rw [hf]; exact hsp)] at hc0
      simp only [Nat.zero_mul, Addr.add, if_true] at hc0
      obtain ⟨b, off, sp⟩ := a
      unfold World.cell? at hc0
      split at hc0
      · rename_i c T fz hheap
        split at hc0
        · cases hc0
        · rename_i hspot
          have hsp0 : sp = none := by simpa using hspot
          subst hsp0
          subst h1
          refine ⟨l, some ⟨b, off, none⟩, cap, rfl, ⟨hl, (fun e => by cases e), .inr ⟨b, off, c, T, fz, rfl, hheap, ?_⟩⟩, fun x hx => by obtain ⟨i, hi⟩ := List.getElem?_of_mem hx; exact (h2 i x hi).2, hm⟩
          intro i y hy
          have hcells : ∀ j, j < s → c[off + i * s + j]? = (f y)[j]? := fun j hj => by
            have := (h2 i y hy).1 j hj
            rw [addr_add, addr_add] at this
            simpa [World.cell?, hheap] using this
          have hsz : off + i * s + s ≤ c.size := by
            have := hcells (s - 1) (by omega)
            rw [List.getElem?_eq_getElem (by rw [hf]; omega)] at this
            have := (Array.getElem?_eq_some_iff.1 this).1
            omega
          refine ⟨hsz, ?_⟩
          apply Array.ext_getElem?
          intro j
          rw [Array.getElem?_extract]
          by_cases hj : j < s
          · rw [if_pos (by omega), hcells j hj]; simp
          · rw [if_neg (by omega)]
            rw [Array.getElem?_eq_none]
            simp [hf]; omega
      · cases hc0
section
variable {P : Program} {w : World} {r : Reach} {b0 : Nat} {t : TypeId} {v : Value} {H : Type} {enc : TypeId × Value → H} {base : Nat} {spare : Nat → Bool} {held : Bool} {d : DataW H} {ps : List MemPlace}
theorem param_sliceW {e : TypeId} {s : Nat} {α : Type} {f : α → List Value} {ok : α → Prop} (ht : sliOf P t = some e) (hs : szOf P e = some s) (hf : ∀ x, (f x).length = s) (hsp : 0 < s) (hr : RdsAt P w e f ok) (hv : Value.okWide P w r b0 t v) (h : DataW.Trod enc P w base spare held t v d ps) :
    ∃ (l : List α) (a : Option Addr) (cap : Nat), v = .slice a l.length cap ∧ SliceAt w a cap s f l ∧ (∀ x ∈ l, ok x) ∧ cap ≤ Go.maxLen := by
  obtain ⟨fuel, hf'⟩ := h
  obtain ⟨l, a, cap, h1, h2, h3, h4⟩ := read_sliceW ht hs hf hsp hr hf'
  refine ⟨l, a, cap, ?_, h2, h3, h4⟩
  unfold Value.okWide at hv
  rw [und_sli ht] at hv
  cases v with
  | agg cs => simp [Cell.okWide, und_sli ht, Cell.ok] at hv
  | _ => simp [Value.cells] at h1 <;> simp [h1]
end
end Go.Proofs.Ytmihoejecpcmjaa
/- marks: arguments of the laws, read: ids. -/
namespace Go.Proofs.Ytmihoejecpcmjaa
open Go Go.RowKit Go.ChangeShapes Go.WideShapes
set_option maxRecDepth 10000
theorem rds_tid : Rds Try.prog 32 Tid.cells (fun _ => True) :=
  Rds.map (rds3 fl32_0 fl32_1 fl32_2 sz30 sz3 sz30 sz32 (rds_int io30) (rds_int io3) (rds_int io30)) (fun p => (⟨p.1, p.2.1, p.2.2⟩ : Tid)) (fun p => rfl) (fun _ _ => trivial)
end Go.Proofs.Ytmihoejecpcmjaa
/- MarksDue: what is due (plainly). -/
namespace Go.Proofs.Ytmihoejecpcmjaa
open Go Go.RowKit
theorem up_lt {l : List Tid} (h : Up l) {i j : Nat} {x y : Tid} (hij : i < j) (hx : l[i]? = some x) (hy : l[j]? = some y) : lessI x y = true := by
  obtain ⟨h1, e1⟩ := List.getElem?_eq_some_iff.1 hx
  obtain ⟨h2, e2⟩ := List.getElem?_eq_some_iff.1 hy
  have := List.pairwise_iff_getElem.1 h i j h1 h2 hij
  rwa [e1, e2] at this
end Go.Proofs.Ytmihoejecpcmjaa
