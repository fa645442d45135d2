/- Texts of this seat, merged: part 3. -/
import Derived.Test.YtbiapeaghbndoaaMg2
/- canvas: need, and tries. Printed by a program of this seat's prover. -/
namespace Go.Proofs.Ytbiapeaghbndoaa
open Go Go.RowKit
set_option maxRecDepth 10000
theorem need_ok_st (x : Int) (w : World) : Calls Try.prog 94 #[.bool true, .int .i64 x] w fun e w' => e = .returned (.tuple #[]) ∧ Below w.heap.size w w' := by
  refine calls_of_T (l := [.bool true, .int .i64 x]) 8 Try.func94 rfl rfl rfl ?_
  show T _ _ _ [(0, .bool true), (1, .int .i64 x)] []
  refine T_seq (T_region ?_)
  refine TL_q (.bool true) (fun _ _ hρ _ => r_move (hρ _ _ rfl)) rfl rfl rfl (w_n rfl) ?_
  refine TL_q (.bool false) (fun _ _ hρ _ => r_not (b := true) (hρ _ _ rfl)) rfl rfl rfl (w_n rfl) ?_
  refine TL_seq ?_
  refine T_cond_f rfl ?_
  refine T_skip' ?_
  refine p_end ?_
  refine ret_of rfl (.tuple #[]) (fun tmps w hk hm => results_none rfl _ _ _) (fun w hm => ?_)
  exact ⟨rfl, hm.ext⟩

theorem need_no_st (x : Int) (w : World) : Calls Try.prog 94 #[.bool false, .int .i64 x] w fun e w' => e = .panicked [{ v := .iface 29 (.int .i64 x), recovered := false }] ∧ Below w.heap.size w w' := by
  refine calls_of_T (l := [.bool false, .int .i64 x]) 8 Try.func94 rfl rfl rfl ?_
  show T _ _ _ [(0, .bool false), (1, .int .i64 x)] []
  refine T_seq (T_region ?_)
  refine TL_q (.bool false) (fun _ _ hρ _ => r_move (hρ _ _ rfl)) rfl rfl rfl (w_n rfl) ?_
  refine TL_q (.bool true) (fun _ _ hρ _ => r_not (b := false) (hρ _ _ rfl)) rfl rfl rfl (w_n rfl) ?_
  refine TL_seq ?_
  refine T_cond_t rfl ?_
  refine T_region ?_
  refine TL_q (.int .i64 x) (fun _ _ hρ _ => r_move (hρ _ _ rfl)) rfl rfl rfl (w_n rfl) ?_
  refine TL_q (.iface 29 (.int .i64 x)) (fun _ _ hρ _ => r_makeIface (by kernel_rfl) (hρ _ _ rfl)) rfl rfl rfl (w_n rfl) ?_
  refine TL_panic (fun _ _ hρ _ => r_panic (hρ _ _ rfl)) rfl (w_n rfl) ?_
  refine p_pan rfl (fun w hm => ?_)
  exact ⟨rfl, hm.ext⟩

theorem trS_idle (w₀ : World) (L : Heap) (A B : Nat) : ∀ w, MemOk w₀ L w → CallsD Try.prog 104 #[.pointer (some ⟨A, 0, none⟩), .pointer (some ⟨B, 0, none⟩)] .returning w fun e u' w' => u' = .returning ∧ (e = .returned (.tuple #[]) ∧ MemOk w₀ L w') := by
  refine dS_of_T (l := [.pointer (some ⟨A, 0, none⟩), .pointer (some ⟨B, 0, none⟩)]) (L := L) (v := .nilIface) 19 (.inl ⟨rfl, rfl, rfl⟩) Try.func104 rfl rfl rfl rfl rfl (fun _ _ => rfl) rfl rfl (fun _ _ => rfl) rfl rfl ?_
  show T _ _ _ [(2, .nilIface), (6, .nilIface), (0, .pointer (some ⟨A, 0, none⟩)), (1, .pointer (some ⟨B, 0, none⟩))] L
  refine T_seq (T_region ?_)
  refine TL_q (.nilIface) (fun _ _ hρ _ => r_move (hρ _ _ rfl)) rfl rfl rfl (w_n rfl) ?_
  refine TL_q (.bool false) (fun _ w hρ _ => r_eqI (by rfl) (hρ _ _ rfl) (hρ _ _ rfl) (run_neq_nil_nil w 20 (by kernel_rfl))) rfl rfl rfl (w_n rfl) ?_
  refine TL_seq ?_
  refine T_cond_f rfl ?_
  refine T_skip' ?_
  refine p_endP ?_
  refine ret_ofP rfl (.tuple #[]) (fun tmps w hk hm => results_none rfl _ _ _) (fun w hm => ?_)
  exact ⟨rfl, hm⟩

theorem trS_rec (w₀ : World) (L : Heap) (A B : Nat) (x : Int) (hX : lk L 1902 = none) (hA : lk L 1900 = some (.blk A (.cells #[.int .i64 0, .int .i64 0, .slice none 0 0] 75))) (hB : lk L 1901 = some (.blk B (.cells #[.int .i64 0] 29))) : ∀ w, MemOk w₀ L w → CallsD Try.prog 104 #[.pointer (some ⟨A, 0, none⟩), .pointer (some ⟨B, 0, none⟩)] (.panicking [{ v := .iface 29 (.int .i64 x), recovered := false }]) w fun e u' w' => u' = .panicking [{ v := .iface 29 (.int .i64 x), recovered := true }] ∧ (e = .returned (.tuple #[]) ∧ MemOk w₀ ([(1901, .blk B (.cells #[.int .i64 x] 29)), (1900, .blk A (.cells #[.int .i64 0, .int .i64 0, .slice none 0 0] 75))] ++ L) w') := by
  refine dS_of_T (l := [.pointer (some ⟨A, 0, none⟩), .pointer (some ⟨B, 0, none⟩)]) (L := L) (v := .iface 29 (.int .i64 x)) 19 (.inr ⟨rfl, rfl⟩) Try.func104 rfl rfl rfl rfl rfl (fun _ _ => rfl) rfl rfl (fun _ _ => rfl) rfl rfl ?_
  refine T_mem ((1901, .blk B (.cells #[.int .i64 0] 29)) :: (1900, .blk A (.cells #[.int .i64 0, .int .i64 0, .slice none 0 0] 75)) :: L) (fun _ hm => hm.of (lk_dup2 hB hA)) ?_
  show T _ _ _ [(2, .iface 29 (.int .i64 x)), (6, .iface 29 (.int .i64 x)), (0, .pointer (some ⟨A, 0, none⟩)), (1, .pointer (some ⟨B, 0, none⟩))] ((1901, .blk B (.cells #[.int .i64 0] 29)) :: (1900, .blk A (.cells #[.int .i64 0, .int .i64 0, .slice none 0 0] 75)) :: L)
  refine T_seq (T_region ?_)
  refine TL_q (.iface 29 (.int .i64 x)) (fun _ _ hρ _ => r_move (hρ _ _ rfl)) rfl rfl rfl (w_n rfl) ?_
  refine TL_q (.bool true) (fun _ w hρ _ => r_eqI (by rfl) (hρ _ _ rfl) (hρ _ _ rfl) (run_neq_held_nil w 20 _ _ (by kernel_rfl))) rfl rfl rfl (w_n rfl) ?_
  refine TL_seq ?_
  refine T_cond_t rfl ?_
  refine T_seq (T_region ?_)
  refine TL_q (.iface 29 (.int .i64 x)) (fun _ _ hρ _ => r_move (hρ _ _ rfl)) rfl rfl rfl (w_n rfl) ?_
  refine TL_q (.tuple #[.int .i64 x, .bool true]) (fun _ _ hρ _ => r_typeAssert (hρ _ _ rfl) (by kernel_rfl)) rfl rfl rfl (w_n rfl) ?_
  refine TL_q (.tuple #[.int .i64 x, .bool true]) (fun _ _ hρ _ => r_move (hρ _ _ rfl)) rfl rfl rfl (w_n rfl) ?_
  refine TL_q (.int .i64 x) (fun _ _ hρ _ => r_extract (hρ _ _ rfl) rfl) rfl rfl rfl (w_n rfl) ?_
  refine TL_q (.bool true) (fun _ _ hρ _ => r_extract (hρ _ _ rfl) rfl) rfl rfl rfl (w_n rfl) ?_
  refine TL_q (.int .i64 x) (fun _ _ hρ _ => r_assign (hρ _ _ rfl)) rfl rfl rfl (w_n rfl) ?_
  refine TL_q (.bool true) (fun _ _ hρ _ => r_assign (hρ _ _ rfl)) rfl rfl rfl (w_n rfl) ?_
  refine TL_seq ?_
  refine T_seq ?_
  refine T_seq (T_region ?_)
  refine TL_q (.bool true) (fun _ _ hρ _ => r_move (hρ _ _ rfl)) rfl rfl rfl (w_n rfl) ?_
  refine TL_q (.bool false) (fun _ _ hρ _ => r_not (b := true) (hρ _ _ rfl)) rfl rfl rfl (w_n rfl) ?_
  refine TL_seq ?_
  refine T_cond_f rfl ?_
  refine T_skip' ?_
  refine p_seq ?_
  refine T_seq (T_region ?_)
  refine TL_new 1902 (.cells #[.int .i64 0, .int .i64 0, .slice none 0 0] 75) (fun B => .pointer (some ⟨B, 0, none⟩)) (fun _ _ _ _ => r_alloc (v := .agg #[.int .i64 0, .int .i64 0, .slice none 0 0]) (by kernel_rfl) rfl) rfl rfl rfl (w_n rfl) ?_
  intro B1
  refine TL_seq ?_
  refine T_region ?_
  refine TL_q (.agg #[.int .i64 0, .int .i64 0, .slice none 0 0]) (fun _ _ hρ hm => r_loadA ag75 sz75 (hρ _ _ rfl) (hm.at 1902 rfl) rfl rfl) rfl rfl rfl (w_n rfl) ?_
  refine TL_q (.int .i64 x) (fun _ _ hρ _ => r_move (hρ _ _ rfl)) rfl rfl rfl (w_n rfl) ?_
  refine TL_store 1900 (.cells #[.int .i64 0, .int .i64 0, .slice none 0 0] 75) rfl (fun _ _ hρ hm => r_store sz75 (hρ _ _ rfl) (hρ _ _ rfl) (hm.at 1900 rfl) rfl rfl rfl rfl) rfl rfl (w_n rfl) ?_
  refine TL_store 1901 (.cells #[.int .i64 x] 29) rfl (fun _ _ hρ hm => r_store sz29 (hρ _ _ rfl) (hρ _ _ rfl) (hm.at 1901 rfl) rfl rfl rfl rfl) rfl rfl (w_n rfl) ?_
  refine TL_nil ?_
  refine p_endP ?_
  refine ret_ofP rfl (.tuple #[]) (fun tmps w hk hm => results_none rfl _ _ _) (fun w hm => ?_)
  exact ⟨rfl, hm.of (lk_mid2 (L := L) [(1901, .blk B (.cells #[.int .i64 x] 29)), (1900, .blk A (.cells #[.int .i64 0, .int .i64 0, .slice none 0 0] 75))] (1902, .blk B1 (.cells #[.int .i64 0, .int .i64 0, .slice none 0 0] 75)) [(1901, .blk B (.cells #[.int .i64 0] 29)), (1900, .blk A (.cells #[.int .i64 0, .int .i64 0, .slice none 0 0] 75))] hX rfl rfl)⟩

theorem trS_ok {w₀ : World} {L : Heap} (g : Nat) (cap : Array Value) {ι : Type} (p : ι → Prop) (vi0 : ι → Int) (vi1 : ι → Int) (va2 : ι → Option Addr) (vn2 : ι → Nat) (vc2 : ι → Nat) (N : ι → Heap) (hE : Enters Try.prog g) (h1901 : lk L 1901 = none) (h1900 : lk L 1900 = none) (hN1901 : ∀ x, lk (N x) 1901 = none) (hN1900 : ∀ x, lk (N x) 1900 = none) (H : ∀ A B w, MemOk w₀ ((1901, .blk B (.cells #[.int .i64 0] 29)) :: (1900, .blk A (.cells #[.int .i64 0, .int .i64 0, .slice none 0 0] 75)) :: L) w → Calls Try.prog g cap w (HAns w₀ p (fun x => .agg #[.int .i64 (vi0 x), .int .i64 (vi1 x), .slice (va2 x) (vn2 x) (vc2 x)]) (fun x => N x ++ ((1901, .blk B (.cells #[.int .i64 0] 29)) :: (1900, .blk A (.cells #[.int .i64 0, .int .i64 0, .slice none 0 0] 75)) :: L)))) : ∀ w, MemOk w₀ L w → Calls Try.prog 83 #[.func (.func g) #[] cap] w (HAns w₀ p (fun x => .tuple #[.agg #[.int .i64 (vi0 x), .int .i64 (vi1 x), .slice (va2 x) (vn2 x) (vc2 x)], .int .i64 0]) (fun x => N x ++ L)) := by
  refine ht_of_TD (l := [.func (.func g) #[] cap]) (L := L) 7 Try.func83 rfl rfl rfl ?_
  show T _ _ _ [(0, .func (.func g) #[] cap)] L
  refine T_seq (T_region ?_)
  refine TL_new 1900 (.cells #[.int .i64 0, .int .i64 0, .slice none 0 0] 75) (fun B => .pointer (some ⟨B, 0, none⟩)) (fun _ _ _ _ => r_alloc (v := .agg #[.int .i64 0, .int .i64 0, .slice none 0 0]) (by kernel_rfl) rfl) rfl rfl rfl (w_n rfl) ?_
  intro B1
  refine TL_new 1901 (.cells #[.int .i64 0] 29) (fun B => .pointer (some ⟨B, 0, none⟩)) (fun _ _ _ _ => r_alloc (v := .int .i64 0) (by kernel_rfl) rfl) rfl rfl rfl (w_n rfl) ?_
  intro B2
  refine TL_seq ?_
  refine T_seq (T_region ?_)
  refine TL_q (.func (.func 104) #[] #[.pointer (some ⟨B1, 0, none⟩), .pointer (some ⟨B2, 0, none⟩)]) (fun _ _ hρ _ => r_makeFunc (by simp) (map_arr (cons2 (hρ _ _ rfl) (cons2 (hρ _ _ rfl) rfl)))) rfl rfl rfl (w_n rfl) ?_
  refine TL_defer ({ target := .fn (.func 104) #[.pointer (some ⟨B1, 0, none⟩), .pointer (some ⟨B2, 0, none⟩)], args := #[] }) rfl (fun _ _ hρ _ => r_defer (args := []) (hρ _ _ rfl) (by rfl) rfl) rfl (w_n rfl) ?_
  refine TL_seq ?_
  refine T_seq (T_region ?_)
  refine TL_q (.func (.func g) #[] cap) (fun _ _ hρ _ => r_move (hρ _ _ rfl)) rfl rfl rfl (w_n rfl) ?_
  refine TL_callH _ _ _ (fun _ _ hρ _ => r_call (args := []) hE (hρ _ _ rfl) (by rfl) (by simp)) (fun w hm => H B1 B2 w hm) rfl rfl rfl (w_n rfl) ?_
  intro x hx
  refine TL_mem ([(1901, .blk B2 (.cells #[.int .i64 0] 29)), (1900, .blk B1 (.cells #[.int .i64 0, .int .i64 0, .slice none 0 0] 75))] ++ (N x ++ L)) (fun _ hm => hm.of (lk_front (L := L) [(1901, .blk B2 (.cells #[.int .i64 0] 29)), (1900, .blk B1 (.cells #[.int .i64 0, .int .i64 0, .slice none 0 0] 75))] (by simp [hN1901, hN1900]))) ?_
  refine TL_store 1900 (.cells #[.int .i64 (vi0 x), .int .i64 (vi1 x), .slice (va2 x) (vn2 x) (vc2 x)] 75) rfl (fun _ _ hρ hm => r_store sz75 (hρ _ _ rfl) (hρ _ _ rfl) (hm.at 1900 rfl) rfl rfl rfl rfl) rfl rfl (w_n rfl) ?_
  refine TL_store 1901 (.cells #[.int .i64 0] 29) rfl (fun _ _ hρ hm => r_store sz29 (hρ _ _ rfl) (hρ _ _ rfl) (hm.at 1901 rfl) rfl rfl rfl rfl) rfl rfl (w_n rfl) ?_
  refine TL_seq ?_
  refine T_ret' ?_
  refine ret_ofD [{ target := .fn (.func 104) #[.pointer (some ⟨B1, 0, none⟩), .pointer (some ⟨B2, 0, none⟩)], args := #[] }] rfl (fun tmps hk => ?_)
  refine leavesH_cons (enters_of Try.func104 (by kernel_rfl) rfl) (fun w hm => trS_idle _ _ B1 B2 w hm) ?_
  refine leavesH_nil (.tuple #[.agg #[.int .i64 (vi0 x), .int .i64 (vi1 x), .slice (va2 x) (vn2 x) (vc2 x)], .int .i64 0]) (fun _ hm => res2 rfl (res_cell (hk 2 _ rfl) (run_loadVar_agg ag75 sz75 (hm.at 1900 rfl) (Nat.le_of_ble_eq_true rfl) rfl)) (res_cell (hk 3 _ rfl) (run_loadVar_one ag29 (hm.at 1901 rfl) rfl))) (fun w hm => ?_)
  have e1901 := lk_app_none (hN1901 x) h1901
  have e1900 := lk_app_none (hN1900 x) h1900
  exact ⟨x, hx, rfl, hm.of (lk_drop (L := N x ++ L) [(1901, .blk B2 (.cells #[.int .i64 0] 29)), (1900, .blk B1 (.cells #[.int .i64 (vi0 x), .int .i64 (vi1 x), .slice (va2 x) (vn2 x) (vc2 x)] 75)), (1901, .blk B2 (.cells #[.int .i64 0] 29)), (1900, .blk B1 (.cells #[.int .i64 0, .int .i64 0, .slice none 0 0] 75))] (by simp [e1901, e1900]))⟩

theorem trS_no {w₀ : World} {L : Heap} (g : Nat) (cap : Array Value) {ι : Type} (p : ι → Prop) (er : ι → Int) (N : ι → Heap) (hE : Enters Try.prog g) (h1901 : lk L 1901 = none) (h1900 : lk L 1900 = none) (h1902 : lk L 1902 = none) (hN1901 : ∀ x, lk (N x) 1901 = none) (hN1900 : ∀ x, lk (N x) 1900 = none) (hN1902 : ∀ x, lk (N x) 1902 = none) (H : ∀ A B w, MemOk w₀ ((1901, .blk B (.cells #[.int .i64 0] 29)) :: (1900, .blk A (.cells #[.int .i64 0, .int .i64 0, .slice none 0 0] 75)) :: L) w → Calls Try.prog g cap w (PAns w₀ p (fun x => .iface 29 (.int .i64 (er x))) (fun x => N x ++ ((1901, .blk B (.cells #[.int .i64 0] 29)) :: (1900, .blk A (.cells #[.int .i64 0, .int .i64 0, .slice none 0 0] 75)) :: L)))) : ∀ w, MemOk w₀ L w → Calls Try.prog 83 #[.func (.func g) #[] cap] w (HAns w₀ p (fun x => .tuple #[.agg #[.int .i64 0, .int .i64 0, .slice none 0 0], .int .i64 (er x)]) (fun x => N x ++ L)) := by
  refine ht_of_TD (l := [.func (.func g) #[] cap]) (L := L) 7 Try.func83 rfl rfl rfl ?_
  show T _ _ _ [(0, .func (.func g) #[] cap)] L
  refine T_seq (T_region ?_)
  refine TL_new 1900 (.cells #[.int .i64 0, .int .i64 0, .slice none 0 0] 75) (fun B => .pointer (some ⟨B, 0, none⟩)) (fun _ _ _ _ => r_alloc (v := .agg #[.int .i64 0, .int .i64 0, .slice none 0 0]) (by kernel_rfl) rfl) rfl rfl rfl (w_n rfl) ?_
  intro B1
  refine TL_new 1901 (.cells #[.int .i64 0] 29) (fun B => .pointer (some ⟨B, 0, none⟩)) (fun _ _ _ _ => r_alloc (v := .int .i64 0) (by kernel_rfl) rfl) rfl rfl rfl (w_n rfl) ?_
  intro B2
  refine TL_seq ?_
  refine T_seq (T_region ?_)
  refine TL_q (.func (.func 104) #[] #[.pointer (some ⟨B1, 0, none⟩), .pointer (some ⟨B2, 0, none⟩)]) (fun _ _ hρ _ => r_makeFunc (by simp) (map_arr (cons2 (hρ _ _ rfl) (cons2 (hρ _ _ rfl) rfl)))) rfl rfl rfl (w_n rfl) ?_
  refine TL_defer ({ target := .fn (.func 104) #[.pointer (some ⟨B1, 0, none⟩), .pointer (some ⟨B2, 0, none⟩)], args := #[] }) rfl (fun _ _ hρ _ => r_defer (args := []) (hρ _ _ rfl) (by rfl) rfl) rfl (w_n rfl) ?_
  refine TL_seq ?_
  refine T_seq (T_region ?_)
  refine TL_q (.func (.func g) #[] cap) (fun _ _ hρ _ => r_move (hρ _ _ rfl)) rfl rfl rfl (w_n rfl) ?_
  refine TL_callP _ _ _ (fun _ _ hρ _ => r_call (args := []) hE (hρ _ _ rfl) (by rfl) (by simp)) (fun w hm => H B1 B2 w hm) rfl (w_n rfl) ?_
  intro x hx
  refine p_mem ([(1901, .blk B2 (.cells #[.int .i64 0] 29)), (1900, .blk B1 (.cells #[.int .i64 0, .int .i64 0, .slice none 0 0] 75))] ++ (N x ++ L)) (fun _ hm => hm.of (lk_front (L := L) [(1901, .blk B2 (.cells #[.int .i64 0] 29)), (1900, .blk B1 (.cells #[.int .i64 0, .int .i64 0, .slice none 0 0] 75))] (by simp [hN1901, hN1900]))) ?_
  refine p_then_p ?_
  refine p_panD [{ target := .fn (.func 104) #[.pointer (some ⟨B1, 0, none⟩), .pointer (some ⟨B2, 0, none⟩)], args := #[] }] rfl (fun tmps hk => ?_)
  refine leavesP_cons (L' := [(1901, .blk B2 (.cells #[.int .i64 (er x)] 29)), (1900, .blk B1 (.cells #[.int .i64 0, .int .i64 0, .slice none 0 0] 75))] ++ (N x ++ L)) (enters_of Try.func104 (by kernel_rfl) rfl) (fun w hm => ((trS_rec _ ([(1901, .blk B2 (.cells #[.int .i64 0] 29)), (1900, .blk B1 (.cells #[.int .i64 0, .int .i64 0, .slice none 0 0] 75))] ++ (N x ++ L)) B1 B2 _ (show lk (N x ++ L) 1902 = none from lk_app_none (hN1902 x) h1902) rfl rfl w hm).mono fun e u' w' h => ⟨h.1, h.2.1, h.2.2.of (lk_mid (L := N x ++ L) [(1901, .blk B2 (.cells #[.int .i64 (er x)] 29)), (1900, .blk B1 (.cells #[.int .i64 0, .int .i64 0, .slice none 0 0] 75))] [(1901, .blk B2 (.cells #[.int .i64 0] 29)), (1900, .blk B1 (.cells #[.int .i64 0, .int .i64 0, .slice none 0 0] 75))] rfl)⟩)) ?_
  refine leavesH_nil (.tuple #[.agg #[.int .i64 0, .int .i64 0, .slice none 0 0], .int .i64 (er x)]) (fun _ hm => res2 rfl (res_cell (hk 2 _ rfl) (run_loadVar_agg ag75 sz75 (hm.at 1900 rfl) (Nat.le_of_ble_eq_true rfl) rfl)) (res_cell (hk 3 _ rfl) (run_loadVar_one ag29 (hm.at 1901 rfl) rfl))) (fun w hm => ?_)
  have e1901 := lk_app_none (hN1901 x) h1901
  have e1900 := lk_app_none (hN1900 x) h1900
  exact ⟨x, hx, rfl, hm.of (lk_drop (L := N x ++ L) [(1901, .blk B2 (.cells #[.int .i64 (er x)] 29)), (1900, .blk B1 (.cells #[.int .i64 0, .int .i64 0, .slice none 0 0] 75))] (by simp [e1901, e1900]))⟩

theorem trSW_ok (g : Nat) (cap : Array Value) {ι : Type} (p : ι → Prop) (vi0 : ι → Int) (vi1 : ι → Int) (va2 : ι → Option Addr) (vn2 : ι → Nat) (vc2 : ι → Nat) (N : ι → Heap) (w : World) (hE : Enters Try.prog g) (hN1901 : ∀ x, lk (N x) 1901 = none) (hN1900 : ∀ x, lk (N x) 1900 = none) (H : ∀ w2, Below w.heap.size w w2 → Calls Try.prog g cap w2 (Ans p (fun x => .agg #[.int .i64 (vi0 x), .int .i64 (vi1 x), .slice (va2 x) (vn2 x) (vc2 x)]) N w2)) : Calls Try.prog 83 #[.func (.func g) #[] cap] w (Ans p (fun x => .tuple #[.agg #[.int .i64 (vi0 x), .int .i64 (vi1 x), .slice (va2 x) (vn2 x) (vc2 x)], .int .i64 0]) N w) := by
  refine (trS_ok (L := []) (w₀ := w) g cap p vi0 vi1 va2 vn2 vc2 N hE rfl rfl hN1901 hN1900 (fun A B w2 hm => (H w2 hm.ext).mono ?_) w (MemOk.nil w)).mono ?_
  · rintro e w' ⟨x, hx, he, hb, hn⟩
    exact ⟨x, hx, he, hm.news hb hn⟩
  · rintro e w' ⟨x, hx, he, hm⟩
    simp only [List.append_nil] at hm
    exact ⟨x, hx, he, hm.ext, ⟨fun i r h => hm.own i r h, fun i j r s h1 h2 => hm.sep i j r s h1 h2⟩⟩
theorem trSW_no (g : Nat) (cap : Array Value) (x : Int) (w : World) (hE : Enters Try.prog g) (H : ∀ w2, Below w.heap.size w w2 → Calls Try.prog g cap w2 fun e w' => e = .panicked [{ v := .iface 29 (.int .i64 x), recovered := false }] ∧ Below w2.heap.size w2 w') : Calls Try.prog 83 #[.func (.func g) #[] cap] w fun e w' => e = .returned (.tuple #[.agg #[.int .i64 0, .int .i64 0, .slice none 0 0], .int .i64 x]) ∧ Below w.heap.size w w' :=
  (trS_no (ι := Unit) (L := []) (w₀ := w) g cap (fun _ => True) (fun _ => x) (fun _ => []) hE rfl rfl rfl (fun _ => rfl) (fun _ => rfl) (fun _ => rfl) (fun A B w2 hm => (H w2 hm.ext).mono fun e w' h => ⟨(), trivial, h.1, hm.below h.2⟩) w (MemOk.nil w)).mono fun e w' ⟨_, _, he, hm⟩ => ⟨he, hm.ext⟩

theorem trC_idle (w₀ : World) (L : Heap) (A B : Nat) : ∀ w, MemOk w₀ L w → CallsD Try.prog 106 #[.pointer (some ⟨A, 0, none⟩), .pointer (some ⟨B, 0, none⟩)] .returning w fun e u' w' => u' = .returning ∧ (e = .returned (.tuple #[]) ∧ MemOk w₀ L w') := by
  refine dS_of_T (l := [.pointer (some ⟨A, 0, none⟩), .pointer (some ⟨B, 0, none⟩)]) (L := L) (v := .nilIface) 19 (.inl ⟨rfl, rfl, rfl⟩) Try.func106 rfl rfl rfl rfl rfl (fun _ _ => rfl) rfl rfl (fun _ _ => rfl) rfl rfl ?_
  show T _ _ _ [(2, .nilIface), (6, .nilIface), (0, .pointer (some ⟨A, 0, none⟩)), (1, .pointer (some ⟨B, 0, none⟩))] L
  refine T_seq (T_region ?_)
  refine TL_q (.nilIface) (fun _ _ hρ _ => r_move (hρ _ _ rfl)) rfl rfl rfl (w_n rfl) ?_
  refine TL_q (.bool false) (fun _ w hρ _ => r_eqI (by rfl) (hρ _ _ rfl) (hρ _ _ rfl) (run_neq_nil_nil w 20 (by kernel_rfl))) rfl rfl rfl (w_n rfl) ?_
  refine TL_seq ?_
  refine T_cond_f rfl ?_
  refine T_skip' ?_
  refine p_endP ?_
  refine ret_ofP rfl (.tuple #[]) (fun tmps w hk hm => results_none rfl _ _ _) (fun w hm => ?_)
  exact ⟨rfl, hm⟩

theorem trC_ok {w₀ : World} {L : Heap} (g : Nat) (cap : Array Value) {ι : Type} (p : ι → Prop) (vp0 : ι → Option Addr) (N : ι → Heap) (hE : Enters Try.prog g) (h1901 : lk L 1901 = none) (h1900 : lk L 1900 = none) (hN1901 : ∀ x, lk (N x) 1901 = none) (hN1900 : ∀ x, lk (N x) 1900 = none) (H : ∀ A B w, MemOk w₀ ((1901, .blk B (.cells #[.int .i64 0] 29)) :: (1900, .blk A (.cells #[.pointer none] 28)) :: L) w → Calls Try.prog g cap w (HAns w₀ p (fun x => .pointer (vp0 x)) (fun x => N x ++ ((1901, .blk B (.cells #[.int .i64 0] 29)) :: (1900, .blk A (.cells #[.pointer none] 28)) :: L)))) : ∀ w, MemOk w₀ L w → Calls Try.prog 96 #[.func (.func g) #[] cap] w (HAns w₀ p (fun x => .tuple #[.pointer (vp0 x), .int .i64 0]) (fun x => N x ++ L)) := by
  refine ht_of_TD (l := [.func (.func g) #[] cap]) (L := L) 7 Try.func96 rfl rfl rfl ?_
  show T _ _ _ [(0, .func (.func g) #[] cap)] L
  refine T_seq (T_region ?_)
  refine TL_new 1900 (.cells #[.pointer none] 28) (fun B => .pointer (some ⟨B, 0, none⟩)) (fun _ _ _ _ => r_alloc (v := .pointer none) (by kernel_rfl) rfl) rfl rfl rfl (w_n rfl) ?_
  intro B1
  refine TL_new 1901 (.cells #[.int .i64 0] 29) (fun B => .pointer (some ⟨B, 0, none⟩)) (fun _ _ _ _ => r_alloc (v := .int .i64 0) (by kernel_rfl) rfl) rfl rfl rfl (w_n rfl) ?_
  intro B2
  refine TL_seq ?_
  refine T_seq (T_region ?_)
  refine TL_q (.func (.func 106) #[] #[.pointer (some ⟨B1, 0, none⟩), .pointer (some ⟨B2, 0, none⟩)]) (fun _ _ hρ _ => r_makeFunc (by simp) (map_arr (cons2 (hρ _ _ rfl) (cons2 (hρ _ _ rfl) rfl)))) rfl rfl rfl (w_n rfl) ?_
  refine TL_defer ({ target := .fn (.func 106) #[.pointer (some ⟨B1, 0, none⟩), .pointer (some ⟨B2, 0, none⟩)], args := #[] }) rfl (fun _ _ hρ _ => r_defer (args := []) (hρ _ _ rfl) (by rfl) rfl) rfl (w_n rfl) ?_
  refine TL_seq ?_
  refine T_seq (T_region ?_)
  refine TL_q (.func (.func g) #[] cap) (fun _ _ hρ _ => r_move (hρ _ _ rfl)) rfl rfl rfl (w_n rfl) ?_
  refine TL_callH _ _ _ (fun _ _ hρ _ => r_call (args := []) hE (hρ _ _ rfl) (by rfl) (by simp)) (fun w hm => H B1 B2 w hm) rfl rfl rfl (w_n rfl) ?_
  intro x hx
  refine TL_mem ([(1901, .blk B2 (.cells #[.int .i64 0] 29)), (1900, .blk B1 (.cells #[.pointer none] 28))] ++ (N x ++ L)) (fun _ hm => hm.of (lk_front (L := L) [(1901, .blk B2 (.cells #[.int .i64 0] 29)), (1900, .blk B1 (.cells #[.pointer none] 28))] (by simp [hN1901, hN1900]))) ?_
  refine TL_store 1900 (.cells #[.pointer (vp0 x)] 28) rfl (fun _ _ hρ hm => r_store sz28 (hρ _ _ rfl) (hρ _ _ rfl) (hm.at 1900 rfl) rfl rfl rfl rfl) rfl rfl (w_n rfl) ?_
  refine TL_store 1901 (.cells #[.int .i64 0] 29) rfl (fun _ _ hρ hm => r_store sz29 (hρ _ _ rfl) (hρ _ _ rfl) (hm.at 1901 rfl) rfl rfl rfl rfl) rfl rfl (w_n rfl) ?_
  refine TL_seq ?_
  refine T_ret' ?_
  refine ret_ofD [{ target := .fn (.func 106) #[.pointer (some ⟨B1, 0, none⟩), .pointer (some ⟨B2, 0, none⟩)], args := #[] }] rfl (fun tmps hk => ?_)
  refine leavesH_cons (enters_of Try.func106 (by kernel_rfl) rfl) (fun w hm => trC_idle _ _ B1 B2 w hm) ?_
  refine leavesH_nil (.tuple #[.pointer (vp0 x), .int .i64 0]) (fun _ hm => res2 rfl (res_cell (hk 2 _ rfl) (run_loadVar_one ag28 (hm.at 1900 rfl) rfl)) (res_cell (hk 3 _ rfl) (run_loadVar_one ag29 (hm.at 1901 rfl) rfl))) (fun w hm => ?_)
  have e1901 := lk_app_none (hN1901 x) h1901
  have e1900 := lk_app_none (hN1900 x) h1900
  exact ⟨x, hx, rfl, hm.of (lk_drop (L := N x ++ L) [(1901, .blk B2 (.cells #[.int .i64 0] 29)), (1900, .blk B1 (.cells #[.pointer (vp0 x)] 28)), (1901, .blk B2 (.cells #[.int .i64 0] 29)), (1900, .blk B1 (.cells #[.pointer none] 28))] (by simp [e1901, e1900]))⟩

end Go.Proofs.Ytbiapeaghbndoaa
/- stamp: what a stamp is. Over this seat's program. -/
namespace Go.Proofs.Ytbiapeaghbndoaa
open Go Go.RowKit
/-- May there be such a side? -/
def sideI (n : Int) : Bool := decide (1 ≤ n ∧ n ≤ 8)
theorem sideI_of {p : Nat} (h : 1 ≤ p ∧ p ≤ 8) : sideI p = true := decide_eq_true (by omega)
/-- May there be a stamp of these sizes, of so many pixels? -/
def rightS (x y : Int) (n : Nat) : Bool := sideI x && sideI y && decide ((n : Int) = x * y)
theorem sideI_nat {x : Int} (h : sideI x = true) : ∃ p : Nat, x = p ∧ 1 ≤ p ∧ p ≤ 8 := by
  have h := of_decide_eq_true h
  exact ⟨x.toNat, by omega, by omega, by omega⟩
theorem rightS_nat {x y : Int} {n : Nat} (e : rightS x y n = true) : ∃ p q : Nat, x = p ∧ y = q ∧ (1 ≤ p ∧ p ≤ 8) ∧ (1 ≤ q ∧ q ≤ 8) ∧ n = p * q := by
  unfold rightS at e
  rw [Bool.and_eq_true, Bool.and_eq_true] at e
  obtain ⟨⟨h1, h2⟩, h3⟩ := e
  obtain ⟨p, rfl, hp⟩ := sideI_nat h1
  obtain ⟨q, rfl, hq⟩ := sideI_nat h2
  exact ⟨p, q, rfl, rfl, hp, hq, by exact_mod_cast of_decide_eq_true h3⟩
theorem rightS_of {p q n : Nat} (hp : 1 ≤ p ∧ p ≤ 8) (hq : 1 ≤ q ∧ q ≤ 8) (hn : n = p * q) : rightS p q n = true := by
  unfold rightS
  rw [sideI_of hp, sideI_of hq, decide_eq_true (by rw [hn]; simp)]
  rfl
theorem size8 {p q : Nat} (hp : 1 ≤ p ∧ p ≤ 8) (hq : 1 ≤ q ∧ q ≤ 8) : 1 ≤ p * q ∧ p * q ≤ 64 := by
  obtain ⟨h1, h2⟩ := hp
  obtain ⟨h3, h4⟩ := hq
  exact ⟨Nat.mul_pos h1 h3, Nat.mul_le_mul h2 h4⟩
/-- How many pixels can be seen, of the first so many. -/
def wearN (l : List C4) (k : Nat) : Nat := ((l.take k).filter fun c => decide (c.a ≠ 0)).length
theorem wearN_le (l : List C4) (k : Nat) : wearN l k ≤ k := by
  unfold wearN
  exact Nat.le_trans (List.length_filter_le _ _) (by rw [List.length_take]; omega)
theorem wearN_y {l : List C4} {k : Nat} {c : C4} (h : l[k]? = some c) (hc : c.a ≠ 0) : wearN l (k + 1) = wearN l k + 1 := by
  unfold wearN
  rw [List.take_add_one, h, List.filter_append, List.length_append]
  simp [hc]
theorem wearN_n {l : List C4} {k : Nat} {c : C4} (h : l[k]? = some c) (hc : ¬ c.a ≠ 0) : wearN l (k + 1) = wearN l k := by
  unfold wearN
  rw [List.take_add_one, h, List.filter_append, List.length_append]
  simp [hc]
theorem in_px {x y W H : Nat} (hx : x < W) (hy : y < H) : y * W + x < W * H := by
  have := Nat.mul_le_mul_right W (show y + 1 ≤ H from hy)
  rw [Nat.add_mul, Nat.one_mul] at this
  rw [Nat.mul_comm W H]; omega
end Go.Proofs.Ytbiapeaghbndoaa
/- canvas: side, Check, Same, Wears, own; the references'. Printed by a program of this seat's prover. -/
namespace Go.Proofs.Ytbiapeaghbndoaa
open Go Go.RowKit
set_option maxRecDepth 10000
theorem side_c (x : Int) (w : World) : Calls Try.prog 81 #[.int .i64 x] w fun e w' => e = .returned (.bool (sideI x)) ∧ Below w.heap.size w w' := by
  refine calls_of_T (l := [.int .i64 x]) 9 Try.func81 rfl rfl rfl ?_
  show T _ _ _ [(0, .int .i64 x)] []
  refine T_seq (T_region ?_)
  refine TL_q (.bool false) (fun _ _ hρ _ => r_assign (hρ _ _ rfl)) rfl rfl rfl (w_n rfl) ?_
  refine TL_seq ?_
  by_cases c1 : (1 : Int) ≤ x
  · skip
    by_cases c2 : x ≤ 8
    · skip
      refine T_seq (T_region ?_)
      refine TL_q (.int .i64 x) (fun _ _ hρ _ => r_move (hρ _ _ rfl)) rfl rfl rfl (w_n rfl) ?_
      refine TL_q (.bool true) (fun _ _ hρ _ => r_as (r_geq (hρ _ _ rfl) (hρ _ _ rfl)) (bool_as (decide_eq_true c1))) rfl rfl rfl (w_n rfl) ?_
      refine TL_q (.bool true) (fun _ _ hρ _ => r_move (hρ _ _ rfl)) rfl rfl rfl (w_n rfl) ?_
      refine TL_q (.int .i64 x) (fun _ _ hρ _ => r_move (hρ _ _ rfl)) rfl rfl rfl (want_y 5 rfl rfl rfl) ?_
      refine TL_q (.bool true) (fun _ _ hρ _ => r_as (r_leq (hρ _ _ rfl) (hρ _ _ rfl)) (bool_as (decide_eq_true c2))) rfl rfl rfl (want_y 5 rfl rfl rfl) ?_
      refine TL_q (.bool true) (fun _ _ hρ _ => r_pick_t (hρ _ _ rfl) (hρ _ _ rfl)) rfl rfl rfl (w_n rfl) ?_
      refine TL_q (.bool true) (fun _ _ hρ _ => r_assign (hρ _ _ rfl)) rfl rfl rfl (w_n rfl) ?_
      refine TL_seq ?_
      refine T_ret' ?_
      refine ret_of rfl (.bool true) (fun tmps w hk hm => res1 rfl (res_tmp (hk 2 _ rfl))) (fun w hm => ?_)
      exact ⟨congrArg Ending.returned (bool_as (decide_eq_true (by omega)).symm), hm.ext⟩
    · skip
      refine T_seq (T_region ?_)
      refine TL_q (.int .i64 x) (fun _ _ hρ _ => r_move (hρ _ _ rfl)) rfl rfl rfl (w_n rfl) ?_
      refine TL_q (.bool true) (fun _ _ hρ _ => r_as (r_geq (hρ _ _ rfl) (hρ _ _ rfl)) (bool_as (decide_eq_true c1))) rfl rfl rfl (w_n rfl) ?_
      refine TL_q (.bool true) (fun _ _ hρ _ => r_move (hρ _ _ rfl)) rfl rfl rfl (w_n rfl) ?_
      refine TL_q (.int .i64 x) (fun _ _ hρ _ => r_move (hρ _ _ rfl)) rfl rfl rfl (want_y 5 rfl rfl rfl) ?_
      refine TL_q (.bool false) (fun _ _ hρ _ => r_as (r_leq (hρ _ _ rfl) (hρ _ _ rfl)) (bool_as (decide_eq_false c2))) rfl rfl rfl (want_y 5 rfl rfl rfl) ?_
      refine TL_q (.bool false) (fun _ _ hρ _ => r_pick_t (hρ _ _ rfl) (hρ _ _ rfl)) rfl rfl rfl (w_n rfl) ?_
      refine TL_q (.bool false) (fun _ _ hρ _ => r_assign (hρ _ _ rfl)) rfl rfl rfl (w_n rfl) ?_
      refine TL_seq ?_
      refine T_ret' ?_
      refine ret_of rfl (.bool false) (fun tmps w hk hm => res1 rfl (res_tmp (hk 2 _ rfl))) (fun w hm => ?_)
      exact ⟨congrArg Ending.returned (bool_as (decide_eq_false (by omega)).symm), hm.ext⟩
  · skip
    refine T_seq (T_region ?_)
    refine TL_q (.int .i64 x) (fun _ _ hρ _ => r_move (hρ _ _ rfl)) rfl rfl rfl (w_n rfl) ?_
    refine TL_q (.bool false) (fun _ _ hρ _ => r_as (r_geq (hρ _ _ rfl) (hρ _ _ rfl)) (bool_as (decide_eq_false c1))) rfl rfl rfl (w_n rfl) ?_
    refine TL_q (.bool false) (fun _ _ hρ _ => r_move (hρ _ _ rfl)) rfl rfl rfl (w_n rfl) ?_
    refine TL_no rfl rfl (want_n 5 rfl rfl rfl) ?_
    refine TL_no rfl rfl (want_n 5 rfl rfl rfl) ?_
    refine TL_q (.bool false) (fun _ _ hρ _ => r_pick_f (hρ _ _ rfl) (hρ _ _ rfl)) rfl rfl rfl (w_n rfl) ?_
    refine TL_q (.bool false) (fun _ _ hρ _ => r_assign (hρ _ _ rfl)) rfl rfl rfl (w_n rfl) ?_
    refine TL_seq ?_
    refine T_ret' ?_
    refine ret_of rfl (.bool false) (fun tmps w hk hm => res1 rfl (res_tmp (hk 2 _ rfl))) (fun w hm => ?_)
    exact ⟨congrArg Ending.returned (bool_as (decide_eq_false (by omega)).symm), hm.ext⟩

theorem check_ok (p q n : Nat) (a : Option Addr) (cap : Nat) (w : World) (hp : 1 ≤ p ∧ p ≤ 8) (hq : 1 ≤ q ∧ q ≤ 8) : Calls Try.prog 49 #[.agg #[.int .i64 (p : Int), .int .i64 (q : Int), .slice a n cap]] w fun e w' => e = .returned (.int .i64 (if n = p * q then 0 else 190)) ∧ Below w.heap.size w w' := by
  have h64 := size8 hp hq
  refine calls_of_T (l := [.agg #[.int .i64 ((p : Nat) : Int), .int .i64 ((q : Nat) : Int), .slice a n cap]]) 24 Try.func49 rfl rfl rfl ?_
  show T _ _ _ [(0, .agg #[.int .i64 ((p : Nat) : Int), .int .i64 ((q : Nat) : Int), .slice a n cap])] []
  refine T_seq (T_region ?_)
  refine TL_new 1 (.cells #[.int .i64 ((p : Nat) : Int), .int .i64 ((q : Nat) : Int), .slice a n cap] 75) (fun B => .pointer (some ⟨B, 0, none⟩)) (fun _ _ hρ _ => r_box (hρ _ _ rfl) rfl) rfl rfl rfl (w_n rfl) ?_
  intro B1
  refine TL_q (.int .i64 0) (fun _ _ hρ _ => r_assign (hρ _ _ rfl)) rfl rfl rfl (w_n rfl) ?_
  refine TL_seq ?_
  refine T_seq ?_
  refine T_seq (T_region ?_)
  refine TL_q (.pointer (some ⟨B1, 0, none⟩)) (fun _ _ hρ _ => r_fieldAddr fl75_0 sz3 (hρ _ _ rfl)) rfl rfl rfl (w_n rfl) ?_
  refine TL_q (.int .i64 ((p : Nat) : Int)) (fun _ _ hρ hm => r_load ag3 (hρ _ _ rfl) (hm.at 1 rfl) rfl) rfl rfl rfl (w_n rfl) ?_
  refine TL_call (.bool true) (fun _ _ hρ _ => r_call (args := [.int .i64 ((p : Nat) : Int)]) (enters_of Try.func81 (by kernel_rfl) rfl) (hρ _ _ rfl) ((cons2 (hρ _ _ rfl) rfl)) rfl) (fun w _ => (side_c ((p : Nat) : Int) w).mono fun _ _ h => ⟨h.1.trans (congrArg Ending.returned (bool_as (sideI_of hp))), h.2⟩) rfl rfl rfl (w_n rfl) ?_
  refine TL_q (.bool false) (fun _ _ hρ _ => r_not (b := true) (hρ _ _ rfl)) rfl rfl rfl (w_n rfl) ?_
  refine TL_q (.bool false) (fun _ _ hρ _ => r_move (hρ _ _ rfl)) rfl rfl rfl (w_n rfl) ?_
  refine TL_q (.pointer (some ⟨B1, 1, none⟩)) (fun _ _ hρ _ => r_fieldAddr fl75_1 sz3 (hρ _ _ rfl)) rfl rfl rfl (want_y 7 rfl rfl rfl) ?_
  refine TL_q (.int .i64 ((q : Nat) : Int)) (fun _ _ hρ hm => r_load ag3 (hρ _ _ rfl) (hm.at 1 rfl) rfl) rfl rfl rfl (want_y 7 rfl rfl rfl) ?_
  refine TL_call (.bool true) (fun _ _ hρ _ => r_call (args := [.int .i64 ((q : Nat) : Int)]) (enters_of Try.func81 (by kernel_rfl) rfl) (hρ _ _ rfl) ((cons2 (hρ _ _ rfl) rfl)) rfl) (fun w _ => (side_c ((q : Nat) : Int) w).mono fun _ _ h => ⟨h.1.trans (congrArg Ending.returned (bool_as (sideI_of hq))), h.2⟩) rfl rfl rfl (want_y 7 rfl rfl rfl) ?_
  refine TL_q (.bool false) (fun _ _ hρ _ => r_not (b := true) (hρ _ _ rfl)) rfl rfl rfl (want_y 7 rfl rfl rfl) ?_
  refine TL_q (.bool false) (fun _ _ hρ _ => r_pick_f (hρ _ _ rfl) (hρ _ _ rfl)) rfl rfl rfl (w_n rfl) ?_
  refine TL_q (.bool false) (fun _ _ hρ _ => r_move (hρ _ _ rfl)) rfl rfl rfl (w_n rfl) ?_
  refine TL_q (.pointer (some ⟨B1, 2, none⟩)) (fun _ _ hρ _ => r_fieldAddr fl75_2 sz71 (hρ _ _ rfl)) rfl rfl rfl (want_y 13 rfl rfl rfl) ?_
  refine TL_q (.slice a n cap) (fun _ _ hρ hm => r_load ag71 (hρ _ _ rfl) (hm.at 1 rfl) rfl) rfl rfl rfl (want_y 13 rfl rfl rfl) ?_
  refine TL_q (.int .i64 ((n : Nat) : Int)) (fun _ _ hρ _ => r_len sl71 (hρ _ _ rfl)) rfl rfl rfl (want_y 13 rfl rfl rfl) ?_
  refine TL_q (.pointer (some ⟨B1, 0, none⟩)) (fun _ _ hρ _ => r_fieldAddr fl75_0 sz3 (hρ _ _ rfl)) rfl rfl rfl (want_y 13 rfl rfl rfl) ?_
  refine TL_q (.int .i64 ((p : Nat) : Int)) (fun _ _ hρ hm => r_load ag3 (hρ _ _ rfl) (hm.at 1 rfl) rfl) rfl rfl rfl (want_y 13 rfl rfl rfl) ?_
  refine TL_q (.pointer (some ⟨B1, 1, none⟩)) (fun _ _ hρ _ => r_fieldAddr fl75_1 sz3 (hρ _ _ rfl)) rfl rfl rfl (want_y 13 rfl rfl rfl) ?_
  refine TL_q (.int .i64 ((q : Nat) : Int)) (fun _ _ hρ hm => r_load ag3 (hρ _ _ rfl) (hm.at 1 rfl) rfl) rfl rfl rfl (want_y 13 rfl rfl rfl) ?_
  refine TL_q (.int .i64 ((p * q : Nat) : Int)) (fun _ _ hρ _ => r_as (r_mul (hρ _ _ rfl) (hρ _ _ rfl)) (int_as ((wrap64 (by omega) (by omega)).trans (by omega)))) rfl rfl rfl (want_y 13 rfl rfl rfl) ?_
  refine TL_q (.bool (!decide (((n : Nat) : Int) = ((p * q : Nat) : Int)))) (fun _ _ hρ _ => r_neq (hρ _ _ rfl) (hρ _ _ rfl)) rfl rfl rfl (want_y 13 rfl rfl rfl) ?_
  refine TL_q (.bool (!decide (((n : Nat) : Int) = ((p * q : Nat) : Int)))) (fun _ _ hρ _ => r_pick_f (hρ _ _ rfl) (hρ _ _ rfl)) rfl rfl rfl (w_n rfl) ?_
  refine TL_seq ?_
  refine T_cond rfl (fun h1 => ?_) (fun h1 => ?_)
  · replace h1 := of_decide_eq_false (bnot_t h1)
    refine T_seq (T_region ?_)
    refine TL_q (.int .i64 190) (fun _ _ hρ _ => r_assign (hρ _ _ rfl)) rfl rfl rfl (w_n rfl) ?_
    refine TL_seq ?_
    refine T_ret' ?_
    refine p_then_r ?_
    refine ret_of rfl (.int .i64 190) (fun tmps w hk hm => res1 rfl (res_tmp (hk 2 _ rfl))) (fun w hm => ?_)
    exact ⟨by rw [if_neg (by omega)], hm.ext⟩
  · replace h1 := of_decide_eq_true (bnot_f h1)
    refine T_skip' ?_
    refine p_seq ?_
    refine T_seq (T_region ?_)
    refine TL_q (.int .i64 0) (fun _ _ hρ _ => r_assign (hρ _ _ rfl)) rfl rfl rfl (w_n rfl) ?_
    refine TL_seq ?_
    refine T_ret' ?_
    refine ret_of rfl (.int .i64 0) (fun tmps w hk hm => res1 rfl (res_tmp (hk 2 _ rfl))) (fun w hm => ?_)
    exact ⟨by rw [if_pos (by omega)], hm.ext⟩

theorem check_x (x y : Int) (a : Option Addr) (n cap : Nat) (w : World) (hno : sideI x = false) : Calls Try.prog 49 #[.agg #[.int .i64 x, .int .i64 y, .slice a n cap]] w fun e w' => e = .returned (.int .i64 190) ∧ Below w.heap.size w w' := by
  refine calls_of_T (l := [.agg #[.int .i64 x, .int .i64 y, .slice a n cap]]) 24 Try.func49 rfl rfl rfl ?_
  show T _ _ _ [(0, .agg #[.int .i64 x, .int .i64 y, .slice a n cap])] []
  refine T_seq (T_region ?_)
  refine TL_new 1 (.cells #[.int .i64 x, .int .i64 y, .slice a n cap] 75) (fun B => .pointer (some ⟨B, 0, none⟩)) (fun _ _ hρ _ => r_box (hρ _ _ rfl) rfl) rfl rfl rfl (w_n rfl) ?_
  intro B1
  refine TL_q (.int .i64 0) (fun _ _ hρ _ => r_assign (hρ _ _ rfl)) rfl rfl rfl (w_n rfl) ?_
  refine TL_seq ?_
  refine T_seq ?_
  refine T_seq (T_region ?_)
  refine TL_q (.pointer (some ⟨B1, 0, none⟩)) (fun _ _ hρ _ => r_fieldAddr fl75_0 sz3 (hρ _ _ rfl)) rfl rfl rfl (w_n rfl) ?_
  refine TL_q (.int .i64 x) (fun _ _ hρ hm => r_load ag3 (hρ _ _ rfl) (hm.at 1 rfl) rfl) rfl rfl rfl (w_n rfl) ?_
  refine TL_call (.bool false) (fun _ _ hρ _ => r_call (args := [.int .i64 x]) (enters_of Try.func81 (by kernel_rfl) rfl) (hρ _ _ rfl) ((cons2 (hρ _ _ rfl) rfl)) rfl) (fun w _ => (side_c x w).mono fun _ _ h => ⟨h.1.trans (congrArg Ending.returned (bool_as hno)), h.2⟩) rfl rfl rfl (w_n rfl) ?_
  refine TL_q (.bool true) (fun _ _ hρ _ => r_not (b := false) (hρ _ _ rfl)) rfl rfl rfl (w_n rfl) ?_
  refine TL_q (.bool true) (fun _ _ hρ _ => r_move (hρ _ _ rfl)) rfl rfl rfl (w_n rfl) ?_
  refine TL_no rfl rfl (want_n 7 rfl rfl rfl) ?_
  refine TL_no rfl rfl (want_n 7 rfl rfl rfl) ?_
  refine TL_no rfl rfl (want_n 7 rfl rfl rfl) ?_
  refine TL_no rfl rfl (want_n 7 rfl rfl rfl) ?_
  refine TL_q (.bool true) (fun _ _ hρ _ => r_pick_t (hρ _ _ rfl) (hρ _ _ rfl)) rfl rfl rfl (w_n rfl) ?_
  refine TL_q (.bool true) (fun _ _ hρ _ => r_move (hρ _ _ rfl)) rfl rfl rfl (w_n rfl) ?_
  refine TL_no rfl rfl (want_n 13 rfl rfl rfl) ?_
  refine TL_no rfl rfl (want_n 13 rfl rfl rfl) ?_
  refine TL_no rfl rfl (want_n 13 rfl rfl rfl) ?_
  refine TL_no rfl rfl (want_n 13 rfl rfl rfl) ?_
  refine TL_no rfl rfl (want_n 13 rfl rfl rfl) ?_
  refine TL_no rfl rfl (want_n 13 rfl rfl rfl) ?_
  refine TL_no rfl rfl (want_n 13 rfl rfl rfl) ?_
  refine TL_no rfl rfl (want_n 13 rfl rfl rfl) ?_
  refine TL_no rfl rfl (want_n 13 rfl rfl rfl) ?_
  refine TL_q (.bool true) (fun _ _ hρ _ => r_pick_t (hρ _ _ rfl) (hρ _ _ rfl)) rfl rfl rfl (w_n rfl) ?_
  refine TL_seq ?_
  refine T_cond_t rfl ?_
  refine T_seq (T_region ?_)
  refine TL_q (.int .i64 190) (fun _ _ hρ _ => r_assign (hρ _ _ rfl)) rfl rfl rfl (w_n rfl) ?_
  refine TL_seq ?_
  refine T_ret' ?_
  refine p_then_r ?_
  refine ret_of rfl (.int .i64 190) (fun tmps w hk hm => res1 rfl (res_tmp (hk 2 _ rfl))) (fun w hm => ?_)
  exact ⟨rfl, hm.ext⟩

theorem check_y (x y : Int) (a : Option Addr) (n cap : Nat) (w : World) (hx : sideI x = true) (hno : sideI y = false) : Calls Try.prog 49 #[.agg #[.int .i64 x, .int .i64 y, .slice a n cap]] w fun e w' => e = .returned (.int .i64 190) ∧ Below w.heap.size w w' := by
  refine calls_of_T (l := [.agg #[.int .i64 x, .int .i64 y, .slice a n cap]]) 24 Try.func49 rfl rfl rfl ?_
  show T _ _ _ [(0, .agg #[.int .i64 x, .int .i64 y, .slice a n cap])] []
  refine T_seq (T_region ?_)
  refine TL_new 1 (.cells #[.int .i64 x, .int .i64 y, .slice a n cap] 75) (fun B => .pointer (some ⟨B, 0, none⟩)) (fun _ _ hρ _ => r_box (hρ _ _ rfl) rfl) rfl rfl rfl (w_n rfl) ?_
  intro B1
  refine TL_q (.int .i64 0) (fun _ _ hρ _ => r_assign (hρ _ _ rfl)) rfl rfl rfl (w_n rfl) ?_
  refine TL_seq ?_
  refine T_seq ?_
  refine T_seq (T_region ?_)
  refine TL_q (.pointer (some ⟨B1, 0, none⟩)) (fun _ _ hρ _ => r_fieldAddr fl75_0 sz3 (hρ _ _ rfl)) rfl rfl rfl (w_n rfl) ?_
  refine TL_q (.int .i64 x) (fun _ _ hρ hm => r_load ag3 (hρ _ _ rfl) (hm.at 1 rfl) rfl) rfl rfl rfl (w_n rfl) ?_
  refine TL_call (.bool true) (fun _ _ hρ _ => r_call (args := [.int .i64 x]) (enters_of Try.func81 (by kernel_rfl) rfl) (hρ _ _ rfl) ((cons2 (hρ _ _ rfl) rfl)) rfl) (fun w _ => (side_c x w).mono fun _ _ h => ⟨h.1.trans (congrArg Ending.returned (bool_as hx)), h.2⟩) rfl rfl rfl (w_n rfl) ?_
  refine TL_q (.bool false) (fun _ _ hρ _ => r_not (b := true) (hρ _ _ rfl)) rfl rfl rfl (w_n rfl) ?_
  refine TL_q (.bool false) (fun _ _ hρ _ => r_move (hρ _ _ rfl)) rfl rfl rfl (w_n rfl) ?_
  refine TL_q (.pointer (some ⟨B1, 1, none⟩)) (fun _ _ hρ _ => r_fieldAddr fl75_1 sz3 (hρ _ _ rfl)) rfl rfl rfl (want_y 7 rfl rfl rfl) ?_
  refine TL_q (.int .i64 y) (fun _ _ hρ hm => r_load ag3 (hρ _ _ rfl) (hm.at 1 rfl) rfl) rfl rfl rfl (want_y 7 rfl rfl rfl) ?_
  refine TL_call (.bool false) (fun _ _ hρ _ => r_call (args := [.int .i64 y]) (enters_of Try.func81 (by kernel_rfl) rfl) (hρ _ _ rfl) ((cons2 (hρ _ _ rfl) rfl)) rfl) (fun w _ => (side_c y w).mono fun _ _ h => ⟨h.1.trans (congrArg Ending.returned (bool_as hno)), h.2⟩) rfl rfl rfl (want_y 7 rfl rfl rfl) ?_
  refine TL_q (.bool true) (fun _ _ hρ _ => r_not (b := false) (hρ _ _ rfl)) rfl rfl rfl (want_y 7 rfl rfl rfl) ?_
  refine TL_q (.bool true) (fun _ _ hρ _ => r_pick_f (hρ _ _ rfl) (hρ _ _ rfl)) rfl rfl rfl (w_n rfl) ?_
  refine TL_q (.bool true) (fun _ _ hρ _ => r_move (hρ _ _ rfl)) rfl rfl rfl (w_n rfl) ?_
  refine TL_no rfl rfl (want_n 13 rfl rfl rfl) ?_
  refine TL_no rfl rfl (want_n 13 rfl rfl rfl) ?_
  refine TL_no rfl rfl (want_n 13 rfl rfl rfl) ?_
  refine TL_no rfl rfl (want_n 13 rfl rfl rfl) ?_
  refine TL_no rfl rfl (want_n 13 rfl rfl rfl) ?_
  refine TL_no rfl rfl (want_n 13 rfl rfl rfl) ?_
  refine TL_no rfl rfl (want_n 13 rfl rfl rfl) ?_
  refine TL_no rfl rfl (want_n 13 rfl rfl rfl) ?_
  refine TL_no rfl rfl (want_n 13 rfl rfl rfl) ?_
  refine TL_q (.bool true) (fun _ _ hρ _ => r_pick_t (hρ _ _ rfl) (hρ _ _ rfl)) rfl rfl rfl (w_n rfl) ?_
  refine TL_seq ?_
  refine T_cond_t rfl ?_
  refine T_seq (T_region ?_)
  refine TL_q (.int .i64 190) (fun _ _ hρ _ => r_assign (hρ _ _ rfl)) rfl rfl rfl (w_n rfl) ?_
  refine TL_seq ?_
  refine T_ret' ?_
  refine p_then_r ?_
  refine ret_of rfl (.int .i64 190) (fun tmps w hk hm => res1 rfl (res_tmp (hk 2 _ rfl))) (fun w hm => ?_)
  exact ⟨rfl, hm.ext⟩

theorem scheck_c (x y : Int) (a : Option Addr) (n cap : Nat) (w : World) : Calls Try.prog 49 #[.agg #[.int .i64 x, .int .i64 y, .slice a n cap]] w fun e w' => e = .returned (.int .i64 (if rightS x y n = true then 0 else 190)) ∧ Below w.heap.size w w' := by
  cases hx : sideI x with
  | false => exact (check_x x y a n cap w hx).mono fun e w' h => ⟨h.1.trans (by rw [if_neg]; unfold rightS; rw [hx]; simp), h.2⟩
  | true =>
    cases hy : sideI y with
    | false => exact (check_y x y a n cap w hx hy).mono fun e w' h => ⟨h.1.trans (by rw [if_neg]; unfold rightS; rw [hx, hy]; simp), h.2⟩
    | true =>
      obtain ⟨p, rfl, hp⟩ := sideI_nat hx
      obtain ⟨q, rfl, hq⟩ := sideI_nat hy
      refine (check_ok p q n a cap w hp hq).mono fun e w' h => ⟨h.1.trans ?_, h.2⟩
      by_cases e : n = p * q
      · rw [if_pos e, if_pos (rightS_of hp hq e)]
      · rw [if_neg e, if_neg]
        unfold rightS
        rw [hx, hy, decide_eq_false (fun h => e (by exact_mod_cast h))]; simp

theorem clone_c4 {α : Type} (f : α → List Value) (hf : ∀ x, (f x).length = 4) (ho : ∀ x, ∀ u ∈ f x, u.oneCell' = true) (l : List α) (a : Option Addr) (cap : Nat) (w : World) (hv : SliceAt w a cap 4 f l) (hlen : l.length * 4 ≤ 140737488355328) :
    Calls Try.prog 40 #[.slice a l.length cap] w fun e w' => ∃ a' cap', e = .returned (.slice a' l.length cap') ∧ Below w.heap.size w w' ∧ w'.ownsRow w.heap.size 37 4 (.slice a' l.length cap') l.length (l.flatMap f) := by
  refine calls_of_T (l := [.slice a l.length cap]) 8 Try.func40 rfl rfl rfl ?_
  show T _ _ _ [(0, .slice a l.length cap)] []
  refine T_seq (T_region ?_)
  refine TL_q (.slice none 0 0) (fun _ _ hρ _ => r_assign (hρ _ _ rfl)) rfl rfl rfl (w_n rfl) ?_
  refine TL_seq ?_
  refine T_seq ?_
  refine T_seq (T_region ?_)
  refine TL_q (.slice a l.length cap) (fun _ _ hρ _ => r_move (hρ _ _ rfl)) rfl rfl rfl (w_n rfl) ?_
  refine TL_q (.bool a.isNone) (fun _ _ hρ _ => r_eqlSn sl71 (hρ _ _ rfl) (hρ _ _ rfl)) rfl rfl rfl (w_n rfl) ?_
  refine TL_seq ?_
  refine T_cond rfl (fun h1 => ?_) (fun h1 => ?_)
  · skip
    refine T_seq (T_region ?_)
    refine TL_q (.slice none 0 0) (fun _ _ hρ _ => r_assign (hρ _ _ rfl)) rfl rfl rfl (w_n rfl) ?_
    refine TL_seq ?_
    refine T_ret' ?_
    refine p_then_r ?_
    refine ret_of rfl (.slice none 0 0) (fun tmps w hk hm => res1 rfl (res_tmp (hk 2 _ rfl))) (fun w hm => ?_)
    have e0 : a = none := Option.isNone_iff_eq_none.1 h1
    subst e0
    have e1 : l = [] := by have := hv.2.1 rfl; have := hv.1; exact List.eq_nil_of_length_eq_zero (by omega)
    subst e1
    exact ⟨none, 0, rfl, hm.ext, World.ownsRow_nil _ _ _ _⟩
  · skip
    refine T_skip' ?_
    refine p_seq ?_
    refine T_seq (T_region ?_)
    refine TL_new 1 (.cells #[] 37) (fun B => .slice (some ⟨B, 0, none⟩) 0 0) (fun _ _ _ _ => r_buildSlice (vs := []) (by kernel_rfl) rfl) rfl rfl rfl (w_n rfl) ?_
    intro B1
    refine TL_q (.slice a l.length cap) (fun _ _ hρ _ => r_move (hρ _ _ rfl)) rfl rfl rfl (w_n rfl) ?_
    refine TL_mem ([(1, .row (.slice (some ⟨B1, 0, none⟩) 0 0) 37 4 0 [])]) (fun _ hm => MemOk.sub (hm.toRow (n := 0) (cap := 0) (s := 4) 1 rfl rfl (by omega) rfl _ rfl) (sub_cons rfl sub_nil)) ?_
    refine TL_append (n := 0) (m := l.length) (xs := []) (news := (l.flatMap f)) (z := .agg #[.int .u8 0, .int .u8 0, .int .u8 0, .int .u8 0]) 1 rfl rfl rfl sl71 sz37 by37 (by kernel_rfl) rfl rfl (.inl rfl) (fun _ hm => by have := src_of hf (hv.keep hm.ext); simpa using this) (by intro u hu; obtain ⟨x, _, hx⟩ := List.mem_flatMap.1 hu; exact ho x u hx) (by omega) (by omega) rfl (w_n rfl) ?_
    intro a2 cap2
    refine TL_q (.slice a2 (0 + l.length) cap2) (fun _ _ hρ _ => r_assign (hρ _ _ rfl)) rfl rfl rfl (w_n rfl) ?_
    refine TL_seq ?_
    refine T_ret' ?_
    refine ret_of rfl (.slice a2 (0 + l.length) cap2) (fun tmps w hk hm => res1 rfl (res_tmp (hk 2 _ rfl))) (fun w hm => ?_)
    have hrow := hm.row 1 rfl
    simp only [Nat.zero_add, List.nil_append] at hrow ⊢
    exact ⟨a2, cap2, rfl, hm.ext, hrow⟩

theorem equal_c4 (l m : List C4) (a b : Option Addr) (ca cb : Nat) (w : World) (hv : SliceAt w a ca 4 C4.cells l) (hu : SliceAt w b cb 4 C4.cells m) (hl : l.length ≤ 4611686018427387904) (hl' : m.length ≤ 4611686018427387904) :
    Calls Try.prog 46 #[.slice a l.length ca, .slice b m.length cb] w fun e w' => e = .returned (.bool (decide (l = m))) ∧ Below w.heap.size w w' := by
  refine calls_of_T (l := [.slice a l.length ca, .slice b m.length cb]) 26 Try.func46 rfl rfl rfl ?_
  show T _ _ _ [(0, .slice a l.length ca), (1, .slice b m.length cb)] []
  refine T_seq (T_region ?_)
  refine TL_q (.bool false) (fun _ _ hρ _ => r_assign (hρ _ _ rfl)) rfl rfl rfl (w_n rfl) ?_
  refine TL_seq ?_
  refine T_seq ?_
  by_cases hlm : ((l.length : Nat) : Int) = ((m.length : Nat) : Int)
  · skip
    refine T_seq (T_region ?_)
    refine TL_q (.slice a l.length ca) (fun _ _ hρ _ => r_move (hρ _ _ rfl)) rfl rfl rfl (w_n rfl) ?_
    refine TL_q (.int .i64 ((l.length : Nat) : Int)) (fun _ _ hρ _ => r_len sl71 (hρ _ _ rfl)) rfl rfl rfl (w_n rfl) ?_
    refine TL_q (.slice b m.length cb) (fun _ _ hρ _ => r_move (hρ _ _ rfl)) rfl rfl rfl (w_n rfl) ?_
    refine TL_q (.int .i64 ((m.length : Nat) : Int)) (fun _ _ hρ _ => r_len sl71 (hρ _ _ rfl)) rfl rfl rfl (w_n rfl) ?_
    refine TL_q (.bool false) (fun _ _ hρ _ => r_as (r_neq (hρ _ _ rfl) (hρ _ _ rfl)) (bool_as (by rw [decide_eq_true hlm]; rfl))) rfl rfl rfl (w_n rfl) ?_
    refine TL_seq ?_
    refine T_cond_f rfl ?_
    refine T_skip' ?_
    refine p_seq ?_
    refine T_seq ?_
    refine T_seq (T_region ?_)
    refine TL_q (.slice a l.length ca) (fun _ _ hρ _ => r_move (hρ _ _ rfl)) rfl rfl rfl (w_n rfl) ?_
    refine TL_q (.int .i64 ((l.length : Nat) : Int)) (fun _ _ hρ _ => r_len sl71 (hρ _ _ rfl)) rfl rfl rfl (w_n rfl) ?_
    refine TL_q (.int .i64 0) (fun _ _ hρ _ => r_move (hρ _ _ rfl)) rfl rfl rfl (w_n rfl) ?_
    refine TL_seq ?_
    refine T_block ?_
    refine T_loop (ι := Nat) (fun (k : Nat) => k ≤ l.length ∧ l.take k = m.take k) (fun (k : Nat) => [(0, .slice a l.length ca), (1, .slice b m.length cb), (12, .int .i64 ((l.length : Nat) : Int)), (13, .int .i64 ((k : Nat) : Int))]) (fun (k : Nat) => []) (fun (k : Nat) => l.length - k) 0 ⟨Nat.zero_le _, by simp⟩ (sub_cons rfl (sub_cons rfl (sub_cons rfl (sub_cons rfl sub_nil)))) sub_nil ?_
    rintro k hp
    obtain ⟨hk1, hk2⟩ := hp
    show T _ _ _ [(0, .slice a l.length ca), (1, .slice b m.length cb), (12, .int .i64 ((l.length : Nat) : Int)), (13, .int .i64 ((k : Nat) : Int))] []
    refine T_seq (T_region ?_)
    refine TL_q (.bool (decide (((k : Nat) : Int) < ((l.length : Nat) : Int)))) (fun _ _ hρ _ => r_lss (hρ _ _ rfl) (hρ _ _ rfl)) rfl rfl rfl (w_n rfl) ?_
    refine TL_seq ?_
    refine T_seq ?_
    refine T_cond rfl (fun h1 => ?_) (fun h1 => ?_)
    · replace h1 := of_decide_eq_true h1
      refine T_skip' ?_
      refine p_seq ?_
      refine T_seq ?_
      refine T_block ?_
      obtain ⟨x, hx⟩ : ∃ x, l[k]? = some x := ⟨_, List.getElem?_eq_getElem (by omega)⟩
      obtain ⟨y, hy⟩ : ∃ y, m[k]? = some y := ⟨_, List.getElem?_eq_getElem (by omega)⟩
      obtain ⟨b1, of1, cs1, T1, fz1, ha1, hq1, hr1⟩ := hv.open (i := k) (by omega)
      subst ha1
      obtain ⟨b2, of2, cs2, T2, fz2, ha2, hq2, hr2⟩ := hu.open (i := k) (by omega)
      subst ha2
      refine T_seq (T_region ?_)
      refine TL_q (.int .i64 ((k : Nat) : Int)) (fun _ _ hρ _ => r_move (hρ _ _ rfl)) rfl rfl rfl (w_n rfl) ?_
      refine TL_q (.int .i64 ((k : Nat) : Int)) (fun _ _ hρ _ => r_assign (hρ _ _ rfl)) rfl rfl rfl (w_n rfl) ?_
      refine TL_seq ?_
      refine T_seq (T_draw (V := [(0, .slice (some ⟨b1, of1, none⟩) l.length ca), (1, .int .i64 ((k : Nat) : Int)), (2, .pointer (some ⟨b1, of1 + k * 4, none⟩)), (3, .agg #[.int .u8 x.r, .int .u8 x.g, .int .u8 x.b, .int .u8 x.a]), (4, .slice (some ⟨b2, of2, none⟩) m.length cb), (5, .int .i64 ((k : Nat) : Int)), (6, .pointer (some ⟨b2, of2 + k * 4, none⟩)), (7, .agg #[.int .u8 y.r, .int .u8 y.g, .int .u8 y.b, .int .u8 y.a]), (8, .bool (!decide (x = y)))]) [0, 0, 3, 7, 0, 0, 48, 112, 255] [[(0, none)], [(5, none)], [(16, some 0), (17, some 1)], [(18, some 2)], [(1, none)], [(5, none)], [(20, some 4), (21, some 5)], [(22, some 6)], [(19, some 3), (23, some 7)]] 0 mixed (by kernel_rfl) ?_)
      refine G_last [0, 1, 2, 3, 4, 5, 6, 7, 8] [(0, .slice (some ⟨b1, of1, none⟩) l.length ca), (1, .slice (some ⟨b2, of2, none⟩) m.length cb), (12, .int .i64 ((l.length : Nat) : Int)), (13, .int .i64 ((k : Nat) : Int)), (14, .bool (decide (((k : Nat) : Int) < ((l.length : Nat) : Int)))), (15, .int .i64 ((k : Nat) : Int)), (5, .int .i64 ((k : Nat) : Int)), (16, .slice (some ⟨b1, of1, none⟩) l.length ca), (17, .int .i64 ((k : Nat) : Int)), (18, .pointer (some ⟨b1, of1 + k * 4, none⟩)), (19, .agg #[.int .u8 x.r, .int .u8 x.g, .int .u8 x.b, .int .u8 x.a]), (20, .slice (some ⟨b2, of2, none⟩) m.length cb), (21, .int .i64 ((k : Nat) : Int)), (22, .pointer (some ⟨b2, of2 + k * 4, none⟩)), (23, .agg #[.int .u8 y.r, .int .u8 y.g, .int .u8 y.b, .int .u8 y.a]), (24, .bool (!decide (x = y)))] (by kernel_rfl) (allM (all_cons (q_run (.slice (some ⟨b1, of1, none⟩) l.length ca) rfl rfl (wv_n rfl) rfl (fun _ _ hρ _ => r_move (hρ _ _ rfl))) (all_cons (q_run (.int .i64 ((k : Nat) : Int)) rfl rfl (wv_n rfl) rfl (fun _ _ hρ _ => r_move (hρ _ _ rfl))) (all_cons (q_run (.pointer (some ⟨b1, of1 + k * 4, none⟩)) rfl rfl (wv_n rfl) rfl (fun _ _ hρ _ => r_indexAddrS (i := k) sl71 sz37 (hρ _ _ rfl) (hρ _ _ rfl) (by omega))) (all_cons (q_run (.agg #[.int .u8 x.r, .int .u8 x.g, .int .u8 x.b, .int .u8 x.a]) rfl rfl (wv_n rfl) rfl (fun _ _ hρ hm => r_loadRow (f := C4.cells) (u := x) ag37 sz37 (hρ _ _ rfl) (hm.old hq1) hr1 hx)) (all_cons (q_run (.slice (some ⟨b2, of2, none⟩) m.length cb) rfl rfl (wv_n rfl) rfl (fun _ _ hρ _ => r_move (hρ _ _ rfl))) (all_cons (q_run (.int .i64 ((k : Nat) : Int)) rfl rfl (wv_n rfl) rfl (fun _ _ hρ _ => r_move (hρ _ _ rfl))) (all_cons (q_run (.pointer (some ⟨b2, of2 + k * 4, none⟩)) rfl rfl (wv_n rfl) rfl (fun _ _ hρ _ => r_indexAddrS (i := k) sl71 sz37 (hρ _ _ rfl) (hρ _ _ rfl) (by omega))) (all_cons (q_run (.agg #[.int .u8 y.r, .int .u8 y.g, .int .u8 y.b, .int .u8 y.a]) rfl rfl (wv_n rfl) rfl (fun _ _ hρ hm => r_loadRow (f := C4.cells) (u := y) ag37 sz37 (hρ _ _ rfl) (hm.old hq2) hr2 hy)) (all_cons (q_run (.bool (!decide (x = y))) rfl rfl (wv_n rfl) rfl (fun _ _ hρ _ => r_as (r_neqA (by kernel_rfl) (hρ _ _ rfl) (hρ _ _ rfl) (run_equalI (l := [(0, .u8), (1, .u8), (2, .u8), (3, .u8)]) (by kernel_rfl) rfl rfl)) (bool_as (congrArg (fun b => !b) (eqC x y))))) all_nil)))))))))) (end_old rfl rfl (end_old rfl rfl (end_old rfl rfl (end_old rfl rfl (end_old rfl rfl (end_old rfl rfl (end_old rfl rfl (end_new 0 rfl rfl (end_new 1 rfl rfl (end_new 2 rfl rfl (end_new 3 rfl rfl (end_new 4 rfl rfl (end_new 5 rfl rfl (end_new 6 rfl rfl (end_new 7 rfl rfl (end_new 8 rfl rfl end_nil)))))))))))))))) ?_
      refine T_cond rfl (fun h2 => ?_) (fun h2 => ?_)
      · replace h2 := of_decide_eq_false (bnot_t h2)
        have hxy : ¬ x = y := by exact h2
        refine T_seq (T_region ?_)
        refine TL_q (.bool false) (fun _ _ hρ _ => r_assign (hρ _ _ rfl)) rfl rfl rfl (w_n rfl) ?_
        refine TL_seq ?_
        refine T_ret' ?_
        refine p_blk_r ?_
        refine p_then_r ?_
        refine p_then_r ?_
        refine p_blk_r ?_
        refine p_then_r ?_
        refine ret_of rfl (.bool false) (fun tmps w hk hm => res1 rfl (res_tmp (hk 4 _ rfl))) (fun w hm => ?_)
        exact ⟨congrArg Ending.returned (bool_as (decide_eq_false (fun e => hxy (by subst e; rw [hx] at hy; exact Option.some.inj hy))).symm), hm.ext⟩
      · replace h2 := of_decide_eq_true (bnot_f h2)
        refine T_skip' ?_
        refine p_blk_n ?_
        refine p_seq ?_
        have hxy : x = y := by exact h2
        refine T_region ?_
        refine TL_q (.int .i64 ((k + 1 : Nat) : Int)) (fun _ _ hρ _ => r_as (r_add (hρ _ _ rfl) (hρ _ _ rfl)) (int_as ((wrap64 (by omega) (by omega)).trans (by omega)))) rfl rfl rfl (w_n rfl) ?_
        refine TL_q (.int .i64 ((k + 1 : Nat) : Int)) (fun _ _ hρ _ => r_move (hρ _ _ rfl)) rfl rfl rfl (w_n rfl) ?_
        refine TL_nil ?_
        exact p_at (k + 1) ⟨⟨by omega, by rw [List.take_add_one, List.take_add_one, hx, hy, hk2, hxy]⟩, by omega⟩ (sub_cons rfl (sub_cons rfl (sub_cons rfl (sub_cons rfl sub_nil)))) sub_nil
    · replace h1 := of_decide_eq_false h1
      refine T_exit' ?_
      refine p_then_x ?_
      refine p_then_x ?_
      refine p_blk_x ?_
      refine p_seq ?_
      refine T_seq (T_region ?_)
      refine TL_q (.bool true) (fun _ _ hρ _ => r_assign (hρ _ _ rfl)) rfl rfl rfl (w_n rfl) ?_
      refine TL_seq ?_
      refine T_ret' ?_
      refine ret_of rfl (.bool true) (fun tmps w hk hm => res1 rfl (res_tmp (hk 4 _ rfl))) (fun w hm => ?_)
      exact ⟨congrArg Ending.returned (bool_as (decide_eq_true (by rw [← List.take_length (l := l), ← List.take_length (l := m), ← show k = l.length by omega, ← show k = m.length by omega]; exact hk2)).symm), hm.ext⟩
  · skip
    refine T_seq (T_region ?_)
    refine TL_q (.slice a l.length ca) (fun _ _ hρ _ => r_move (hρ _ _ rfl)) rfl rfl rfl (w_n rfl) ?_
    refine TL_q (.int .i64 ((l.length : Nat) : Int)) (fun _ _ hρ _ => r_len sl71 (hρ _ _ rfl)) rfl rfl rfl (w_n rfl) ?_
    refine TL_q (.slice b m.length cb) (fun _ _ hρ _ => r_move (hρ _ _ rfl)) rfl rfl rfl (w_n rfl) ?_
    refine TL_q (.int .i64 ((m.length : Nat) : Int)) (fun _ _ hρ _ => r_len sl71 (hρ _ _ rfl)) rfl rfl rfl (w_n rfl) ?_
    refine TL_q (.bool true) (fun _ _ hρ _ => r_as (r_neq (hρ _ _ rfl) (hρ _ _ rfl)) (bool_as (by rw [decide_eq_false hlm]; rfl))) rfl rfl rfl (w_n rfl) ?_
    refine TL_seq ?_
    refine T_cond_t rfl ?_
    refine T_seq (T_region ?_)
    refine TL_q (.bool false) (fun _ _ hρ _ => r_assign (hρ _ _ rfl)) rfl rfl rfl (w_n rfl) ?_
    refine TL_seq ?_
    refine T_ret' ?_
    refine p_then_r ?_
    refine ret_of rfl (.bool false) (fun tmps w hk hm => res1 rfl (res_tmp (hk 4 _ rfl))) (fun w hm => ?_)
    exact ⟨congrArg Ending.returned (bool_as (decide_eq_false (fun e => hlm (by rw [e]))).symm), hm.ext⟩

theorem sown_c (x y : Int) (px : List C4) (a : Option Addr) (cap : Nat) (w : World) (hv : SliceAt w a cap 4 C4.cells px) (hcap : cap ≤ Go.maxLen) : Calls Try.prog 47 #[.agg #[.int .i64 x, .int .i64 y, .slice a px.length cap]] w fun e w' => ∃ a' cap', e = .returned (.agg #[.int .i64 x, .int .i64 y, .slice a' (px.take 66).length cap']) ∧ Below w.heap.size w w' ∧ w'.ownsRow w.heap.size 37 4 (.slice a' (px.take 66).length cap') (px.take 66).length ((px.take 66).flatMap C4.cells) := by
  have hvl := hv.1
  unfold Go.maxLen at hcap
  refine calls_of_T (l := [.agg #[.int .i64 x, .int .i64 y, .slice a px.length cap]]) 13 Try.func47 rfl rfl rfl ?_
  show T _ _ _ [(0, .agg #[.int .i64 x, .int .i64 y, .slice a px.length cap])] []
  refine T_seq (T_region ?_)
  refine TL_new 1 (.cells #[.int .i64 x, .int .i64 y, .slice a px.length cap] 75) (fun B => .pointer (some ⟨B, 0, none⟩)) (fun _ _ hρ _ => r_box (hρ _ _ rfl) rfl) rfl rfl rfl (w_n rfl) ?_
  intro B1
  refine TL_new 2 (.cells #[.int .i64 0, .int .i64 0, .slice none 0 0] 75) (fun B => .pointer (some ⟨B, 0, none⟩)) (fun _ _ _ _ => r_alloc (v := .agg #[.int .i64 0, .int .i64 0, .slice none 0 0]) (by kernel_rfl) rfl) rfl rfl rfl (w_n rfl) ?_
  intro B2
  refine TL_seq ?_
  refine T_seq (T_region ?_)
  refine TL_q (.pointer (some ⟨B1, 2, none⟩)) (fun _ _ hρ _ => r_fieldAddr fl75_2 sz71 (hρ _ _ rfl)) rfl rfl rfl (w_n rfl) ?_
  refine TL_q (.slice a px.length cap) (fun _ _ hρ hm => r_load ag71 (hρ _ _ rfl) (hm.at 1 rfl) rfl) rfl rfl rfl (w_n rfl) ?_
  refine TL_q (.pointer (some ⟨B1, 2, none⟩)) (fun _ _ hρ _ => r_fieldAddr fl75_2 sz71 (hρ _ _ rfl)) rfl rfl rfl (w_n rfl) ?_
  refine TL_q (.slice a px.length cap) (fun _ _ hρ hm => r_load ag71 (hρ _ _ rfl) (hm.at 1 rfl) rfl) rfl rfl rfl (w_n rfl) ?_
  refine TL_q (.int .i64 ((px.length : Nat) : Int)) (fun _ _ hρ _ => r_len sl71 (hρ _ _ rfl)) rfl rfl rfl (w_n rfl) ?_
  refine TL_q (.int .i64 ((min px.length 66 : Nat) : Int)) (fun _ _ hρ _ => r_as (r_min (hρ _ _ rfl) (hρ _ _ rfl)) (int_as (minI _ 66))) rfl rfl rfl (w_n rfl) ?_
  obtain ⟨l3, hl3, hn3⟩ : ∃ lz, lz = px.take (min px.length 66) ∧ lz.length = min px.length 66 := ⟨_, rfl, by rw [List.length_take]; omega⟩
  have hs3 := SliceAt.front hv (n := min px.length 66) (m := cap) (by omega) (by omega) (by omega)
  rw [← hl3] at hs3
  refine TL_q (.slice a l3.length cap) (fun ρ _ hρ _ => r_as (r_sliceO sl71 sz37 (hρ _ _ rfl) (bd_none ρ _) (bd_some (n := min px.length 66) (hρ _ _ rfl)) (bd_none ρ _) (by simp) (by omega) (by omega) (by omega)) (by rw [hn3]; exact slo_zero _ _ _ _)) rfl rfl rfl (w_n rfl) ?_
  refine TL_callN (fun (_ : Option Addr × Nat) => True) (fun (ar4, cr4) => .slice ar4 ((l3).length) cr4) (fun (ar4, cr4) => [(3, .row (.slice ar4 ((l3).length) cr4) 37 4 ((l3).length) ((l3).flatMap C4.cells))]) (fun _ _ hρ _ => r_call (args := [.slice a l3.length cap]) (enters_of Try.func40 (by kernel_rfl) rfl) (hρ _ _ rfl) ((cons2 (hρ _ _ rfl) rfl)) rfl) (fun w hm => (clone_c4 C4.cells C4.cells_len C4.cells_one l3 a cap w (hs3.keep hm.ext) (by omega)).mono fun e w' ⟨a', cap', he, hb, hr⟩ => ⟨(a', cap'), trivial, he, hb, newOk1 3 hr⟩) rfl rfl rfl (w_n rfl) ?_
  rintro ⟨ar4, cr4⟩ -
  refine TL_q (.pointer (some ⟨B1, 2, none⟩)) (fun _ _ hρ _ => r_fieldAddr fl75_2 sz71 (hρ _ _ rfl)) rfl rfl rfl (w_n rfl) ?_
  refine TL_store 1 (.cells #[.int .i64 x, .int .i64 y, .slice ar4 ((l3).length) cr4] 75) rfl (fun _ _ hρ hm => r_store sz71 (hρ _ _ rfl) (hρ _ _ rfl) (hm.at 1 rfl) rfl rfl rfl rfl) rfl rfl (w_n rfl) ?_
  refine TL_seq ?_
  refine T_seq (T_region ?_)
  refine TL_q (.agg #[.int .i64 x, .int .i64 y, .slice ar4 ((l3).length) cr4]) (fun _ _ hρ hm => r_loadA ag75 sz75 (hρ _ _ rfl) (hm.at 1 rfl) rfl rfl) rfl rfl rfl (w_n rfl) ?_
  refine TL_store 2 (.cells #[.int .i64 x, .int .i64 y, .slice ar4 ((l3).length) cr4] 75) rfl (fun _ _ hρ hm => r_store sz75 (hρ _ _ rfl) (hρ _ _ rfl) (hm.at 2 rfl) rfl rfl rfl rfl) rfl rfl (w_n rfl) ?_
  refine TL_seq ?_
  refine T_ret' ?_
  refine ret_of rfl (.agg #[.int .i64 x, .int .i64 y, .slice ar4 ((l3).length) cr4]) (fun tmps w hk hm => res1 rfl (res_cell (hk 2 _ rfl) (run_loadVar_agg ag75 sz75 (hm.at 2 rfl) (Nat.le_of_ble_eq_true rfl) rfl))) (fun w hm => ?_)
  have hrow := hm.row 3 rfl
  have e4 : l3 = px.take 66 := by rw [hl3]; exact take_min px 66
  subst e4
  exact ⟨ar4, cr4, rfl, hm.ext, hrow⟩

theorem ssame_c (x y : Int) (px : List C4) (a : Option Addr) (cap : Nat) (w : World) (hv : SliceAt w a cap 4 C4.cells px) (hcap : cap ≤ Go.maxLen) (x2 y2 : Int) (qx : List C4) (b : Option Addr) (capb : Nat) (hu : SliceAt w b capb 4 C4.cells qx) (hcapb : capb ≤ Go.maxLen) (hpl : px.length ≤ 4611686018427387904) (hql : qx.length ≤ 4611686018427387904) : Calls Try.prog 51 #[.agg #[.int .i64 x, .int .i64 y, .slice a px.length cap], .agg #[.int .i64 x2, .int .i64 y2, .slice b qx.length capb]] w fun e w' => e = .returned (.bool (decide (x = x2 ∧ y = y2 ∧ px = qx))) ∧ Below w.heap.size w w' := by
  have hvl := hv.1
  have hul := hu.1
  unfold Go.maxLen at hcap hcapb
  refine calls_of_T (l := [.agg #[.int .i64 x, .int .i64 y, .slice a px.length cap], .agg #[.int .i64 x2, .int .i64 y2, .slice b qx.length capb]]) 24 Try.func51 rfl rfl rfl ?_
  show T _ _ _ [(0, .agg #[.int .i64 x, .int .i64 y, .slice a px.length cap]), (1, .agg #[.int .i64 x2, .int .i64 y2, .slice b qx.length capb])] []
  refine T_seq (T_region ?_)
  refine TL_new 1 (.cells #[.int .i64 x, .int .i64 y, .slice a px.length cap] 75) (fun B => .pointer (some ⟨B, 0, none⟩)) (fun _ _ hρ _ => r_box (hρ _ _ rfl) rfl) rfl rfl rfl (w_n rfl) ?_
  intro B1
  refine TL_new 2 (.cells #[.int .i64 x2, .int .i64 y2, .slice b qx.length capb] 75) (fun B => .pointer (some ⟨B, 0, none⟩)) (fun _ _ hρ _ => r_box (hρ _ _ rfl) rfl) rfl rfl rfl (w_n rfl) ?_
  intro B2
  refine TL_q (.bool false) (fun _ _ hρ _ => r_assign (hρ _ _ rfl)) rfl rfl rfl (w_n rfl) ?_
  refine TL_seq ?_
  by_cases c1 : x = x2
  · skip
    by_cases c2 : y = y2
    · skip
      refine T_seq (T_region ?_)
      refine TL_q (.pointer (some ⟨B1, 0, none⟩)) (fun _ _ hρ _ => r_fieldAddr fl75_0 sz3 (hρ _ _ rfl)) rfl rfl rfl (w_n rfl) ?_
      refine TL_q (.int .i64 x) (fun _ _ hρ hm => r_load ag3 (hρ _ _ rfl) (hm.at 1 rfl) rfl) rfl rfl rfl (w_n rfl) ?_
      refine TL_q (.pointer (some ⟨B2, 0, none⟩)) (fun _ _ hρ _ => r_fieldAddr fl75_0 sz3 (hρ _ _ rfl)) rfl rfl rfl (w_n rfl) ?_
      refine TL_q (.int .i64 x2) (fun _ _ hρ hm => r_load ag3 (hρ _ _ rfl) (hm.at 2 rfl) rfl) rfl rfl rfl (w_n rfl) ?_
      refine TL_q (.bool true) (fun _ _ hρ _ => r_as (r_eql (hρ _ _ rfl) (hρ _ _ rfl)) (bool_as (decide_eq_true c1))) rfl rfl rfl (w_n rfl) ?_
      refine TL_q (.bool true) (fun _ _ hρ _ => r_move (hρ _ _ rfl)) rfl rfl rfl (w_n rfl) ?_
      refine TL_q (.pointer (some ⟨B1, 1, none⟩)) (fun _ _ hρ _ => r_fieldAddr fl75_1 sz3 (hρ _ _ rfl)) rfl rfl rfl (want_y 10 rfl rfl rfl) ?_
      refine TL_q (.int .i64 y) (fun _ _ hρ hm => r_load ag3 (hρ _ _ rfl) (hm.at 1 rfl) rfl) rfl rfl rfl (want_y 10 rfl rfl rfl) ?_
      refine TL_q (.pointer (some ⟨B2, 1, none⟩)) (fun _ _ hρ _ => r_fieldAddr fl75_1 sz3 (hρ _ _ rfl)) rfl rfl rfl (want_y 10 rfl rfl rfl) ?_
      refine TL_q (.int .i64 y2) (fun _ _ hρ hm => r_load ag3 (hρ _ _ rfl) (hm.at 2 rfl) rfl) rfl rfl rfl (want_y 10 rfl rfl rfl) ?_
      refine TL_q (.bool true) (fun _ _ hρ _ => r_as (r_eql (hρ _ _ rfl) (hρ _ _ rfl)) (bool_as (decide_eq_true c2))) rfl rfl rfl (want_y 10 rfl rfl rfl) ?_
      refine TL_q (.bool true) (fun _ _ hρ _ => r_pick_t (hρ _ _ rfl) (hρ _ _ rfl)) rfl rfl rfl (w_n rfl) ?_
      refine TL_q (.bool true) (fun _ _ hρ _ => r_move (hρ _ _ rfl)) rfl rfl rfl (w_n rfl) ?_
      refine TL_q (.pointer (some ⟨B1, 2, none⟩)) (fun _ _ hρ _ => r_fieldAddr fl75_2 sz71 (hρ _ _ rfl)) rfl rfl rfl (want_y 17 rfl rfl rfl) ?_
      refine TL_q (.slice a px.length cap) (fun _ _ hρ hm => r_load ag71 (hρ _ _ rfl) (hm.at 1 rfl) rfl) rfl rfl rfl (want_y 17 rfl rfl rfl) ?_
      refine TL_q (.pointer (some ⟨B2, 2, none⟩)) (fun _ _ hρ _ => r_fieldAddr fl75_2 sz71 (hρ _ _ rfl)) rfl rfl rfl (want_y 17 rfl rfl rfl) ?_
      refine TL_q (.slice b qx.length capb) (fun _ _ hρ hm => r_load ag71 (hρ _ _ rfl) (hm.at 2 rfl) rfl) rfl rfl rfl (want_y 17 rfl rfl rfl) ?_
      refine TL_call (.bool (decide (px = qx))) (fun _ _ hρ _ => r_call (args := [.slice a px.length cap, .slice b qx.length capb]) (enters_of Try.func46 (by kernel_rfl) rfl) (hρ _ _ rfl) ((cons2 (hρ _ _ rfl) (cons2 (hρ _ _ rfl) rfl))) rfl) (fun w hm => equal_c4 px qx a b cap capb w (hv.keep hm.ext) (hu.keep hm.ext) (by omega) (by omega)) rfl rfl rfl (want_y 17 rfl rfl rfl) ?_
      refine TL_q (.bool (decide (px = qx))) (fun _ _ hρ _ => r_pick_t (hρ _ _ rfl) (hρ _ _ rfl)) rfl rfl rfl (w_n rfl) ?_
      refine TL_q (.bool (decide (px = qx))) (fun _ _ hρ _ => r_assign (hρ _ _ rfl)) rfl rfl rfl (w_n rfl) ?_
      refine TL_seq ?_
      refine T_ret' ?_
      refine ret_of rfl (.bool (decide (px = qx))) (fun tmps w hk hm => res1 rfl (res_tmp (hk 4 _ rfl))) (fun w hm => ?_)
      exact ⟨congrArg Ending.returned (bool_as (by rw [decide_eq_decide]; exact ⟨fun e => ⟨c1, c2, e⟩, fun e => e.2.2⟩)), hm.ext⟩
    · skip
      refine T_seq (T_region ?_)
      refine TL_q (.pointer (some ⟨B1, 0, none⟩)) (fun _ _ hρ _ => r_fieldAddr fl75_0 sz3 (hρ _ _ rfl)) rfl rfl rfl (w_n rfl) ?_
      refine TL_q (.int .i64 x) (fun _ _ hρ hm => r_load ag3 (hρ _ _ rfl) (hm.at 1 rfl) rfl) rfl rfl rfl (w_n rfl) ?_
      refine TL_q (.pointer (some ⟨B2, 0, none⟩)) (fun _ _ hρ _ => r_fieldAddr fl75_0 sz3 (hρ _ _ rfl)) rfl rfl rfl (w_n rfl) ?_
      refine TL_q (.int .i64 x2) (fun _ _ hρ hm => r_load ag3 (hρ _ _ rfl) (hm.at 2 rfl) rfl) rfl rfl rfl (w_n rfl) ?_
      refine TL_q (.bool true) (fun _ _ hρ _ => r_as (r_eql (hρ _ _ rfl) (hρ _ _ rfl)) (bool_as (decide_eq_true c1))) rfl rfl rfl (w_n rfl) ?_
      refine TL_q (.bool true) (fun _ _ hρ _ => r_move (hρ _ _ rfl)) rfl rfl rfl (w_n rfl) ?_
      refine TL_q (.pointer (some ⟨B1, 1, none⟩)) (fun _ _ hρ _ => r_fieldAddr fl75_1 sz3 (hρ _ _ rfl)) rfl rfl rfl (want_y 10 rfl rfl rfl) ?_
      refine TL_q (.int .i64 y) (fun _ _ hρ hm => r_load ag3 (hρ _ _ rfl) (hm.at 1 rfl) rfl) rfl rfl rfl (want_y 10 rfl rfl rfl) ?_
      refine TL_q (.pointer (some ⟨B2, 1, none⟩)) (fun _ _ hρ _ => r_fieldAddr fl75_1 sz3 (hρ _ _ rfl)) rfl rfl rfl (want_y 10 rfl rfl rfl) ?_
      refine TL_q (.int .i64 y2) (fun _ _ hρ hm => r_load ag3 (hρ _ _ rfl) (hm.at 2 rfl) rfl) rfl rfl rfl (want_y 10 rfl rfl rfl) ?_
      refine TL_q (.bool false) (fun _ _ hρ _ => r_as (r_eql (hρ _ _ rfl) (hρ _ _ rfl)) (bool_as (decide_eq_false c2))) rfl rfl rfl (want_y 10 rfl rfl rfl) ?_
      refine TL_q (.bool false) (fun _ _ hρ _ => r_pick_t (hρ _ _ rfl) (hρ _ _ rfl)) rfl rfl rfl (w_n rfl) ?_
      refine TL_q (.bool false) (fun _ _ hρ _ => r_move (hρ _ _ rfl)) rfl rfl rfl (w_n rfl) ?_
      refine TL_no rfl rfl (want_n 17 rfl rfl rfl) ?_
      refine TL_no rfl rfl (want_n 17 rfl rfl rfl) ?_
      refine TL_no rfl rfl (want_n 17 rfl rfl rfl) ?_
      refine TL_no rfl rfl (want_n 17 rfl rfl rfl) ?_
      refine TL_no rfl rfl (want_n 17 rfl rfl rfl) ?_
      refine TL_q (.bool false) (fun _ _ hρ _ => r_pick_f (hρ _ _ rfl) (hρ _ _ rfl)) rfl rfl rfl (w_n rfl) ?_
      refine TL_q (.bool false) (fun _ _ hρ _ => r_assign (hρ _ _ rfl)) rfl rfl rfl (w_n rfl) ?_
      refine TL_seq ?_
      refine T_ret' ?_
      refine ret_of rfl (.bool false) (fun tmps w hk hm => res1 rfl (res_tmp (hk 4 _ rfl))) (fun w hm => ?_)
      exact ⟨congrArg Ending.returned (bool_as (decide_eq_false (fun e => by obtain ⟨e1, e2, e3⟩ := e; contradiction)).symm), hm.ext⟩
  · skip
    refine T_seq (T_region ?_)
    refine TL_q (.pointer (some ⟨B1, 0, none⟩)) (fun _ _ hρ _ => r_fieldAddr fl75_0 sz3 (hρ _ _ rfl)) rfl rfl rfl (w_n rfl) ?_
    refine TL_q (.int .i64 x) (fun _ _ hρ hm => r_load ag3 (hρ _ _ rfl) (hm.at 1 rfl) rfl) rfl rfl rfl (w_n rfl) ?_
    refine TL_q (.pointer (some ⟨B2, 0, none⟩)) (fun _ _ hρ _ => r_fieldAddr fl75_0 sz3 (hρ _ _ rfl)) rfl rfl rfl (w_n rfl) ?_
    refine TL_q (.int .i64 x2) (fun _ _ hρ hm => r_load ag3 (hρ _ _ rfl) (hm.at 2 rfl) rfl) rfl rfl rfl (w_n rfl) ?_
    refine TL_q (.bool false) (fun _ _ hρ _ => r_as (r_eql (hρ _ _ rfl) (hρ _ _ rfl)) (bool_as (decide_eq_false c1))) rfl rfl rfl (w_n rfl) ?_
    refine TL_q (.bool false) (fun _ _ hρ _ => r_move (hρ _ _ rfl)) rfl rfl rfl (w_n rfl) ?_
    refine TL_no rfl rfl (want_n 10 rfl rfl rfl) ?_
    refine TL_no rfl rfl (want_n 10 rfl rfl rfl) ?_
    refine TL_no rfl rfl (want_n 10 rfl rfl rfl) ?_
    refine TL_no rfl rfl (want_n 10 rfl rfl rfl) ?_
    refine TL_no rfl rfl (want_n 10 rfl rfl rfl) ?_
    refine TL_q (.bool false) (fun _ _ hρ _ => r_pick_f (hρ _ _ rfl) (hρ _ _ rfl)) rfl rfl rfl (w_n rfl) ?_
    refine TL_q (.bool false) (fun _ _ hρ _ => r_move (hρ _ _ rfl)) rfl rfl rfl (w_n rfl) ?_
    refine TL_no rfl rfl (want_n 17 rfl rfl rfl) ?_
    refine TL_no rfl rfl (want_n 17 rfl rfl rfl) ?_
    refine TL_no rfl rfl (want_n 17 rfl rfl rfl) ?_
    refine TL_no rfl rfl (want_n 17 rfl rfl rfl) ?_
    refine TL_no rfl rfl (want_n 17 rfl rfl rfl) ?_
    refine TL_q (.bool false) (fun _ _ hρ _ => r_pick_f (hρ _ _ rfl) (hρ _ _ rfl)) rfl rfl rfl (w_n rfl) ?_
    refine TL_q (.bool false) (fun _ _ hρ _ => r_assign (hρ _ _ rfl)) rfl rfl rfl (w_n rfl) ?_
    refine TL_seq ?_
    refine T_ret' ?_
    refine ret_of rfl (.bool false) (fun tmps w hk hm => res1 rfl (res_tmp (hk 4 _ rfl))) (fun w hm => ?_)
    exact ⟨congrArg Ending.returned (bool_as (decide_eq_false (fun e => by obtain ⟨e1, e2, e3⟩ := e; contradiction)).symm), hm.ext⟩

theorem wears_ok (p q : Nat) (px : List C4) (a : Option Addr) (cap : Nat) (w : World) (hv : SliceAt w a cap 4 C4.cells px) (hcap : cap ≤ Go.maxLen) (hp : 1 ≤ p ∧ p ≤ 8) (hq : 1 ≤ q ∧ q ≤ 8) (hlen : px.length = p * q) (hby : ∀ c ∈ px, 0 ≤ c.a) : Calls Try.prog 52 #[.agg #[.int .i64 (p : Int), .int .i64 (q : Int), .slice a px.length cap]] w fun e w' => e = .returned (.int .i64 (wearN px px.length : Nat)) ∧ Below w.heap.size w w' := by
  have hvl := hv.1
  have h64 := size8 hp hq
  unfold Go.maxLen at hcap
  refine calls_of_T (l := [.agg #[.int .i64 ((p : Nat) : Int), .int .i64 ((q : Nat) : Int), .slice a px.length cap]]) 23 Try.func52 rfl rfl rfl ?_
  show T _ _ _ [(0, .agg #[.int .i64 ((p : Nat) : Int), .int .i64 ((q : Nat) : Int), .slice a px.length cap])] []
  refine T_seq (T_region ?_)
  refine TL_new 1 (.cells #[.int .i64 ((p : Nat) : Int), .int .i64 ((q : Nat) : Int), .slice a px.length cap] 75) (fun B => .pointer (some ⟨B, 0, none⟩)) (fun _ _ hρ _ => r_box (hρ _ _ rfl) rfl) rfl rfl rfl (w_n rfl) ?_
  intro B1
  refine TL_q (.int .i64 0) (fun _ _ hρ _ => r_assign (hρ _ _ rfl)) rfl rfl rfl (w_n rfl) ?_
  refine TL_seq ?_
  refine T_seq ?_
  refine T_seq (T_region ?_)
  refine TL_q (.agg #[.int .i64 ((p : Nat) : Int), .int .i64 ((q : Nat) : Int), .slice a px.length cap]) (fun _ _ hρ hm => r_loadA ag75 sz75 (hρ _ _ rfl) (hm.at 1 rfl) rfl rfl) rfl rfl rfl (w_n rfl) ?_
  refine TL_call (.int .i64 0) (fun _ _ hρ _ => r_call (args := [.agg #[.int .i64 ((p : Nat) : Int), .int .i64 ((q : Nat) : Int), .slice a px.length cap]]) (enters_of Try.func49 (by kernel_rfl) rfl) (hρ _ _ rfl) ((cons2 (hρ _ _ rfl) rfl)) rfl) (fun w _ => (scheck_c ((p : Nat) : Int) ((q : Nat) : Int) a px.length cap w).mono fun _ _ h => ⟨h.1.trans (congrArg Ending.returned (int_as (if_pos (rightS_of hp hq hlen)))), h.2⟩) rfl rfl rfl (w_n rfl) ?_
  refine TL_q (.bool false) (fun _ _ hρ _ => r_as (r_neq (hρ _ _ rfl) (hρ _ _ rfl)) (by rfl)) rfl rfl rfl (w_n rfl) ?_
  refine TL_seq ?_
  refine T_cond_f rfl ?_
  refine T_skip' ?_
  refine p_seq ?_
  refine T_seq (T_region ?_)
  refine TL_q (.int .i64 0) (fun _ _ hρ _ => r_assign (hρ _ _ rfl)) rfl rfl rfl (w_n rfl) ?_
  refine TL_seq ?_
  refine T_seq ?_
  refine T_seq (T_region ?_)
  refine TL_q (.pointer (some ⟨B1, 2, none⟩)) (fun _ _ hρ _ => r_fieldAddr fl75_2 sz71 (hρ _ _ rfl)) rfl rfl rfl (w_n rfl) ?_
  refine TL_q (.slice a px.length cap) (fun _ _ hρ hm => r_load ag71 (hρ _ _ rfl) (hm.at 1 rfl) rfl) rfl rfl rfl (w_n rfl) ?_
  refine TL_q (.int .i64 ((px.length : Nat) : Int)) (fun _ _ hρ _ => r_len sl71 (hρ _ _ rfl)) rfl rfl rfl (w_n rfl) ?_
  refine TL_q (.int .i64 0) (fun _ _ hρ _ => r_move (hρ _ _ rfl)) rfl rfl rfl (w_n rfl) ?_
  refine TL_seq ?_
  refine T_block ?_
  refine T_loop (ι := Nat) (fun (k : Nat) => k ≤ px.length) (fun (k : Nat) => [(2, .int .i64 0), (10, .slice a px.length cap), (11, .int .i64 ((px.length : Nat) : Int)), (12, .int .i64 ((k : Nat) : Int)), (3, .int .i64 ((wearN px k : Nat) : Int))]) (fun (k : Nat) => [(1, .blk B1 (.cells #[.int .i64 ((p : Nat) : Int), .int .i64 ((q : Nat) : Int), .slice a px.length cap] 75))]) (fun (k : Nat) => px.length - k) 0 (Nat.zero_le _) (sub_cons rfl (sub_cons rfl (sub_cons rfl (sub_cons rfl (sub_cons rfl sub_nil))))) (sub_cons rfl sub_nil) ?_
  rintro k hp
  have hwl := wearN_le px k
  show T _ _ _ [(2, .int .i64 0), (10, .slice a px.length cap), (11, .int .i64 ((px.length : Nat) : Int)), (12, .int .i64 ((k : Nat) : Int)), (3, .int .i64 ((wearN px k : Nat) : Int))] [(1, .blk B1 (.cells #[.int .i64 ((p : Nat) : Int), .int .i64 ((q : Nat) : Int), .slice a px.length cap] 75))]
  refine T_seq (T_region ?_)
  refine TL_q (.bool (decide (((k : Nat) : Int) < ((px.length : Nat) : Int)))) (fun _ _ hρ _ => r_lss (hρ _ _ rfl) (hρ _ _ rfl)) rfl rfl rfl (w_n rfl) ?_
  refine TL_seq ?_
  refine T_seq ?_
  refine T_cond rfl (fun h1 => ?_) (fun h1 => ?_)
  · replace h1 := of_decide_eq_true h1
    refine T_skip' ?_
    refine p_seq ?_
    refine T_seq ?_
    refine T_block ?_
    obtain ⟨c, hc⟩ : ∃ x, px[k]? = some x := ⟨_, List.getElem?_eq_getElem (by omega)⟩
    obtain ⟨b2, of2, cs2, T2, fz2, ha2, hq2, hr2⟩ := hv.open (i := k) (by omega)
    subst ha2
    have hby := hby c (List.mem_of_getElem? hc)
    refine T_seq (T_region ?_)
    refine TL_q (.pointer (some ⟨b2, of2 + k * 4, none⟩)) (fun _ _ hρ _ => r_indexAddrS (i := k) sl71 sz37 (hρ _ _ rfl) (hρ _ _ rfl) (by omega)) rfl rfl rfl (w_n rfl) ?_
    refine TL_q (.agg #[.int .u8 c.r, .int .u8 c.g, .int .u8 c.b, .int .u8 c.a]) (fun _ _ hρ hm => r_loadRow (f := C4.cells) (u := c) ag37 sz37 (hρ _ _ rfl) (hm.old hq2) hr2 hc) rfl rfl rfl (w_n rfl) ?_
    refine TL_new 2 (.cells #[.int .u8 0, .int .u8 0, .int .u8 0, .int .u8 0] 37) (fun B => .pointer (some ⟨B, 0, none⟩)) (fun _ _ _ _ => r_alloc (v := .agg #[.int .u8 0, .int .u8 0, .int .u8 0, .int .u8 0]) (by kernel_rfl) rfl) rfl rfl rfl (w_n rfl) ?_
    intro B3
    refine TL_store 2 (.cells #[.int .u8 c.r, .int .u8 c.g, .int .u8 c.b, .int .u8 c.a] 37) rfl (fun _ _ hρ hm => r_store sz37 (hρ _ _ rfl) (hρ _ _ rfl) (hm.at 2 rfl) rfl rfl rfl rfl) rfl rfl (w_n rfl) ?_
    refine TL_seq ?_
    refine T_seq (T_region ?_)
    refine TL_q (.pointer (some ⟨B3, 3, none⟩)) (fun _ _ hρ _ => r_fieldAddr fl37_3 sz5 (hρ _ _ rfl)) rfl rfl rfl (w_n rfl) ?_
    refine TL_q (.int .u8 c.a) (fun _ _ hρ hm => r_load ag5 (hρ _ _ rfl) (hm.at 2 rfl) rfl) rfl rfl rfl (w_n rfl) ?_
    refine TL_q (.bool (decide ((0 : Int) < c.a))) (fun _ _ hρ _ => r_gtr (hρ _ _ rfl) (hρ _ _ rfl)) rfl rfl rfl (w_n rfl) ?_
    refine TL_seq ?_
    refine T_cond rfl (fun h2 => ?_) (fun h2 => ?_)
    · replace h2 := of_decide_eq_true h2
      have hca : c.a ≠ 0 := by omega
      refine T_region ?_
      refine TL_q (.int .i64 ((wearN px k : Nat) : Int)) (fun _ _ hρ _ => r_move (hρ _ _ rfl)) rfl rfl rfl (w_n rfl) ?_
      refine TL_q (.int .i64 ((wearN px k + 1 : Nat) : Int)) (fun _ _ hρ _ => r_as (r_add (hρ _ _ rfl) (hρ _ _ rfl)) (int_as ((wrap64 (by omega) (by omega)).trans (by omega)))) rfl rfl rfl (w_n rfl) ?_
      refine TL_q (.int .i64 ((wearN px k + 1 : Nat) : Int)) (fun _ _ hρ _ => r_assign (hρ _ _ rfl)) rfl rfl rfl (w_n rfl) ?_
      refine TL_nil ?_
      refine p_blk_n ?_
      refine p_seq ?_
      refine T_region ?_
      refine TL_q (.int .i64 ((k + 1 : Nat) : Int)) (fun _ _ hρ _ => r_as (r_add (hρ _ _ rfl) (hρ _ _ rfl)) (int_as ((wrap64 (by omega) (by omega)).trans (by omega)))) rfl rfl rfl (w_n rfl) ?_
      refine TL_q (.int .i64 ((k + 1 : Nat) : Int)) (fun _ _ hρ _ => r_move (hρ _ _ rfl)) rfl rfl rfl (w_n rfl) ?_
      refine TL_nil ?_
      have hw1 := wearN_y hc (by omega)
      exact p_at (k + 1) ⟨by omega, by omega⟩ (sub_cons rfl (sub_cons rfl (sub_cons rfl (sub_cons rfl (sub_cons (congrArg (fun n : Nat => some (Value.int .i64 (n : Int))) hw1.symm) sub_nil))))) (sub_cons rfl sub_nil)
    · replace h2 := of_decide_eq_false h2
      have hca : ¬ c.a ≠ 0 := by omega
      refine T_skip' ?_
      refine p_blk_n ?_
      refine p_seq ?_
      refine T_region ?_
      refine TL_q (.int .i64 ((k + 1 : Nat) : Int)) (fun _ _ hρ _ => r_as (r_add (hρ _ _ rfl) (hρ _ _ rfl)) (int_as ((wrap64 (by omega) (by omega)).trans (by omega)))) rfl rfl rfl (w_n rfl) ?_
      refine TL_q (.int .i64 ((k + 1 : Nat) : Int)) (fun _ _ hρ _ => r_move (hρ _ _ rfl)) rfl rfl rfl (w_n rfl) ?_
      refine TL_nil ?_
      have hw1 := wearN_n hc (by omega)
      exact p_at (k + 1) ⟨by omega, by omega⟩ (sub_cons rfl (sub_cons rfl (sub_cons rfl (sub_cons rfl (sub_cons (congrArg (fun n : Nat => some (Value.int .i64 (n : Int))) hw1.symm) sub_nil))))) (sub_cons rfl sub_nil)
  · replace h1 := of_decide_eq_false h1
    refine T_exit' ?_
    refine p_then_x ?_
    refine p_then_x ?_
    refine p_blk_x ?_
    refine p_seq ?_
    refine T_seq (T_region ?_)
    refine TL_q (.int .i64 ((wearN px k : Nat) : Int)) (fun _ _ hρ _ => r_move (hρ _ _ rfl)) rfl rfl rfl (w_n rfl) ?_
    refine TL_q (.int .i64 ((wearN px k : Nat) : Int)) (fun _ _ hρ _ => r_assign (hρ _ _ rfl)) rfl rfl rfl (w_n rfl) ?_
    refine TL_seq ?_
    refine T_ret' ?_
    refine ret_of rfl (.int .i64 ((wearN px k : Nat) : Int)) (fun tmps w hk hm => res1 rfl (res_tmp (hk 2 _ rfl))) (fun w hm => ?_)
    have hk : k = px.length := by omega
    subst hk
    exact ⟨rfl, hm.ext⟩

end Go.Proofs.Ytbiapeaghbndoaa
/- A copy into a part of a row of one's own, out of cells anywhere. Over any program. -/
namespace Go.Proofs.Ytbiapeaghbndoaa
open Go Go.RowKit
section
variable {P : Program} {w w₀ : World} {ρ : Operand → Value} {d : Option Tmp} {ty : TypeId} {ps : String} {af : Array Edge} {g : Option (Nat × Bool)} {L : Heap}
theorem o_copyG {x y : Operand} {t t2 e : TypeId} {ats : Array TypeId} {n cap B s lo dn dc k m c b off : Nat} {xs news xs' : List Value} (i : Nat) (hi : lk L i = some (.row (.slice (some ⟨B, 0, none⟩) n cap) e s n xs)) (hx : ρ x = .slice (some ⟨B, lo, none⟩) dn dc) (hlo : lo + k * s ≤ n * s) (hy : ρ y = .slice (some ⟨b, off, none⟩) m c) (hat : ats = #[t, t2])
    (ht : sliOf P t = some e) (hs : szOf P e = some s) (hk : min m dn = k) (hlen : news.length = k * s) (hcell : ∀ j u, news[j]? = some u → w.cell? ⟨b, off + j, none⟩ = some u) (hone : ∀ u ∈ news, u.oneCell' = true) (hxs : xs.take lo ++ news ++ xs.drop (lo + news.length) = xs') (hm : MemOk w₀ L w) :
    ∃ w', (execOp ρ (mk d (.call { callee := .builtin .copy, args := #[x, y], argTypes := ats }) ty ps af g)).run P w = .ok (.value (.int .i64 (k : Nat))) w' ∧ MemOk w₀ ((i, .row (.slice (some ⟨B, 0, none⟩) n cap) e s n xs') :: L) w' := by
  subst hat hxs
  have hrow := hm.row i hi
  obtain ⟨ti, hti, hsz⟩ := Option.map_eq_some_iff.1 hs
  suffices hg : ∃ w', (Builtin.copy_ #[t, t2] ty #[.slice (some ⟨B, lo, none⟩) dn dc, .slice (some ⟨b, off, none⟩) m c]).run P w = .ok (.int .i64 (k : Nat)) w' ∧ MemOk w₀ ((i, .row (.slice (some ⟨B, 0, none⟩) n cap) e s n (xs.take lo ++ news ++ xs.drop (lo + news.length))) :: L) w' by
    obtain ⟨w', h1, h2⟩ := hg
    refine ⟨w', ?_, h2⟩
    rw [run_builtin]
    simp only [List.map_toArray, List.map_cons, List.map_nil, hx, hy]
    exact run_v h1
  rcases hrow.2 with ⟨h1, _⟩ | ⟨g, cap', cur, h1, hbg, hg, hnc, hcm, hcs, htk⟩
  · cases h1
  · cases h1
    have hle := Nat.mul_le_mul_right s hnc
    have hld := run_loadCells_list (P := P) w ⟨b, off, none⟩ news (fun j u hu => by rw [addr_add]; exact hcell j u hu)
    have hst := run_storeCells_at P B lo e news 0 cur w hg (by omega) hone
    have hr : (Builtin.copy_ #[t, t2] ty #[.slice (some ⟨B, lo, none⟩) dn dc, .slice (some ⟨b, off, none⟩) m c]).run P w = .ok (.int .i64 (k : Nat)) (w.setRow B (cur.toList.take lo ++ news ++ cur.toList.drop (lo + news.length)).toArray) := by
      simp only [Nat.add_zero] at hst
      have hk' : Nat.min m dn = k := hk
      simp [Builtin.copy_, run_underlying (und_sli ht), Builtin.lenOf, Builtin.firstCells, sizeOf, typeInfo, hti, hsz, goInt, hk', ← hlen, hld]
      simp at hst
      rw [hst]
      rfl
    have hcl : cur.toList.length = cap * s := by rw [Array.length_toList]; exact hcs
    have hxl : xs = cur.toList.take (n * s) := htk.symm
    refine ⟨_, hr, ?_⟩
    refine hm.grow (.inl hi) ⟨rfl, rfl, rfl, by simp, fun k _ hk => setRow_other w B k _ (fun e => hk (by simp [Value.ownBlock, e]))⟩ ⟨?_, .inr ⟨B, cap, _, rfl, hbg, setRow_heap w B cur _ e _ hg, hnc, hcm, ?_, ?_⟩⟩ (.inl rfl)
    · rw [List.length_append, List.length_append, List.length_take, List.length_drop, hrow.1]; omega
    · simp only [List.size_toArray, List.length_append, List.length_take, List.length_drop, hcl]
      omega
    · have hA : (cur.toList.take lo ++ news).length = lo + news.length := by rw [List.length_append, List.length_take]; omega
      show ((cur.toList.take lo ++ news) ++ cur.toList.drop (lo + news.length)).take (n * s) = _
      rw [hxl, List.take_take, Nat.min_eq_left (show lo ≤ n * s by omega), List.drop_take, List.take_append, hA, List.take_of_length_le (by rw [hA]; omega)]
end
end Go.Proofs.Ytbiapeaghbndoaa
/- slices.Repeat: what it has made so far. Over any program. -/
namespace Go.Proofs.Ytbiapeaghbndoaa
open Go Go.RowKit
/-- k elements u, of n; the others z. -/
def repG {α : Type} (z u : α) (k n : Nat) : List α := List.replicate k u ++ List.replicate (n - k) z
section
variable {α : Type} {f : α → List Value} {s : Nat}
theorem repG_zero (z u : α) (n : Nat) : repG z u 0 n = List.replicate n z := by simp [repG]
theorem repG_all (z u : α) (n : Nat) : repG z u n n = List.replicate n u := by simp [repG]
theorem rep_len (hf : ∀ x, (f x).length = s) (u : α) (m : Nat) : ((List.replicate m u).flatMap f).length = m * s := by rw [flat_length hf, List.length_replicate]
theorem rep_copy (hf : ∀ x, (f x).length = s) (z u : α) {k m n : Nat} (h : k + m ≤ n) : ((repG z u k n).flatMap f).take (k * s) ++ (List.replicate m u).flatMap f ++ ((repG z u k n).flatMap f).drop (k * s + ((List.replicate m u).flatMap f).length) = (repG z u (k + m) n).flatMap f := by
  have e : List.replicate (n - k) z = List.replicate m z ++ List.replicate (n - (k + m)) z := by rw [List.replicate_append_replicate]; congr 1; omega
  unfold repG
  rw [e, List.flatMap_append, List.flatMap_append, List.take_left' (rep_len hf u k), rep_len hf, ← List.append_assoc, List.drop_left' (by rw [List.length_append, rep_len hf, rep_len hf])]
  rw [List.flatMap_append, ← List.flatMap_append (xs := List.replicate k u), List.replicate_append_replicate]
theorem rep_cell {w : World} {base n cap B : Nat} {e : TypeId} {xs : List Value} (h : w.ownsRow base e s (.slice (some ⟨B, 0, none⟩) n cap) n xs) {j : Nat} {u : Value} (hj : xs[j]? = some u) : w.cell? ⟨B, 0 + j, none⟩ = some u := by
  rcases h.2 with ⟨h1, _⟩ | ⟨g, cap', cur, h1, _, hg, _, _, _, htk⟩
  · cases h1
  · cases h1
    refine cell_of hg ?_
    rw [Nat.zero_add, ← Array.getElem?_toList]
    rw [← htk, List.getElem?_take] at hj
    split at hj
    · exact hj
    · cases hj
theorem rep_pre (z u : α) {k m n : Nat} (h : m ≤ k) {j : Nat} {v : Value} (hj : ((List.replicate m u).flatMap f)[j]? = some v) : ((repG z u k n).flatMap f)[j]? = some v := by
  have e : List.replicate k u = List.replicate m u ++ List.replicate (k - m) u := by rw [List.replicate_append_replicate]; congr 1; omega
  unfold repG
  rw [e, List.append_assoc, List.flatMap_append, List.getElem?_append_left (List.getElem?_eq_some_iff.1 hj).1]
  exact hj
theorem rep_ones (ho : ∀ x, ∀ v ∈ f x, v.oneCell' = true) (u : α) (m : Nat) : ∀ v ∈ (List.replicate m u).flatMap f, v.oneCell' = true := fun v hv => by
  obtain ⟨x, _, hx⟩ := List.mem_flatMap.1 hv
  exact ho x v hx
theorem rep_one {u : α} {j : Nat} {v : Value} (hj : ((List.replicate 1 u).flatMap f)[j]? = some v) : (f u).toArray[0 + j]? = some v := by
  have e : (List.replicate 1 u).flatMap f = f u := by simp
  rw [e] at hj
  rw [Nat.zero_add, List.getElem?_toArray]; exact hj
theorem rep_first (hf : ∀ x, (f x).length = s) (z u : α) {n : Nat} (hn : 1 ≤ n) : ((List.replicate n z).flatMap f).take 0 ++ (List.replicate 1 u).flatMap f ++ ((List.replicate n z).flatMap f).drop (0 + ((List.replicate 1 u).flatMap f).length) = (repG z u 1 n).flatMap f := by
  have := rep_copy hf z u (k := 0) (m := 1) (n := n) (by omega)
  rw [repG_zero] at this
  simpa using this
end
end Go.Proofs.Ytbiapeaghbndoaa
/- Single operations, more of them. Over any program. -/
namespace Go.Proofs.Ytbiapeaghbndoaa
open Go Go.RowKit
section
variable {P : Program} {w : World} {ρ : Operand → Value} {d : Option Tmp} {ty : TypeId} {ps : String} {af : Array Edge} {g : Option (Nat × Bool)} {x y : Operand}
theorem r_neg {t : TypeId} {k : IntKind} {a : Int} (h : ρ x = .int k a) : (execOp ρ (mk d (.unOp .neg t x) ty ps af g)).run P w = .ok (.value (.int k (k.wrap (0 - a)))) w := by
  refine run_v ?_
  rw [h]; rfl
end
theorem tmod_bd (x : Int) {n : Int} (hn : 0 < n) : -n < x.tmod n ∧ x.tmod n < n := by
  refine ⟨?_, Int.tmod_lt_of_pos x hn⟩
  have h := Int.tmod_lt_of_pos (-x) hn
  rw [Int.neg_tmod] at h
  omega
end Go.Proofs.Ytbiapeaghbndoaa
/- Words of bits. Over any program. -/
namespace Go.Proofs.Ytbiapeaghbndoaa
open Go Go.RowKit
theorem ofInt_nat {n : Nat} (x : BitVec n) : BitVec.ofInt n (x.toNat : Int) = x := by
  rw [BitVec.ofInt_natCast, BitVec.ofNat_toNat, BitVec.setWidth_eq]
theorem wrap_uns {k : IntKind} (hs : k.signed = false) (n : Int) : k.wrap n = n % (2 ^ k.bits : Int) := by
  unfold IntKind.wrap
  rw [hs]; rfl
theorem wrap_mod {k : IntKind} (hs : k.signed = false) (n : Nat) : k.wrap (n : Int) = ((n % 2 ^ k.bits : Nat) : Int) := by
  rw [wrap_uns hs, show (2 ^ k.bits : Int) = ((2 ^ k.bits : Nat) : Int) by simp]
  omega
theorem wrap_nat {k : IntKind} (hs : k.signed = false) (x : BitVec k.bits) : k.wrap (x.toNat : Int) = (x.toNat : Int) := by
  rw [wrap_mod hs, Nat.mod_eq_of_lt x.isLt]
section
variable {P : Program} {w : World} {ρ : Operand → Value} {d : Option Tmp} {ty : TypeId} {ps : String} {af : Array Edge} {g : Option (Nat × Bool)} {x y : Operand} {k : IntKind} {a b : BitVec k.bits} {t t' : TypeId}
theorem r_andB (hs : k.signed = false) (hx : ρ x = .int k (a.toNat : Int)) (hy : ρ y = .int k (b.toNat : Int)) : (execOp ρ (mk d (.binOp .and t x y t') ty ps af g)).run P w = .ok (.value (.int k ((a &&& b).toNat : Int))) w :=
  r_arith hx hy (by
    simp only [binOp, ne_eq, not_true_eq_false, if_false]
    unfold Op.intBits
    dsimp only
    rw [ofInt_nat, ofInt_nat, wrap_nat hs]; rfl)
theorem r_shrB {k' : IntKind} {n : Nat} (hn : n ≤ k.bits) (hx : ρ x = .int k (a.toNat : Int)) (hy : ρ y = .int k' (n : Int)) : (execOp ρ (mk d (.binOp .shr t x y t') ty ps af g)).run P w = .ok (.value (.int k ((a >>> n).toNat : Int))) w :=
  r_bin (.inl ⟨by decide, by decide⟩) hx hy (by
    show (Op.shift .shr k _ k' _).run P w = _
    unfold Op.shift
    rw [if_neg (by omega)]
    dsimp only
    rw [Int.toNat_natCast, Nat.min_eq_left hn, BitVec.toNat_ushiftRight, Nat.shiftRight_eq_div_pow]
    have : (a.toNat : Int).fdiv (2 ^ n) = ((a.toNat / 2 ^ n : Nat) : Int) := by
      rw [show (2 ^ n : Int) = ((2 ^ n : Nat) : Int) by simp, Int.fdiv_eq_ediv_of_nonneg _ (Int.natCast_nonneg _)]
      simp
    rw [this]; rfl)
end
end Go.Proofs.Ytbiapeaghbndoaa
/- Words of bits: sums, products, quotients, rests. Over any program. -/
namespace Go.Proofs.Ytbiapeaghbndoaa
open Go Go.RowKit
section
variable {P : Program} {w : World} {ρ : Operand → Value} {d : Option Tmp} {ty : TypeId} {ps : String} {af : Array Edge} {g : Option (Nat × Bool)} {x y : Operand} {k : IntKind} {a b : BitVec k.bits} {t t' : TypeId}
theorem wrap_of {k : IntKind} (hs : k.signed = false) (z : Int) {x : BitVec k.bits} (h : BitVec.ofInt k.bits z = x) : k.wrap z = (x.toNat : Int) := by
  subst h
  rw [wrap_uns hs, BitVec.toNat_ofInt]
  have h2 : (0 : Int) < ((2 ^ k.bits : Nat) : Int) := by exact_mod_cast Nat.two_pow_pos k.bits
  have := Int.emod_nonneg z (Int.ne_of_gt h2)
  rw [show (2 ^ k.bits : Int) = ((2 ^ k.bits : Nat) : Int) by simp]
  omega
theorem r_addB (hs : k.signed = false) (hx : ρ x = .int k (a.toNat : Int)) (hy : ρ y = .int k (b.toNat : Int)) : (execOp ρ (mk d (.binOp .add t x y t') ty ps af g)).run P w = .ok (.value (.int k ((a + b).toNat : Int))) w := by
  rw [r_add hx hy, wrap_of hs _ (x := a + b) (by rw [BitVec.ofInt_add, ofInt_nat, ofInt_nat])]
theorem r_mulB (hs : k.signed = false) (hx : ρ x = .int k (a.toNat : Int)) (hy : ρ y = .int k (b.toNat : Int)) : (execOp ρ (mk d (.binOp .mul t x y t') ty ps af g)).run P w = .ok (.value (.int k ((a * b).toNat : Int))) w := by
  rw [r_mul hx hy, wrap_of hs _ (x := a * b) (by rw [BitVec.ofInt_mul, ofInt_nat, ofInt_nat])]
end
end Go.Proofs.Ytbiapeaghbndoaa
/- canvas: Repeat, New, Of. Printed by a program of this seat's prover. -/
namespace Go.Proofs.Ytbiapeaghbndoaa
open Go Go.RowKit
set_option maxRecDepth 10000
theorem mul64_b (n : Nat) (hn : n ≤ 64) (w : World) : Calls Try.prog 114 #[.int .u64 1, .int .u64 ((BitVec.ofNat 64 n).toNat : Int)] w fun e w' => e = .returned (.tuple #[.int .u64 0, .int .u64 (n : Int)]) ∧ Below w.heap.size w w' := by
  refine calls_of_T (l := [.int .u64 1, .int .u64 ((BitVec.ofNat 64 n).toNat : Int)]) 51 Try.func114 rfl rfl rfl ?_
  show T _ _ _ [(0, .int .u64 1), (1, .int .u64 ((BitVec.ofNat 64 n).toNat : Int))] []
  refine T_seq (T_region ?_)
  refine TL_q (.int .u64 0) (fun _ _ hρ _ => r_assign (hρ _ _ rfl)) rfl rfl rfl (w_n rfl) ?_
  refine TL_q (.int .u64 0) (fun _ _ hρ _ => r_assign (hρ _ _ rfl)) rfl rfl rfl (w_n rfl) ?_
  refine TL_seq ?_
  refine T_seq (T_region ?_)
  refine TL_q (.int .u64 1) (fun _ _ hρ _ => r_move (hρ _ _ rfl)) rfl rfl rfl (w_n rfl) ?_
  refine TL_q (.int .u64 1) (fun _ _ hρ _ => r_as (r_andB (k := .u64) (a := (1#64)) (b := (4294967295#64)) rfl (hρ _ _ rfl) (hρ _ _ rfl)) (by rfl)) rfl rfl rfl (w_n rfl) ?_
  refine TL_q (.int .u64 1) (fun _ _ hρ _ => r_assign (hρ _ _ rfl)) rfl rfl rfl (w_n rfl) ?_
  refine TL_seq ?_
  refine T_seq (T_region ?_)
  refine TL_q (.int .u64 1) (fun _ _ hρ _ => r_move (hρ _ _ rfl)) rfl rfl rfl (w_n rfl) ?_
  refine TL_q (.int .u64 0) (fun _ _ hρ _ => r_as (r_shrB (k := .u64) (a := (1#64)) (n := 32) (by decide) (hρ _ _ rfl) (hρ _ _ rfl)) (by rfl)) rfl rfl rfl (w_n rfl) ?_
  refine TL_q (.int .u64 0) (fun _ _ hρ _ => r_assign (hρ _ _ rfl)) rfl rfl rfl (w_n rfl) ?_
  refine TL_seq ?_
  refine T_seq (T_region ?_)
  refine TL_q (.int .u64 ((BitVec.ofNat 64 n).toNat : Int)) (fun _ _ hρ _ => r_move (hρ _ _ rfl)) rfl rfl rfl (w_n rfl) ?_
  refine TL_q (.int .u64 (((BitVec.ofNat 64 n) &&& (4294967295#64)).toNat : Int)) (fun _ _ hρ _ => r_andB (k := .u64) (a := (BitVec.ofNat 64 n)) (b := (4294967295#64)) rfl (hρ _ _ rfl) (hρ _ _ rfl)) rfl rfl rfl (w_n rfl) ?_
  refine TL_q (.int .u64 (((BitVec.ofNat 64 n) &&& (4294967295#64)).toNat : Int)) (fun _ _ hρ _ => r_assign (hρ _ _ rfl)) rfl rfl rfl (w_n rfl) ?_
  refine TL_seq ?_
  refine T_seq (T_region ?_)
  refine TL_q (.int .u64 ((BitVec.ofNat 64 n).toNat : Int)) (fun _ _ hρ _ => r_move (hρ _ _ rfl)) rfl rfl rfl (w_n rfl) ?_
  refine TL_q (.int .u64 (((BitVec.ofNat 64 n) >>> 32).toNat : Int)) (fun _ _ hρ _ => r_shrB (k := .u64) (a := (BitVec.ofNat 64 n)) (n := 32) (by decide) (hρ _ _ rfl) (hρ _ _ rfl)) rfl rfl rfl (w_n rfl) ?_
  refine TL_q (.int .u64 (((BitVec.ofNat 64 n) >>> 32).toNat : Int)) (fun _ _ hρ _ => r_assign (hρ _ _ rfl)) rfl rfl rfl (w_n rfl) ?_
  refine TL_seq ?_
  refine T_seq (T_region ?_)
  refine TL_q (.int .u64 1) (fun _ _ hρ _ => r_move (hρ _ _ rfl)) rfl rfl rfl (w_n rfl) ?_
  refine TL_q (.int .u64 (((BitVec.ofNat 64 n) &&& (4294967295#64)).toNat : Int)) (fun _ _ hρ _ => r_move (hρ _ _ rfl)) rfl rfl rfl (w_n rfl) ?_
  refine TL_q (.int .u64 (((1#64) * ((BitVec.ofNat 64 n) &&& (4294967295#64))).toNat : Int)) (fun _ _ hρ _ => r_mulB (k := .u64) (a := (1#64)) (b := ((BitVec.ofNat 64 n) &&& (4294967295#64))) rfl (hρ _ _ rfl) (hρ _ _ rfl)) rfl rfl rfl (w_n rfl) ?_
  refine TL_q (.int .u64 (((1#64) * ((BitVec.ofNat 64 n) &&& (4294967295#64))).toNat : Int)) (fun _ _ hρ _ => r_assign (hρ _ _ rfl)) rfl rfl rfl (w_n rfl) ?_
  refine TL_seq ?_
  refine T_seq (T_region ?_)
  refine TL_q (.int .u64 0) (fun _ _ hρ _ => r_move (hρ _ _ rfl)) rfl rfl rfl (w_n rfl) ?_
  refine TL_q (.int .u64 (((BitVec.ofNat 64 n) &&& (4294967295#64)).toNat : Int)) (fun _ _ hρ _ => r_move (hρ _ _ rfl)) rfl rfl rfl (w_n rfl) ?_
  refine TL_q (.int .u64 (((0#64) * ((BitVec.ofNat 64 n) &&& (4294967295#64))).toNat : Int)) (fun _ _ hρ _ => r_mulB (k := .u64) (a := (0#64)) (b := ((BitVec.ofNat 64 n) &&& (4294967295#64))) rfl (hρ _ _ rfl) (hρ _ _ rfl)) rfl rfl rfl (w_n rfl) ?_
  refine TL_q (.int .u64 (((1#64) * ((BitVec.ofNat 64 n) &&& (4294967295#64))).toNat : Int)) (fun _ _ hρ _ => r_move (hρ _ _ rfl)) rfl rfl rfl (w_n rfl) ?_
  refine TL_q (.int .u64 ((((1#64) * ((BitVec.ofNat 64 n) &&& (4294967295#64))) >>> 32).toNat : Int)) (fun _ _ hρ _ => r_shrB (k := .u64) (a := ((1#64) * ((BitVec.ofNat 64 n) &&& (4294967295#64)))) (n := 32) (by decide) (hρ _ _ rfl) (hρ _ _ rfl)) rfl rfl rfl (w_n rfl) ?_
  refine TL_q (.int .u64 ((((0#64) * ((BitVec.ofNat 64 n) &&& (4294967295#64))) + (((1#64) * ((BitVec.ofNat 64 n) &&& (4294967295#64))) >>> 32)).toNat : Int)) (fun _ _ hρ _ => r_addB (k := .u64) (a := ((0#64) * ((BitVec.ofNat 64 n) &&& (4294967295#64)))) (b := (((1#64) * ((BitVec.ofNat 64 n) &&& (4294967295#64))) >>> 32)) rfl (hρ _ _ rfl) (hρ _ _ rfl)) rfl rfl rfl (w_n rfl) ?_
  refine TL_q (.int .u64 ((((0#64) * ((BitVec.ofNat 64 n) &&& (4294967295#64))) + (((1#64) * ((BitVec.ofNat 64 n) &&& (4294967295#64))) >>> 32)).toNat : Int)) (fun _ _ hρ _ => r_assign (hρ _ _ rfl)) rfl rfl rfl (w_n rfl) ?_
  refine TL_seq ?_
  refine T_seq (T_region ?_)
  refine TL_q (.int .u64 ((((0#64) * ((BitVec.ofNat 64 n) &&& (4294967295#64))) + (((1#64) * ((BitVec.ofNat 64 n) &&& (4294967295#64))) >>> 32)).toNat : Int)) (fun _ _ hρ _ => r_move (hρ _ _ rfl)) rfl rfl rfl (w_n rfl) ?_
  refine TL_q (.int .u64 (((((0#64) * ((BitVec.ofNat 64 n) &&& (4294967295#64))) + (((1#64) * ((BitVec.ofNat 64 n) &&& (4294967295#64))) >>> 32)) &&& (4294967295#64)).toNat : Int)) (fun _ _ hρ _ => r_andB (k := .u64) (a := (((0#64) * ((BitVec.ofNat 64 n) &&& (4294967295#64))) + (((1#64) * ((BitVec.ofNat 64 n) &&& (4294967295#64))) >>> 32))) (b := (4294967295#64)) rfl (hρ _ _ rfl) (hρ _ _ rfl)) rfl rfl rfl (w_n rfl) ?_
  refine TL_q (.int .u64 (((((0#64) * ((BitVec.ofNat 64 n) &&& (4294967295#64))) + (((1#64) * ((BitVec.ofNat 64 n) &&& (4294967295#64))) >>> 32)) &&& (4294967295#64)).toNat : Int)) (fun _ _ hρ _ => r_assign (hρ _ _ rfl)) rfl rfl rfl (w_n rfl) ?_
  refine TL_seq ?_
  refine T_seq (T_region ?_)
  refine TL_q (.int .u64 ((((0#64) * ((BitVec.ofNat 64 n) &&& (4294967295#64))) + (((1#64) * ((BitVec.ofNat 64 n) &&& (4294967295#64))) >>> 32)).toNat : Int)) (fun _ _ hρ _ => r_move (hρ _ _ rfl)) rfl rfl rfl (w_n rfl) ?_
  refine TL_q (.int .u64 (((((0#64) * ((BitVec.ofNat 64 n) &&& (4294967295#64))) + (((1#64) * ((BitVec.ofNat 64 n) &&& (4294967295#64))) >>> 32)) >>> 32).toNat : Int)) (fun _ _ hρ _ => r_shrB (k := .u64) (a := (((0#64) * ((BitVec.ofNat 64 n) &&& (4294967295#64))) + (((1#64) * ((BitVec.ofNat 64 n) &&& (4294967295#64))) >>> 32))) (n := 32) (by decide) (hρ _ _ rfl) (hρ _ _ rfl)) rfl rfl rfl (w_n rfl) ?_
  refine TL_q (.int .u64 (((((0#64) * ((BitVec.ofNat 64 n) &&& (4294967295#64))) + (((1#64) * ((BitVec.ofNat 64 n) &&& (4294967295#64))) >>> 32)) >>> 32).toNat : Int)) (fun _ _ hρ _ => r_assign (hρ _ _ rfl)) rfl rfl rfl (w_n rfl) ?_
  refine TL_seq ?_
  refine T_sub [(0, .int .u64 1), (1, .int .u64 ((BitVec.ofNat 64 n).toNat : Int)), (4, .int .u64 0), (5, .int .u64 0), (6, .int .u64 1), (7, .int .u64 0), (9, .int .u64 (((BitVec.ofNat 64 n) >>> 32).toNat : Int)), (12, .int .u64 (((((0#64) * ((BitVec.ofNat 64 n) &&& (4294967295#64))) + (((1#64) * ((BitVec.ofNat 64 n) &&& (4294967295#64))) >>> 32)) &&& (4294967295#64)).toNat : Int)), (13, .int .u64 (((((0#64) * ((BitVec.ofNat 64 n) &&& (4294967295#64))) + (((1#64) * ((BitVec.ofNat 64 n) &&& (4294967295#64))) >>> 32)) >>> 32).toNat : Int))] [] (sub_cons rfl (sub_cons rfl (sub_cons rfl (sub_cons rfl (sub_cons rfl (sub_cons rfl (sub_cons rfl (sub_cons rfl (sub_cons rfl sub_nil))))))))) sub_nil ?_
  refine T_seq (T_region ?_)
  refine TL_q (.int .u64 (((((0#64) * ((BitVec.ofNat 64 n) &&& (4294967295#64))) + (((1#64) * ((BitVec.ofNat 64 n) &&& (4294967295#64))) >>> 32)) &&& (4294967295#64)).toNat : Int)) (fun _ _ hρ _ => r_move (hρ _ _ rfl)) rfl rfl rfl (w_n rfl) ?_
  refine TL_q (.int .u64 1) (fun _ _ hρ _ => r_move (hρ _ _ rfl)) rfl rfl rfl (w_n rfl) ?_
  refine TL_q (.int .u64 (((BitVec.ofNat 64 n) >>> 32).toNat : Int)) (fun _ _ hρ _ => r_move (hρ _ _ rfl)) rfl rfl rfl (w_n rfl) ?_
  refine TL_q (.int .u64 (((1#64) * ((BitVec.ofNat 64 n) >>> 32)).toNat : Int)) (fun _ _ hρ _ => r_mulB (k := .u64) (a := (1#64)) (b := ((BitVec.ofNat 64 n) >>> 32)) rfl (hρ _ _ rfl) (hρ _ _ rfl)) rfl rfl rfl (w_n rfl) ?_
  refine TL_q (.int .u64 ((((((0#64) * ((BitVec.ofNat 64 n) &&& (4294967295#64))) + (((1#64) * ((BitVec.ofNat 64 n) &&& (4294967295#64))) >>> 32)) &&& (4294967295#64)) + ((1#64) * ((BitVec.ofNat 64 n) >>> 32))).toNat : Int)) (fun _ _ hρ _ => r_addB (k := .u64) (a := ((((0#64) * ((BitVec.ofNat 64 n) &&& (4294967295#64))) + (((1#64) * ((BitVec.ofNat 64 n) &&& (4294967295#64))) >>> 32)) &&& (4294967295#64))) (b := ((1#64) * ((BitVec.ofNat 64 n) >>> 32))) rfl (hρ _ _ rfl) (hρ _ _ rfl)) rfl rfl rfl (w_n rfl) ?_
  refine TL_q (.int .u64 ((((((0#64) * ((BitVec.ofNat 64 n) &&& (4294967295#64))) + (((1#64) * ((BitVec.ofNat 64 n) &&& (4294967295#64))) >>> 32)) &&& (4294967295#64)) + ((1#64) * ((BitVec.ofNat 64 n) >>> 32))).toNat : Int)) (fun _ _ hρ _ => r_assign (hρ _ _ rfl)) rfl rfl rfl (w_n rfl) ?_
  refine TL_seq ?_
  refine T_seq (T_region ?_)
  refine TL_q (.int .u64 0) (fun _ _ hρ _ => r_move (hρ _ _ rfl)) rfl rfl rfl (w_n rfl) ?_
  refine TL_q (.int .u64 (((BitVec.ofNat 64 n) >>> 32).toNat : Int)) (fun _ _ hρ _ => r_move (hρ _ _ rfl)) rfl rfl rfl (w_n rfl) ?_
  refine TL_q (.int .u64 (((0#64) * ((BitVec.ofNat 64 n) >>> 32)).toNat : Int)) (fun _ _ hρ _ => r_mulB (k := .u64) (a := (0#64)) (b := ((BitVec.ofNat 64 n) >>> 32)) rfl (hρ _ _ rfl) (hρ _ _ rfl)) rfl rfl rfl (w_n rfl) ?_
  refine TL_q (.int .u64 (((((0#64) * ((BitVec.ofNat 64 n) &&& (4294967295#64))) + (((1#64) * ((BitVec.ofNat 64 n) &&& (4294967295#64))) >>> 32)) >>> 32).toNat : Int)) (fun _ _ hρ _ => r_move (hρ _ _ rfl)) rfl rfl rfl (w_n rfl) ?_
  refine TL_q (.int .u64 ((((0#64) * ((BitVec.ofNat 64 n) >>> 32)) + ((((0#64) * ((BitVec.ofNat 64 n) &&& (4294967295#64))) + (((1#64) * ((BitVec.ofNat 64 n) &&& (4294967295#64))) >>> 32)) >>> 32)).toNat : Int)) (fun _ _ hρ _ => r_addB (k := .u64) (a := ((0#64) * ((BitVec.ofNat 64 n) >>> 32))) (b := ((((0#64) * ((BitVec.ofNat 64 n) &&& (4294967295#64))) + (((1#64) * ((BitVec.ofNat 64 n) &&& (4294967295#64))) >>> 32)) >>> 32)) rfl (hρ _ _ rfl) (hρ _ _ rfl)) rfl rfl rfl (w_n rfl) ?_
  refine TL_q (.int .u64 ((((((0#64) * ((BitVec.ofNat 64 n) &&& (4294967295#64))) + (((1#64) * ((BitVec.ofNat 64 n) &&& (4294967295#64))) >>> 32)) &&& (4294967295#64)) + ((1#64) * ((BitVec.ofNat 64 n) >>> 32))).toNat : Int)) (fun _ _ hρ _ => r_move (hρ _ _ rfl)) rfl rfl rfl (w_n rfl) ?_
  refine TL_q (.int .u64 (((((((0#64) * ((BitVec.ofNat 64 n) &&& (4294967295#64))) + (((1#64) * ((BitVec.ofNat 64 n) &&& (4294967295#64))) >>> 32)) &&& (4294967295#64)) + ((1#64) * ((BitVec.ofNat 64 n) >>> 32))) >>> 32).toNat : Int)) (fun _ _ hρ _ => r_shrB (k := .u64) (a := (((((0#64) * ((BitVec.ofNat 64 n) &&& (4294967295#64))) + (((1#64) * ((BitVec.ofNat 64 n) &&& (4294967295#64))) >>> 32)) &&& (4294967295#64)) + ((1#64) * ((BitVec.ofNat 64 n) >>> 32)))) (n := 32) (by decide) (hρ _ _ rfl) (hρ _ _ rfl)) rfl rfl rfl (w_n rfl) ?_
  refine TL_q (.int .u64 (((((0#64) * ((BitVec.ofNat 64 n) >>> 32)) + ((((0#64) * ((BitVec.ofNat 64 n) &&& (4294967295#64))) + (((1#64) * ((BitVec.ofNat 64 n) &&& (4294967295#64))) >>> 32)) >>> 32)) + ((((((0#64) * ((BitVec.ofNat 64 n) &&& (4294967295#64))) + (((1#64) * ((BitVec.ofNat 64 n) &&& (4294967295#64))) >>> 32)) &&& (4294967295#64)) + ((1#64) * ((BitVec.ofNat 64 n) >>> 32))) >>> 32)).toNat : Int)) (fun _ _ hρ _ => r_addB (k := .u64) (a := (((0#64) * ((BitVec.ofNat 64 n) >>> 32)) + ((((0#64) * ((BitVec.ofNat 64 n) &&& (4294967295#64))) + (((1#64) * ((BitVec.ofNat 64 n) &&& (4294967295#64))) >>> 32)) >>> 32))) (b := ((((((0#64) * ((BitVec.ofNat 64 n) &&& (4294967295#64))) + (((1#64) * ((BitVec.ofNat 64 n) &&& (4294967295#64))) >>> 32)) &&& (4294967295#64)) + ((1#64) * ((BitVec.ofNat 64 n) >>> 32))) >>> 32)) rfl (hρ _ _ rfl) (hρ _ _ rfl)) rfl rfl rfl (w_n rfl) ?_
  refine TL_q (.int .u64 (((((0#64) * ((BitVec.ofNat 64 n) >>> 32)) + ((((0#64) * ((BitVec.ofNat 64 n) &&& (4294967295#64))) + (((1#64) * ((BitVec.ofNat 64 n) &&& (4294967295#64))) >>> 32)) >>> 32)) + ((((((0#64) * ((BitVec.ofNat 64 n) &&& (4294967295#64))) + (((1#64) * ((BitVec.ofNat 64 n) &&& (4294967295#64))) >>> 32)) &&& (4294967295#64)) + ((1#64) * ((BitVec.ofNat 64 n) >>> 32))) >>> 32)).toNat : Int)) (fun _ _ hρ _ => r_assign (hρ _ _ rfl)) rfl rfl rfl (w_n rfl) ?_
  refine TL_seq ?_
  refine T_seq (T_region ?_)
  refine TL_q (.int .u64 1) (fun _ _ hρ _ => r_move (hρ _ _ rfl)) rfl rfl rfl (w_n rfl) ?_
  refine TL_q (.int .u64 ((BitVec.ofNat 64 n).toNat : Int)) (fun _ _ hρ _ => r_move (hρ _ _ rfl)) rfl rfl rfl (w_n rfl) ?_
  refine TL_q (.int .u64 (((1#64) * (BitVec.ofNat 64 n)).toNat : Int)) (fun _ _ hρ _ => r_mulB (k := .u64) (a := (1#64)) (b := (BitVec.ofNat 64 n)) rfl (hρ _ _ rfl) (hρ _ _ rfl)) rfl rfl rfl (w_n rfl) ?_
  refine TL_q (.int .u64 (((1#64) * (BitVec.ofNat 64 n)).toNat : Int)) (fun _ _ hρ _ => r_assign (hρ _ _ rfl)) rfl rfl rfl (w_n rfl) ?_
  refine TL_seq ?_
  refine T_ret' ?_
  refine ret_of rfl (.tuple #[.int .u64 (((((0#64) * ((BitVec.ofNat 64 n) >>> 32)) + ((((0#64) * ((BitVec.ofNat 64 n) &&& (4294967295#64))) + (((1#64) * ((BitVec.ofNat 64 n) &&& (4294967295#64))) >>> 32)) >>> 32)) + ((((((0#64) * ((BitVec.ofNat 64 n) &&& (4294967295#64))) + (((1#64) * ((BitVec.ofNat 64 n) &&& (4294967295#64))) >>> 32)) &&& (4294967295#64)) + ((1#64) * ((BitVec.ofNat 64 n) >>> 32))) >>> 32)).toNat : Int), .int .u64 (((1#64) * (BitVec.ofNat 64 n)).toNat : Int)]) (fun tmps w hk hm => res2 rfl (res_tmp (hk 4 _ rfl)) (res_tmp (hk 5 _ rfl))) (fun w hm => ?_)
  have key : ∀ m : Fin 65, ((((((0#64) * ((BitVec.ofNat 64 m.val) >>> 32)) + ((((0#64) * ((BitVec.ofNat 64 m.val) &&& (4294967295#64))) + (((1#64) * ((BitVec.ofNat 64 m.val) &&& (4294967295#64))) >>> 32)) >>> 32)) + ((((((0#64) * ((BitVec.ofNat 64 m.val) &&& (4294967295#64))) + (((1#64) * ((BitVec.ofNat 64 m.val) &&& (4294967295#64))) >>> 32)) &&& (4294967295#64)) + ((1#64) * ((BitVec.ofNat 64 m.val) >>> 32))) >>> 32)).toNat : Int) : Int) = 0 ∧ ((((1#64) * (BitVec.ofNat 64 m.val)).toNat : Int) : Int) = ((m.val : Nat) : Int) := by decide +kernel
  have k1 : ((((((0#64) * ((BitVec.ofNat 64 n) >>> 32)) + ((((0#64) * ((BitVec.ofNat 64 n) &&& (4294967295#64))) + (((1#64) * ((BitVec.ofNat 64 n) &&& (4294967295#64))) >>> 32)) >>> 32)) + ((((((0#64) * ((BitVec.ofNat 64 n) &&& (4294967295#64))) + (((1#64) * ((BitVec.ofNat 64 n) &&& (4294967295#64))) >>> 32)) &&& (4294967295#64)) + ((1#64) * ((BitVec.ofNat 64 n) >>> 32))) >>> 32)).toNat : Int) : Int) = 0 := (key ⟨n, by omega⟩).1
  have k2 : ((((1#64) * (BitVec.ofNat 64 n)).toNat : Int) : Int) = ((n : Nat) : Int) := (key ⟨n, by omega⟩).2
  exact ⟨by rw [k1, k2], hm.ext⟩

theorem mul64_c (n : Nat) (hn : n ≤ 64) (w : World) : Calls Try.prog 114 #[.int .u64 1, .int .u64 (n : Int)] w fun e w' => e = .returned (.tuple #[.int .u64 0, .int .u64 (n : Int)]) ∧ Below w.heap.size w w' := by
  have h := mul64_b n hn w
  rwa [show ((BitVec.ofNat 64 n).toNat : Int) = n from by rw [BitVec.toNat_ofNat, Nat.mod_eq_of_lt (by omega)]] at h

theorem mul_c (n : Nat) (hn : n ≤ 64) (w : World) : Calls Try.prog 103 #[.int .u64 1, .int .u64 (n : Int)] w fun e w' => e = .returned (.tuple #[.int .u64 0, .int .u64 (n : Int)]) ∧ Below w.heap.size w w' := by
  refine calls_of_T (l := [.int .u64 1, .int .u64 ((n : Nat) : Int)]) 30 Try.func103 rfl rfl rfl ?_
  show T _ _ _ [(0, .int .u64 1), (1, .int .u64 ((n : Nat) : Int))] []
  refine T_seq (T_region ?_)
  refine TL_q (.int .u64 0) (fun _ _ hρ _ => r_assign (hρ _ _ rfl)) rfl rfl rfl (w_n rfl) ?_
  refine TL_q (.int .u64 0) (fun _ _ hρ _ => r_assign (hρ _ _ rfl)) rfl rfl rfl (w_n rfl) ?_
  refine TL_seq ?_
  refine T_seq ?_
  refine T_cond_f rfl ?_
  refine T_skip' ?_
  refine p_seq ?_
  refine T_seq (T_region ?_)
  refine TL_q (.int .u64 1) (fun _ _ hρ _ => r_move (hρ _ _ rfl)) rfl rfl rfl (w_n rfl) ?_
  refine TL_q (.int .u64 ((n : Nat) : Int)) (fun _ _ hρ _ => r_move (hρ _ _ rfl)) rfl rfl rfl (w_n rfl) ?_
  refine TL_call (.tuple #[.int .u64 0, .int .u64 ((n : Nat) : Int)]) (fun _ _ hρ _ => r_call (args := [.int .u64 1, .int .u64 ((n : Nat) : Int)]) (enters_of Try.func114 (by kernel_rfl) rfl) (hρ _ _ rfl) ((cons2 (hρ _ _ rfl) (cons2 (hρ _ _ rfl) rfl))) rfl) (fun w _ => mul64_c n (by omega) w) rfl rfl rfl (w_n rfl) ?_
  refine TL_q (.tuple #[.int .u64 0, .int .u64 ((n : Nat) : Int)]) (fun _ _ hρ _ => r_move (hρ _ _ rfl)) rfl rfl rfl (w_n rfl) ?_
  refine TL_q (.int .u64 0) (fun _ _ hρ _ => r_extract (hρ _ _ rfl) rfl) rfl rfl rfl (w_n rfl) ?_
  refine TL_q (.int .u64 ((n : Nat) : Int)) (fun _ _ hρ _ => r_extract (hρ _ _ rfl) rfl) rfl rfl rfl (w_n rfl) ?_
  refine TL_q (.int .u64 0) (fun _ _ hρ _ => r_assign (hρ _ _ rfl)) rfl rfl rfl (w_n rfl) ?_
  refine TL_q (.int .u64 ((n : Nat) : Int)) (fun _ _ hρ _ => r_assign (hρ _ _ rfl)) rfl rfl rfl (w_n rfl) ?_
  refine TL_seq ?_
  refine T_seq (T_region ?_)
  refine TL_q (.int .u64 0) (fun _ _ hρ _ => r_move (hρ _ _ rfl)) rfl rfl rfl (w_n rfl) ?_
  refine TL_q (.int .u64 ((n : Nat) : Int)) (fun _ _ hρ _ => r_move (hρ _ _ rfl)) rfl rfl rfl (w_n rfl) ?_
  refine TL_q (.int .u64 0) (fun _ _ hρ _ => r_assign (hρ _ _ rfl)) rfl rfl rfl (w_n rfl) ?_
  refine TL_q (.int .u64 ((n : Nat) : Int)) (fun _ _ hρ _ => r_assign (hρ _ _ rfl)) rfl rfl rfl (w_n rfl) ?_
  refine TL_seq ?_
  refine T_ret' ?_
  refine ret_of rfl (.tuple #[.int .u64 0, .int .u64 ((n : Nat) : Int)]) (fun tmps w hk hm => res2 rfl (res_tmp (hk 4 _ rfl)) (res_tmp (hk 5 _ rfl))) (fun w hm => ?_)
  exact ⟨rfl, hm.ext⟩

theorem rep_c4 (c : C4) (n bx : Nat) (w : World) (hn1 : 1 ≤ n) (hn : n ≤ 64) (hb : hp w bx = some (.cells (C4.cells c).toArray 37)) : Calls Try.prog 82 #[.slice (some ⟨bx, 0, none⟩) 1 1, .int .i64 (n : Int)] w fun e w' => ∃ a' cap', e = .returned (.slice a' (List.replicate n c).length cap') ∧ Below w.heap.size w w' ∧ w'.ownsRow w.heap.size 37 4 (.slice a' (List.replicate n c).length cap') (List.replicate n c).length ((List.replicate n c).flatMap C4.cells) := by
  refine calls_of_T (l := [.slice (some ⟨bx, 0, none⟩) 1 1, .int .i64 ((n : Nat) : Int)]) 48 Try.func82 rfl rfl rfl ?_
  show T _ _ _ [(0, .slice (some ⟨bx, 0, none⟩) 1 1), (1, .int .i64 ((n : Nat) : Int))] []
  refine T_seq (T_region ?_)
  refine TL_q (.slice none 0 0) (fun _ _ hρ _ => r_assign (hρ _ _ rfl)) rfl rfl rfl (w_n rfl) ?_
  refine TL_seq ?_
  refine T_seq ?_
  refine T_seq (T_region ?_)
  refine TL_q (.int .i64 ((n : Nat) : Int)) (fun _ _ hρ _ => r_move (hρ _ _ rfl)) rfl rfl rfl (w_n rfl) ?_
  refine TL_q (.bool false) (fun _ _ hρ _ => r_as (r_lss (hρ _ _ rfl) (hρ _ _ rfl)) (bool_as (decide_eq_false (by omega)))) rfl rfl rfl (w_n rfl) ?_
  refine TL_seq ?_
  refine T_cond_f rfl ?_
  refine T_skip' ?_
  refine p_seq ?_
  refine T_seq (T_region ?_)
  refine TL_q (.slice (some ⟨bx, 0, none⟩) 1 1) (fun _ _ hρ _ => r_move (hρ _ _ rfl)) rfl rfl rfl (w_n rfl) ?_
  refine TL_q (.int .i64 1) (fun _ _ hρ _ => r_len sl71 (hρ _ _ rfl)) rfl rfl rfl (w_n rfl) ?_
  refine TL_q (.int .u64 1) (fun _ _ hρ _ => r_as (r_conv un3 io150 (hρ _ _ rfl)) (by rfl)) rfl rfl rfl (w_n rfl) ?_
  refine TL_q (.int .i64 ((n : Nat) : Int)) (fun _ _ hρ _ => r_move (hρ _ _ rfl)) rfl rfl rfl (w_n rfl) ?_
  refine TL_q (.int .u64 ((n : Nat) : Int)) (fun _ _ hρ _ => r_as (r_conv un3 io150 (hρ _ _ rfl)) (int_as (wrap_u64 (by omega) (by omega)))) rfl rfl rfl (w_n rfl) ?_
  refine TL_call (.tuple #[.int .u64 0, .int .u64 ((n : Nat) : Int)]) (fun _ _ hρ _ => r_call (args := [.int .u64 1, .int .u64 ((n : Nat) : Int)]) (enters_of Try.func103 (by kernel_rfl) rfl) (hρ _ _ rfl) ((cons2 (hρ _ _ rfl) (cons2 (hρ _ _ rfl) rfl))) rfl) (fun w _ => mul_c n (by omega) w) rfl rfl rfl (w_n rfl) ?_
  refine TL_q (.tuple #[.int .u64 0, .int .u64 ((n : Nat) : Int)]) (fun _ _ hρ _ => r_move (hρ _ _ rfl)) rfl rfl rfl (w_n rfl) ?_
  refine TL_q (.int .u64 0) (fun _ _ hρ _ => r_extract (hρ _ _ rfl) rfl) rfl rfl rfl (w_n rfl) ?_
  refine TL_q (.int .u64 ((n : Nat) : Int)) (fun _ _ hρ _ => r_extract (hρ _ _ rfl) rfl) rfl rfl rfl (w_n rfl) ?_
  refine TL_q (.int .u64 0) (fun _ _ hρ _ => r_assign (hρ _ _ rfl)) rfl rfl rfl (w_n rfl) ?_
  refine TL_q (.int .u64 ((n : Nat) : Int)) (fun _ _ hρ _ => r_assign (hρ _ _ rfl)) rfl rfl rfl (w_n rfl) ?_
  refine TL_seq ?_
  refine T_seq ?_
  refine T_seq (T_region ?_)
  refine TL_q (.int .u64 0) (fun _ _ hρ _ => r_move (hρ _ _ rfl)) rfl rfl rfl (w_n rfl) ?_
  refine TL_q (.bool false) (fun _ _ hρ _ => r_as (r_gtr (hρ _ _ rfl) (hρ _ _ rfl)) (by rfl)) rfl rfl rfl (w_n rfl) ?_
  refine TL_q (.bool false) (fun _ _ hρ _ => r_move (hρ _ _ rfl)) rfl rfl rfl (w_n rfl) ?_
  refine TL_q (.int .u64 ((n : Nat) : Int)) (fun _ _ hρ _ => r_move (hρ _ _ rfl)) rfl rfl rfl (want_y 23 rfl rfl rfl) ?_
  refine TL_q (.bool false) (fun _ _ hρ _ => r_as (r_gtr (hρ _ _ rfl) (hρ _ _ rfl)) (bool_as (decide_eq_false (by omega)))) rfl rfl rfl (want_y 23 rfl rfl rfl) ?_
  refine TL_q (.bool false) (fun _ _ hρ _ => r_pick_f (hρ _ _ rfl) (hρ _ _ rfl)) rfl rfl rfl (w_n rfl) ?_
  refine TL_seq ?_
  refine T_cond_f rfl ?_
  refine T_skip' ?_
  refine p_seq ?_
  refine T_seq (T_region ?_)
  refine TL_q (.int .u64 ((n : Nat) : Int)) (fun _ _ hρ _ => r_move (hρ _ _ rfl)) rfl rfl rfl (w_n rfl) ?_
  refine TL_q (.int .i64 ((n : Nat) : Int)) (fun _ _ hρ _ => r_as (r_conv un150 io3 (hρ _ _ rfl)) (int_as (wrap64 (by omega) (by omega)))) rfl rfl rfl (w_n rfl) ?_
  refine TL_op (ι := Nat) (fun B => .slice (some ⟨B, 0, none⟩) n n) _ (fun _ _ hρ hm => o_make (n := n) (cap := n) (z := .agg #[.int .u8 0, .int .u8 0, .int .u8 0, .int .u8 0]) (f := C4.cells) (u := zeroC) 940 rfl (hρ _ _ rfl) (hρ _ _ rfl) sl71 by37 sz37 rfl (by kernel_rfl) rfl C4.cells_len (by omega) (by omega) (by omega) hm) rfl rfl rfl (w_n rfl) ?_
  intro B1
  refine TL_q (.slice (some ⟨B1, 0, none⟩) n n) (fun _ _ hρ _ => r_assign (hρ _ _ rfl)) rfl rfl rfl (w_n rfl) ?_
  refine TL_seq ?_
  refine T_seq (T_region ?_)
  refine TL_q (.slice (some ⟨B1, 0, none⟩) n n) (fun _ _ hρ _ => r_move (hρ _ _ rfl)) rfl rfl rfl (w_n rfl) ?_
  refine TL_q (.slice (some ⟨bx, 0, none⟩) 1 1) (fun _ _ hρ _ => r_move (hρ _ _ rfl)) rfl rfl rfl (w_n rfl) ?_
  refine TL_op1 (.int .i64 ((1 : Nat) : Int)) _ (fun _ _ hρ hm => o_copyG (k := 1) (lo := 0) (s := 4) (news := ((List.replicate 1 c).flatMap C4.cells)) 940 rfl (hρ _ _ rfl) (by omega) (hρ _ _ rfl) rfl sl71 sz37 (by omega) (rep_len C4.cells_len c 1) (fun j u hj => cell_of (hm.old hb) (rep_one hj)) (rep_ones C4.cells_one c 1) (rep_first C4.cells_len zeroC c hn1) hm) rfl rfl rfl (w_n rfl) ?_
  refine TL_q (.int .i64 ((1 : Nat) : Int)) (fun _ _ hρ _ => r_assign (hρ _ _ rfl)) rfl rfl rfl (w_n rfl) ?_
  refine TL_seq ?_
  refine T_seq ?_
  refine T_block ?_
  refine T_loop (ι := Nat) (fun (k : Nat) => 1 ≤ k ∧ k ≤ n) (fun (k : Nat) => [(4, .slice none 0 0), (7, .slice (some ⟨B1, 0, none⟩) n n), (8, .int .i64 ((k : Nat) : Int))]) (fun (k : Nat) => [(940, .row (.slice (some ⟨B1, 0, none⟩) n n) 37 4 n ((repG zeroC c k n).flatMap C4.cells))]) (fun (k : Nat) => n - k) 1 ⟨Nat.le_refl _, hn1⟩ (sub_cons rfl (sub_cons rfl (sub_cons rfl sub_nil))) (sub_cons rfl sub_nil) ?_
  rintro k hp
  obtain ⟨hk1, hk2⟩ := hp
  show T _ _ _ [(4, .slice none 0 0), (7, .slice (some ⟨B1, 0, none⟩) n n), (8, .int .i64 ((k : Nat) : Int))] [(940, .row (.slice (some ⟨B1, 0, none⟩) n n) 37 4 n ((repG zeroC c k n).flatMap C4.cells))]
  refine T_seq ?_
  refine T_seq (T_region ?_)
  refine TL_q (.int .i64 ((k : Nat) : Int)) (fun _ _ hρ _ => r_move (hρ _ _ rfl)) rfl rfl rfl (w_n rfl) ?_
  refine TL_q (.slice (some ⟨B1, 0, none⟩) n n) (fun _ _ hρ _ => r_move (hρ _ _ rfl)) rfl rfl rfl (w_n rfl) ?_
  refine TL_q (.int .i64 ((n : Nat) : Int)) (fun _ _ hρ _ => r_len sl71 (hρ _ _ rfl)) rfl rfl rfl (w_n rfl) ?_
  refine TL_q (.bool (decide (((k : Nat) : Int) < ((n : Nat) : Int)))) (fun _ _ hρ _ => r_lss (hρ _ _ rfl) (hρ _ _ rfl)) rfl rfl rfl (w_n rfl) ?_
  refine TL_seq ?_
  refine T_cond rfl (fun h1 => ?_) (fun h1 => ?_)
  · replace h1 := of_decide_eq_true h1
    refine T_skip' ?_
    refine p_seq ?_
    refine T_block ?_
    refine T_draw (V := [(0, .int .i64 ((k : Nat) : Int)), (1, .slice (some ⟨B1, 0, none⟩) n n), (2, .int .i64 ((k : Nat) : Int)), (3, .slice (some ⟨B1, k * 4, none⟩) (n - k) (n - k)), (4, .slice (some ⟨B1, 0, none⟩) n n), (5, .int .i64 ((k : Nat) : Int)), (6, .slice (some ⟨B1, 0, none⟩) k n)]) [0, 0, 0, 6, 0, 0, 48, 126, 255, 511] [[(8, none)], [(7, none)], [(8, none)], [(39, some 1), (40, some 2)], [(7, none)], [(8, none)], [(42, some 4), (43, some 5)], [(41, some 3), (44, some 6)], [(38, some 0), (45, some 7)], [(46, some 8)]] 128 mixed (by kernel_rfl) ?_
    refine G_step [0, 1, 2, 3, 4, 5, 6] 7 [] (by kernel_rfl) (allM (all_cons (q_run (.int .i64 ((k : Nat) : Int)) rfl rfl (wv_n rfl) rfl (fun _ _ hρ _ => r_move (hρ _ _ rfl))) (all_cons (q_run (.slice (some ⟨B1, 0, none⟩) n n) rfl rfl (wv_n rfl) rfl (fun _ _ hρ _ => r_move (hρ _ _ rfl))) (all_cons (q_run (.int .i64 ((k : Nat) : Int)) rfl rfl (wv_n rfl) rfl (fun _ _ hρ _ => r_move (hρ _ _ rfl))) (all_cons (q_run (.slice (some ⟨B1, k * 4, none⟩) (n - k) (n - k)) rfl rfl (wv_n rfl) rfl (fun ρ _ hρ _ => r_as (r_sliceS sl71 sz37 (hρ _ _ rfl) (bd_none ρ _) (bd_none ρ _) (bd_some (n := k) (hρ _ _ rfl)) (by simp) (by omega) (by omega) (by omega)) (by rw [if_neg (by omega), Nat.zero_add]))) (all_cons (q_run (.slice (some ⟨B1, 0, none⟩) n n) rfl rfl (wv_n rfl) rfl (fun _ _ hρ _ => r_move (hρ _ _ rfl))) (all_cons (q_run (.int .i64 ((k : Nat) : Int)) rfl rfl (wv_n rfl) rfl (fun _ _ hρ _ => r_move (hρ _ _ rfl))) (all_cons (q_run (.slice (some ⟨B1, 0, none⟩) k n) rfl rfl (wv_n rfl) rfl (fun ρ _ hρ _ => r_as (r_sliceS sl71 sz37 (hρ _ _ rfl) (bd_none ρ _) (bd_some (n := k) (hρ _ _ rfl)) (bd_none ρ _) (by simp) (by omega) (by omega) (by omega)) (by simp))) all_nil)))))))) (allM (all_cons ?_ all_nil))
    refine LOb_op1 (.int .i64 ((min k (n - k) : Nat) : Int)) _ [(8, .int .i64 ((k + (min k (n - k)) : Nat) : Int)), (9, .int .i64 ((k + (min k (n - k)) : Nat) : Int))] rfl (wv_n rfl) rfl rfl (fun _ _ hρ hm => o_copyG (k := min k (n - k)) (lo := k * 4) (s := 4) (news := ((List.replicate (min k (n - k)) c).flatMap C4.cells)) 940 rfl (hρ _ _ rfl) (by omega) (hρ _ _ rfl) rfl sl71 sz37 rfl (rep_len C4.cells_len c _) (fun j u hj => rep_cell (hm.row 940 rfl) (rep_pre zeroC c (by omega) hj)) (rep_ones C4.cells_one c _) (rep_copy C4.cells_len zeroC c (by omega)) hm) (by kernel_rfl) ?_
    refine G_lastQ [0, 8, 9] [(4, .slice none 0 0), (7, .slice (some ⟨B1, 0, none⟩) n n), (34, .int .i64 ((k : Nat) : Int)), (35, .slice (some ⟨B1, 0, none⟩) n n), (36, .int .i64 ((n : Nat) : Int)), (37, .bool (decide (((k : Nat) : Int) < ((n : Nat) : Int)))), (38, .int .i64 ((k : Nat) : Int)), (39, .slice (some ⟨B1, 0, none⟩) n n), (40, .int .i64 ((k : Nat) : Int)), (41, .slice (some ⟨B1, k * 4, none⟩) (n - k) (n - k)), (42, .slice (some ⟨B1, 0, none⟩) n n), (43, .int .i64 ((k : Nat) : Int)), (44, .slice (some ⟨B1, 0, none⟩) k n), (45, .int .i64 ((min k (n - k) : Nat) : Int)), (46, .int .i64 ((k + (min k (n - k)) : Nat) : Int)), (8, .int .i64 ((k + (min k (n - k)) : Nat) : Int))] (by kernel_rfl) (allM (all_cons (q_run (.int .i64 ((k : Nat) : Int)) rfl rfl (wv_n rfl) rfl (fun _ _ hρ _ => r_move (hρ _ _ rfl))) (all_cons (q_run (.int .i64 ((k + (min k (n - k)) : Nat) : Int)) rfl rfl (wv_n rfl) rfl (fun _ _ hρ _ => r_as (r_add (hρ _ _ rfl) (hρ _ _ rfl)) (int_as ((wrap64 (by omega) (by omega)).trans (by omega))))) (all_cons (q_run (.int .i64 ((k + (min k (n - k)) : Nat) : Int)) rfl rfl (wv_n rfl) rfl (fun _ _ hρ _ => r_assign (hρ _ _ rfl))) all_nil)))) (end_old rfl rfl (end_old rfl rfl (end_old rfl rfl (end_old rfl rfl (end_old rfl rfl (end_old rfl rfl (end_new 0 rfl rfl (end_new 1 rfl rfl (end_new 2 rfl rfl (end_new 3 rfl rfl (end_new 4 rfl rfl (end_new 5 rfl rfl (end_new 6 rfl rfl (end_new 7 rfl rfl (end_new 8 rfl rfl (end_new 9 rfl rfl end_nil)))))))))))))))) ?_
    refine p_blk_n ?_
    exact p_at (k + min k (n - k)) ⟨by omega, by omega⟩ (sub_cons rfl (sub_cons rfl (sub_cons rfl sub_nil))) (sub_cons rfl sub_nil)
  · replace h1 := of_decide_eq_false h1
    refine T_exit' ?_
    refine p_then_x ?_
    refine p_then_x ?_
    refine p_blk_x ?_
    refine p_seq ?_
    refine T_seq (T_region ?_)
    refine TL_q (.slice (some ⟨B1, 0, none⟩) n n) (fun _ _ hρ _ => r_move (hρ _ _ rfl)) rfl rfl rfl (w_n rfl) ?_
    refine TL_q (.slice (some ⟨B1, 0, none⟩) n n) (fun _ _ hρ _ => r_assign (hρ _ _ rfl)) rfl rfl rfl (w_n rfl) ?_
    refine TL_seq ?_
    refine T_ret' ?_
    refine ret_of rfl (.slice (some ⟨B1, 0, none⟩) n n) (fun tmps w hk hm => res1 rfl (res_tmp (hk 4 _ rfl))) (fun w hm => ?_)
    have hk : k = n := by omega
    subst hk
    have hrow := hm.row 940 rfl
    rw [repG_all] at hrow
    exact ⟨some ⟨B1, 0, none⟩, k, by rw [List.length_replicate], hm.ext, by rw [List.length_replicate]; exact hrow⟩
end Go.Proofs.Ytbiapeaghbndoaa
/- canvas: New, Of, pixels. Printed by a program of this seat's prover. -/
namespace Go.Proofs.Ytbiapeaghbndoaa
open Go Go.RowKit
set_option maxRecDepth 10000
theorem snew_ok (p q : Nat) (c : C4) (w : World) (hp : 1 ≤ p ∧ p ≤ 8) (hq : 1 ≤ q ∧ q ≤ 8) : Calls Try.prog 41 #[.int .i64 (p : Int), .int .i64 (q : Int), .agg (C4.cells c).toArray] w fun e w' => ∃ a' cap', e = .returned (.tuple #[.agg #[.int .i64 (p : Int), .int .i64 (q : Int), .slice a' (List.replicate (p * q) c).length cap'], .int .i64 0]) ∧ Below w.heap.size w w' ∧ w'.ownsRow w.heap.size 37 4 (.slice a' (List.replicate (p * q) c).length cap') (List.replicate (p * q) c).length ((List.replicate (p * q) c).flatMap C4.cells) := by
  have h64 := size8 hp hq
  refine calls_of_T (l := [.int .i64 ((p : Nat) : Int), .int .i64 ((q : Nat) : Int), .agg #[.int .u8 c.r, .int .u8 c.g, .int .u8 c.b, .int .u8 c.a]]) 26 Try.func41 rfl rfl rfl ?_
  show T _ _ _ [(0, .int .i64 ((p : Nat) : Int)), (1, .int .i64 ((q : Nat) : Int)), (2, .agg #[.int .u8 c.r, .int .u8 c.g, .int .u8 c.b, .int .u8 c.a])] []
  refine T_seq (T_region ?_)
  refine TL_new 1 (.cells #[.int .u8 c.r, .int .u8 c.g, .int .u8 c.b, .int .u8 c.a] 37) (fun B => .pointer (some ⟨B, 0, none⟩)) (fun _ _ hρ _ => r_box (hρ _ _ rfl) rfl) rfl rfl rfl (w_n rfl) ?_
  intro B1
  refine TL_new 2 (.cells #[.int .i64 0, .int .i64 0, .slice none 0 0] 75) (fun B => .pointer (some ⟨B, 0, none⟩)) (fun _ _ _ _ => r_alloc (v := .agg #[.int .i64 0, .int .i64 0, .slice none 0 0]) (by kernel_rfl) rfl) rfl rfl rfl (w_n rfl) ?_
  intro B2
  refine TL_q (.int .i64 0) (fun _ _ hρ _ => r_assign (hρ _ _ rfl)) rfl rfl rfl (w_n rfl) ?_
  refine TL_seq ?_
  refine T_seq ?_
  refine T_seq (T_region ?_)
  refine TL_q (.int .i64 ((p : Nat) : Int)) (fun _ _ hρ _ => r_move (hρ _ _ rfl)) rfl rfl rfl (w_n rfl) ?_
  refine TL_call (.bool true) (fun _ _ hρ _ => r_call (args := [.int .i64 ((p : Nat) : Int)]) (enters_of Try.func81 (by kernel_rfl) rfl) (hρ _ _ rfl) ((cons2 (hρ _ _ rfl) rfl)) rfl) (fun w _ => (side_c ((p : Nat) : Int) w).mono fun _ _ h => ⟨h.1.trans (congrArg Ending.returned (bool_as (sideI_of hp))), h.2⟩) rfl rfl rfl (w_n rfl) ?_
  refine TL_q (.bool false) (fun _ _ hρ _ => r_not (b := true) (hρ _ _ rfl)) rfl rfl rfl (w_n rfl) ?_
  refine TL_q (.bool false) (fun _ _ hρ _ => r_move (hρ _ _ rfl)) rfl rfl rfl (w_n rfl) ?_
  refine TL_q (.int .i64 ((q : Nat) : Int)) (fun _ _ hρ _ => r_move (hρ _ _ rfl)) rfl rfl rfl (want_y 11 rfl rfl rfl) ?_
  refine TL_call (.bool true) (fun _ _ hρ _ => r_call (args := [.int .i64 ((q : Nat) : Int)]) (enters_of Try.func81 (by kernel_rfl) rfl) (hρ _ _ rfl) ((cons2 (hρ _ _ rfl) rfl)) rfl) (fun w _ => (side_c ((q : Nat) : Int) w).mono fun _ _ h => ⟨h.1.trans (congrArg Ending.returned (bool_as (sideI_of hq))), h.2⟩) rfl rfl rfl (want_y 11 rfl rfl rfl) ?_
  refine TL_q (.bool false) (fun _ _ hρ _ => r_not (b := true) (hρ _ _ rfl)) rfl rfl rfl (want_y 11 rfl rfl rfl) ?_
  refine TL_q (.bool false) (fun _ _ hρ _ => r_pick_f (hρ _ _ rfl) (hρ _ _ rfl)) rfl rfl rfl (w_n rfl) ?_
  refine TL_seq ?_
  refine T_cond_f rfl ?_
  refine T_skip' ?_
  refine p_seq ?_
  refine T_seq (T_region ?_)
  refine TL_q (.int .i64 ((p : Nat) : Int)) (fun _ _ hρ _ => r_move (hρ _ _ rfl)) rfl rfl rfl (w_n rfl) ?_
  refine TL_q (.int .i64 ((q : Nat) : Int)) (fun _ _ hρ _ => r_move (hρ _ _ rfl)) rfl rfl rfl (w_n rfl) ?_
  refine TL_q (.agg #[.int .u8 c.r, .int .u8 c.g, .int .u8 c.b, .int .u8 c.a]) (fun _ _ hρ hm => r_loadA ag37 sz37 (hρ _ _ rfl) (hm.at 1 rfl) rfl rfl) rfl rfl rfl (w_n rfl) ?_
  refine TL_new 3 (.cells #[.int .u8 c.r, .int .u8 c.g, .int .u8 c.b, .int .u8 c.a] 37) (fun B => .slice (some ⟨B, 0, none⟩) 1 1) (fun _ _ hρ _ => r_buildSlice (vs := [(0, .agg #[.int .u8 c.r, .int .u8 c.g, .int .u8 c.b, .int .u8 c.a])]) (by kernel_rfl) (cons2 (pair2 (hρ _ _ rfl)) rfl)) rfl rfl rfl (w_n rfl) ?_
  intro B3
  refine TL_q (.int .i64 ((p : Nat) : Int)) (fun _ _ hρ _ => r_move (hρ _ _ rfl)) rfl rfl rfl (w_n rfl) ?_
  refine TL_q (.int .i64 ((q : Nat) : Int)) (fun _ _ hρ _ => r_move (hρ _ _ rfl)) rfl rfl rfl (w_n rfl) ?_
  refine TL_q (.int .i64 ((p * q : Nat) : Int)) (fun _ _ hρ _ => r_as (r_mul (hρ _ _ rfl) (hρ _ _ rfl)) (int_as ((wrap64 (by omega) (by omega)).trans (by omega)))) rfl rfl rfl (w_n rfl) ?_
  refine TL_callN (fun (_ : Option Addr × Nat) => True) (fun (ar4, cr4) => .slice ar4 ((List.replicate (p * q) c).length) cr4) (fun (ar4, cr4) => [(4, .row (.slice ar4 ((List.replicate (p * q) c).length) cr4) 37 4 ((List.replicate (p * q) c).length) ((List.replicate (p * q) c).flatMap C4.cells))]) (fun _ _ hρ _ => r_call (args := [.slice (some ⟨B3, 0, none⟩) 1 1, .int .i64 ((p * q : Nat) : Int)]) (enters_of Try.func82 (by kernel_rfl) rfl) (hρ _ _ rfl) ((cons2 (hρ _ _ rfl) (cons2 (hρ _ _ rfl) rfl))) rfl) (fun w hm => (rep_c4 c (p * q) B3 w (by omega) (by omega) (hm.at 3 rfl)).mono fun e w' ⟨a', cap', he, hb, hr⟩ => ⟨(a', cap'), trivial, he, hb, newOk1 4 hr⟩) rfl rfl rfl (w_n rfl) ?_
  rintro ⟨ar4, cr4⟩ -
  refine TL_q (.agg #[.int .i64 ((p : Nat) : Int), .int .i64 ((q : Nat) : Int), .slice ar4 ((List.replicate (p * q) c).length) cr4]) (fun _ _ hρ _ => r_build (vs := [(0, .int .i64 ((p : Nat) : Int)), (1, .int .i64 ((q : Nat) : Int)), (2, .slice ar4 ((List.replicate (p * q) c).length) cr4)]) (by kernel_rfl) (cons2 (pair2 (hρ _ _ rfl)) (cons2 (pair2 (hρ _ _ rfl)) (cons2 (pair2 (hρ _ _ rfl)) rfl)))) rfl rfl rfl (w_n rfl) ?_
  refine TL_store 2 (.cells #[.int .i64 ((p : Nat) : Int), .int .i64 ((q : Nat) : Int), .slice ar4 ((List.replicate (p * q) c).length) cr4] 75) rfl (fun _ _ hρ hm => r_store sz75 (hρ _ _ rfl) (hρ _ _ rfl) (hm.at 2 rfl) rfl rfl rfl rfl) rfl rfl (w_n rfl) ?_
  refine TL_q (.int .i64 0) (fun _ _ hρ _ => r_assign (hρ _ _ rfl)) rfl rfl rfl (w_n rfl) ?_
  refine TL_seq ?_
  refine T_ret' ?_
  refine ret_of rfl (.tuple #[.agg #[.int .i64 ((p : Nat) : Int), .int .i64 ((q : Nat) : Int), .slice ar4 ((List.replicate (p * q) c).length) cr4], .int .i64 0]) (fun tmps w hk hm => res2 rfl (res_cell (hk 6 _ rfl) (run_loadVar_agg ag75 sz75 (hm.at 2 rfl) (Nat.le_of_ble_eq_true rfl) rfl)) (res_tmp (hk 7 _ rfl))) (fun w hm => ?_)
  have hrow := hm.row 4 rfl
  exact ⟨ar4, cr4, rfl, hm.ext, hrow⟩

theorem rep_ones2 {α : Type} {f : α → List Value} (ho : ∀ x, ∀ v ∈ f x, v.oneCell' = true) (l : List α) : ∀ v ∈ l.flatMap f, v.oneCell' = true := fun v hv => by
  obtain ⟨x, _, hx⟩ := List.mem_flatMap.1 hv
  exact ho x v hx
theorem quo_pq {p q : Nat} (hp : 1 ≤ p) : ((p * q : Nat) : Int).tdiv (p : Int) = (q : Int) := by
  rw [Int.tdiv_eq_ediv_of_nonneg (by omega)]
  exact_mod_cast Nat.mul_div_cancel_left q (by omega)
theorem rem_pq {p q : Nat} : ((p * q : Nat) : Int).tmod (p : Int) = 0 := by
  rw [Int.tmod_eq_emod_of_nonneg (by omega)]
  exact_mod_cast Nat.mul_mod_right p q

theorem sof_ok (p q : Nat) (px : List C4) (a : Option Addr) (cap : Nat) (w : World) (hv : SliceAt w a cap 4 C4.cells px) (hcap : cap ≤ Go.maxLen) (hp : 1 ≤ p ∧ p ≤ 8) (hq : 1 ≤ q ∧ q ≤ 8) (hlen : px.length = p * q) : Calls Try.prog 44 #[.int .i64 (p : Int), .slice a px.length cap] w fun e w' => ∃ a' cap', e = .returned (.tuple #[.agg #[.int .i64 (p : Int), .int .i64 (q : Int), .slice a' px.length cap'], .int .i64 0]) ∧ Below w.heap.size w w' ∧ w'.ownsRow w.heap.size 37 4 (.slice a' (px).length cap') (px).length ((px).flatMap C4.cells) := by
  have hvl := hv.1
  have h64 := size8 hp hq
  unfold Go.maxLen at hcap
  refine calls_of_T (l := [.int .i64 ((p : Nat) : Int), .slice a px.length cap]) 44 Try.func44 rfl rfl rfl ?_
  show T _ _ _ [(0, .int .i64 ((p : Nat) : Int)), (1, .slice a px.length cap)] []
  refine T_seq (T_region ?_)
  refine TL_new 1 (.cells #[.int .i64 0, .int .i64 0, .slice none 0 0] 75) (fun B => .pointer (some ⟨B, 0, none⟩)) (fun _ _ _ _ => r_alloc (v := .agg #[.int .i64 0, .int .i64 0, .slice none 0 0]) (by kernel_rfl) rfl) rfl rfl rfl (w_n rfl) ?_
  intro B1
  refine TL_q (.int .i64 0) (fun _ _ hρ _ => r_assign (hρ _ _ rfl)) rfl rfl rfl (w_n rfl) ?_
  refine TL_seq ?_
  refine T_seq ?_
  refine T_seq (T_region ?_)
  refine TL_q (.int .i64 ((p : Nat) : Int)) (fun _ _ hρ _ => r_move (hρ _ _ rfl)) rfl rfl rfl (w_n rfl) ?_
  refine TL_call (.bool true) (fun _ _ hρ _ => r_call (args := [.int .i64 ((p : Nat) : Int)]) (enters_of Try.func81 (by kernel_rfl) rfl) (hρ _ _ rfl) ((cons2 (hρ _ _ rfl) rfl)) rfl) (fun w _ => (side_c ((p : Nat) : Int) w).mono fun _ _ h => ⟨h.1.trans (congrArg Ending.returned (bool_as (sideI_of hp))), h.2⟩) rfl rfl rfl (w_n rfl) ?_
  refine TL_q (.bool false) (fun _ _ hρ _ => r_not (b := true) (hρ _ _ rfl)) rfl rfl rfl (w_n rfl) ?_
  refine TL_q (.bool false) (fun _ _ hρ _ => r_move (hρ _ _ rfl)) rfl rfl rfl (w_n rfl) ?_
  refine TL_q (.slice a px.length cap) (fun _ _ hρ _ => r_move (hρ _ _ rfl)) rfl rfl rfl (want_y 10 rfl rfl rfl) ?_
  refine TL_q (.int .i64 ((px.length : Nat) : Int)) (fun _ _ hρ _ => r_len sl71 (hρ _ _ rfl)) rfl rfl rfl (want_y 10 rfl rfl rfl) ?_
  refine TL_q (.int .i64 ((p : Nat) : Int)) (fun _ _ hρ _ => r_move (hρ _ _ rfl)) rfl rfl rfl (want_y 10 rfl rfl rfl) ?_
  refine TL_q (.int .i64 0) (fun _ _ hρ _ => r_as (r_rem (hρ _ _ rfl) (hρ _ _ rfl) (by omega)) (int_as (by rw [hlen]; exact rem_pq))) rfl rfl rfl (want_y 10 rfl rfl rfl) ?_
  refine TL_q (.bool false) (fun _ _ hρ _ => r_as (r_neq (hρ _ _ rfl) (hρ _ _ rfl)) (by rfl)) rfl rfl rfl (want_y 10 rfl rfl rfl) ?_
  refine TL_q (.bool false) (fun _ _ hρ _ => r_pick_f (hρ _ _ rfl) (hρ _ _ rfl)) rfl rfl rfl (w_n rfl) ?_
  refine TL_q (.bool false) (fun _ _ hρ _ => r_move (hρ _ _ rfl)) rfl rfl rfl (w_n rfl) ?_
  refine TL_q (.slice a px.length cap) (fun _ _ hρ _ => r_move (hρ _ _ rfl)) rfl rfl rfl (want_y 17 rfl rfl rfl) ?_
  refine TL_q (.int .i64 ((px.length : Nat) : Int)) (fun _ _ hρ _ => r_len sl71 (hρ _ _ rfl)) rfl rfl rfl (want_y 17 rfl rfl rfl) ?_
  refine TL_q (.int .i64 ((p : Nat) : Int)) (fun _ _ hρ _ => r_move (hρ _ _ rfl)) rfl rfl rfl (want_y 17 rfl rfl rfl) ?_
  refine TL_q (.int .i64 ((q : Nat) : Int)) (fun _ _ hρ _ => r_as (r_quo (hρ _ _ rfl) (hρ _ _ rfl) (by omega)) (int_as (by rw [hlen, quo_pq hp.1]; exact wrap64 (by omega) (by omega)))) rfl rfl rfl (want_y 17 rfl rfl rfl) ?_
  refine TL_call (.bool true) (fun _ _ hρ _ => r_call (args := [.int .i64 ((q : Nat) : Int)]) (enters_of Try.func81 (by kernel_rfl) rfl) (hρ _ _ rfl) ((cons2 (hρ _ _ rfl) rfl)) rfl) (fun w _ => (side_c ((q : Nat) : Int) w).mono fun _ _ h => ⟨h.1.trans (congrArg Ending.returned (bool_as (sideI_of hq))), h.2⟩) rfl rfl rfl (want_y 17 rfl rfl rfl) ?_
  refine TL_q (.bool false) (fun _ _ hρ _ => r_not (b := true) (hρ _ _ rfl)) rfl rfl rfl (want_y 17 rfl rfl rfl) ?_
  refine TL_q (.bool false) (fun _ _ hρ _ => r_pick_f (hρ _ _ rfl) (hρ _ _ rfl)) rfl rfl rfl (w_n rfl) ?_
  refine TL_seq ?_
  refine T_cond_f rfl ?_
  refine T_skip' ?_
  refine p_seq ?_
  refine T_seq (T_region ?_)
  refine TL_q (.slice a px.length cap) (fun _ _ hρ _ => r_move (hρ _ _ rfl)) rfl rfl rfl (w_n rfl) ?_
  refine TL_q (.int .i64 ((px.length : Nat) : Int)) (fun _ _ hρ _ => r_len sl71 (hρ _ _ rfl)) rfl rfl rfl (w_n rfl) ?_
  refine TL_op (ι := Nat) (fun B => .slice (some ⟨B, 0, none⟩) px.length px.length) _ (fun _ _ hρ hm => o_make (n := px.length) (cap := px.length) (z := .agg #[.int .u8 0, .int .u8 0, .int .u8 0, .int .u8 0]) (f := C4.cells) (u := zeroC) 940 rfl (hρ _ _ rfl) (hρ _ _ rfl) sl71 by37 sz37 rfl (by kernel_rfl) rfl C4.cells_len (by omega) (by omega) (by omega) hm) rfl rfl rfl (w_n rfl) ?_
  intro B2
  refine TL_q (.slice (some ⟨B2, 0, none⟩) px.length px.length) (fun _ _ hρ _ => r_assign (hρ _ _ rfl)) rfl rfl rfl (w_n rfl) ?_
  refine TL_seq ?_
  refine T_seq (T_region ?_)
  refine TL_q (.slice (some ⟨B2, 0, none⟩) px.length px.length) (fun _ _ hρ _ => r_move (hρ _ _ rfl)) rfl rfl rfl (w_n rfl) ?_
  refine TL_q (.slice a px.length cap) (fun _ _ hρ _ => r_move (hρ _ _ rfl)) rfl rfl rfl (w_n rfl) ?_
  refine TL_op1 (.int .i64 ((px.length : Nat) : Int)) _ (fun _ _ hρ hm => o_copy (s := 4) (news := (px.flatMap C4.cells)) 940 rfl (hρ _ _ rfl) (hρ _ _ rfl) rfl sl71 sz37 (src_of C4.cells_len (hv.keep hm.ext)) (rep_ones2 C4.cells_one px) hm) rfl rfl rfl (w_n rfl) ?_
  refine TL_seq ?_
  refine T_seq (T_draw (V := [(0, .int .i64 ((p : Nat) : Int)), (1, .slice (some ⟨B2, 0, none⟩) px.length px.length), (2, .int .i64 ((px.length : Nat) : Int)), (3, .int .i64 ((p : Nat) : Int)), (4, .int .i64 ((q : Nat) : Int)), (5, .slice (some ⟨B2, 0, none⟩) px.length px.length), (6, .slice (some ⟨B2, 0, none⟩) px.length px.length), (7, .int .i64 ((px.length : Nat) : Int)), (8, .slice (some ⟨B2, 0, none⟩) px.length px.length), (9, .int .i64 ((px.length : Nat) : Int)), (10, .slice (some ⟨B2, 0, none⟩) px.length px.length), (11, .agg #[.int .i64 ((p : Nat) : Int), .int .i64 ((q : Nat) : Int), .slice (some ⟨B2, 0, none⟩) px.length px.length])]) [0, 0, 2, 0, 14, 0, 0, 64, 0, 256, 992, 2047, 4095, 8191] [[(0, none)], [(6, none)], [(33, some 1)], [(0, none)], [(34, some 2), (35, some 3)], [(6, none)], [(6, none)], [(38, some 6)], [(6, none)], [(40, some 8)], [(37, some 5), (39, some 7), (41, some 9)], [(32, some 0), (36, some 4), (42, some 10)], [(4, none), (43, some 11)], []] 4096 mixed (by kernel_rfl) ?_)
  refine G_step [0, 1, 2, 3, 4, 5, 6, 7, 8, 9, 10, 11] 12 [] (by kernel_rfl) (allM (all_cons (q_run (.int .i64 ((p : Nat) : Int)) rfl rfl (wv_n rfl) rfl (fun _ _ hρ _ => r_move (hρ _ _ rfl))) (all_cons (q_run (.slice (some ⟨B2, 0, none⟩) px.length px.length) rfl rfl (wv_n rfl) rfl (fun _ _ hρ _ => r_move (hρ _ _ rfl))) (all_cons (q_run (.int .i64 ((px.length : Nat) : Int)) rfl rfl (wv_n rfl) rfl (fun _ _ hρ _ => r_len sl71 (hρ _ _ rfl))) (all_cons (q_run (.int .i64 ((p : Nat) : Int)) rfl rfl (wv_n rfl) rfl (fun _ _ hρ _ => r_move (hρ _ _ rfl))) (all_cons (q_run (.int .i64 ((q : Nat) : Int)) rfl rfl (wv_n rfl) rfl (fun _ _ hρ _ => r_as (r_quo (hρ _ _ rfl) (hρ _ _ rfl) (by omega)) (int_as (by rw [hlen, quo_pq hp.1]; exact wrap64 (by omega) (by omega))))) (all_cons (q_run (.slice (some ⟨B2, 0, none⟩) px.length px.length) rfl rfl (wv_n rfl) rfl (fun _ _ hρ _ => r_move (hρ _ _ rfl))) (all_cons (q_run (.slice (some ⟨B2, 0, none⟩) px.length px.length) rfl rfl (wv_n rfl) rfl (fun _ _ hρ _ => r_move (hρ _ _ rfl))) (all_cons (q_run (.int .i64 ((px.length : Nat) : Int)) rfl rfl (wv_n rfl) rfl (fun _ _ hρ _ => r_len sl71 (hρ _ _ rfl))) (all_cons (q_run (.slice (some ⟨B2, 0, none⟩) px.length px.length) rfl rfl (wv_n rfl) rfl (fun _ _ hρ _ => r_move (hρ _ _ rfl))) (all_cons (q_run (.int .i64 ((px.length : Nat) : Int)) rfl rfl (wv_n rfl) rfl (fun _ _ hρ _ => r_len sl71 (hρ _ _ rfl))) (all_cons (q_run (.slice (some ⟨B2, 0, none⟩) px.length px.length) rfl rfl (wv_n rfl) rfl (fun ρ _ hρ _ => r_as (r_sliceS sl71 sz37 (hρ _ _ rfl) (bd_some (n := px.length) (hρ _ _ rfl)) (bd_some (n := px.length) (hρ _ _ rfl)) (bd_none ρ _) (by simp) (by omega) (by omega) (by omega)) (by simp))) (all_cons (q_run (.agg #[.int .i64 ((p : Nat) : Int), .int .i64 ((q : Nat) : Int), .slice (some ⟨B2, 0, none⟩) px.length px.length]) rfl rfl (wv_n rfl) rfl (fun _ _ hρ _ => r_build (vs := [(0, .int .i64 ((p : Nat) : Int)), (1, .int .i64 ((q : Nat) : Int)), (2, .slice (some ⟨B2, 0, none⟩) px.length px.length)]) (by kernel_rfl) (cons2 (pair2 (hρ _ _ rfl)) (cons2 (pair2 (hρ _ _ rfl)) (cons2 (pair2 (hρ _ _ rfl)) rfl))))) all_nil))))))))))))) (allM (all_cons ?_ all_nil))
  refine LOb_store 1 (.cells #[.int .i64 ((p : Nat) : Int), .int .i64 ((q : Nat) : Int), .slice (some ⟨B2, 0, none⟩) px.length px.length] 75) [(13, .int .i64 0)] rfl (wv_n rfl) rfl rfl rfl (fun _ _ hρ hm => r_store sz75 (hρ _ _ rfl) (hρ _ _ rfl) (hm.at 1 rfl) rfl rfl rfl rfl) (by kernel_rfl) ?_
  refine G_last [13] [(4, .pointer (some ⟨B1, 0, none⟩)), (5, .int .i64 0)] (by kernel_rfl) (allM (all_cons (q_run (.int .i64 0) rfl rfl (wv_n rfl) rfl (fun _ _ hρ _ => r_assign (hρ _ _ rfl))) all_nil)) (end_old rfl rfl (end_new 13 rfl rfl end_nil)) ?_
  refine T_ret' ?_
  refine ret_of rfl (.tuple #[.agg #[.int .i64 ((p : Nat) : Int), .int .i64 ((q : Nat) : Int), .slice (some ⟨B2, 0, none⟩) px.length px.length], .int .i64 0]) (fun tmps w hk hm => res2 rfl (res_cell (hk 4 _ rfl) (run_loadVar_agg ag75 sz75 (hm.at 1 rfl) (Nat.le_of_ble_eq_true rfl) rfl)) (res_tmp (hk 5 _ rfl))) (fun w hm => ?_)
  have hrow := hm.row 940 rfl
  exact ⟨some ⟨B2, 0, none⟩, _, rfl, hm.ext, hrow⟩

theorem sat_c (P p q : Nat) (px : List C4) (a : Option Addr) (cap : Nat) (w : World) (hP : hp w P = some (.cells #[.int .i64 (p : Int), .int .i64 (q : Int), .slice a px.length cap] 138)) (hv : SliceAt w a cap 4 C4.cells px) (hcap : cap ≤ Go.maxLen) (hp : 1 ≤ p ∧ p ≤ 8) (hq : 1 ≤ q ∧ q ≤ 8) (hlen : px.length = p * q) (x y : Nat) (hx : x < p) (hy : y < q) (c : C4) (hc : px[y * p + x]? = some c) : Calls Try.prog 91 #[.pointer (some ⟨P, 0, none⟩), .agg #[.int .i64 (x : Int), .int .i64 (y : Int)]] w fun e w' => e = .returned (.agg (C4.cells c).toArray) ∧ Below w.heap.size w w' := by
  have hvl := hv.1
  have h64 := size8 hp hq
  unfold Go.maxLen at hcap
  obtain ⟨b, of, cs, TY, fz, ha, hcr, hrr⟩ := hv.open (i := 0) (by omega)
  subst ha
  refine calls_of_T (l := [.pointer (some ⟨P, 0, none⟩), .agg #[.int .i64 ((x : Nat) : Int), .int .i64 ((y : Nat) : Int)]]) 23 Try.func91 rfl rfl rfl ?_
  show T _ _ _ [(0, .pointer (some ⟨P, 0, none⟩)), (1, .agg #[.int .i64 ((x : Nat) : Int), .int .i64 ((y : Nat) : Int)])] []
  refine T_seq (T_region ?_)
  refine TL_new 1 (.cells #[.int .i64 ((x : Nat) : Int), .int .i64 ((y : Nat) : Int)] 47) (fun B => .pointer (some ⟨B, 0, none⟩)) (fun _ _ hρ _ => r_box (hρ _ _ rfl) rfl) rfl rfl rfl (w_n rfl) ?_
  intro B1
  refine TL_new 2 (.cells #[.int .u8 0, .int .u8 0, .int .u8 0, .int .u8 0] 37) (fun B => .pointer (some ⟨B, 0, none⟩)) (fun _ _ _ _ => r_alloc (v := .agg #[.int .u8 0, .int .u8 0, .int .u8 0, .int .u8 0]) (by kernel_rfl) rfl) rfl rfl rfl (w_n rfl) ?_
  intro B2
  refine TL_seq ?_
  have hxy := in_px hx hy
  refine T_seq (T_draw (V := [(0, .pointer (some ⟨P, 0, none⟩)), (1, .pointer (some ⟨P, 0, none⟩)), (2, .pointer (some ⟨P, 0, none⟩)), (3, .pointer (some ⟨P, 2, none⟩)), (4, .slice (some ⟨b, of, none⟩) px.length cap), (5, .pointer (some ⟨B1, 1, none⟩)), (6, .int .i64 ((y : Nat) : Int)), (7, .pointer (some ⟨P, 0, none⟩)), (8, .pointer (some ⟨P, 0, none⟩)), (9, .pointer (some ⟨P, 0, none⟩)), (10, .pointer (some ⟨P, 0, none⟩)), (11, .int .i64 ((p : Nat) : Int)), (12, .int .i64 ((y * p : Nat) : Int)), (13, .pointer (some ⟨B1, 0, none⟩)), (14, .int .i64 ((x : Nat) : Int)), (15, .int .i64 ((y * p + x : Nat) : Int)), (16, .pointer (some ⟨b, of + (y * p + x) * 4, none⟩)), (17, .agg #[.int .u8 c.r, .int .u8 c.g, .int .u8 c.b, .int .u8 c.a])]) [0, 1, 3, 7, 15, 0, 32, 0, 128, 384, 896, 1920, 4064, 0, 8192, 32736, 65535, 131071, 262143] [[(0, none)], [(5, some 0)], [(6, some 1)], [(7, some 2)], [(8, some 3)], [(3, none)], [(10, some 5)], [(0, none)], [(12, some 7)], [(13, some 8)], [(14, some 9)], [(15, some 10)], [(11, some 6), (16, some 11)], [(3, none)], [(18, some 13)], [(17, some 12), (19, some 14)], [(9, some 4), (20, some 15)], [(21, some 16)], [(4, none), (22, some 17)]] 262144 mixed (by kernel_rfl) ?_)
  refine G_step [0, 1, 2, 3, 4, 5, 6, 7, 8, 9, 10, 11, 12, 13, 14, 15, 16, 17] 18 [] (by kernel_rfl) (allM (all_cons (q_run (.pointer (some ⟨P, 0, none⟩)) rfl rfl (wv_n rfl) rfl (fun _ _ hρ _ => r_move (hρ _ _ rfl))) (all_cons (q_run (.pointer (some ⟨P, 0, none⟩)) rfl rfl (wv_n rfl) rfl (fun _ _ hρ _ => r_nilCheck (hρ _ _ rfl) rfl)) (all_cons (q_run (.pointer (some ⟨P, 0, none⟩)) rfl rfl (wv_n rfl) rfl (fun _ _ hρ _ => r_fieldAddr fl138_0 sz75 (hρ _ _ rfl))) (all_cons (q_run (.pointer (some ⟨P, 2, none⟩)) rfl rfl (wv_n rfl) rfl (fun _ _ hρ _ => r_fieldAddr fl75_2 sz71 (hρ _ _ rfl))) (all_cons (q_run (.slice (some ⟨b, of, none⟩) px.length cap) rfl rfl (wv_n rfl) rfl (fun _ _ hρ hm => r_load ag71 (hρ _ _ rfl) (hm.old hP) rfl)) (all_cons (q_run (.pointer (some ⟨B1, 1, none⟩)) rfl rfl (wv_n rfl) rfl (fun _ _ hρ _ => r_fieldAddr fl47_1 sz3 (hρ _ _ rfl))) (all_cons (q_run (.int .i64 ((y : Nat) : Int)) rfl rfl (wv_n rfl) rfl (fun _ _ hρ hm => r_load ag3 (hρ _ _ rfl) (hm.at 1 rfl) rfl)) (all_cons (q_run (.pointer (some ⟨P, 0, none⟩)) rfl rfl (wv_n rfl) rfl (fun _ _ hρ _ => r_move (hρ _ _ rfl))) (all_cons (q_run (.pointer (some ⟨P, 0, none⟩)) rfl rfl (wv_n rfl) rfl (fun _ _ hρ _ => r_nilCheck (hρ _ _ rfl) rfl)) (all_cons (q_run (.pointer (some ⟨P, 0, none⟩)) rfl rfl (wv_n rfl) rfl (fun _ _ hρ _ => r_fieldAddr fl138_0 sz75 (hρ _ _ rfl))) (all_cons (q_run (.pointer (some ⟨P, 0, none⟩)) rfl rfl (wv_n rfl) rfl (fun _ _ hρ _ => r_fieldAddr fl75_0 sz3 (hρ _ _ rfl))) (all_cons (q_run (.int .i64 ((p : Nat) : Int)) rfl rfl (wv_n rfl) rfl (fun _ _ hρ hm => r_load ag3 (hρ _ _ rfl) (hm.old hP) rfl)) (all_cons (q_run (.int .i64 ((y * p : Nat) : Int)) rfl rfl (wv_n rfl) rfl (fun _ _ hρ _ => r_as (r_mul (hρ _ _ rfl) (hρ _ _ rfl)) (int_as ((wrap64 (by omega) (by omega)).trans (by omega))))) (all_cons (q_run (.pointer (some ⟨B1, 0, none⟩)) rfl rfl (wv_n rfl) rfl (fun _ _ hρ _ => r_fieldAddr fl47_0 sz3 (hρ _ _ rfl))) (all_cons (q_run (.int .i64 ((x : Nat) : Int)) rfl rfl (wv_n rfl) rfl (fun _ _ hρ hm => r_load ag3 (hρ _ _ rfl) (hm.at 1 rfl) rfl)) (all_cons (q_run (.int .i64 ((y * p + x : Nat) : Int)) rfl rfl (wv_n rfl) rfl (fun _ _ hρ _ => r_as (r_add (hρ _ _ rfl) (hρ _ _ rfl)) (int_as ((wrap64 (by omega) (by omega)).trans (by omega))))) (all_cons (q_run (.pointer (some ⟨b, of + (y * p + x) * 4, none⟩)) rfl rfl (wv_n rfl) rfl (fun _ _ hρ _ => r_indexAddrS (i := y * p + x) sl71 sz37 (hρ _ _ rfl) (hρ _ _ rfl) (by omega))) (all_cons (q_run (.agg #[.int .u8 c.r, .int .u8 c.g, .int .u8 c.b, .int .u8 c.a]) rfl rfl (wv_n rfl) rfl (fun _ _ hρ hm => r_loadRow (f := C4.cells) (u := c) ag37 sz37 (hρ _ _ rfl) (hm.old hcr) hrr hc)) all_nil))))))))))))))))))) (allM (all_cons ?_ all_nil))
  refine LOb_store 2 (.cells #[.int .u8 c.r, .int .u8 c.g, .int .u8 c.b, .int .u8 c.a] 37) [] rfl (wv_n rfl) rfl rfl rfl (fun _ _ hρ hm => r_store sz37 (hρ _ _ rfl) (hρ _ _ rfl) (hm.at 2 rfl) rfl rfl rfl rfl) (by kernel_rfl) ?_
  refine G_last [] [(4, .pointer (some ⟨B2, 0, none⟩))] (by kernel_rfl) (allM all_nil) (end_old rfl rfl end_nil) ?_
  refine T_ret' ?_
  refine ret_of rfl (.agg #[.int .u8 c.r, .int .u8 c.g, .int .u8 c.b, .int .u8 c.a]) (fun tmps w hk hm => res1 rfl (res_cell (hk 4 _ rfl) (run_loadVar_agg ag37 sz37 (hm.at 2 rfl) (Nat.le_of_ble_eq_true rfl) rfl))) (fun w hm => ?_)
  exact ⟨rfl, hm.ext⟩
end Go.Proofs.Ytbiapeaghbndoaa
/- stamp: pixels moved, one by one. -/
namespace Go.Proofs.Ytbiapeaghbndoaa
open Go Go.RowKit
/-- The points of a field, row by row. -/
def ptsG (W H : Nat) : List (Nat × Nat) := (List.range (H * W)).map fun k => (k % W, k / W)
theorem ptsG_len (W H : Nat) : (ptsG W H).length = H * W := by simp [ptsG]
theorem ptsG_at {x y W H : Nat} (hx : x < W) (hy : y < H) : (ptsG W H)[y * W + x]? = some (x, y) := by
  obtain ⟨h1, h2, h3⟩ := row_in hx hy
  unfold ptsG
  rw [List.getElem?_map, List.getElem?_range h1, Option.map_some, h2, h3]
theorem ptsG_in {k W H : Nat} {x : Nat × Nat} (h : (ptsG W H)[k]? = some x) : x.1 < W ∧ x.2 < H ∧ x.2 * W + x.1 = k ∧ k < H * W := by
  unfold ptsG at h
  rw [List.getElem?_map] at h
  obtain ⟨j, hj, rfl⟩ := Option.map_eq_some_iff.1 h
  have hk := (List.getElem?_eq_some_iff.1 hj).1
  rw [List.getElem?_range (by simpa using hk)] at hj
  cases hj
  rw [List.length_range] at hk
  have h0 : 0 < W := by
    rcases Nat.eq_zero_or_pos W with e | e
    · rw [e, Nat.mul_zero] at hk; omega
    · exact e
  exact ⟨Nat.mod_lt _ h0, (Nat.div_lt_iff_lt_mul h0).2 hk, by rw [Nat.mul_comm]; exact Nat.div_add_mod k W, hk⟩
/-- Where the k-th pixel goes. -/
def tgt (W wide : Nat) (fx fy : Nat → Nat → Nat) (k : Nat) : Nat := fy (k % W) (k / W) * wide + fx (k % W) (k / W)
/-- The first k pixels moved, onto n. -/
def mvL (g : Nat → Nat) (px : List C4) (n : Nat) : Nat → List C4
  | 0 => List.replicate n zeroC
  | k + 1 => (mvL g px n k).set (g k) (get px k)
theorem mvL_len (g : Nat → Nat) (px : List C4) (n : Nat) : ∀ k, (mvL g px n k).length = n
  | 0 => by simp [mvL]
  | k + 1 => by rw [mvL, List.length_set]; exact mvL_len g px n k
theorem get_of {l : List C4} {i : Nat} {c : C4} (h : l[i]? = some c) : get l i = c := by
  unfold get
  rw [List.getD_eq_getElem?_getD, h]; rfl
theorem mvL_step {W H wide n k : Nat} {fx fy : Nat → Nat → Nat} {px : List C4} {x : Nat × Nat} {c : C4} (hx : (ptsG W H)[k]? = some x) (hc : px[x.2 * W + x.1]? = some c) : (mvL (tgt W wide fx fy) px n k).set (fy x.1 x.2 * wide + fx x.1 x.2) c = mvL (tgt W wide fx fy) px n (k + 1) := by
  obtain ⟨h1, h2, h3, h4⟩ := ptsG_in hx
  obtain ⟨-, h5, h6⟩ := row_in h1 h2
  rw [h3] at h5 h6 hc
  show _ = (mvL (tgt W wide fx fy) px n k).set (tgt W wide fx fy k) (get px k)
  unfold tgt
  rw [h5, h6, get_of hc]
end Go.Proofs.Ytbiapeaghbndoaa
/- canvas: places, moved. Printed by a program of this seat's prover. -/
namespace Go.Proofs.Ytbiapeaghbndoaa
open Go Go.RowKit
set_option maxRecDepth 10000
theorem places_iter {ι : Type} (w₀ : World) (p : Nat → ι → Prop) (LJ : Nat → ι → Heap) (id bz P mw mh : Nat) (sv : Value) (hW : mw ≤ 64) (hH : mh ≤ 64) (hsz : ∀ k i, lk (LJ k i) id = some (.blk bz (.cells #[.pointer (some ⟨P, 0, none⟩)] 134))) (hP : ∀ k i w, MemOk w₀ (LJ k i) w → hp w P = some (.cells #[.int .i64 (mw : Int), .int .i64 (mh : Int), sv] 138)) :
    IterAt Try.prog w₀ 105 #[.pointer (some ⟨bz, 0, none⟩)] encPt (ptsG mw mh) p LJ := by
  intro l κ pX LX hY i₀ W₁ hp0 hm0
  show Calls _ _ #[.func (.yield l) #[] #[], .pointer (some ⟨bz, 0, none⟩)] _ _
  refine ht_of_T (l := [.func (.yield l) #[] #[], .pointer (some ⟨bz, 0, none⟩)]) (L := LJ 0 i₀) 29 Try.func105 rfl rfl rfl ?_ W₁ hm0
  show T _ _ _ [(0, .func (.yield l) #[] #[]), (1, .pointer (some ⟨bz, 0, none⟩))] (LJ 0 i₀)
  refine T_scope ?_
  refine T_label ?_
  refine T_seq (T_region ?_)
  refine TL_q (.pointer (some ⟨P, 0, none⟩)) (fun _ _ hρ hm => r_load ag134 (hρ _ _ rfl) (hm.at id (hsz _ _)) rfl) rfl rfl rfl (w_n rfl) ?_
  refine TL_q (.pointer (some ⟨P, 0, none⟩)) (fun _ _ hρ _ => r_nilCheck (hρ _ _ rfl) rfl) rfl rfl rfl (w_n rfl) ?_
  refine TL_q (.pointer (some ⟨P, 0, none⟩)) (fun _ _ hρ _ => r_fieldAddr fl138_0 sz75 (hρ _ _ rfl)) rfl rfl rfl (w_n rfl) ?_
  refine TL_q (.pointer (some ⟨P, 1, none⟩)) (fun _ _ hρ _ => r_fieldAddr fl75_1 sz3 (hρ _ _ rfl)) rfl rfl rfl (w_n rfl) ?_
  refine TL_q (.int .i64 ((mh : Nat) : Int)) (fun _ _ hρ hm => r_load ag3 (hρ _ _ rfl) (hP _ _ _ hm) rfl) rfl rfl rfl (w_n rfl) ?_
  refine TL_q (.int .i64 0) (fun _ _ hρ _ => r_move (hρ _ _ rfl)) rfl rfl rfl (w_n rfl) ?_
  refine TL_seq ?_
  refine T_block ?_
  refine T_loopE (ι := Nat × ι) (fun (z : Nat × ι) => match z with | (y, i) => y ≤ mh ∧ p (y * mw) i) (fun (z : Nat × ι) => match z with | (y, i) => [(0, .func (.yield l) #[] #[]), (1, .pointer (some ⟨bz, 0, none⟩)), (9, .int .i64 ((mh : Nat) : Int)), (10, .int .i64 ((y : Nat) : Int))]) (fun (z : Nat × ι) => match z with | (y, i) => (LJ (y * mw) i)) (fun (z : Nat × ι) => match z with | (y, i) => mh - y) (0, i₀) ⟨Nat.zero_le _, by rw [Nat.zero_mul]; exact hp0⟩ (sub_cons rfl (sub_cons rfl (sub_cons rfl (sub_cons rfl sub_nil)))) (by dsimp only; rw [Nat.zero_mul]) ?_
  rintro ⟨y, i⟩ hp
  obtain ⟨hy, hpi⟩ := hp
  show T _ _ _ [(0, .func (.yield l) #[] #[]), (1, .pointer (some ⟨bz, 0, none⟩)), (9, .int .i64 ((mh : Nat) : Int)), (10, .int .i64 ((y : Nat) : Int))] (LJ (y * mw) i)
  refine T_seq (T_region ?_)
  refine TL_q (.bool (decide (((y : Nat) : Int) < ((mh : Nat) : Int)))) (fun _ _ hρ _ => r_lss (hρ _ _ rfl) (hρ _ _ rfl)) rfl rfl rfl (w_n rfl) ?_
  refine TL_seq ?_
  refine T_seq ?_
  refine T_cond rfl (fun h1 => ?_) (fun h1 => ?_)
  · replace h1 := of_decide_eq_true h1
    refine T_skip' ?_
    refine p_seq ?_
    refine T_seq ?_
    refine T_block ?_
    refine T_seq (T_region ?_)
    refine TL_q (.int .i64 ((y : Nat) : Int)) (fun _ _ hρ _ => r_move (hρ _ _ rfl)) rfl rfl rfl (w_n rfl) ?_
    refine TL_q (.int .i64 ((y : Nat) : Int)) (fun _ _ hρ _ => r_assign (hρ _ _ rfl)) rfl rfl rfl (w_n rfl) ?_
    refine TL_seq ?_
    refine T_seq (T_region ?_)
    refine TL_q (.pointer (some ⟨P, 0, none⟩)) (fun _ _ hρ hm => r_load ag134 (hρ _ _ rfl) (hm.at id (hsz _ _)) rfl) rfl rfl rfl (w_n rfl) ?_
    refine TL_q (.pointer (some ⟨P, 0, none⟩)) (fun _ _ hρ _ => r_nilCheck (hρ _ _ rfl) rfl) rfl rfl rfl (w_n rfl) ?_
    refine TL_q (.pointer (some ⟨P, 0, none⟩)) (fun _ _ hρ _ => r_fieldAddr fl138_0 sz75 (hρ _ _ rfl)) rfl rfl rfl (w_n rfl) ?_
    refine TL_q (.pointer (some ⟨P, 0, none⟩)) (fun _ _ hρ _ => r_fieldAddr fl75_0 sz3 (hρ _ _ rfl)) rfl rfl rfl (w_n rfl) ?_
    refine TL_q (.int .i64 ((mw : Nat) : Int)) (fun _ _ hρ hm => r_load ag3 (hρ _ _ rfl) (hP _ _ _ hm) rfl) rfl rfl rfl (w_n rfl) ?_
    refine TL_q (.int .i64 0) (fun _ _ hρ _ => r_move (hρ _ _ rfl)) rfl rfl rfl (w_n rfl) ?_
    refine TL_seq ?_
    refine T_block ?_
    refine T_loopE (ι := Nat × ι) (fun (z : Nat × ι) => match z with | (x, i) => x ≤ mw ∧ p (y * mw + x) i) (fun (z : Nat × ι) => match z with | (x, i) => [(0, .func (.yield l) #[] #[]), (1, .pointer (some ⟨bz, 0, none⟩)), (9, .int .i64 ((mh : Nat) : Int)), (10, .int .i64 ((y : Nat) : Int)), (11, .bool (decide (((y : Nat) : Int) < ((mh : Nat) : Int)))), (12, .int .i64 ((y : Nat) : Int)), (3, .int .i64 ((y : Nat) : Int)), (13, .pointer (some ⟨P, 0, none⟩)), (14, .pointer (some ⟨P, 0, none⟩)), (15, .pointer (some ⟨P, 0, none⟩)), (16, .pointer (some ⟨P, 0, none⟩)), (17, .int .i64 ((mw : Nat) : Int)), (18, .int .i64 ((x : Nat) : Int))]) (fun (z : Nat × ι) => match z with | (x, i) => (LJ (y * mw + x) i)) (fun (z : Nat × ι) => match z with | (x, i) => mw - x) (0, i) ⟨Nat.zero_le _, hpi⟩ (sub_cons rfl (sub_cons rfl (sub_cons rfl (sub_cons rfl (sub_cons rfl (sub_cons rfl (sub_cons rfl (sub_cons rfl (sub_cons rfl (sub_cons rfl (sub_cons rfl (sub_cons rfl (sub_cons rfl sub_nil))))))))))))) rfl ?_
    rintro ⟨x, i⟩ hp
    obtain ⟨hx, hp2⟩ := hp
    show T _ _ _ [(0, .func (.yield l) #[] #[]), (1, .pointer (some ⟨bz, 0, none⟩)), (9, .int .i64 ((mh : Nat) : Int)), (10, .int .i64 ((y : Nat) : Int)), (11, .bool (decide (((y : Nat) : Int) < ((mh : Nat) : Int)))), (12, .int .i64 ((y : Nat) : Int)), (3, .int .i64 ((y : Nat) : Int)), (13, .pointer (some ⟨P, 0, none⟩)), (14, .pointer (some ⟨P, 0, none⟩)), (15, .pointer (some ⟨P, 0, none⟩)), (16, .pointer (some ⟨P, 0, none⟩)), (17, .int .i64 ((mw : Nat) : Int)), (18, .int .i64 ((x : Nat) : Int))] (LJ (y * mw + x) i)
    refine T_seq (T_region ?_)
    refine TL_q (.bool (decide (((x : Nat) : Int) < ((mw : Nat) : Int)))) (fun _ _ hρ _ => r_lss (hρ _ _ rfl) (hρ _ _ rfl)) rfl rfl rfl (w_n rfl) ?_
    refine TL_seq ?_
    refine T_seq ?_
    refine T_cond rfl (fun h2 => ?_) (fun h2 => ?_)
    · replace h2 := of_decide_eq_true h2
      refine T_skip' ?_
      refine p_seq ?_
      refine T_seq ?_
      refine T_block ?_
      refine T_seq (T_region ?_)
      refine TL_q (.int .i64 ((x : Nat) : Int)) (fun _ _ hρ _ => r_move (hρ _ _ rfl)) rfl rfl rfl (w_n rfl) ?_
      refine TL_q (.int .i64 ((x : Nat) : Int)) (fun _ _ hρ _ => r_assign (hρ _ _ rfl)) rfl rfl rfl (w_n rfl) ?_
      refine TL_seq ?_
      refine T_seq (T_region ?_)
      refine TL_q (.func (.yield l) #[] #[]) (fun _ _ hρ _ => r_move (hρ _ _ rfl)) rfl rfl rfl (w_n rfl) ?_
      refine TL_q (.int .i64 ((x : Nat) : Int)) (fun _ _ hρ _ => r_move (hρ _ _ rfl)) rfl rfl rfl (w_n rfl) ?_
      refine TL_q (.int .i64 ((y : Nat) : Int)) (fun _ _ hρ _ => r_move (hρ _ _ rfl)) rfl rfl rfl (w_n rfl) ?_
      refine TL_q (.agg #[.int .i64 ((x : Nat) : Int), .int .i64 ((y : Nat) : Int)]) (fun _ _ hρ _ => r_build (vs := [(0, .int .i64 ((x : Nat) : Int)), (1, .int .i64 ((y : Nat) : Int))]) (by kernel_rfl) (cons2 (pair2 (hρ _ _ rfl)) (cons2 (pair2 (hρ _ _ rfl)) rfl))) rfl rfl rfl (w_n rfl) ?_
      refine TL_yieldB (fun i => p (y * mw + x + 1) i) (fun i => LJ (y * mw + x + 1) i) pX LX rfl (fun _ _ hρ _ => r_yield (hρ _ _ rfl) ((cons2 (hρ _ _ rfl) rfl))) (fun W hm => hY (y * mw + x) (x, y) i W (ptsG_at (by omega) (by omega)) hp2 hm) rfl rfl rfl (w_n rfl) ?_
      intro yx1 hyx1
      refine TL_q (.bool (!yx1.isLeft)) (fun _ _ hρ _ => r_not (b := yx1.isLeft) (hρ _ _ rfl)) rfl rfl rfl (w_n rfl) ?_
      refine TL_seq ?_
      refine T_cond rfl (fun h3 => ?_) (fun h3 => ?_)
      · replace h3 := bnot_t h3
        obtain ⟨j, rfl⟩ := isR h3
        refine T_exit' ?_
        refine p_blk_o rfl ?_
        refine p_then_x ?_
        refine p_then_x ?_
        refine p_blk_o rfl ?_
        refine p_blk_o rfl ?_
        refine p_then_x ?_
        refine p_then_x ?_
        refine p_blk_x ?_
        refine p_ng_n ?_
        refine p_end ?_
        refine ret_of rfl (.tuple #[]) (fun tmps w hk hm => results_none rfl _ _ _) (fun w hm => ?_)
        first
          | exact ⟨⟨_, rfl⟩, .inr ⟨j, hyx1, hm⟩⟩
          | (have hy8 : y = mh := (by omega); subst hy8; exact ⟨⟨_, rfl⟩, .inl ⟨i, by rw [ptsG_len]; exact hpi, by rw [ptsG_len]; exact hm⟩⟩)
      · replace h3 := bnot_f h3
        obtain ⟨i1, rfl⟩ := isL h3
        refine T_skip' ?_
        refine p_blk_n ?_
        refine p_seq ?_
        refine T_region ?_
        refine TL_q (.int .i64 ((x + 1 : Nat) : Int)) (fun _ _ hρ _ => r_as (r_add (hρ _ _ rfl) (hρ _ _ rfl)) (int_as ((wrap64 (by omega) (by omega)).trans (by omega)))) rfl rfl rfl (w_n rfl) ?_
        refine TL_q (.int .i64 ((x + 1 : Nat) : Int)) (fun _ _ hρ _ => r_move (hρ _ _ rfl)) rfl rfl rfl (w_n rfl) ?_
        refine TL_nil ?_
        exact p_atE (x + 1, i1) ⟨⟨by omega, hyx1⟩, by dsimp only; omega⟩ (sub_cons rfl (sub_cons rfl (sub_cons rfl (sub_cons rfl (sub_cons rfl (sub_cons rfl (sub_cons rfl (sub_cons rfl (sub_cons rfl (sub_cons rfl (sub_cons rfl (sub_cons rfl (sub_cons rfl sub_nil))))))))))))) rfl
    · replace h2 := of_decide_eq_false h2
      refine T_exit' ?_
      refine p_then_x ?_
      refine p_then_x ?_
      refine p_blk_x ?_
      refine p_blk_n ?_
      refine p_seq ?_
      have hx8 : x = mw := by omega
      rw [hx8] at hp2 ⊢
      refine T_region ?_
      refine TL_q (.int .i64 ((y + 1 : Nat) : Int)) (fun _ _ hρ _ => r_as (r_add (hρ _ _ rfl) (hρ _ _ rfl)) (int_as ((wrap64 (by omega) (by omega)).trans (by omega)))) rfl rfl rfl (w_n rfl) ?_
      refine TL_q (.int .i64 ((y + 1 : Nat) : Int)) (fun _ _ hρ _ => r_move (hρ _ _ rfl)) rfl rfl rfl (w_n rfl) ?_
      refine TL_nil ?_
      have eW := row_end y mw
      rw [eW] at hp2 ⊢
      exact p_atE (y + 1, i) ⟨⟨by omega, hp2⟩, by dsimp only; omega⟩ (sub_cons rfl (sub_cons rfl (sub_cons rfl (sub_cons rfl sub_nil)))) rfl
  · replace h1 := of_decide_eq_false h1
    refine T_exit' ?_
    refine p_then_x ?_
    refine p_then_x ?_
    refine p_blk_x ?_
    refine p_ng_n ?_
    refine p_end ?_
    refine ret_of rfl (.tuple #[]) (fun tmps w hk hm => results_none rfl _ _ _) (fun w hm => ?_)
    first
      | exact ⟨⟨_, rfl⟩, .inr ⟨j, hyx1, hm⟩⟩
      | (have hy8 : y = mh := (by omega); subst hy8; exact ⟨⟨_, rfl⟩, .inl ⟨i, by rw [ptsG_len]; exact hpi, by rw [ptsG_len]; exact hm⟩⟩)

theorem places_c (P : Nat) (w : World) : Calls Try.prog 95 #[.pointer (some ⟨P, 0, none⟩)] w fun e w' => ∃ q, e = .returned (.func (.func 105) #[] #[.pointer (some ⟨q, 0, none⟩)]) ∧ Below w.heap.size w w' ∧ (Res.blk q (.cells #[.pointer (some ⟨P, 0, none⟩)] 134)).ok w.heap.size w' := by
  refine calls_of_T (l := [.pointer (some ⟨P, 0, none⟩)]) 4 Try.func95 rfl rfl rfl ?_
  show T _ _ _ [(0, .pointer (some ⟨P, 0, none⟩))] []
  refine T_seq (T_region ?_)
  refine TL_new 1 (.cells #[.pointer (some ⟨P, 0, none⟩)] 134) (fun B => .pointer (some ⟨B, 0, none⟩)) (fun _ _ hρ _ => r_box (hρ _ _ rfl) rfl) rfl rfl rfl (w_n rfl) ?_
  intro B1
  refine TL_q (.nilFunc) (fun _ _ hρ _ => r_assign (hρ _ _ rfl)) rfl rfl rfl (w_n rfl) ?_
  refine TL_seq ?_
  refine T_seq (T_region ?_)
  refine TL_q (.func (.func 105) #[] #[.pointer (some ⟨B1, 0, none⟩)]) (fun _ _ hρ _ => r_makeFunc (by simp) (map_arr (cons2 (hρ _ _ rfl) rfl))) rfl rfl rfl (w_n rfl) ?_
  refine TL_q (.func (.func 105) #[] #[.pointer (some ⟨B1, 0, none⟩)]) (fun _ _ hρ _ => r_assign (hρ _ _ rfl)) rfl rfl rfl (w_n rfl) ?_
  refine TL_seq ?_
  refine T_ret' ?_
  refine ret_of rfl (.func (.func 105) #[] #[.pointer (some ⟨B1, 0, none⟩)]) (fun tmps w hk hm => res1 rfl (res_tmp (hk 2 _ rfl))) (fun w hm => ?_)
  exact ⟨B1, rfl, hm.ext, hm.own 1 _ rfl⟩

set_option maxHeartbeats 1000000 in
theorem moved_c (P p q : Nat) (px : List C4) (a : Option Addr) (cap : Nat) (w : World) (hP : hp w P = some (.cells #[.int .i64 (p : Int), .int .i64 (q : Int), .slice a px.length cap] 138)) (hv : SliceAt w a cap 4 C4.cells px) (hcap : cap ≤ Go.maxLen) (hp : 1 ≤ p ∧ p ≤ 8) (hq : 1 ≤ q ∧ q ≤ 8) (hlen : px.length = p * q) (wide high : Nat) (hwi : 1 ≤ wide ∧ wide ≤ 8) (hhi : 1 ≤ high ∧ high ≤ 8) (g : Nat) (cp : Array Value) (hE : Enters Try.prog g) (fx fy : Nat → Nat → Nat) (hin : ∀ x y, x < p → y < q → fx x y < wide ∧ fy x y < high) (hto : ∀ w2, Below w.heap.size w w2 → ∀ x y : Nat, x < p → y < q → Calls Try.prog g (#[.agg #[.int .i64 (x : Int), .int .i64 (y : Int)]] ++ cp) w2 fun e w3 => e = .returned (.agg #[.int .i64 (fx x y : Nat), .int .i64 (fy x y : Nat)]) ∧ Below w2.heap.size w2 w3) : Calls Try.prog 86 #[.pointer (some ⟨P, 0, none⟩), .int .i64 (wide : Int), .int .i64 (high : Int), .func (.func g) #[] cp] w fun e w' => ∃ a' cap', e = .returned (.agg #[.int .i64 (wide : Int), .int .i64 (high : Int), .slice a' (mvL (tgt p wide fx fy) px (wide * high) (q * p)).length cap']) ∧ Below w.heap.size w w' ∧ w'.ownsRow w.heap.size 37 4 (.slice a' (mvL (tgt p wide fx fy) px (wide * high) (q * p)).length cap') (mvL (tgt p wide fx fy) px (wide * high) (q * p)).length ((mvL (tgt p wide fx fy) px (wide * high) (q * p)).flatMap C4.cells) := by
  have hvl := hv.1
  have h64 := size8 hp hq
  have h642 := size8 hwi hhi
  unfold Go.maxLen at hcap
  refine calls_of_T (l := [.pointer (some ⟨P, 0, none⟩), .int .i64 ((wide : Nat) : Int), .int .i64 ((high : Nat) : Int), .func (.func g) #[] cp]) 47 Try.func86 rfl rfl rfl ?_
  show T _ _ _ [(0, .pointer (some ⟨P, 0, none⟩)), (1, .int .i64 ((wide : Nat) : Int)), (2, .int .i64 ((high : Nat) : Int)), (3, .func (.func g) #[] cp)] []
  refine T_seq (T_region ?_)
  refine TL_new 1 (.cells #[.pointer (some ⟨P, 0, none⟩)] 134) (fun B => .pointer (some ⟨B, 0, none⟩)) (fun _ _ hρ _ => r_box (hρ _ _ rfl) rfl) rfl rfl rfl (w_n rfl) ?_
  intro B1
  refine TL_new 2 (.cells #[.int .i64 ((wide : Nat) : Int)] 3) (fun B => .pointer (some ⟨B, 0, none⟩)) (fun _ _ hρ _ => r_box (hρ _ _ rfl) rfl) rfl rfl rfl (w_n rfl) ?_
  intro B2
  refine TL_new 3 (.cells #[.func (.func g) #[] cp] 139) (fun B => .pointer (some ⟨B, 0, none⟩)) (fun _ _ hρ _ => r_box (hρ _ _ rfl) rfl) rfl rfl rfl (w_n rfl) ?_
  intro B3
  refine TL_new 4 (.cells #[.int .i64 0, .int .i64 0, .slice none 0 0] 75) (fun B => .pointer (some ⟨B, 0, none⟩)) (fun _ _ _ _ => r_alloc (v := .agg #[.int .i64 0, .int .i64 0, .slice none 0 0]) (by kernel_rfl) rfl) rfl rfl rfl (w_n rfl) ?_
  intro B4
  refine TL_seq ?_
  refine T_join (ι := Nat × Nat × Nat) (fun _ => True) (fun (z : Nat × Nat × Nat) => match z with | (Bx5, Bx8, Bx9) => [(4, .pointer (some ⟨B1, 0, none⟩)), (5, .pointer (some ⟨B2, 0, none⟩)), (7, .pointer (some ⟨B3, 0, none⟩)), (8, .pointer (some ⟨B4, 0, none⟩)), (9, .pointer (some ⟨Bx9, 0, none⟩))]) (fun (z : Nat × Nat × Nat) => match z with | (Bx5, Bx8, Bx9) => [(1, .blk B1 (.cells #[.pointer (some ⟨P, 0, none⟩)] 134)), (2, .blk B2 (.cells #[.int .i64 ((wide : Nat) : Int)] 3)), (3, .blk B3 (.cells #[.func (.func g) #[] cp] 139)), (4, .blk B4 (.cells #[.int .i64 0, .int .i64 0, .slice none 0 0] 75)), (5, .row (.slice (some ⟨Bx5, 0, none⟩) (wide * high) (wide * high)) 37 4 (wide * high) ((List.replicate (wide * high) zeroC).flatMap C4.cells)), (6, .blk Bx8 (.cells #[.int .i64 ((wide : Nat) : Int), .int .i64 ((high : Nat) : Int), .slice (some ⟨Bx5, 0, none⟩) (wide * high) (wide * high)] 138)), (7, .blk Bx9 (.cells #[.pointer (some ⟨Bx8, 0, none⟩)] 134))]) (T_draw (V := [(0, .int .i64 ((wide : Nat) : Int)), (1, .int .i64 ((high : Nat) : Int)), (2, .int .i64 ((wide : Nat) : Int)), (3, .int .i64 ((high : Nat) : Int)), (4, .int .i64 ((wide * high : Nat) : Int))]) [0, 0, 0, 0, 12, 28, 63, 127, 255, 0, 1023] [[(5, none)], [(2, none)], [(5, none)], [(2, none)], [(14, some 2), (15, some 3)], [(16, some 4)], [(12, some 0), (13, some 1), (17, some 5)], [(18, some 6)], [(19, some 7)], [], [(9, some 9), (20, some 8)]] 1824 mixed (by kernel_rfl) ?_) (fun z hz => ?_)
  · skip
    refine G_step [0, 1, 2, 3, 4] 5 [9] (by kernel_rfl) (allM (all_cons (q_run (.int .i64 ((wide : Nat) : Int)) rfl rfl (wv_n rfl) rfl (fun _ _ hρ hm => r_load ag3 (hρ _ _ rfl) (hm.at 2 rfl) rfl)) (all_cons (q_run (.int .i64 ((high : Nat) : Int)) rfl rfl (wv_n rfl) rfl (fun _ _ hρ _ => r_move (hρ _ _ rfl))) (all_cons (q_run (.int .i64 ((wide : Nat) : Int)) rfl rfl (wv_n rfl) rfl (fun _ _ hρ hm => r_load ag3 (hρ _ _ rfl) (hm.at 2 rfl) rfl)) (all_cons (q_run (.int .i64 ((high : Nat) : Int)) rfl rfl (wv_n rfl) rfl (fun _ _ hρ _ => r_move (hρ _ _ rfl))) (all_cons (q_run (.int .i64 ((wide * high : Nat) : Int)) rfl rfl (wv_n rfl) rfl (fun _ _ hρ _ => r_as (r_mul (hρ _ _ rfl) (hρ _ _ rfl)) (int_as ((wrap64 (by omega) (by omega)).trans (by omega))))) all_nil)))))) (allM (all_cons ?_ (all_cons ?_ all_nil)))
    · skip
      refine LOb_op (ι := Nat) (fun B => .slice (some ⟨B, 0, none⟩) (wide * high) (wide * high)) _ (fun B => [(6, .agg #[.int .i64 ((wide : Nat) : Int), .int .i64 ((high : Nat) : Int), .slice (some ⟨B, 0, none⟩) (wide * high) (wide * high)]), (7, .agg #[.int .i64 ((wide : Nat) : Int), .int .i64 ((high : Nat) : Int), .slice (some ⟨B, 0, none⟩) (wide * high) (wide * high)])]) rfl (wv_n rfl) rfl rfl (fun _ _ hρ hm => o_make (n := wide * high) (cap := wide * high) (z := .agg #[.int .u8 0, .int .u8 0, .int .u8 0, .int .u8 0]) (f := C4.cells) (u := zeroC) 5 rfl (hρ _ _ rfl) (hρ _ _ rfl) sl71 by37 sz37 rfl (by kernel_rfl) rfl C4.cells_len (by omega) (by omega) (by omega) hm) (fun B => by kernel_rfl) ?_
      intro B5
      refine G_step [0, 1, 6, 7] 8 [9] (by kernel_rfl) (allM (all_cons (q_run (.int .i64 ((wide : Nat) : Int)) rfl rfl (wv_n rfl) rfl (fun _ _ hρ hm => r_load ag3 (hρ _ _ rfl) (hm.at 2 rfl) rfl)) (all_cons (q_run (.int .i64 ((high : Nat) : Int)) rfl rfl (wv_n rfl) rfl (fun _ _ hρ _ => r_move (hρ _ _ rfl))) (all_cons (q_run (.agg #[.int .i64 ((wide : Nat) : Int), .int .i64 ((high : Nat) : Int), .slice (some ⟨B5, 0, none⟩) (wide * high) (wide * high)]) rfl rfl (wv_n rfl) rfl (fun _ _ hρ _ => r_build (vs := [(0, .int .i64 ((wide : Nat) : Int)), (1, .int .i64 ((high : Nat) : Int)), (2, .slice (some ⟨B5, 0, none⟩) (wide * high) (wide * high))]) (by kernel_rfl) (cons2 (pair2 (hρ _ _ rfl)) (cons2 (pair2 (hρ _ _ rfl)) (cons2 (pair2 (hρ _ _ rfl)) rfl))))) (all_cons (q_run (.agg #[.int .i64 ((wide : Nat) : Int), .int .i64 ((high : Nat) : Int), .slice (some ⟨B5, 0, none⟩) (wide * high) (wide * high)]) rfl rfl (wv_n rfl) rfl (fun _ _ hρ _ => r_build (vs := [(0, .agg #[.int .i64 ((wide : Nat) : Int), .int .i64 ((high : Nat) : Int), .slice (some ⟨B5, 0, none⟩) (wide * high) (wide * high)])]) (by kernel_rfl) (cons2 (pair2 (hρ _ _ rfl)) rfl))) all_nil))))) (allM (all_cons ?_ (all_cons ?_ all_nil)))
      · skip
        refine LOb_new 6 (.cells #[.int .i64 ((wide : Nat) : Int), .int .i64 ((high : Nat) : Int), .slice (some ⟨B5, 0, none⟩) (wide * high) (wide * high)] 138) (fun B => .pointer (some ⟨B, 0, none⟩)) (fun B => []) rfl (wv_n rfl) rfl rfl (fun _ _ hρ _ => r_box (hρ _ _ rfl) rfl) (fun B => by kernel_rfl) ?_
        intro B6
        refine G_step [] 9 [] (by kernel_rfl) (allM all_nil) (allM (all_cons ?_ all_nil))
        refine LOb_new 7 (.cells #[.pointer none] 134) (fun B => .pointer (some ⟨B, 0, none⟩)) (fun B => []) rfl (wv_n rfl) rfl rfl (fun _ _ _ _ => r_alloc (v := .pointer none) (by kernel_rfl) rfl) (fun B => by kernel_rfl) ?_
        intro B7
        refine G_step [] 10 [] (by kernel_rfl) (allM all_nil) (allM (all_cons ?_ all_nil))
        refine LOb_store 7 (.cells #[.pointer (some ⟨B6, 0, none⟩)] 134) [] rfl (wv_n rfl) rfl rfl rfl (fun _ _ hρ hm => r_store sz134 (hρ _ _ rfl) (hρ _ _ rfl) (hm.at 7 rfl) rfl rfl rfl rfl) (by kernel_rfl) ?_
        exact G_lastQ [] [(4, .pointer (some ⟨B1, 0, none⟩)), (5, .pointer (some ⟨B2, 0, none⟩)), (7, .pointer (some ⟨B3, 0, none⟩)), (8, .pointer (some ⟨B4, 0, none⟩)), (9, .pointer (some ⟨B7, 0, none⟩))] (by kernel_rfl) (allM all_nil) (end_old rfl rfl (end_old rfl rfl (end_old rfl rfl (end_old rfl rfl (end_new 9 rfl rfl end_nil))))) (fun a w hf hm => At_intro (B5, B6, B7) trivial hf hm (sub_cons rfl (sub_cons rfl (sub_cons rfl (sub_cons rfl (sub_cons rfl sub_nil))))) (sub_cons rfl (sub_cons rfl (sub_cons rfl (sub_cons rfl (sub_cons rfl (sub_cons rfl (sub_cons rfl sub_nil))))))))
      · skip
        refine LOb_new 7 (.cells #[.pointer none] 134) (fun B => .pointer (some ⟨B, 0, none⟩)) (fun B => []) rfl (wv_n rfl) rfl rfl (fun _ _ _ _ => r_alloc (v := .pointer none) (by kernel_rfl) rfl) (fun B => by kernel_rfl) ?_
        intro B8
        refine G_step [0, 1, 6, 7] 8 [] (by kernel_rfl) (allM (all_cons (q_run (.int .i64 ((wide : Nat) : Int)) rfl rfl (wv_n rfl) rfl (fun _ _ hρ hm => r_load ag3 (hρ _ _ rfl) (hm.at 2 rfl) rfl)) (all_cons (q_run (.int .i64 ((high : Nat) : Int)) rfl rfl (wv_n rfl) rfl (fun _ _ hρ _ => r_move (hρ _ _ rfl))) (all_cons (q_run (.agg #[.int .i64 ((wide : Nat) : Int), .int .i64 ((high : Nat) : Int), .slice (some ⟨B5, 0, none⟩) (wide * high) (wide * high)]) rfl rfl (wv_n rfl) rfl (fun _ _ hρ _ => r_build (vs := [(0, .int .i64 ((wide : Nat) : Int)), (1, .int .i64 ((high : Nat) : Int)), (2, .slice (some ⟨B5, 0, none⟩) (wide * high) (wide * high))]) (by kernel_rfl) (cons2 (pair2 (hρ _ _ rfl)) (cons2 (pair2 (hρ _ _ rfl)) (cons2 (pair2 (hρ _ _ rfl)) rfl))))) (all_cons (q_run (.agg #[.int .i64 ((wide : Nat) : Int), .int .i64 ((high : Nat) : Int), .slice (some ⟨B5, 0, none⟩) (wide * high) (wide * high)]) rfl rfl (wv_n rfl) rfl (fun _ _ hρ _ => r_build (vs := [(0, .agg #[.int .i64 ((wide : Nat) : Int), .int .i64 ((high : Nat) : Int), .slice (some ⟨B5, 0, none⟩) (wide * high) (wide * high)])]) (by kernel_rfl) (cons2 (pair2 (hρ _ _ rfl)) rfl))) all_nil))))) (allM (all_cons ?_ all_nil))
        refine LOb_new 6 (.cells #[.int .i64 ((wide : Nat) : Int), .int .i64 ((high : Nat) : Int), .slice (some ⟨B5, 0, none⟩) (wide * high) (wide * high)] 138) (fun B => .pointer (some ⟨B, 0, none⟩)) (fun B => []) rfl (wv_n rfl) rfl rfl (fun _ _ hρ _ => r_box (hρ _ _ rfl) rfl) (fun B => by kernel_rfl) ?_
        intro B9
        refine G_step [] 10 [] (by kernel_rfl) (allM all_nil) (allM (all_cons ?_ all_nil))
        refine LOb_store 7 (.cells #[.pointer (some ⟨B9, 0, none⟩)] 134) [] rfl (wv_n rfl) rfl rfl rfl (fun _ _ hρ hm => r_store sz134 (hρ _ _ rfl) (hρ _ _ rfl) (hm.at 7 rfl) rfl rfl rfl rfl) (by kernel_rfl) ?_
        exact G_lastQ [] [(4, .pointer (some ⟨B1, 0, none⟩)), (5, .pointer (some ⟨B2, 0, none⟩)), (7, .pointer (some ⟨B3, 0, none⟩)), (8, .pointer (some ⟨B4, 0, none⟩)), (9, .pointer (some ⟨B8, 0, none⟩))] (by kernel_rfl) (allM all_nil) (end_old rfl rfl (end_old rfl rfl (end_old rfl rfl (end_old rfl rfl (end_new 9 rfl rfl end_nil))))) (fun a w hf hm => At_intro (B5, B9, B8) trivial hf hm (sub_cons rfl (sub_cons rfl (sub_cons rfl (sub_cons rfl (sub_cons rfl sub_nil))))) (sub_cons rfl (sub_cons rfl (sub_cons rfl (sub_cons rfl (sub_cons rfl (sub_cons rfl (sub_cons rfl sub_nil))))))))
    · skip
      refine LOb_new 7 (.cells #[.pointer none] 134) (fun B => .pointer (some ⟨B, 0, none⟩)) (fun B => []) rfl (wv_n rfl) rfl rfl (fun _ _ _ _ => r_alloc (v := .pointer none) (by kernel_rfl) rfl) (fun B => by kernel_rfl) ?_
      intro B10
      refine G_step [0, 1, 2, 3, 4] 5 [] (by kernel_rfl) (allM (all_cons (q_run (.int .i64 ((wide : Nat) : Int)) rfl rfl (wv_n rfl) rfl (fun _ _ hρ hm => r_load ag3 (hρ _ _ rfl) (hm.at 2 rfl) rfl)) (all_cons (q_run (.int .i64 ((high : Nat) : Int)) rfl rfl (wv_n rfl) rfl (fun _ _ hρ _ => r_move (hρ _ _ rfl))) (all_cons (q_run (.int .i64 ((wide : Nat) : Int)) rfl rfl (wv_n rfl) rfl (fun _ _ hρ hm => r_load ag3 (hρ _ _ rfl) (hm.at 2 rfl) rfl)) (all_cons (q_run (.int .i64 ((high : Nat) : Int)) rfl rfl (wv_n rfl) rfl (fun _ _ hρ _ => r_move (hρ _ _ rfl))) (all_cons (q_run (.int .i64 ((wide * high : Nat) : Int)) rfl rfl (wv_n rfl) rfl (fun _ _ hρ _ => r_as (r_mul (hρ _ _ rfl) (hρ _ _ rfl)) (int_as ((wrap64 (by omega) (by omega)).trans (by omega))))) all_nil)))))) (allM (all_cons ?_ all_nil))
      refine LOb_op (ι := Nat) (fun B => .slice (some ⟨B, 0, none⟩) (wide * high) (wide * high)) _ (fun B => [(6, .agg #[.int .i64 ((wide : Nat) : Int), .int .i64 ((high : Nat) : Int), .slice (some ⟨B, 0, none⟩) (wide * high) (wide * high)]), (7, .agg #[.int .i64 ((wide : Nat) : Int), .int .i64 ((high : Nat) : Int), .slice (some ⟨B, 0, none⟩) (wide * high) (wide * high)])]) rfl (wv_n rfl) rfl rfl (fun _ _ hρ hm => o_make (n := wide * high) (cap := wide * high) (z := .agg #[.int .u8 0, .int .u8 0, .int .u8 0, .int .u8 0]) (f := C4.cells) (u := zeroC) 5 rfl (hρ _ _ rfl) (hρ _ _ rfl) sl71 by37 sz37 rfl (by kernel_rfl) rfl C4.cells_len (by omega) (by omega) (by omega) hm) (fun B => by kernel_rfl) ?_
      intro B11
      refine G_step [0, 1, 6, 7] 8 [] (by kernel_rfl) (allM (all_cons (q_run (.int .i64 ((wide : Nat) : Int)) rfl rfl (wv_n rfl) rfl (fun _ _ hρ hm => r_load ag3 (hρ _ _ rfl) (hm.at 2 rfl) rfl)) (all_cons (q_run (.int .i64 ((high : Nat) : Int)) rfl rfl (wv_n rfl) rfl (fun _ _ hρ _ => r_move (hρ _ _ rfl))) (all_cons (q_run (.agg #[.int .i64 ((wide : Nat) : Int), .int .i64 ((high : Nat) : Int), .slice (some ⟨B11, 0, none⟩) (wide * high) (wide * high)]) rfl rfl (wv_n rfl) rfl (fun _ _ hρ _ => r_build (vs := [(0, .int .i64 ((wide : Nat) : Int)), (1, .int .i64 ((high : Nat) : Int)), (2, .slice (some ⟨B11, 0, none⟩) (wide * high) (wide * high))]) (by kernel_rfl) (cons2 (pair2 (hρ _ _ rfl)) (cons2 (pair2 (hρ _ _ rfl)) (cons2 (pair2 (hρ _ _ rfl)) rfl))))) (all_cons (q_run (.agg #[.int .i64 ((wide : Nat) : Int), .int .i64 ((high : Nat) : Int), .slice (some ⟨B11, 0, none⟩) (wide * high) (wide * high)]) rfl rfl (wv_n rfl) rfl (fun _ _ hρ _ => r_build (vs := [(0, .agg #[.int .i64 ((wide : Nat) : Int), .int .i64 ((high : Nat) : Int), .slice (some ⟨B11, 0, none⟩) (wide * high) (wide * high)])]) (by kernel_rfl) (cons2 (pair2 (hρ _ _ rfl)) rfl))) all_nil))))) (allM (all_cons ?_ all_nil))
      refine LOb_new 6 (.cells #[.int .i64 ((wide : Nat) : Int), .int .i64 ((high : Nat) : Int), .slice (some ⟨B11, 0, none⟩) (wide * high) (wide * high)] 138) (fun B => .pointer (some ⟨B, 0, none⟩)) (fun B => []) rfl (wv_n rfl) rfl rfl (fun _ _ hρ _ => r_box (hρ _ _ rfl) rfl) (fun B => by kernel_rfl) ?_
      intro B12
      refine G_step [] 10 [] (by kernel_rfl) (allM all_nil) (allM (all_cons ?_ all_nil))
      refine LOb_store 7 (.cells #[.pointer (some ⟨B12, 0, none⟩)] 134) [] rfl (wv_n rfl) rfl rfl rfl (fun _ _ hρ hm => r_store sz134 (hρ _ _ rfl) (hρ _ _ rfl) (hm.at 7 rfl) rfl rfl rfl rfl) (by kernel_rfl) ?_
      exact G_lastQ [] [(4, .pointer (some ⟨B1, 0, none⟩)), (5, .pointer (some ⟨B2, 0, none⟩)), (7, .pointer (some ⟨B3, 0, none⟩)), (8, .pointer (some ⟨B4, 0, none⟩)), (9, .pointer (some ⟨B10, 0, none⟩))] (by kernel_rfl) (allM all_nil) (end_old rfl rfl (end_old rfl rfl (end_old rfl rfl (end_old rfl rfl (end_new 9 rfl rfl end_nil))))) (fun a w hf hm => At_intro (B11, B12, B10) trivial hf hm (sub_cons rfl (sub_cons rfl (sub_cons rfl (sub_cons rfl (sub_cons rfl sub_nil))))) (sub_cons rfl (sub_cons rfl (sub_cons rfl (sub_cons rfl (sub_cons rfl (sub_cons rfl (sub_cons rfl sub_nil))))))))
  · skip
    obtain ⟨Bx5, Bx8, Bx9⟩ := z
    show T _ _ _ [(4, .pointer (some ⟨B1, 0, none⟩)), (5, .pointer (some ⟨B2, 0, none⟩)), (7, .pointer (some ⟨B3, 0, none⟩)), (8, .pointer (some ⟨B4, 0, none⟩)), (9, .pointer (some ⟨Bx9, 0, none⟩))] [(1, .blk B1 (.cells #[.pointer (some ⟨P, 0, none⟩)] 134)), (2, .blk B2 (.cells #[.int .i64 ((wide : Nat) : Int)] 3)), (3, .blk B3 (.cells #[.func (.func g) #[] cp] 139)), (4, .blk B4 (.cells #[.int .i64 0, .int .i64 0, .slice none 0 0] 75)), (5, .row (.slice (some ⟨Bx5, 0, none⟩) (wide * high) (wide * high)) 37 4 (wide * high) ((List.replicate (wide * high) zeroC).flatMap C4.cells)), (6, .blk Bx8 (.cells #[.int .i64 ((wide : Nat) : Int), .int .i64 ((high : Nat) : Int), .slice (some ⟨Bx5, 0, none⟩) (wide * high) (wide * high)] 138)), (7, .blk Bx9 (.cells #[.pointer (some ⟨Bx8, 0, none⟩)] 134))]
    refine T_seq ?_
    refine T_seq (T_region ?_)
    refine TL_q (.pointer (some ⟨P, 0, none⟩)) (fun _ _ hρ hm => r_load ag134 (hρ _ _ rfl) (hm.at 1 rfl) rfl) rfl rfl rfl (w_n rfl) ?_
    refine TL_callN (fun (_ : Nat) => True) (fun q13 => .func (.func 105) #[] #[.pointer (some ⟨q13, 0, none⟩)]) (fun q13 => [(8, .blk q13 (.cells #[.pointer (some ⟨P, 0, none⟩)] 134))]) (fun _ _ hρ _ => r_call (args := [.pointer (some ⟨P, 0, none⟩)]) (enters_of Try.func95 (by kernel_rfl) rfl) (hρ _ _ rfl) ((cons2 (hρ _ _ rfl) rfl)) rfl) (fun w _ => (places_c P w).mono fun e w' ⟨q, he, hb, hr⟩ => ⟨q, trivial, he, hb, newOk1 8 hr⟩) rfl rfl rfl (w_n rfl) ?_
    intro q13 _
    refine TL_seq ?_
    refine T_block ?_
    refine T_sub [(4, .pointer (some ⟨B1, 0, none⟩)), (5, .pointer (some ⟨B2, 0, none⟩)), (7, .pointer (some ⟨B3, 0, none⟩)), (8, .pointer (some ⟨B4, 0, none⟩)), (9, .pointer (some ⟨Bx9, 0, none⟩)), (22, .func (.func 105) #[] #[.pointer (some ⟨q13, 0, none⟩)])] [(8, .blk q13 (.cells #[.pointer (some ⟨P, 0, none⟩)] 134)), (1, .blk B1 (.cells #[.pointer (some ⟨P, 0, none⟩)] 134)), (2, .blk B2 (.cells #[.int .i64 ((wide : Nat) : Int)] 3)), (3, .blk B3 (.cells #[.func (.func g) #[] cp] 139)), (4, .blk B4 (.cells #[.int .i64 0, .int .i64 0, .slice none 0 0] 75)), (5, .row (.slice (some ⟨Bx5, 0, none⟩) (wide * high) (wide * high)) 37 4 (wide * high) ((List.replicate (wide * high) zeroC).flatMap C4.cells)), (6, .blk Bx8 (.cells #[.int .i64 ((wide : Nat) : Int), .int .i64 ((high : Nat) : Int), .slice (some ⟨Bx5, 0, none⟩) (wide * high) (wide * high)] 138)), (7, .blk Bx9 (.cells #[.pointer (some ⟨Bx8, 0, none⟩)] 134))] (sub_cons rfl (sub_cons rfl (sub_cons rfl (sub_cons rfl (sub_cons rfl (sub_cons rfl sub_nil)))))) (sub_cons rfl (sub_cons rfl (sub_cons rfl (sub_cons rfl (sub_cons rfl (sub_cons rfl (sub_cons rfl (sub_cons rfl sub_nil)))))))) ?_
    refine T_rangeB (ι := Unit) (ζ := Nat) (encs := encPt) (xs := ptsG p q) rfl rfl (enters_of Try.func105 (by kernel_rfl) rfl) (fun _ => rfl) rfl 801 802 rfl (fun (k : Nat) (_u : Unit) => True) (fun (k : Nat) (_u : Unit) => [(5, .row (.slice (some ⟨Bx5, 0, none⟩) (wide * high) (wide * high)) 37 4 (wide * high) ((mvL (tgt p wide fx fy) px (wide * high) k).flatMap C4.cells)), (8, .blk q13 (.cells #[.pointer (some ⟨P, 0, none⟩)] 134)), (1, .blk B1 (.cells #[.pointer (some ⟨P, 0, none⟩)] 134)), (2, .blk B2 (.cells #[.int .i64 ((wide : Nat) : Int)] 3)), (3, .blk B3 (.cells #[.func (.func g) #[] cp] 139)), (4, .blk B4 (.cells #[.int .i64 0, .int .i64 0, .slice none 0 0] 75)), (6, .blk Bx8 (.cells #[.int .i64 ((wide : Nat) : Int), .int .i64 ((high : Nat) : Int), .slice (some ⟨Bx5, 0, none⟩) (wide * high) (wide * high)] 138)), (7, .blk Bx9 (.cells #[.pointer (some ⟨Bx8, 0, none⟩)] 134))]) (fun _ _ => False) (fun _ => []) (fun x Bz => [(4, .pointer (some ⟨B1, 0, none⟩)), (5, .pointer (some ⟨B2, 0, none⟩)), (7, .pointer (some ⟨B3, 0, none⟩)), (8, .pointer (some ⟨B4, 0, none⟩)), (9, .pointer (some ⟨Bx9, 0, none⟩)), (22, .func (.func 105) #[] #[.pointer (some ⟨q13, 0, none⟩)]), (10, .pointer (some ⟨Bz, 0, none⟩))]) (fun x Bz => [(10, .blk Bz (.cells #[.int .i64 ((x.1 : Nat) : Int), .int .i64 ((x.2 : Nat) : Int)] 47))]) (fun D l rec => places_iter _ _ _ 8 q13 P p q _ (by omega) (by omega) (fun _ _ => rfl) (fun _ _ _ hm => hm.old hP)) (fun _ _ => ⟨rfl, rfl⟩) (fun _ => ⟨rfl, rfl⟩) () trivial (sub_cons rfl (sub_cons rfl (sub_cons rfl (sub_cons rfl (sub_cons rfl (sub_cons rfl (sub_cons rfl (sub_cons rfl sub_nil)))))))) ?_ ?_ ?_ (fun _ _ _ h => h.elim)
    · intro D1 l1 rec1 k x _u hx1 hp1
      refine T_sub [(4, .pointer (some ⟨B1, 0, none⟩)), (5, .pointer (some ⟨B2, 0, none⟩)), (7, .pointer (some ⟨B3, 0, none⟩)), (8, .pointer (some ⟨B4, 0, none⟩)), (9, .pointer (some ⟨Bx9, 0, none⟩)), (22, .func (.func 105) #[] #[.pointer (some ⟨q13, 0, none⟩)]), (23, .agg #[.int .i64 ((x.1 : Nat) : Int), .int .i64 ((x.2 : Nat) : Int)])] [(801, .blk D1 (.deferred (some []))), (802, .blk l1 (.loop rec1)), (5, .row (.slice (some ⟨Bx5, 0, none⟩) (wide * high) (wide * high)) 37 4 (wide * high) ((mvL (tgt p wide fx fy) px (wide * high) k).flatMap C4.cells)), (8, .blk q13 (.cells #[.pointer (some ⟨P, 0, none⟩)] 134)), (1, .blk B1 (.cells #[.pointer (some ⟨P, 0, none⟩)] 134)), (2, .blk B2 (.cells #[.int .i64 ((wide : Nat) : Int)] 3)), (3, .blk B3 (.cells #[.func (.func g) #[] cp] 139)), (4, .blk B4 (.cells #[.int .i64 0, .int .i64 0, .slice none 0 0] 75)), (6, .blk Bx8 (.cells #[.int .i64 ((wide : Nat) : Int), .int .i64 ((high : Nat) : Int), .slice (some ⟨Bx5, 0, none⟩) (wide * high) (wide * high)] 138)), (7, .blk Bx9 (.cells #[.pointer (some ⟨Bx8, 0, none⟩)] 134))] (sub_cons rfl (sub_cons rfl (sub_cons rfl (sub_cons rfl (sub_cons rfl (sub_cons rfl (sub_cons rfl sub_nil))))))) (sub_cons rfl (sub_cons rfl (sub_cons rfl (sub_cons rfl (sub_cons rfl (sub_cons rfl (sub_cons rfl (sub_cons rfl (sub_cons rfl (sub_cons rfl sub_nil)))))))))) ?_
      refine T_region ?_
      refine TL_new 10 (.cells #[.int .i64 0, .int .i64 0] 47) (fun B => .pointer (some ⟨B, 0, none⟩)) (fun _ _ _ _ => r_alloc (v := .agg #[.int .i64 0, .int .i64 0]) (by kernel_rfl) rfl) rfl rfl rfl (w_n rfl) ?_
      intro B14
      refine TL_store 10 (.cells #[.int .i64 ((x.1 : Nat) : Int), .int .i64 ((x.2 : Nat) : Int)] 47) rfl (fun _ _ hρ hm => r_store sz47 (hρ _ _ rfl) (hρ _ _ rfl) (hm.at 10 rfl) rfl rfl rfl rfl) rfl rfl (w_n rfl) ?_
      refine TL_nil ?_
      exact p_at B14 trivial (sub_cons rfl (sub_cons rfl (sub_cons rfl (sub_cons rfl (sub_cons rfl (sub_cons rfl (sub_cons rfl sub_nil))))))) (sub_cons rfl (sub_cons rfl (sub_cons rfl (sub_cons rfl (sub_cons rfl (sub_cons rfl (sub_cons rfl (sub_cons rfl (sub_cons rfl (sub_cons rfl (sub_cons rfl sub_nil)))))))))))
    · intro D1 l1 rec1 k x _u Bz hx1 hp1
      show T _ _ _ [(4, .pointer (some ⟨B1, 0, none⟩)), (5, .pointer (some ⟨B2, 0, none⟩)), (7, .pointer (some ⟨B3, 0, none⟩)), (8, .pointer (some ⟨B4, 0, none⟩)), (9, .pointer (some ⟨Bx9, 0, none⟩)), (22, .func (.func 105) #[] #[.pointer (some ⟨q13, 0, none⟩)]), (10, .pointer (some ⟨Bz, 0, none⟩))] [(801, .blk D1 (.deferred (some []))), (802, .blk l1 (.loop { rec1 with state := .busy })), (10, .blk Bz (.cells #[.int .i64 ((x.1 : Nat) : Int), .int .i64 ((x.2 : Nat) : Int)] 47)), (5, .row (.slice (some ⟨Bx5, 0, none⟩) (wide * high) (wide * high)) 37 4 (wide * high) ((mvL (tgt p wide fx fy) px (wide * high) k).flatMap C4.cells)), (8, .blk q13 (.cells #[.pointer (some ⟨P, 0, none⟩)] 134)), (1, .blk B1 (.cells #[.pointer (some ⟨P, 0, none⟩)] 134)), (2, .blk B2 (.cells #[.int .i64 ((wide : Nat) : Int)] 3)), (3, .blk B3 (.cells #[.func (.func g) #[] cp] 139)), (4, .blk B4 (.cells #[.int .i64 0, .int .i64 0, .slice none 0 0] 75)), (6, .blk Bx8 (.cells #[.int .i64 ((wide : Nat) : Int), .int .i64 ((high : Nat) : Int), .slice (some ⟨Bx5, 0, none⟩) (wide * high) (wide * high)] 138)), (7, .blk Bx9 (.cells #[.pointer (some ⟨Bx8, 0, none⟩)] 134))]
      have hxi := ptsG_in hx1
      have hdl := mvL_len (tgt p wide fx fy) px (wide * high) k
      have hin2 := hin x.1 x.2 hxi.1 hxi.2.1
      have hti := in_px hin2.1 hin2.2
      obtain ⟨c, hc⟩ : ∃ c, px[x.2 * p + x.1]? = some c := ⟨_, List.getElem?_eq_getElem (by have := in_px hxi.1 hxi.2.1; omega)⟩
      refine T_block ?_
      refine T_seq (T_region ?_)
      refine TL_q (.func (.func g) #[] cp) (fun _ _ hρ hm => r_load ag139 (hρ _ _ rfl) (hm.at 3 rfl) rfl) rfl rfl rfl (w_n rfl) ?_
      refine TL_q (.agg #[.int .i64 ((x.1 : Nat) : Int), .int .i64 ((x.2 : Nat) : Int)]) (fun _ _ hρ hm => r_loadA ag47 sz47 (hρ _ _ rfl) (hm.at 10 rfl) rfl rfl) rfl rfl rfl (w_n rfl) ?_
      refine TL_call (.agg #[.int .i64 (((fx x.1 x.2) : Nat) : Int), .int .i64 (((fy x.1 x.2) : Nat) : Int)]) (fun _ _ hρ _ => r_call (args := [.agg #[.int .i64 ((x.1 : Nat) : Int), .int .i64 ((x.2 : Nat) : Int)]]) hE (hρ _ _ rfl) ((cons2 (hρ _ _ rfl) rfl)) (by simp)) (fun w hm => hto w hm.ext x.1 x.2 hxi.1 hxi.2.1) rfl rfl rfl (w_n rfl) ?_
      refine TL_new 11 (.cells #[.int .i64 0, .int .i64 0] 47) (fun B => .pointer (some ⟨B, 0, none⟩)) (fun _ _ _ _ => r_alloc (v := .agg #[.int .i64 0, .int .i64 0]) (by kernel_rfl) rfl) rfl rfl rfl (w_n rfl) ?_
      intro B15
      refine TL_store 11 (.cells #[.int .i64 (((fx x.1 x.2) : Nat) : Int), .int .i64 (((fy x.1 x.2) : Nat) : Int)] 47) rfl (fun _ _ hρ hm => r_store sz47 (hρ _ _ rfl) (hρ _ _ rfl) (hm.at 11 rfl) rfl rfl rfl rfl) rfl rfl (w_n rfl) ?_
      refine TL_seq ?_
      refine T_draw (V := [(0, .pointer (some ⟨Bx8, 0, none⟩)), (1, .pointer (some ⟨Bx8, 0, none⟩)), (2, .pointer (some ⟨Bx8, 0, none⟩)), (3, .pointer (some ⟨Bx8, 2, none⟩)), (4, .slice (some ⟨Bx5, 0, none⟩) (wide * high) (wide * high)), (5, .pointer (some ⟨B15, 1, none⟩)), (6, .int .i64 (((fy x.1 x.2) : Nat) : Int)), (7, .int .i64 ((wide : Nat) : Int)), (8, .int .i64 (((fy x.1 x.2) * wide : Nat) : Int)), (9, .pointer (some ⟨B15, 0, none⟩)), (10, .int .i64 (((fx x.1 x.2) : Nat) : Int)), (11, .int .i64 ((((fy x.1 x.2) * wide) + (fx x.1 x.2) : Nat) : Int)), (12, .pointer (some ⟨P, 0, none⟩)), (13, .agg #[.int .i64 ((x.1 : Nat) : Int), .int .i64 ((x.2 : Nat) : Int)])]) [0, 1, 3, 7, 15, 0, 32, 0, 224, 0, 512, 2016, 0, 0, 12288, 32767, 65535] [[(9, none)], [(27, some 0)], [(28, some 1)], [(29, some 2)], [(30, some 3)], [(11, none)], [(32, some 5)], [(5, none)], [(33, some 6), (34, some 7)], [(11, none)], [(36, some 9)], [(35, some 8), (37, some 10)], [(4, none)], [(10, none)], [(39, some 12), (40, some 13)], [(31, some 4), (38, some 11)], [(42, some 15), (41, some 14)]] 81920 mixed (by kernel_rfl) ?_
      refine G_step [0, 1, 2, 3, 4, 5, 6, 7, 8, 9, 10, 11, 12, 13] 14 [] (by kernel_rfl) (allM (all_cons (q_run (.pointer (some ⟨Bx8, 0, none⟩)) rfl rfl (wv_n rfl) rfl (fun _ _ hρ hm => r_load ag134 (hρ _ _ rfl) (hm.at 7 rfl) rfl)) (all_cons (q_run (.pointer (some ⟨Bx8, 0, none⟩)) rfl rfl (wv_n rfl) rfl (fun _ _ hρ _ => r_nilCheck (hρ _ _ rfl) rfl)) (all_cons (q_run (.pointer (some ⟨Bx8, 0, none⟩)) rfl rfl (wv_n rfl) rfl (fun _ _ hρ _ => r_fieldAddr fl138_0 sz75 (hρ _ _ rfl))) (all_cons (q_run (.pointer (some ⟨Bx8, 2, none⟩)) rfl rfl (wv_n rfl) rfl (fun _ _ hρ _ => r_fieldAddr fl75_2 sz71 (hρ _ _ rfl))) (all_cons (q_run (.slice (some ⟨Bx5, 0, none⟩) (wide * high) (wide * high)) rfl rfl (wv_n rfl) rfl (fun _ _ hρ hm => r_load ag71 (hρ _ _ rfl) (hm.at 6 rfl) rfl)) (all_cons (q_run (.pointer (some ⟨B15, 1, none⟩)) rfl rfl (wv_n rfl) rfl (fun _ _ hρ _ => r_fieldAddr fl47_1 sz3 (hρ _ _ rfl))) (all_cons (q_run (.int .i64 (((fy x.1 x.2) : Nat) : Int)) rfl rfl (wv_n rfl) rfl (fun _ _ hρ hm => r_load ag3 (hρ _ _ rfl) (hm.at 11 rfl) rfl)) (all_cons (q_run (.int .i64 ((wide : Nat) : Int)) rfl rfl (wv_n rfl) rfl (fun _ _ hρ hm => r_load ag3 (hρ _ _ rfl) (hm.at 2 rfl) rfl)) (all_cons (q_run (.int .i64 (((fy x.1 x.2) * wide : Nat) : Int)) rfl rfl (wv_n rfl) rfl (fun _ _ hρ _ => r_as (r_mul (hρ _ _ rfl) (hρ _ _ rfl)) (int_as ((wrap64 (by omega) (by omega)).trans (by omega))))) (all_cons (q_run (.pointer (some ⟨B15, 0, none⟩)) rfl rfl (wv_n rfl) rfl (fun _ _ hρ _ => r_fieldAddr fl47_0 sz3 (hρ _ _ rfl))) (all_cons (q_run (.int .i64 (((fx x.1 x.2) : Nat) : Int)) rfl rfl (wv_n rfl) rfl (fun _ _ hρ hm => r_load ag3 (hρ _ _ rfl) (hm.at 11 rfl) rfl)) (all_cons (q_run (.int .i64 ((((fy x.1 x.2) * wide) + (fx x.1 x.2) : Nat) : Int)) rfl rfl (wv_n rfl) rfl (fun _ _ hρ _ => r_as (r_add (hρ _ _ rfl) (hρ _ _ rfl)) (int_as ((wrap64 (by omega) (by omega)).trans (by omega))))) (all_cons (q_run (.pointer (some ⟨P, 0, none⟩)) rfl rfl (wv_n rfl) rfl (fun _ _ hρ hm => r_load ag134 (hρ _ _ rfl) (hm.at 1 rfl) rfl)) (all_cons (q_run (.agg #[.int .i64 ((x.1 : Nat) : Int), .int .i64 ((x.2 : Nat) : Int)]) rfl rfl (wv_n rfl) rfl (fun _ _ hρ hm => r_loadA ag47 sz47 (hρ _ _ rfl) (hm.at 10 rfl) rfl rfl)) all_nil))))))))))))))) (allM (all_cons ?_ all_nil))
      refine LOb_call (.agg #[.int .u8 c.r, .int .u8 c.g, .int .u8 c.b, .int .u8 c.a]) [(15, .pointer (some ⟨Bx5, 0 + (((fy x.1 x.2) * wide) + (fx x.1 x.2)) * 4, none⟩))] rfl (wv_n rfl) rfl rfl (fun _ _ hρ _ => r_call (args := [.pointer (some ⟨P, 0, none⟩), .agg #[.int .i64 ((x.1 : Nat) : Int), .int .i64 ((x.2 : Nat) : Int)]]) (enters_of Try.func91 (by kernel_rfl) rfl) (hρ _ _ rfl) ((cons2 (hρ _ _ rfl) (cons2 (hρ _ _ rfl) rfl))) rfl) (fun w hm => sat_c P p q px a cap w (hm.old hP) (hv.keep hm.ext) hcap hp hq hlen x.1 x.2 hxi.1 hxi.2.1 c hc) (by kernel_rfl) ?_
      refine G_step [0, 1, 2, 3, 4, 5, 6, 7, 8, 9, 10, 11, 15] 16 [] (by kernel_rfl) (allM (all_cons (q_run (.pointer (some ⟨Bx8, 0, none⟩)) rfl rfl (wv_n rfl) rfl (fun _ _ hρ hm => r_load ag134 (hρ _ _ rfl) (hm.at 7 rfl) rfl)) (all_cons (q_run (.pointer (some ⟨Bx8, 0, none⟩)) rfl rfl (wv_n rfl) rfl (fun _ _ hρ _ => r_nilCheck (hρ _ _ rfl) rfl)) (all_cons (q_run (.pointer (some ⟨Bx8, 0, none⟩)) rfl rfl (wv_n rfl) rfl (fun _ _ hρ _ => r_fieldAddr fl138_0 sz75 (hρ _ _ rfl))) (all_cons (q_run (.pointer (some ⟨Bx8, 2, none⟩)) rfl rfl (wv_n rfl) rfl (fun _ _ hρ _ => r_fieldAddr fl75_2 sz71 (hρ _ _ rfl))) (all_cons (q_run (.slice (some ⟨Bx5, 0, none⟩) (wide * high) (wide * high)) rfl rfl (wv_n rfl) rfl (fun _ _ hρ hm => r_load ag71 (hρ _ _ rfl) (hm.at 6 rfl) rfl)) (all_cons (q_run (.pointer (some ⟨B15, 1, none⟩)) rfl rfl (wv_n rfl) rfl (fun _ _ hρ _ => r_fieldAddr fl47_1 sz3 (hρ _ _ rfl))) (all_cons (q_run (.int .i64 (((fy x.1 x.2) : Nat) : Int)) rfl rfl (wv_n rfl) rfl (fun _ _ hρ hm => r_load ag3 (hρ _ _ rfl) (hm.at 11 rfl) rfl)) (all_cons (q_run (.int .i64 ((wide : Nat) : Int)) rfl rfl (wv_n rfl) rfl (fun _ _ hρ hm => r_load ag3 (hρ _ _ rfl) (hm.at 2 rfl) rfl)) (all_cons (q_run (.int .i64 (((fy x.1 x.2) * wide : Nat) : Int)) rfl rfl (wv_n rfl) rfl (fun _ _ hρ _ => r_as (r_mul (hρ _ _ rfl) (hρ _ _ rfl)) (int_as ((wrap64 (by omega) (by omega)).trans (by omega))))) (all_cons (q_run (.pointer (some ⟨B15, 0, none⟩)) rfl rfl (wv_n rfl) rfl (fun _ _ hρ _ => r_fieldAddr fl47_0 sz3 (hρ _ _ rfl))) (all_cons (q_run (.int .i64 (((fx x.1 x.2) : Nat) : Int)) rfl rfl (wv_n rfl) rfl (fun _ _ hρ hm => r_load ag3 (hρ _ _ rfl) (hm.at 11 rfl) rfl)) (all_cons (q_run (.int .i64 ((((fy x.1 x.2) * wide) + (fx x.1 x.2) : Nat) : Int)) rfl rfl (wv_n rfl) rfl (fun _ _ hρ _ => r_as (r_add (hρ _ _ rfl) (hρ _ _ rfl)) (int_as ((wrap64 (by omega) (by omega)).trans (by omega))))) (all_cons (q_run (.pointer (some ⟨Bx5, 0 + (((fy x.1 x.2) * wide) + (fx x.1 x.2)) * 4, none⟩)) rfl rfl (wv_n rfl) rfl (fun _ _ hρ _ => r_indexAddrS (i := ((fy x.1 x.2) * wide) + (fx x.1 x.2)) sl71 sz37 (hρ _ _ rfl) (hρ _ _ rfl) (by omega))) all_nil)))))))))))))) (allM (all_cons ?_ all_nil))
      refine LOb_storeRow (f := C4.cells) (l := (mvL (tgt p wide fx fy) px (wide * high) k)) (u := c) (k := (((fy x.1 x.2) * wide) + (fx x.1 x.2))) 5 [] rfl (mvL_len _ _ _ _).symm rfl (wv_n rfl) rfl rfl sz37 C4.cells_len (by omega) rfl rfl (by kernel_rfl) ?_
      refine G_lastQ [] [(8, .pointer (some ⟨B4, 0, none⟩))] (by kernel_rfl) (allM all_nil) (end_old rfl rfl end_nil) ?_
      refine p_blk_n ?_
      rw [mvL_step hx1 hc]
      exact p_round_n () trivial (sub_cons rfl (sub_cons rfl (sub_cons rfl (sub_cons rfl (sub_cons rfl (sub_cons rfl (sub_cons rfl (sub_cons rfl (sub_cons rfl (sub_cons rfl sub_nil))))))))))
    · intro D1 _u hp1
      rw [ptsG_len]
      refine p_sub [(4, .pointer (some ⟨B1, 0, none⟩)), (5, .pointer (some ⟨B2, 0, none⟩)), (7, .pointer (some ⟨B3, 0, none⟩)), (8, .pointer (some ⟨B4, 0, none⟩)), (9, .pointer (some ⟨Bx9, 0, none⟩)), (22, .func (.func 105) #[] #[.pointer (some ⟨q13, 0, none⟩)])] [(801, .blk D1 (.deferred (some []))), (8, .blk q13 (.cells #[.pointer (some ⟨P, 0, none⟩)] 134)), (1, .blk B1 (.cells #[.pointer (some ⟨P, 0, none⟩)] 134)), (2, .blk B2 (.cells #[.int .i64 ((wide : Nat) : Int)] 3)), (3, .blk B3 (.cells #[.func (.func g) #[] cp] 139)), (4, .blk B4 (.cells #[.int .i64 0, .int .i64 0, .slice none 0 0] 75)), (6, .blk Bx8 (.cells #[.int .i64 ((wide : Nat) : Int), .int .i64 ((high : Nat) : Int), .slice (some ⟨Bx5, 0, none⟩) (wide * high) (wide * high)] 138)), (7, .blk Bx9 (.cells #[.pointer (some ⟨Bx8, 0, none⟩)] 134)), (5, .row (.slice (some ⟨Bx5, 0, none⟩) (wide * high) (wide * high)) 37 4 (wide * high) ((mvL (tgt p wide fx fy) px (wide * high) (q * p)).flatMap C4.cells))] (sub_cons rfl (sub_cons rfl (sub_cons rfl (sub_cons rfl (sub_cons rfl (sub_cons rfl sub_nil)))))) (sub_cons rfl (sub_cons rfl (sub_cons rfl (sub_cons rfl (sub_cons rfl (sub_cons rfl (sub_cons rfl (sub_cons rfl (sub_cons rfl sub_nil))))))))) ?_
      refine p_blk_n ?_
      refine p_seq ?_
      refine T_seq (T_region ?_)
      refine TL_q (.pointer (some ⟨Bx8, 0, none⟩)) (fun _ _ hρ hm => r_load ag134 (hρ _ _ rfl) (hm.at 7 rfl) rfl) rfl rfl rfl (w_n rfl) ?_
      refine TL_q (.pointer (some ⟨Bx8, 0, none⟩)) (fun _ _ hρ _ => r_nilCheck (hρ _ _ rfl) rfl) rfl rfl rfl (w_n rfl) ?_
      refine TL_q (.pointer (some ⟨Bx8, 0, none⟩)) (fun _ _ hρ _ => r_fieldAddr fl138_0 sz75 (hρ _ _ rfl)) rfl rfl rfl (w_n rfl) ?_
      refine TL_q (.agg #[.int .i64 ((wide : Nat) : Int), .int .i64 ((high : Nat) : Int), .slice (some ⟨Bx5, 0, none⟩) (wide * high) (wide * high)]) (fun _ _ hρ hm => r_loadA ag75 sz75 (hρ _ _ rfl) (hm.at 6 rfl) rfl rfl) rfl rfl rfl (w_n rfl) ?_
      refine TL_store 4 (.cells #[.int .i64 ((wide : Nat) : Int), .int .i64 ((high : Nat) : Int), .slice (some ⟨Bx5, 0, none⟩) (wide * high) (wide * high)] 75) rfl (fun _ _ hρ hm => r_store sz75 (hρ _ _ rfl) (hρ _ _ rfl) (hm.at 4 rfl) rfl rfl rfl rfl) rfl rfl (w_n rfl) ?_
      refine TL_seq ?_
      refine T_ret' ?_
      refine ret_of1 801 D1 rfl rfl (.agg #[.int .i64 ((wide : Nat) : Int), .int .i64 ((high : Nat) : Int), .slice (some ⟨Bx5, 0, none⟩) (wide * high) (wide * high)]) (fun tmps w hk hm => res1 rfl (res_cell (hk 8 _ rfl) (run_loadVar_agg ag75 sz75 (hm.at 4 rfl) (Nat.le_of_ble_eq_true rfl) rfl))) (fun w hm => ?_)
      have hrow := hm.row 5 rfl
      exact ⟨some ⟨Bx5, 0, none⟩, _, by rw [mvL_len], hm.ext, by rw [mvL_len]; exact hrow⟩
end Go.Proofs.Ytbiapeaghbndoaa
/- stamp: turned and flipped rows of pixels. -/
namespace Go.Proofs.Ytbiapeaghbndoaa
open Go Go.RowKit
theorem mvL_get {g h : Nat → Nat} {px : List C4} {n : Nat} (hgh : ∀ i, i < n → ∀ j, j < n → (g j = i ↔ j = h i)) : ∀ k, k ≤ n → ∀ i, i < n → (mvL g px n k)[i]? = some (if h i < k then get px (h i) else zeroC)
  | 0, _, i, hi => by simp [mvL, hi]
  | k + 1, hk, i, hi => by
    rw [mvL, List.getElem?_set, mvL_len]
    by_cases e : g k = i
    · rw [if_pos e, if_pos (by omega)]
      have e2 := (hgh i hi k (by omega)).1 e
      rw [← e2, if_pos (by omega)]
    · rw [if_neg e, mvL_get hgh k (by omega) i hi]
      have e2 : k ≠ h i := fun e3 => e ((hgh i hi k (by omega)).2 e3)
      by_cases e3 : h i < k
      · rw [if_pos e3, if_pos (by omega)]
      · rw [if_neg e3, if_neg (by omega)]
/-- n pixels, the i-th of them that of number h i. -/
def pick (h : Nat → Nat) (px : List C4) (n : Nat) : List C4 := (List.range n).map fun i => get px (h i)
theorem pick_len (h : Nat → Nat) (px : List C4) (n : Nat) : (pick h px n).length = n := by simp [pick]
theorem pick_get {h : Nat → Nat} {px : List C4} {n i : Nat} (hi : i < n) : (pick h px n)[i]? = some (get px (h i)) := by
  unfold pick
  rw [List.getElem?_map, List.getElem?_range hi]; rfl
theorem mvL_all {g h : Nat → Nat} {px : List C4} {n : Nat} (hgh : ∀ i, i < n → ∀ j, j < n → (g j = i ↔ j = h i)) (hh : ∀ i, i < n → h i < n) : mvL g px n n = pick h px n := by
  apply List.ext_getElem?
  intro i
  by_cases hi : i < n
  · rw [mvL_get hgh n (Nat.le_refl _) i hi, if_pos (hh i hi), pick_get hi]
  · rw [List.getElem?_eq_none (by rw [mvL_len]; omega), List.getElem?_eq_none (by rw [pick_len]; omega)]
theorem pick_id {px : List C4} {n : Nat} (h : px.length = n) : pick (fun i => i) px n = px := by
  apply List.ext_getElem?
  intro i
  by_cases hi : i < n
  · rw [pick_get hi]
    unfold get
    rw [List.getD_eq_getElem?_getD, List.getElem?_eq_getElem (by omega)]; rfl
  · rw [List.getElem?_eq_none (by rw [pick_len]; omega), List.getElem?_eq_none (by omega)]
/-- Where a turned pixel comes from. -/
def quarI (p q i : Nat) : Nat := (q - 1 - i % q) * p + i / q
def flipI (p i : Nat) : Nat := i / p * p + (p - 1 - i % p)
def quarL (p q : Nat) (px : List C4) : List C4 := pick (quarI p q) px (q * p)
def flpL (p q : Nat) (px : List C4) : List C4 := pick (flipI p) px (p * q)
theorem dm {k W H : Nat} (h : k < W * H) : k % W < W ∧ k / W < H ∧ k / W * W + k % W = k := by
  have h0 : 0 < W := by
    rcases Nat.eq_zero_or_pos W with e | e
    · rw [e, Nat.zero_mul] at h; omega
    · exact e
  exact ⟨Nat.mod_lt _ h0, (Nat.div_lt_iff_lt_mul h0).2 (by rw [Nat.mul_comm]; exact h), by rw [Nat.mul_comm]; exact Nat.div_add_mod k W⟩
theorem dm2 {x y W : Nat} (hx : x < W) : (y * W + x) % W = x ∧ (y * W + x) / W = y := by
  constructor
  · rw [Nat.mul_comm, Nat.mul_add_mod]; exact Nat.mod_eq_of_lt hx
  · rw [Nat.mul_comm, Nat.mul_add_div (by omega), Nat.div_eq_of_lt hx]; omega
theorem quarI_lt {p q i : Nat} (hi : i < q * p) : quarI p q i < q * p := by
  obtain ⟨h1, h2, h3⟩ := dm hi
  have := in_px (W := p) (H := q) h2 (show q - 1 - i % q < q by omega)
  rw [Nat.mul_comm q p]; exact this
theorem mv_quar {p q : Nat} (px : List C4) : mvL (tgt p q (fun _ y => q - 1 - y) (fun x _ => x)) px (q * p) (q * p) = quarL p q px := by
  refine mvL_all (fun i hi j hj => ?_) (fun i hi => quarI_lt hi)
  obtain ⟨h1, h2, h3⟩ := dm hi
  obtain ⟨k1, k2, k3⟩ := dm (W := p) (H := q) (by rw [Nat.mul_comm]; exact hj)
  unfold tgt quarI
  dsimp only
  generalize j / p = jy at *
  generalize j % p = jx at *
  generalize hz : i / q = iz at *
  generalize hu : i % q = iu at *
  obtain ⟨e1, e2⟩ := dm2 (x := q - 1 - jy) (y := jx) (W := q) (by omega)
  obtain ⟨e3, e4⟩ := dm2 (x := iz) (y := q - 1 - iu) (W := p) h2
  constructor
  · intro e
    rw [e, hu] at e1
    rw [e, hz] at e2
    rw [← k3, ← e2, e1, show q - 1 - (q - 1 - jy) = jy by omega]
  · intro e
    rw [← k3] at e
    obtain ⟨e5, e6⟩ := dm2 (x := jx) (y := jy) (W := p) k1
    rw [e, e3] at e5
    rw [e, e4] at e6
    rw [← h3, ← e5, ← e6, show q - 1 - (q - 1 - iu) = iu by omega]
theorem flipI_lt {p q i : Nat} (hi : i < p * q) : flipI p i < p * q := by
  obtain ⟨h1, h2, h3⟩ := dm hi
  exact in_px (W := p) (H := q) (show p - 1 - i % p < p by omega) h2
theorem mv_flip {p q : Nat} (px : List C4) : mvL (tgt p p (fun x _ => p - 1 - x) (fun _ y => y)) px (p * q) (q * p) = flpL p q px := by
  rw [Nat.mul_comm q p]
  refine mvL_all (fun i hi j hj => ?_) (fun i hi => flipI_lt hi)
  obtain ⟨h1, h2, h3⟩ := dm hi
  obtain ⟨k1, k2, k3⟩ := dm hj
  unfold tgt flipI
  dsimp only
  generalize hy : j / p = jy at *
  generalize hx : j % p = jx at *
  generalize hz : i / p = iz at *
  generalize hu : i % p = iu at *
  obtain ⟨e1, e2⟩ := dm2 (x := p - 1 - jx) (y := jy) (W := p) (by omega)
  obtain ⟨e3, e4⟩ := dm2 (x := p - 1 - iu) (y := iz) (W := p) (by omega)
  constructor
  · intro e
    rw [e, hu] at e1
    rw [e, hz] at e2
    rw [e2, e1, show p - 1 - (p - 1 - jx) = jx by omega, k3]
  · intro e
    rw [← e, hx] at e3
    rw [← e, hy] at e4
    rw [e4, e3, show p - 1 - (p - 1 - iu) = iu by omega, h3]
theorem mv_id {p q : Nat} {px : List C4} (h : px.length = p * q) : mvL (tgt p p (fun x _ => x) (fun _ y => y)) px (p * q) (q * p) = px := by
  rw [Nat.mul_comm q p]
  refine (mvL_all (h := fun i => i) (fun i hi j hj => ?_) (fun i hi => hi)).trans (pick_id h)
  obtain ⟨k1, k2, k3⟩ := dm hj
  unfold tgt
  dsimp only
  rw [k3]
theorem quarL_len (p q : Nat) (px : List C4) : (quarL p q px).length = q * p := pick_len _ _ _
/-- A stamp turned so often: its sizes, its pixels. -/
def turnS : Nat → Nat → Nat → List C4 → Nat × Nat × List C4
  | 0, p, q, px => (p, q, px)
  | n + 1, p, q, px => match turnS n p q px with
    | (p', q', l) => (q', p', quarL p' q' l)
theorem turnS_succ (n p q : Nat) (px : List C4) : turnS (n + 1) p q px = ((turnS n p q px).2.1, (turnS n p q px).1, quarL (turnS n p q px).1 (turnS n p q px).2.1 (turnS n p q px).2.2) := rfl
theorem turnS_ok {p q : Nat} {px : List C4} (hp : 1 ≤ p ∧ p ≤ 8) (hq : 1 ≤ q ∧ q ≤ 8) (h : px.length = p * q) : ∀ n, (1 ≤ (turnS n p q px).1 ∧ (turnS n p q px).1 ≤ 8) ∧ (1 ≤ (turnS n p q px).2.1 ∧ (turnS n p q px).2.1 ≤ 8) ∧ (turnS n p q px).2.2.length = (turnS n p q px).1 * (turnS n p q px).2.1
  | 0 => ⟨hp, hq, h⟩
  | n + 1 => by
    obtain ⟨h1, h2, h3⟩ := turnS_ok hp hq h n
    rw [turnS_succ]
    exact ⟨h2, h1, quarL_len _ _ _⟩
/-- So many quarters, of any number. -/
def q4 (n : Int) : Nat := ((n.tmod 4 + 4).tmod 4).toNat
theorem q4_eq (n : Int) : (n.tmod 4 + 4).tmod 4 = ((q4 n : Nat) : Int) := by
  have h1 := tmod_bd n (n := 4) (by decide)
  have h2 : 0 ≤ (n.tmod 4 + 4).tmod 4 := by
    rw [Int.tmod_eq_emod_of_nonneg (by omega)]
    exact Int.emod_nonneg _ (by decide)
  unfold q4
  omega
theorem q4_lt (n : Int) : q4 n < 4 := by
  have h1 := tmod_bd (n.tmod 4 + 4) (n := 4) (by decide)
  unfold q4
  omega
end Go.Proofs.Ytbiapeaghbndoaa
/- canvas: of, Flip, Turn. Printed by a program of this seat's prover. -/
namespace Go.Proofs.Ytbiapeaghbndoaa
open Go Go.RowKit
set_option maxRecDepth 10000
theorem pof_ok (x y : Int) (a : Option Addr) (n cap : Nat) (w : World) (hok : rightS x y n = true) : Calls Try.prog 85 #[.agg #[.int .i64 x, .int .i64 y, .slice a n cap]] w fun e w' => ∃ P, e = .returned (.pointer (some ⟨P, 0, none⟩)) ∧ Below w.heap.size w w' ∧ (Res.blk P (.cells #[.int .i64 x, .int .i64 y, .slice a n cap] 138)).ok w.heap.size w' := by
  refine calls_of_T (l := [.agg #[.int .i64 x, .int .i64 y, .slice a n cap]]) 10 Try.func85 rfl rfl rfl ?_
  show T _ _ _ [(0, .agg #[.int .i64 x, .int .i64 y, .slice a n cap])] []
  refine T_seq (T_region ?_)
  refine TL_new 1 (.cells #[.int .i64 x, .int .i64 y, .slice a n cap] 75) (fun B => .pointer (some ⟨B, 0, none⟩)) (fun _ _ hρ _ => r_box (hρ _ _ rfl) rfl) rfl rfl rfl (w_n rfl) ?_
  intro B1
  refine TL_q (.pointer none) (fun _ _ hρ _ => r_assign (hρ _ _ rfl)) rfl rfl rfl (w_n rfl) ?_
  refine TL_seq ?_
  refine T_seq (T_region ?_)
  refine TL_q (.agg #[.int .i64 x, .int .i64 y, .slice a n cap]) (fun _ _ hρ hm => r_loadA ag75 sz75 (hρ _ _ rfl) (hm.at 1 rfl) rfl rfl) rfl rfl rfl (w_n rfl) ?_
  refine TL_call (.int .i64 0) (fun _ _ hρ _ => r_call (args := [.agg #[.int .i64 x, .int .i64 y, .slice a n cap]]) (enters_of Try.func49 (by kernel_rfl) rfl) (hρ _ _ rfl) ((cons2 (hρ _ _ rfl) rfl)) rfl) (fun w _ => (scheck_c x y a n cap w).mono fun _ _ h => ⟨h.1.trans (congrArg Ending.returned (int_as (if_pos hok))), h.2⟩) rfl rfl rfl (w_n rfl) ?_
  refine TL_q (.bool true) (fun _ _ hρ _ => r_as (r_eql (hρ _ _ rfl) (hρ _ _ rfl)) (by rfl)) rfl rfl rfl (w_n rfl) ?_
  refine TL_call (.tuple #[]) (fun _ _ hρ _ => r_call (args := [.bool true, .int .i64 190]) (enters_of Try.func94 (by kernel_rfl) rfl) (hρ _ _ rfl) ((cons2 (hρ _ _ rfl) (cons2 (hρ _ _ rfl) rfl))) rfl) (fun w _ => need_ok_st 190 w) rfl rfl rfl (w_n rfl) ?_
  refine TL_seq ?_
  refine T_seq (T_region ?_)
  refine TL_q (.agg #[.int .i64 x, .int .i64 y, .slice a n cap]) (fun _ _ hρ hm => r_loadA ag75 sz75 (hρ _ _ rfl) (hm.at 1 rfl) rfl rfl) rfl rfl rfl (w_n rfl) ?_
  refine TL_q (.agg #[.int .i64 x, .int .i64 y, .slice a n cap]) (fun _ _ hρ _ => r_build (vs := [(0, .agg #[.int .i64 x, .int .i64 y, .slice a n cap])]) (by kernel_rfl) (cons2 (pair2 (hρ _ _ rfl)) rfl)) rfl rfl rfl (w_n rfl) ?_
  refine TL_new 2 (.cells #[.int .i64 x, .int .i64 y, .slice a n cap] 138) (fun B => .pointer (some ⟨B, 0, none⟩)) (fun _ _ hρ _ => r_box (hρ _ _ rfl) rfl) rfl rfl rfl (w_n rfl) ?_
  intro B2
  refine TL_q (.pointer (some ⟨B2, 0, none⟩)) (fun _ _ hρ _ => r_assign (hρ _ _ rfl)) rfl rfl rfl (w_n rfl) ?_
  refine TL_seq ?_
  refine T_ret' ?_
  refine ret_of rfl (.pointer (some ⟨B2, 0, none⟩)) (fun tmps w hk hm => res1 rfl (res_tmp (hk 2 _ rfl))) (fun w hm => ?_)
  exact ⟨B2, rfl, hm.ext, hm.own 2 _ rfl⟩

theorem tid_c (x y : Nat) (w : World) : Calls Try.prog 87 #[.agg #[.int .i64 (x : Int), .int .i64 (y : Int)]] w fun e w' => e = .returned (.agg #[.int .i64 (x : Int), .int .i64 (y : Int)]) ∧ Below w.heap.size w w' := by
  refine calls_of_T (l := [.agg #[.int .i64 ((x : Nat) : Int), .int .i64 ((y : Nat) : Int)]]) 4 Try.func87 rfl rfl rfl ?_
  show T _ _ _ [(0, .agg #[.int .i64 ((x : Nat) : Int), .int .i64 ((y : Nat) : Int)])] []
  refine T_seq (T_region ?_)
  refine TL_new 1 (.cells #[.int .i64 ((x : Nat) : Int), .int .i64 ((y : Nat) : Int)] 47) (fun B => .pointer (some ⟨B, 0, none⟩)) (fun _ _ hρ _ => r_box (hρ _ _ rfl) rfl) rfl rfl rfl (w_n rfl) ?_
  intro B1
  refine TL_new 2 (.cells #[.int .i64 0, .int .i64 0] 47) (fun B => .pointer (some ⟨B, 0, none⟩)) (fun _ _ _ _ => r_alloc (v := .agg #[.int .i64 0, .int .i64 0]) (by kernel_rfl) rfl) rfl rfl rfl (w_n rfl) ?_
  intro B2
  refine TL_seq ?_
  refine T_seq (T_region ?_)
  refine TL_q (.agg #[.int .i64 ((x : Nat) : Int), .int .i64 ((y : Nat) : Int)]) (fun _ _ hρ hm => r_loadA ag47 sz47 (hρ _ _ rfl) (hm.at 1 rfl) rfl rfl) rfl rfl rfl (w_n rfl) ?_
  refine TL_store 2 (.cells #[.int .i64 ((x : Nat) : Int), .int .i64 ((y : Nat) : Int)] 47) rfl (fun _ _ hρ hm => r_store sz47 (hρ _ _ rfl) (hρ _ _ rfl) (hm.at 2 rfl) rfl rfl rfl rfl) rfl rfl (w_n rfl) ?_
  refine TL_seq ?_
  refine T_ret' ?_
  refine ret_of rfl (.agg #[.int .i64 ((x : Nat) : Int), .int .i64 ((y : Nat) : Int)]) (fun tmps w hk hm => res1 rfl (res_cell (hk 2 _ rfl) (run_loadVar_agg ag47 sz47 (hm.at 2 rfl) (Nat.le_of_ble_eq_true rfl) rfl))) (fun w hm => ?_)
  exact ⟨rfl, hm.ext⟩

theorem tq_c (x y q B : Nat) (w : World) (hy : y < q) (hq : q ≤ 8) (hx : x ≤ 8) (hB : hp w B = some (.cells #[.int .i64 (q : Int)] 3)) : Calls Try.prog 88 #[.agg #[.int .i64 (x : Int), .int .i64 (y : Int)], .pointer (some ⟨B, 0, none⟩)] w fun e w' => e = .returned (.agg #[.int .i64 (q - 1 - y : Nat), .int .i64 (x : Nat)]) ∧ Below w.heap.size w w' := by
  refine calls_of_T (l := [.agg #[.int .i64 ((x : Nat) : Int), .int .i64 ((y : Nat) : Int)], .pointer (some ⟨B, 0, none⟩)]) 12 Try.func88 rfl rfl rfl ?_
  show T _ _ _ [(0, .agg #[.int .i64 ((x : Nat) : Int), .int .i64 ((y : Nat) : Int)]), (1, .pointer (some ⟨B, 0, none⟩))] []
  refine T_seq (T_region ?_)
  refine TL_new 1 (.cells #[.int .i64 ((x : Nat) : Int), .int .i64 ((y : Nat) : Int)] 47) (fun B => .pointer (some ⟨B, 0, none⟩)) (fun _ _ hρ _ => r_box (hρ _ _ rfl) rfl) rfl rfl rfl (w_n rfl) ?_
  intro B1
  refine TL_new 2 (.cells #[.int .i64 0, .int .i64 0] 47) (fun B => .pointer (some ⟨B, 0, none⟩)) (fun _ _ _ _ => r_alloc (v := .agg #[.int .i64 0, .int .i64 0]) (by kernel_rfl) rfl) rfl rfl rfl (w_n rfl) ?_
  intro B2
  refine TL_seq ?_
  refine T_seq (T_region ?_)
  refine TL_q (.int .i64 ((q : Nat) : Int)) (fun _ _ hρ hm => r_load ag3 (hρ _ _ rfl) (hm.old hB) rfl) rfl rfl rfl (w_n rfl) ?_
  refine TL_q (.int .i64 ((q - 1 : Nat) : Int)) (fun _ _ hρ _ => r_as (r_sub (hρ _ _ rfl) (hρ _ _ rfl)) (int_as ((wrap64 (by omega) (by omega)).trans (by omega)))) rfl rfl rfl (w_n rfl) ?_
  refine TL_q (.pointer (some ⟨B1, 1, none⟩)) (fun _ _ hρ _ => r_fieldAddr fl47_1 sz3 (hρ _ _ rfl)) rfl rfl rfl (w_n rfl) ?_
  refine TL_q (.int .i64 ((y : Nat) : Int)) (fun _ _ hρ hm => r_load ag3 (hρ _ _ rfl) (hm.at 1 rfl) rfl) rfl rfl rfl (w_n rfl) ?_
  refine TL_q (.int .i64 (((q - 1) - y : Nat) : Int)) (fun _ _ hρ _ => r_as (r_sub (hρ _ _ rfl) (hρ _ _ rfl)) (int_as ((wrap64 (by omega) (by omega)).trans (by omega)))) rfl rfl rfl (w_n rfl) ?_
  refine TL_q (.pointer (some ⟨B1, 0, none⟩)) (fun _ _ hρ _ => r_fieldAddr fl47_0 sz3 (hρ _ _ rfl)) rfl rfl rfl (w_n rfl) ?_
  refine TL_q (.int .i64 ((x : Nat) : Int)) (fun _ _ hρ hm => r_load ag3 (hρ _ _ rfl) (hm.at 1 rfl) rfl) rfl rfl rfl (w_n rfl) ?_
  refine TL_q (.agg #[.int .i64 (((q - 1) - y : Nat) : Int), .int .i64 ((x : Nat) : Int)]) (fun _ _ hρ _ => r_build (vs := [(0, .int .i64 (((q - 1) - y : Nat) : Int)), (1, .int .i64 ((x : Nat) : Int))]) (by kernel_rfl) (cons2 (pair2 (hρ _ _ rfl)) (cons2 (pair2 (hρ _ _ rfl)) rfl))) rfl rfl rfl (w_n rfl) ?_
  refine TL_store 2 (.cells #[.int .i64 (((q - 1) - y : Nat) : Int), .int .i64 ((x : Nat) : Int)] 47) rfl (fun _ _ hρ hm => r_store sz47 (hρ _ _ rfl) (hρ _ _ rfl) (hm.at 2 rfl) rfl rfl rfl rfl) rfl rfl (w_n rfl) ?_
  refine TL_seq ?_
  refine T_ret' ?_
  refine ret_of rfl (.agg #[.int .i64 (((q - 1) - y : Nat) : Int), .int .i64 ((x : Nat) : Int)]) (fun tmps w hk hm => res1 rfl (res_cell (hk 3 _ rfl) (run_loadVar_agg ag47 sz47 (hm.at 2 rfl) (Nat.le_of_ble_eq_true rfl) rfl))) (fun w hm => ?_)
  exact ⟨rfl, hm.ext⟩

theorem tf_c (x y p q P B : Nat) (sv : Value) (w : World) (hx : x < p) (hp8 : p ≤ 8) (hy : y ≤ 8) (hP : hp w P = some (.cells #[.int .i64 (p : Int), .int .i64 (q : Int), sv] 138)) (hB : hp w B = some (.cells #[.pointer (some ⟨P, 0, none⟩)] 134)) : Calls Try.prog 90 #[.agg #[.int .i64 (x : Int), .int .i64 (y : Int)], .pointer (some ⟨B, 0, none⟩)] w fun e w' => e = .returned (.agg #[.int .i64 (p - 1 - x : Nat), .int .i64 (y : Nat)]) ∧ Below w.heap.size w w' := by
  refine calls_of_T (l := [.agg #[.int .i64 ((x : Nat) : Int), .int .i64 ((y : Nat) : Int)], .pointer (some ⟨B, 0, none⟩)]) 16 Try.func90 rfl rfl rfl ?_
  show T _ _ _ [(0, .agg #[.int .i64 ((x : Nat) : Int), .int .i64 ((y : Nat) : Int)]), (1, .pointer (some ⟨B, 0, none⟩))] []
  refine T_seq (T_region ?_)
  refine TL_new 1 (.cells #[.int .i64 ((x : Nat) : Int), .int .i64 ((y : Nat) : Int)] 47) (fun B => .pointer (some ⟨B, 0, none⟩)) (fun _ _ hρ _ => r_box (hρ _ _ rfl) rfl) rfl rfl rfl (w_n rfl) ?_
  intro B1
  refine TL_new 2 (.cells #[.int .i64 0, .int .i64 0] 47) (fun B => .pointer (some ⟨B, 0, none⟩)) (fun _ _ _ _ => r_alloc (v := .agg #[.int .i64 0, .int .i64 0]) (by kernel_rfl) rfl) rfl rfl rfl (w_n rfl) ?_
  intro B2
  refine TL_seq ?_
  refine T_seq (T_draw (V := [(0, .pointer (some ⟨P, 0, none⟩)), (1, .pointer (some ⟨P, 0, none⟩)), (2, .pointer (some ⟨P, 0, none⟩)), (3, .pointer (some ⟨P, 0, none⟩)), (4, .int .i64 ((p : Nat) : Int)), (5, .int .i64 ((p - 1 : Nat) : Int)), (6, .pointer (some ⟨B1, 0, none⟩)), (7, .int .i64 ((x : Nat) : Int)), (8, .int .i64 (((p - 1) - x : Nat) : Int)), (9, .pointer (some ⟨B1, 1, none⟩)), (10, .int .i64 ((y : Nat) : Int)), (11, .agg #[.int .i64 (((p - 1) - x : Nat) : Int), .int .i64 ((y : Nat) : Int)])]) [0, 1, 3, 7, 15, 31, 0, 64, 255, 0, 512, 2047, 4095] [[(1, none)], [(4, some 0)], [(5, some 1)], [(6, some 2)], [(7, some 3)], [(8, some 4)], [(2, none)], [(10, some 6)], [(9, some 5), (11, some 7)], [(2, none)], [(13, some 9)], [(12, some 8), (14, some 10)], [(3, none), (15, some 11)]] 4096 mixed (by kernel_rfl) ?_)
  refine G_step [0, 1, 2, 3, 4, 5, 6, 7, 8, 9, 10, 11] 12 [] (by kernel_rfl) (allM (all_cons (q_run (.pointer (some ⟨P, 0, none⟩)) rfl rfl (wv_n rfl) rfl (fun _ _ hρ hm => r_load ag134 (hρ _ _ rfl) (hm.old hB) rfl)) (all_cons (q_run (.pointer (some ⟨P, 0, none⟩)) rfl rfl (wv_n rfl) rfl (fun _ _ hρ _ => r_nilCheck (hρ _ _ rfl) rfl)) (all_cons (q_run (.pointer (some ⟨P, 0, none⟩)) rfl rfl (wv_n rfl) rfl (fun _ _ hρ _ => r_fieldAddr fl138_0 sz75 (hρ _ _ rfl))) (all_cons (q_run (.pointer (some ⟨P, 0, none⟩)) rfl rfl (wv_n rfl) rfl (fun _ _ hρ _ => r_fieldAddr fl75_0 sz3 (hρ _ _ rfl))) (all_cons (q_run (.int .i64 ((p : Nat) : Int)) rfl rfl (wv_n rfl) rfl (fun _ _ hρ hm => r_load ag3 (hρ _ _ rfl) (hm.old hP) rfl)) (all_cons (q_run (.int .i64 ((p - 1 : Nat) : Int)) rfl rfl (wv_n rfl) rfl (fun _ _ hρ _ => r_as (r_sub (hρ _ _ rfl) (hρ _ _ rfl)) (int_as ((wrap64 (by omega) (by omega)).trans (by omega))))) (all_cons (q_run (.pointer (some ⟨B1, 0, none⟩)) rfl rfl (wv_n rfl) rfl (fun _ _ hρ _ => r_fieldAddr fl47_0 sz3 (hρ _ _ rfl))) (all_cons (q_run (.int .i64 ((x : Nat) : Int)) rfl rfl (wv_n rfl) rfl (fun _ _ hρ hm => r_load ag3 (hρ _ _ rfl) (hm.at 1 rfl) rfl)) (all_cons (q_run (.int .i64 (((p - 1) - x : Nat) : Int)) rfl rfl (wv_n rfl) rfl (fun _ _ hρ _ => r_as (r_sub (hρ _ _ rfl) (hρ _ _ rfl)) (int_as ((wrap64 (by omega) (by omega)).trans (by omega))))) (all_cons (q_run (.pointer (some ⟨B1, 1, none⟩)) rfl rfl (wv_n rfl) rfl (fun _ _ hρ _ => r_fieldAddr fl47_1 sz3 (hρ _ _ rfl))) (all_cons (q_run (.int .i64 ((y : Nat) : Int)) rfl rfl (wv_n rfl) rfl (fun _ _ hρ hm => r_load ag3 (hρ _ _ rfl) (hm.at 1 rfl) rfl)) (all_cons (q_run (.agg #[.int .i64 (((p - 1) - x : Nat) : Int), .int .i64 ((y : Nat) : Int)]) rfl rfl (wv_n rfl) rfl (fun _ _ hρ _ => r_build (vs := [(0, .int .i64 (((p - 1) - x : Nat) : Int)), (1, .int .i64 ((y : Nat) : Int))]) (by kernel_rfl) (cons2 (pair2 (hρ _ _ rfl)) (cons2 (pair2 (hρ _ _ rfl)) rfl)))) all_nil))))))))))))) (allM (all_cons ?_ all_nil))
  refine LOb_store 2 (.cells #[.int .i64 (((p - 1) - x : Nat) : Int), .int .i64 ((y : Nat) : Int)] 47) [] rfl (wv_n rfl) rfl rfl rfl (fun _ _ hρ hm => r_store sz47 (hρ _ _ rfl) (hρ _ _ rfl) (hm.at 2 rfl) rfl rfl rfl rfl) (by kernel_rfl) ?_
  refine G_last [] [(3, .pointer (some ⟨B2, 0, none⟩))] (by kernel_rfl) (allM all_nil) (end_old rfl rfl end_nil) ?_
  refine T_ret' ?_
  refine ret_of rfl (.agg #[.int .i64 (((p - 1) - x : Nat) : Int), .int .i64 ((y : Nat) : Int)]) (fun tmps w hk hm => res1 rfl (res_cell (hk 3 _ rfl) (run_loadVar_agg ag47 sz47 (hm.at 2 rfl) (Nat.le_of_ble_eq_true rfl) rfl))) (fun w hm => ?_)
  exact ⟨rfl, hm.ext⟩

theorem moved_id (P p q : Nat) (px : List C4) (a : Option Addr) (cap : Nat) (w : World) (hP : hp w P = some (.cells #[.int .i64 (p : Int), .int .i64 (q : Int), .slice a px.length cap] 138)) (hv : SliceAt w a cap 4 C4.cells px) (hcap : cap ≤ Go.maxLen) (hp : 1 ≤ p ∧ p ≤ 8) (hq : 1 ≤ q ∧ q ≤ 8) (hlen : px.length = p * q) : Calls Try.prog 86 #[.pointer (some ⟨P, 0, none⟩), .int .i64 (p : Int), .int .i64 (q : Int), .func (.func 87) #[] #[]] w fun e w' => ∃ a' cap', e = .returned (.agg #[.int .i64 (p : Int), .int .i64 (q : Int), .slice a' (px).length cap']) ∧ Below w.heap.size w w' ∧ w'.ownsRow w.heap.size 37 4 (.slice a' (px).length cap') (px).length ((px).flatMap C4.cells) := by
  have h := moved_c P p q px a cap w hP hv hcap hp hq hlen p q hp hq 87 #[] (enters_of Try.func87 (by kernel_rfl) rfl) (fun x _ => x) (fun _ y => y) (by exact fun x y hx hy => ⟨hx, hy⟩) (fun w2 hb x y hx hy => tid_c x y w2)
  rwa [mv_id hlen] at h

theorem moved_q (P p q : Nat) (px : List C4) (a : Option Addr) (cap : Nat) (w : World) (hP : hp w P = some (.cells #[.int .i64 (p : Int), .int .i64 (q : Int), .slice a px.length cap] 138)) (B : Nat) (hB : hp w B = some (.cells #[.int .i64 (q : Int)] 3)) (hv : SliceAt w a cap 4 C4.cells px) (hcap : cap ≤ Go.maxLen) (hp : 1 ≤ p ∧ p ≤ 8) (hq : 1 ≤ q ∧ q ≤ 8) (hlen : px.length = p * q) : Calls Try.prog 86 #[.pointer (some ⟨P, 0, none⟩), .int .i64 (q : Int), .int .i64 (p : Int), .func (.func 88) #[] #[.pointer (some ⟨B, 0, none⟩)]] w fun e w' => ∃ a' cap', e = .returned (.agg #[.int .i64 (q : Int), .int .i64 (p : Int), .slice a' (quarL p q px).length cap']) ∧ Below w.heap.size w w' ∧ w'.ownsRow w.heap.size 37 4 (.slice a' (quarL p q px).length cap') (quarL p q px).length ((quarL p q px).flatMap C4.cells) := by
  have h := moved_c P p q px a cap w hP hv hcap hp hq hlen q p hq hp 88 #[.pointer (some ⟨B, 0, none⟩)] (enters_of Try.func88 (by kernel_rfl) rfl) (fun _ y => q - 1 - y) (fun x _ => x) (by intro x y hx hy; omega) (fun w2 hb x y hx hy => tq_c x y q B w2 hy (by omega) (by omega) (kept hb hB))
  rwa [mv_quar] at h

theorem moved_f (P p q : Nat) (px : List C4) (a : Option Addr) (cap : Nat) (w : World) (hP : hp w P = some (.cells #[.int .i64 (p : Int), .int .i64 (q : Int), .slice a px.length cap] 138)) (B : Nat) (hB : hp w B = some (.cells #[.pointer (some ⟨P, 0, none⟩)] 134)) (hv : SliceAt w a cap 4 C4.cells px) (hcap : cap ≤ Go.maxLen) (hp : 1 ≤ p ∧ p ≤ 8) (hq : 1 ≤ q ∧ q ≤ 8) (hlen : px.length = p * q) : Calls Try.prog 86 #[.pointer (some ⟨P, 0, none⟩), .int .i64 (p : Int), .int .i64 (q : Int), .func (.func 90) #[] #[.pointer (some ⟨B, 0, none⟩)]] w fun e w' => ∃ a' cap', e = .returned (.agg #[.int .i64 (p : Int), .int .i64 (q : Int), .slice a' (flpL p q px).length cap']) ∧ Below w.heap.size w w' ∧ w'.ownsRow w.heap.size 37 4 (.slice a' (flpL p q px).length cap') (flpL p q px).length ((flpL p q px).flatMap C4.cells) := by
  have h := moved_c P p q px a cap w hP hv hcap hp hq hlen p q hp hq 90 #[.pointer (some ⟨B, 0, none⟩)] (enters_of Try.func90 (by kernel_rfl) rfl) (fun x _ => p - 1 - x) (fun _ y => y) (by intro x y hx hy; omega) (fun w2 hb x y hx hy => tf_c x y p q P B _ w2 hx (by omega) (by omega) (kept hb hP) (kept hb hB))
  rwa [mv_flip] at h

theorem flip1_ok (S p q : Nat) (px : List C4) (a : Option Addr) (cap : Nat) (w : World) (hS : hp w S = some (.cells #[.int .i64 (p : Int), .int .i64 (q : Int), .slice a px.length cap] 75)) (hv : SliceAt w a cap 4 C4.cells px) (hcap : cap ≤ Go.maxLen) (hp : 1 ≤ p ∧ p ≤ 8) (hq : 1 ≤ q ∧ q ≤ 8) (hlen : px.length = p * q) : Calls Try.prog 89 #[.pointer (some ⟨S, 0, none⟩)] w fun e w' => ∃ a' cap', e = .returned (.agg #[.int .i64 (p : Int), .int .i64 (q : Int), .slice a' (flpL p q px).length cap']) ∧ Below w.heap.size w w' ∧ w'.ownsRow w.heap.size 37 4 (.slice a' (flpL p q px).length cap') (flpL p q px).length ((flpL p q px).flatMap C4.cells) := by
  have hvl := hv.1
  have h64 := size8 hp hq
  unfold Go.maxLen at hcap
  refine calls_of_T (l := [.pointer (some ⟨S, 0, none⟩)]) 18 Try.func89 rfl rfl rfl ?_
  show T _ _ _ [(0, .pointer (some ⟨S, 0, none⟩))] []
  refine T_seq (T_region ?_)
  refine TL_new 1 (.cells #[.int .i64 0, .int .i64 0, .slice none 0 0] 75) (fun B => .pointer (some ⟨B, 0, none⟩)) (fun _ _ _ _ => r_alloc (v := .agg #[.int .i64 0, .int .i64 0, .slice none 0 0]) (by kernel_rfl) rfl) rfl rfl rfl (w_n rfl) ?_
  intro B1
  refine TL_seq ?_
  refine T_seq (T_region ?_)
  refine TL_q (.agg #[.int .i64 ((p : Nat) : Int), .int .i64 ((q : Nat) : Int), .slice a px.length cap]) (fun _ _ hρ hm => r_loadA ag75 sz75 (hρ _ _ rfl) (hm.old hS) rfl rfl) rfl rfl rfl (w_n rfl) ?_
  refine TL_callN (fun (_ : Nat) => True) (fun P2 => .pointer (some ⟨P2, 0, none⟩)) (fun P2 => [(2, .blk P2 (.cells #[.int .i64 ((p : Nat) : Int), .int .i64 ((q : Nat) : Int), .slice a px.length cap] 138))]) (fun _ _ hρ _ => r_call (args := [.agg #[.int .i64 ((p : Nat) : Int), .int .i64 ((q : Nat) : Int), .slice a px.length cap]]) (enters_of Try.func85 (by kernel_rfl) rfl) (hρ _ _ rfl) ((cons2 (hρ _ _ rfl) rfl)) rfl) (fun w _ => (pof_ok ((p : Nat) : Int) ((q : Nat) : Int) a px.length cap w (rightS_of hp hq hlen)).mono fun e w' ⟨q, he, hb, hr⟩ => ⟨q, trivial, he, hb, newOk1 2 hr⟩) rfl rfl rfl (w_n rfl) ?_
  intro P2 _
  refine TL_new 3 (.cells #[.pointer none] 134) (fun B => .pointer (some ⟨B, 0, none⟩)) (fun _ _ _ _ => r_alloc (v := .pointer none) (by kernel_rfl) rfl) rfl rfl rfl (w_n rfl) ?_
  intro B3
  refine TL_store 3 (.cells #[.pointer (some ⟨P2, 0, none⟩)] 134) rfl (fun _ _ hρ hm => r_store sz134 (hρ _ _ rfl) (hρ _ _ rfl) (hm.at 3 rfl) rfl rfl rfl rfl) rfl rfl (w_n rfl) ?_
  refine TL_seq ?_
  refine T_seq (T_draw (V := [(0, .pointer (some ⟨P2, 0, none⟩)), (1, .pointer (some ⟨P2, 0, none⟩)), (2, .pointer (some ⟨P2, 0, none⟩)), (3, .pointer (some ⟨P2, 0, none⟩)), (4, .pointer (some ⟨P2, 0, none⟩)), (5, .int .i64 ((p : Nat) : Int)), (6, .pointer (some ⟨P2, 0, none⟩)), (7, .pointer (some ⟨P2, 0, none⟩)), (8, .pointer (some ⟨P2, 0, none⟩)), (9, .pointer (some ⟨P2, 1, none⟩)), (10, .int .i64 ((q : Nat) : Int)), (11, .func (.func 90) #[] #[.pointer (some ⟨B3, 0, none⟩)])]) [0, 0, 2, 6, 14, 30, 0, 64, 192, 448, 960, 0, 4095, 8191] [[(2, none)], [(2, none)], [(6, some 1)], [(7, some 2)], [(8, some 3)], [(9, some 4)], [(2, none)], [(11, some 6)], [(12, some 7)], [(13, some 8)], [(14, some 9)], [(2, none)], [(5, some 0), (10, some 5), (15, some 10), (16, some 11)], [(1, none), (17, some 12)]] 12288 mixed (by kernel_rfl) ?_)
  refine G_step [0, 1, 2, 3, 4, 5, 6, 7, 8, 9, 10, 11] 12 [] (by kernel_rfl) (allM (all_cons (q_run (.pointer (some ⟨P2, 0, none⟩)) rfl rfl (wv_n rfl) rfl (fun _ _ hρ hm => r_load ag134 (hρ _ _ rfl) (hm.at 3 rfl) rfl)) (all_cons (q_run (.pointer (some ⟨P2, 0, none⟩)) rfl rfl (wv_n rfl) rfl (fun _ _ hρ hm => r_load ag134 (hρ _ _ rfl) (hm.at 3 rfl) rfl)) (all_cons (q_run (.pointer (some ⟨P2, 0, none⟩)) rfl rfl (wv_n rfl) rfl (fun _ _ hρ _ => r_nilCheck (hρ _ _ rfl) rfl)) (all_cons (q_run (.pointer (some ⟨P2, 0, none⟩)) rfl rfl (wv_n rfl) rfl (fun _ _ hρ _ => r_fieldAddr fl138_0 sz75 (hρ _ _ rfl))) (all_cons (q_run (.pointer (some ⟨P2, 0, none⟩)) rfl rfl (wv_n rfl) rfl (fun _ _ hρ _ => r_fieldAddr fl75_0 sz3 (hρ _ _ rfl))) (all_cons (q_run (.int .i64 ((p : Nat) : Int)) rfl rfl (wv_n rfl) rfl (fun _ _ hρ hm => r_load ag3 (hρ _ _ rfl) (hm.at 2 rfl) rfl)) (all_cons (q_run (.pointer (some ⟨P2, 0, none⟩)) rfl rfl (wv_n rfl) rfl (fun _ _ hρ hm => r_load ag134 (hρ _ _ rfl) (hm.at 3 rfl) rfl)) (all_cons (q_run (.pointer (some ⟨P2, 0, none⟩)) rfl rfl (wv_n rfl) rfl (fun _ _ hρ _ => r_nilCheck (hρ _ _ rfl) rfl)) (all_cons (q_run (.pointer (some ⟨P2, 0, none⟩)) rfl rfl (wv_n rfl) rfl (fun _ _ hρ _ => r_fieldAddr fl138_0 sz75 (hρ _ _ rfl))) (all_cons (q_run (.pointer (some ⟨P2, 1, none⟩)) rfl rfl (wv_n rfl) rfl (fun _ _ hρ _ => r_fieldAddr fl75_1 sz3 (hρ _ _ rfl))) (all_cons (q_run (.int .i64 ((q : Nat) : Int)) rfl rfl (wv_n rfl) rfl (fun _ _ hρ hm => r_load ag3 (hρ _ _ rfl) (hm.at 2 rfl) rfl)) (all_cons (q_run (.func (.func 90) #[] #[.pointer (some ⟨B3, 0, none⟩)]) rfl rfl (wv_n rfl) rfl (fun _ _ hρ _ => r_makeFunc (by simp) (map_arr (cons2 (hρ _ _ rfl) rfl)))) all_nil))))))))))))) (allM (all_cons ?_ all_nil))
  refine LOb_callN (fun (_ : Option Addr × Nat) => True) (fun (ar5, cr5) => .agg #[.int .i64 ((p : Nat) : Int), .int .i64 ((q : Nat) : Int), .slice ar5 ((flpL p q px).length) cr5]) (fun (ar5, cr5) => [(940, .row (.slice ar5 ((flpL p q px).length) cr5) 37 4 ((flpL p q px).length) ((flpL p q px).flatMap C4.cells))]) (fun (ar5, cr5) => []) rfl (wv_n rfl) rfl rfl (fun _ _ hρ _ => r_call (args := [.pointer (some ⟨P2, 0, none⟩), .int .i64 ((p : Nat) : Int), .int .i64 ((q : Nat) : Int), .func (.func 90) #[] #[.pointer (some ⟨B3, 0, none⟩)]]) (enters_of Try.func86 (by kernel_rfl) rfl) (hρ _ _ rfl) ((cons2 (hρ _ _ rfl) (cons2 (hρ _ _ rfl) (cons2 (hρ _ _ rfl) (cons2 (hρ _ _ rfl) rfl))))) rfl) (fun w hm => (moved_f P2 p q px a cap w (hm.at 2 rfl) B3 (hm.at 3 rfl) (hv.keep hm.ext) hcap hp hq hlen).mono fun e w' ⟨a', cap', he, hb, hr⟩ => ⟨(a', cap'), trivial, he, hb, newOk1 940 hr⟩) (fun (ar5, cr5) => by kernel_rfl) ?_
  rintro ⟨ar5, cr5⟩ -
  refine G_step [] 13 [] (by kernel_rfl) (allM all_nil) (allM (all_cons ?_ all_nil))
  refine LOb_store 1 (.cells #[.int .i64 ((p : Nat) : Int), .int .i64 ((q : Nat) : Int), .slice ar5 ((flpL p q px).length) cr5] 75) [] rfl (wv_n rfl) rfl rfl rfl (fun _ _ hρ hm => r_store sz75 (hρ _ _ rfl) (hρ _ _ rfl) (hm.at 1 rfl) rfl rfl rfl rfl) (by kernel_rfl) ?_
  refine G_last [] [(1, .pointer (some ⟨B1, 0, none⟩))] (by kernel_rfl) (allM all_nil) (end_old rfl rfl end_nil) ?_
  refine T_ret' ?_
  refine ret_of rfl (.agg #[.int .i64 ((p : Nat) : Int), .int .i64 ((q : Nat) : Int), .slice ar5 ((flpL p q px).length) cr5]) (fun tmps w hk hm => res1 rfl (res_cell (hk 1 _ rfl) (run_loadVar_agg ag75 sz75 (hm.at 1 rfl) (Nat.le_of_ble_eq_true rfl) rfl))) (fun w hm => ?_)
  exact ⟨ar5, cr5, rfl, hm.ext, hm.row 940 rfl⟩

theorem flip_ok (p q : Nat) (px : List C4) (a : Option Addr) (cap : Nat) (w : World) (hv : SliceAt w a cap 4 C4.cells px) (hcap : cap ≤ Go.maxLen) (hp : 1 ≤ p ∧ p ≤ 8) (hq : 1 ≤ q ∧ q ≤ 8) (hlen : px.length = p * q) : Calls Try.prog 50 #[.agg #[.int .i64 (p : Int), .int .i64 (q : Int), .slice a px.length cap]] w fun e w' => ∃ a' cap', e = .returned (.tuple #[.agg #[.int .i64 (p : Int), .int .i64 (q : Int), .slice a' (flpL p q px).length cap'], .int .i64 0]) ∧ Below w.heap.size w w' ∧ w'.ownsRow w.heap.size 37 4 (.slice a' (flpL p q px).length cap') (flpL p q px).length ((flpL p q px).flatMap C4.cells) := by
  have hvl := hv.1
  have h64 := size8 hp hq
  refine calls_of_T (l := [.agg #[.int .i64 ((p : Nat) : Int), .int .i64 ((q : Nat) : Int), .slice a px.length cap]]) 8 Try.func50 rfl rfl rfl ?_
  show T _ _ _ [(0, .agg #[.int .i64 ((p : Nat) : Int), .int .i64 ((q : Nat) : Int), .slice a px.length cap])] []
  refine T_seq (T_region ?_)
  refine TL_new 1 (.cells #[.int .i64 ((p : Nat) : Int), .int .i64 ((q : Nat) : Int), .slice a px.length cap] 75) (fun B => .pointer (some ⟨B, 0, none⟩)) (fun _ _ hρ _ => r_box (hρ _ _ rfl) rfl) rfl rfl rfl (w_n rfl) ?_
  intro B1
  refine TL_new 2 (.cells #[.int .i64 0, .int .i64 0, .slice none 0 0] 75) (fun B => .pointer (some ⟨B, 0, none⟩)) (fun _ _ _ _ => r_alloc (v := .agg #[.int .i64 0, .int .i64 0, .slice none 0 0]) (by kernel_rfl) rfl) rfl rfl rfl (w_n rfl) ?_
  intro B2
  refine TL_q (.int .i64 0) (fun _ _ hρ _ => r_assign (hρ _ _ rfl)) rfl rfl rfl (w_n rfl) ?_
  refine TL_seq ?_
  refine T_seq (T_region ?_)
  refine TL_q (.func (.func 89) #[] #[.pointer (some ⟨B1, 0, none⟩)]) (fun _ _ hρ _ => r_makeFunc (by simp) (map_arr (cons2 (hρ _ _ rfl) rfl))) rfl rfl rfl (w_n rfl) ?_
  refine TL_callN (fun (_ : Option Addr × Nat) => True) (fun (ar3, cr3) => .tuple #[.agg #[.int .i64 ((p : Nat) : Int), .int .i64 ((q : Nat) : Int), .slice ar3 ((flpL p q px).length) cr3], .int .i64 0]) (fun (ar3, cr3) => [(3, .row (.slice ar3 ((flpL p q px).length) cr3) 37 4 ((flpL p q px).length) ((flpL p q px).flatMap C4.cells))]) (fun _ _ hρ _ => r_call (args := [.func (.func 89) #[] #[.pointer (some ⟨B1, 0, none⟩)]]) (enters_of Try.func83 (by kernel_rfl) rfl) (hρ _ _ rfl) ((cons2 (hρ _ _ rfl) rfl)) rfl) (fun w hm => trSW_ok 89 #[.pointer (some ⟨B1, 0, none⟩)] (fun (_ : Option Addr × Nat) => True) (fun _ => ((p : Nat) : Int)) (fun _ => ((q : Nat) : Int)) (fun z => z.1) (fun _ => (flpL p q px).length) (fun z => z.2) (fun z => [(3, .row (.slice z.1 ((flpL p q px).length) z.2) 37 4 ((flpL p q px).length) ((flpL p q px).flatMap C4.cells))]) w (enters_of Try.func89 (by kernel_rfl) rfl) (fun _ => rfl) (fun _ => rfl) (fun w2 hb => (flip1_ok B1 p q px a cap w2 (kept hb (hm.at 1 rfl)) ((hv.keep hm.ext).keep hb) hcap hp hq hlen).mono fun e w' ⟨a', cap', he, hb2, hr⟩ => ⟨(a', cap'), trivial, he, hb2, newOk1 3 hr⟩)) rfl rfl rfl (w_n rfl) ?_
  rintro ⟨ar3, cr3⟩ -
  refine TL_q (.agg #[.int .i64 ((p : Nat) : Int), .int .i64 ((q : Nat) : Int), .slice ar3 ((flpL p q px).length) cr3]) (fun _ _ hρ _ => r_extract (hρ _ _ rfl) rfl) rfl rfl rfl (w_n rfl) ?_
  refine TL_q (.int .i64 0) (fun _ _ hρ _ => r_extract (hρ _ _ rfl) rfl) rfl rfl rfl (w_n rfl) ?_
  refine TL_store 2 (.cells #[.int .i64 ((p : Nat) : Int), .int .i64 ((q : Nat) : Int), .slice ar3 ((flpL p q px).length) cr3] 75) rfl (fun _ _ hρ hm => r_store sz75 (hρ _ _ rfl) (hρ _ _ rfl) (hm.at 2 rfl) rfl rfl rfl rfl) rfl rfl (w_n rfl) ?_
  refine TL_q (.int .i64 0) (fun _ _ hρ _ => r_assign (hρ _ _ rfl)) rfl rfl rfl (w_n rfl) ?_
  refine TL_seq ?_
  refine T_ret' ?_
  refine ret_of rfl (.tuple #[.agg #[.int .i64 ((p : Nat) : Int), .int .i64 ((q : Nat) : Int), .slice ar3 ((flpL p q px).length) cr3], .int .i64 0]) (fun tmps w hk hm => res2 rfl (res_cell (hk 2 _ rfl) (run_loadVar_agg ag75 sz75 (hm.at 2 rfl) (Nat.le_of_ble_eq_true rfl) rfl)) (res_tmp (hk 3 _ rfl))) (fun w hm => ?_)
  exact ⟨ar3, cr3, rfl, hm.ext, hm.row 3 rfl⟩

end Go.Proofs.Ytbiapeaghbndoaa
