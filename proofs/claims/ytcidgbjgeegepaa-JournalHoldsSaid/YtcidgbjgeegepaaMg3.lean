/- Texts of this seat, merged: part 3. -/
import Derived.Test.YtcidgbjgeegepaaMg2
import Derived.Lib.AppendZeros
/- net and journal: records. Printed by a program of this seat's prover. -/
namespace Go.Proofs.Ytcidgbjgeegepaa
open Go Go.RowKit
set_option maxRecDepth 10000
/-- Rows' bytes lie in memory. -/
def RowsIn (w : World) (l : List (RowG By)) : Prop := ∀ r ∈ l, SliceAt w r.a r.cap 1 byc r.l ∧ r.cap ≤ Go.maxLen
theorem RowsIn.keep {w w' : World} {l : List (RowG By)} (h : RowsIn w l) (hb : Below w.heap.size w w') : RowsIn w' l := fun r hr => ⟨(h r hr).1.keep hb, (h r hr).2⟩
abbrev rls (l : List (RowG By)) : List (List By) := l.map RowG.l

theorem need_ok_jrn (x : Int) (w : World) : Calls Try.prog 84 #[.bool true, .int .i64 x] w fun e w' => e = .returned (.tuple #[]) ∧ Below w.heap.size w w' := by
  refine calls_of_T (l := [.bool true, .int .i64 x]) 8 Try.func84 rfl rfl rfl ?_
  show T _ _ _ [(0, .bool true), (1, .int .i64 x)] []
  refine T_seq (T_region ?_)
  refine TL_q (.bool true) (fun _ _ hρ _ => r_move (hρ _ _ rfl)) rfl rfl rfl (w_n rfl) ?_
  refine TL_q (.bool false) (fun _ _ hρ _ => r_not (b := true) (hρ _ _ rfl)) rfl rfl rfl (w_n rfl) ?_
  refine TL_seq ?_
  refine T_cond_f rfl ?_
  refine T_skip' ?_
  refine p_end ?_
  refine ret_of rfl (.tuple #[]) (fun tmps w hk hm => results_none rfl _ _ _) (fun w hm => ?_)
  exact ⟨rfl, hm.ext⟩

theorem need_no_jrn (x : Int) (w : World) : Calls Try.prog 84 #[.bool false, .int .i64 x] w fun e w' => e = .panicked [{ v := .iface 28 (.int .i64 x), recovered := false }] ∧ Below w.heap.size w w' := by
  refine calls_of_T (l := [.bool false, .int .i64 x]) 8 Try.func84 rfl rfl rfl ?_
  show T _ _ _ [(0, .bool false), (1, .int .i64 x)] []
  refine T_seq (T_region ?_)
  refine TL_q (.bool false) (fun _ _ hρ _ => r_move (hρ _ _ rfl)) rfl rfl rfl (w_n rfl) ?_
  refine TL_q (.bool true) (fun _ _ hρ _ => r_not (b := false) (hρ _ _ rfl)) rfl rfl rfl (w_n rfl) ?_
  refine TL_seq ?_
  refine T_cond_t rfl ?_
  refine T_region ?_
  refine TL_q (.int .i64 x) (fun _ _ hρ _ => r_move (hρ _ _ rfl)) rfl rfl rfl (w_n rfl) ?_
  refine TL_q (.iface 28 (.int .i64 x)) (fun _ _ hρ _ => r_makeIface (by kernel_rfl) (hρ _ _ rfl)) rfl rfl rfl (w_n rfl) ?_
  refine TL_panic (fun _ _ hρ _ => r_panic (hρ _ _ rfl)) rfl (w_n rfl) ?_
  refine p_pan rfl (fun w hm => ?_)
  exact ⟨rfl, hm.ext⟩

theorem trJ_idle (w₀ : World) (L : Heap) (A B : Nat) : ∀ w, MemOk w₀ L w → CallsD Try.prog 110 #[.pointer (some ⟨A, 0, none⟩), .pointer (some ⟨B, 0, none⟩)] .returning w fun e u' w' => u' = .returning ∧ (e = .returned (.tuple #[]) ∧ MemOk w₀ L w') := by
  refine dS_of_T (l := [.pointer (some ⟨A, 0, none⟩), .pointer (some ⟨B, 0, none⟩)]) (L := L) (v := .nilIface) 19 (.inl ⟨rfl, rfl, rfl⟩) Try.func110 rfl rfl rfl rfl rfl (fun _ _ => rfl) rfl rfl (fun _ _ => rfl) rfl rfl ?_
  show T _ _ _ [(2, .nilIface), (6, .nilIface), (0, .pointer (some ⟨A, 0, none⟩)), (1, .pointer (some ⟨B, 0, none⟩))] L
  refine T_seq (T_region ?_)
  refine TL_q (.nilIface) (fun _ _ hρ _ => r_move (hρ _ _ rfl)) rfl rfl rfl (w_n rfl) ?_
  refine TL_q (.bool false) (fun _ w hρ _ => r_eqI (by rfl) (hρ _ _ rfl) (hρ _ _ rfl) (run_neq_nil_nil w 20 (by kernel_rfl))) rfl rfl rfl (w_n rfl) ?_
  refine TL_seq ?_
  refine T_cond_f rfl ?_
  refine T_skip' ?_
  refine p_endP ?_
  refine ret_ofP rfl (.tuple #[]) (fun tmps w hk hm => results_none rfl _ _ _) (fun w hm => ?_)
  exact ⟨rfl, hm⟩

theorem trJ_rec (w₀ : World) (L : Heap) (A B : Nat) (x : Int) (hA : lk L 1900 = some (.blk A (.cells #[.slice none 0 0] 34))) (hB : lk L 1901 = some (.blk B (.cells #[.int .i64 0] 28))) : ∀ w, MemOk w₀ L w → CallsD Try.prog 110 #[.pointer (some ⟨A, 0, none⟩), .pointer (some ⟨B, 0, none⟩)] (.panicking [{ v := .iface 28 (.int .i64 x), recovered := false }]) w fun e u' w' => u' = .panicking [{ v := .iface 28 (.int .i64 x), recovered := true }] ∧ (e = .returned (.tuple #[]) ∧ MemOk w₀ ([(1901, .blk B (.cells #[.int .i64 x] 28)), (1900, .blk A (.cells #[.slice none 0 0] 34))] ++ L) w') := by
  refine dS_of_T (l := [.pointer (some ⟨A, 0, none⟩), .pointer (some ⟨B, 0, none⟩)]) (L := L) (v := .iface 28 (.int .i64 x)) 19 (.inr ⟨rfl, rfl⟩) Try.func110 rfl rfl rfl rfl rfl (fun _ _ => rfl) rfl rfl (fun _ _ => rfl) rfl rfl ?_
  refine T_mem ((1901, .blk B (.cells #[.int .i64 0] 28)) :: (1900, .blk A (.cells #[.slice none 0 0] 34)) :: L) (fun _ hm => hm.of (lk_dup2 hB hA)) ?_
  show T _ _ _ [(2, .iface 28 (.int .i64 x)), (6, .iface 28 (.int .i64 x)), (0, .pointer (some ⟨A, 0, none⟩)), (1, .pointer (some ⟨B, 0, none⟩))] ((1901, .blk B (.cells #[.int .i64 0] 28)) :: (1900, .blk A (.cells #[.slice none 0 0] 34)) :: L)
  refine T_seq (T_region ?_)
  refine TL_q (.iface 28 (.int .i64 x)) (fun _ _ hρ _ => r_move (hρ _ _ rfl)) rfl rfl rfl (w_n rfl) ?_
  refine TL_q (.bool true) (fun _ w hρ _ => r_eqI (by rfl) (hρ _ _ rfl) (hρ _ _ rfl) (run_neq_held_nil w 20 _ _ (by kernel_rfl))) rfl rfl rfl (w_n rfl) ?_
  refine TL_seq ?_
  refine T_cond_t rfl ?_
  refine T_seq (T_region ?_)
  refine TL_q (.iface 28 (.int .i64 x)) (fun _ _ hρ _ => r_move (hρ _ _ rfl)) rfl rfl rfl (w_n rfl) ?_
  refine TL_q (.tuple #[.int .i64 x, .bool true]) (fun _ _ hρ _ => r_typeAssert (hρ _ _ rfl) (by kernel_rfl)) rfl rfl rfl (w_n rfl) ?_
  refine TL_q (.tuple #[.int .i64 x, .bool true]) (fun _ _ hρ _ => r_move (hρ _ _ rfl)) rfl rfl rfl (w_n rfl) ?_
  refine TL_q (.int .i64 x) (fun _ _ hρ _ => r_extract (hρ _ _ rfl) rfl) rfl rfl rfl (w_n rfl) ?_
  refine TL_q (.bool true) (fun _ _ hρ _ => r_extract (hρ _ _ rfl) rfl) rfl rfl rfl (w_n rfl) ?_
  refine TL_q (.int .i64 x) (fun _ _ hρ _ => r_assign (hρ _ _ rfl)) rfl rfl rfl (w_n rfl) ?_
  refine TL_q (.bool true) (fun _ _ hρ _ => r_assign (hρ _ _ rfl)) rfl rfl rfl (w_n rfl) ?_
  refine TL_seq ?_
  refine T_seq ?_
  refine T_seq (T_region ?_)
  refine TL_q (.bool true) (fun _ _ hρ _ => r_move (hρ _ _ rfl)) rfl rfl rfl (w_n rfl) ?_
  refine TL_q (.bool false) (fun _ _ hρ _ => r_not (b := true) (hρ _ _ rfl)) rfl rfl rfl (w_n rfl) ?_
  refine TL_seq ?_
  refine T_cond_f rfl ?_
  refine T_skip' ?_
  refine p_seq ?_
  refine T_seq (T_region ?_)
  refine TL_q (.slice none 0 0) (fun _ _ hρ _ => r_assign (hρ _ _ rfl)) rfl rfl rfl (w_n rfl) ?_
  refine TL_seq ?_
  refine T_region ?_
  refine TL_q (.slice none 0 0) (fun _ _ hρ _ => r_move (hρ _ _ rfl)) rfl rfl rfl (w_n rfl) ?_
  refine TL_q (.int .i64 x) (fun _ _ hρ _ => r_move (hρ _ _ rfl)) rfl rfl rfl (w_n rfl) ?_
  refine TL_store 1900 (.cells #[.slice none 0 0] 34) rfl (fun _ _ hρ hm => r_store sz34 (hρ _ _ rfl) (hρ _ _ rfl) (hm.at 1900 rfl) rfl rfl rfl rfl) rfl rfl (w_n rfl) ?_
  refine TL_store 1901 (.cells #[.int .i64 x] 28) rfl (fun _ _ hρ hm => r_store sz28 (hρ _ _ rfl) (hρ _ _ rfl) (hm.at 1901 rfl) rfl rfl rfl rfl) rfl rfl (w_n rfl) ?_
  refine TL_nil ?_
  refine p_endP ?_
  refine ret_ofP rfl (.tuple #[]) (fun tmps w hk hm => results_none rfl _ _ _) (fun w hm => ?_)
  exact ⟨rfl, hm.of (lk_mid (L := L) [(1901, .blk B (.cells #[.int .i64 x] 28)), (1900, .blk A (.cells #[.slice none 0 0] 34))] [(1901, .blk B (.cells #[.int .i64 0] 28)), (1900, .blk A (.cells #[.slice none 0 0] 34))] rfl)⟩

theorem trJ_ok {w₀ : World} {L : Heap} (g : Nat) (cap : Array Value) {ι : Type} (p : ι → Prop) (va0 : ι → Option Addr) (vn0 : ι → Nat) (vc0 : ι → Nat) (N : ι → Heap) (hE : Enters Try.prog g) (h1901 : lk L 1901 = none) (h1900 : lk L 1900 = none) (hN1901 : ∀ x, lk (N x) 1901 = none) (hN1900 : ∀ x, lk (N x) 1900 = none) (H : ∀ A B w, MemOk w₀ ((1901, .blk B (.cells #[.int .i64 0] 28)) :: (1900, .blk A (.cells #[.slice none 0 0] 34)) :: L) w → Calls Try.prog g cap w (HAns w₀ p (fun x => .slice (va0 x) (vn0 x) (vc0 x)) (fun x => N x ++ ((1901, .blk B (.cells #[.int .i64 0] 28)) :: (1900, .blk A (.cells #[.slice none 0 0] 34)) :: L)))) : ∀ w, MemOk w₀ L w → Calls Try.prog 76 #[.func (.func g) #[] cap] w (HAns w₀ p (fun x => .tuple #[.slice (va0 x) (vn0 x) (vc0 x), .int .i64 0]) (fun x => N x ++ L)) := by
  refine ht_of_TD (l := [.func (.func g) #[] cap]) (L := L) 7 Try.func76 rfl rfl rfl ?_
  show T _ _ _ [(0, .func (.func g) #[] cap)] L
  refine T_seq (T_region ?_)
  refine TL_new 1900 (.cells #[.slice none 0 0] 34) (fun B => .pointer (some ⟨B, 0, none⟩)) (fun _ _ _ _ => r_alloc (v := .slice none 0 0) (by kernel_rfl) rfl) rfl rfl rfl (w_n rfl) ?_
  intro B1
  refine TL_new 1901 (.cells #[.int .i64 0] 28) (fun B => .pointer (some ⟨B, 0, none⟩)) (fun _ _ _ _ => r_alloc (v := .int .i64 0) (by kernel_rfl) rfl) rfl rfl rfl (w_n rfl) ?_
  intro B2
  refine TL_seq ?_
  refine T_seq (T_region ?_)
  refine TL_q (.func (.func 110) #[] #[.pointer (some ⟨B1, 0, none⟩), .pointer (some ⟨B2, 0, none⟩)]) (fun _ _ hρ _ => r_makeFunc (by simp) (map_arr (cons2 (hρ _ _ rfl) (cons2 (hρ _ _ rfl) rfl)))) rfl rfl rfl (w_n rfl) ?_
  refine TL_defer ({ target := .fn (.func 110) #[.pointer (some ⟨B1, 0, none⟩), .pointer (some ⟨B2, 0, none⟩)], args := #[] }) rfl (fun _ _ hρ _ => r_defer (args := []) (hρ _ _ rfl) (by rfl) rfl) rfl (w_n rfl) ?_
  refine TL_seq ?_
  refine T_seq (T_region ?_)
  refine TL_q (.func (.func g) #[] cap) (fun _ _ hρ _ => r_move (hρ _ _ rfl)) rfl rfl rfl (w_n rfl) ?_
  refine TL_callH _ _ _ (fun _ _ hρ _ => r_call (args := []) hE (hρ _ _ rfl) (by rfl) (by simp)) (fun w hm => H B1 B2 w hm) rfl rfl rfl (w_n rfl) ?_
  intro x hx
  refine TL_mem ([(1901, .blk B2 (.cells #[.int .i64 0] 28)), (1900, .blk B1 (.cells #[.slice none 0 0] 34))] ++ (N x ++ L)) (fun _ hm => hm.of (lk_front (L := L) [(1901, .blk B2 (.cells #[.int .i64 0] 28)), (1900, .blk B1 (.cells #[.slice none 0 0] 34))] (by simp [hN1901, hN1900]))) ?_
  refine TL_store 1900 (.cells #[.slice (va0 x) (vn0 x) (vc0 x)] 34) rfl (fun _ _ hρ hm => r_store sz34 (hρ _ _ rfl) (hρ _ _ rfl) (hm.at 1900 rfl) rfl rfl rfl rfl) rfl rfl (w_n rfl) ?_
  refine TL_store 1901 (.cells #[.int .i64 0] 28) rfl (fun _ _ hρ hm => r_store sz28 (hρ _ _ rfl) (hρ _ _ rfl) (hm.at 1901 rfl) rfl rfl rfl rfl) rfl rfl (w_n rfl) ?_
  refine TL_seq ?_
  refine T_ret' ?_
  refine ret_ofD [{ target := .fn (.func 110) #[.pointer (some ⟨B1, 0, none⟩), .pointer (some ⟨B2, 0, none⟩)], args := #[] }] rfl (fun tmps hk => ?_)
  refine leavesH_cons (enters_of Try.func110 (by kernel_rfl) rfl) (fun w hm => trJ_idle _ _ B1 B2 w hm) ?_
  refine leavesH_nil (.tuple #[.slice (va0 x) (vn0 x) (vc0 x), .int .i64 0]) (fun _ hm => res2 rfl (res_cell (hk 2 _ rfl) (run_loadVar_one ag34 (hm.at 1900 rfl) rfl)) (res_cell (hk 3 _ rfl) (run_loadVar_one ag28 (hm.at 1901 rfl) rfl))) (fun w hm => ?_)
  have e1901 := lk_app_none (hN1901 x) h1901
  have e1900 := lk_app_none (hN1900 x) h1900
  exact ⟨x, hx, rfl, hm.of (lk_drop (L := N x ++ L) [(1901, .blk B2 (.cells #[.int .i64 0] 28)), (1900, .blk B1 (.cells #[.slice (va0 x) (vn0 x) (vc0 x)] 34)), (1901, .blk B2 (.cells #[.int .i64 0] 28)), (1900, .blk B1 (.cells #[.slice none 0 0] 34))] (by simp [e1901, e1900]))⟩

theorem trJ_no {w₀ : World} {L : Heap} (g : Nat) (cap : Array Value) {ι : Type} (p : ι → Prop) (er : ι → Int) (N : ι → Heap) (hE : Enters Try.prog g) (h1901 : lk L 1901 = none) (h1900 : lk L 1900 = none) (hN1901 : ∀ x, lk (N x) 1901 = none) (hN1900 : ∀ x, lk (N x) 1900 = none) (H : ∀ A B w, MemOk w₀ ((1901, .blk B (.cells #[.int .i64 0] 28)) :: (1900, .blk A (.cells #[.slice none 0 0] 34)) :: L) w → Calls Try.prog g cap w (PAns w₀ p (fun x => .iface 28 (.int .i64 (er x))) (fun x => N x ++ ((1901, .blk B (.cells #[.int .i64 0] 28)) :: (1900, .blk A (.cells #[.slice none 0 0] 34)) :: L)))) : ∀ w, MemOk w₀ L w → Calls Try.prog 76 #[.func (.func g) #[] cap] w (HAns w₀ p (fun x => .tuple #[.slice none 0 0, .int .i64 (er x)]) (fun x => N x ++ L)) := by
  refine ht_of_TD (l := [.func (.func g) #[] cap]) (L := L) 7 Try.func76 rfl rfl rfl ?_
  show T _ _ _ [(0, .func (.func g) #[] cap)] L
  refine T_seq (T_region ?_)
  refine TL_new 1900 (.cells #[.slice none 0 0] 34) (fun B => .pointer (some ⟨B, 0, none⟩)) (fun _ _ _ _ => r_alloc (v := .slice none 0 0) (by kernel_rfl) rfl) rfl rfl rfl (w_n rfl) ?_
  intro B1
  refine TL_new 1901 (.cells #[.int .i64 0] 28) (fun B => .pointer (some ⟨B, 0, none⟩)) (fun _ _ _ _ => r_alloc (v := .int .i64 0) (by kernel_rfl) rfl) rfl rfl rfl (w_n rfl) ?_
  intro B2
  refine TL_seq ?_
  refine T_seq (T_region ?_)
  refine TL_q (.func (.func 110) #[] #[.pointer (some ⟨B1, 0, none⟩), .pointer (some ⟨B2, 0, none⟩)]) (fun _ _ hρ _ => r_makeFunc (by simp) (map_arr (cons2 (hρ _ _ rfl) (cons2 (hρ _ _ rfl) rfl)))) rfl rfl rfl (w_n rfl) ?_
  refine TL_defer ({ target := .fn (.func 110) #[.pointer (some ⟨B1, 0, none⟩), .pointer (some ⟨B2, 0, none⟩)], args := #[] }) rfl (fun _ _ hρ _ => r_defer (args := []) (hρ _ _ rfl) (by rfl) rfl) rfl (w_n rfl) ?_
  refine TL_seq ?_
  refine T_seq (T_region ?_)
  refine TL_q (.func (.func g) #[] cap) (fun _ _ hρ _ => r_move (hρ _ _ rfl)) rfl rfl rfl (w_n rfl) ?_
  refine TL_callP _ _ _ (fun _ _ hρ _ => r_call (args := []) hE (hρ _ _ rfl) (by rfl) (by simp)) (fun w hm => H B1 B2 w hm) rfl (w_n rfl) ?_
  intro x hx
  refine p_mem ([(1901, .blk B2 (.cells #[.int .i64 0] 28)), (1900, .blk B1 (.cells #[.slice none 0 0] 34))] ++ (N x ++ L)) (fun _ hm => hm.of (lk_front (L := L) [(1901, .blk B2 (.cells #[.int .i64 0] 28)), (1900, .blk B1 (.cells #[.slice none 0 0] 34))] (by simp [hN1901, hN1900]))) ?_
  refine p_then_p ?_
  refine p_panD [{ target := .fn (.func 110) #[.pointer (some ⟨B1, 0, none⟩), .pointer (some ⟨B2, 0, none⟩)], args := #[] }] rfl (fun tmps hk => ?_)
  refine leavesP_cons (L' := [(1901, .blk B2 (.cells #[.int .i64 (er x)] 28)), (1900, .blk B1 (.cells #[.slice none 0 0] 34))] ++ (N x ++ L)) (enters_of Try.func110 (by kernel_rfl) rfl) (fun w hm => ((trJ_rec _ ([(1901, .blk B2 (.cells #[.int .i64 0] 28)), (1900, .blk B1 (.cells #[.slice none 0 0] 34))] ++ (N x ++ L)) B1 B2 _ rfl rfl w hm).mono fun e u' w' h => ⟨h.1, h.2.1, h.2.2.of (lk_mid (L := N x ++ L) [(1901, .blk B2 (.cells #[.int .i64 (er x)] 28)), (1900, .blk B1 (.cells #[.slice none 0 0] 34))] [(1901, .blk B2 (.cells #[.int .i64 0] 28)), (1900, .blk B1 (.cells #[.slice none 0 0] 34))] rfl)⟩)) ?_
  refine leavesH_nil (.tuple #[.slice none 0 0, .int .i64 (er x)]) (fun _ hm => res2 rfl (res_cell (hk 2 _ rfl) (run_loadVar_one ag34 (hm.at 1900 rfl) rfl)) (res_cell (hk 3 _ rfl) (run_loadVar_one ag28 (hm.at 1901 rfl) rfl))) (fun w hm => ?_)
  have e1901 := lk_app_none (hN1901 x) h1901
  have e1900 := lk_app_none (hN1900 x) h1900
  exact ⟨x, hx, rfl, hm.of (lk_drop (L := N x ++ L) [(1901, .blk B2 (.cells #[.int .i64 (er x)] 28)), (1900, .blk B1 (.cells #[.slice none 0 0] 34))] (by simp [e1901, e1900]))⟩

theorem trJW_ok (g : Nat) (cap : Array Value) {ι : Type} (p : ι → Prop) (va0 : ι → Option Addr) (vn0 : ι → Nat) (vc0 : ι → Nat) (N : ι → Heap) (w : World) (hE : Enters Try.prog g) (hN1901 : ∀ x, lk (N x) 1901 = none) (hN1900 : ∀ x, lk (N x) 1900 = none) (H : ∀ w2, Below w.heap.size w w2 → Calls Try.prog g cap w2 (Ans p (fun x => .slice (va0 x) (vn0 x) (vc0 x)) N w2)) : Calls Try.prog 76 #[.func (.func g) #[] cap] w (Ans p (fun x => .tuple #[.slice (va0 x) (vn0 x) (vc0 x), .int .i64 0]) N w) := by
  refine (trJ_ok (L := []) (w₀ := w) g cap p va0 vn0 vc0 N hE rfl rfl hN1901 hN1900 (fun A B w2 hm => (H w2 hm.ext).mono ?_) w (MemOk.nil w)).mono ?_
  · rintro e w' ⟨x, hx, he, hb, hn⟩
    exact ⟨x, hx, he, hm.news hb hn⟩
  · rintro e w' ⟨x, hx, he, hm⟩
    simp only [List.append_nil] at hm
    exact ⟨x, hx, he, hm.ext, ⟨fun i r h => hm.own i r h, fun i j r s h1 h2 => hm.sep i j r s h1 h2⟩⟩
theorem trJW_no (g : Nat) (cap : Array Value) (x : Int) (w : World) (hE : Enters Try.prog g) (H : ∀ w2, Below w.heap.size w w2 → Calls Try.prog g cap w2 fun e w' => e = .panicked [{ v := .iface 28 (.int .i64 x), recovered := false }] ∧ Below w2.heap.size w2 w') : Calls Try.prog 76 #[.func (.func g) #[] cap] w fun e w' => e = .returned (.tuple #[.slice none 0 0, .int .i64 x]) ∧ Below w.heap.size w w' :=
  (trJ_no (ι := Unit) (L := []) (w₀ := w) g cap (fun _ => True) (fun _ => x) (fun _ => []) hE rfl rfl (fun _ => rfl) (fun _ => rfl) (fun A B w2 hm => (H w2 hm.ext).mono fun e w' h => ⟨(), trivial, h.1, hm.below h.2⟩) w (MemOk.nil w)).mono fun e w' ⟨_, _, he, hm⟩ => ⟨he, hm.ext⟩

theorem trF_idle (w₀ : World) (L : Heap) (A B : Nat) : ∀ w, MemOk w₀ L w → CallsD Try.prog 116 #[.pointer (some ⟨A, 0, none⟩), .pointer (some ⟨B, 0, none⟩)] .returning w fun e u' w' => u' = .returning ∧ (e = .returned (.tuple #[]) ∧ MemOk w₀ L w') := by
  refine dS_of_T (l := [.pointer (some ⟨A, 0, none⟩), .pointer (some ⟨B, 0, none⟩)]) (L := L) (v := .nilIface) 19 (.inl ⟨rfl, rfl, rfl⟩) Try.func116 rfl rfl rfl rfl rfl (fun _ _ => rfl) rfl rfl (fun _ _ => rfl) rfl rfl ?_
  show T _ _ _ [(2, .nilIface), (6, .nilIface), (0, .pointer (some ⟨A, 0, none⟩)), (1, .pointer (some ⟨B, 0, none⟩))] L
  refine T_seq (T_region ?_)
  refine TL_q (.nilIface) (fun _ _ hρ _ => r_move (hρ _ _ rfl)) rfl rfl rfl (w_n rfl) ?_
  refine TL_q (.bool false) (fun _ w hρ _ => r_eqI (by rfl) (hρ _ _ rfl) (hρ _ _ rfl) (run_neq_nil_nil w 20 (by kernel_rfl))) rfl rfl rfl (w_n rfl) ?_
  refine TL_seq ?_
  refine T_cond_f rfl ?_
  refine T_skip' ?_
  refine p_endP ?_
  refine ret_ofP rfl (.tuple #[]) (fun tmps w hk hm => results_none rfl _ _ _) (fun w hm => ?_)
  exact ⟨rfl, hm⟩

theorem trF_rec (w₀ : World) (L : Heap) (A B : Nat) (x : Int) (hX : lk L 1902 = none) (hA : lk L 1900 = some (.blk A (.cells #[.slice none 0 0, .int .i64 0] 121))) (hB : lk L 1901 = some (.blk B (.cells #[.int .i64 0] 28))) : ∀ w, MemOk w₀ L w → CallsD Try.prog 116 #[.pointer (some ⟨A, 0, none⟩), .pointer (some ⟨B, 0, none⟩)] (.panicking [{ v := .iface 28 (.int .i64 x), recovered := false }]) w fun e u' w' => u' = .panicking [{ v := .iface 28 (.int .i64 x), recovered := true }] ∧ (e = .returned (.tuple #[]) ∧ MemOk w₀ ([(1901, .blk B (.cells #[.int .i64 x] 28)), (1900, .blk A (.cells #[.slice none 0 0, .int .i64 0] 121))] ++ L) w') := by
  refine dS_of_T (l := [.pointer (some ⟨A, 0, none⟩), .pointer (some ⟨B, 0, none⟩)]) (L := L) (v := .iface 28 (.int .i64 x)) 19 (.inr ⟨rfl, rfl⟩) Try.func116 rfl rfl rfl rfl rfl (fun _ _ => rfl) rfl rfl (fun _ _ => rfl) rfl rfl ?_
  refine T_mem ((1901, .blk B (.cells #[.int .i64 0] 28)) :: (1900, .blk A (.cells #[.slice none 0 0, .int .i64 0] 121)) :: L) (fun _ hm => hm.of (lk_dup2 hB hA)) ?_
  show T _ _ _ [(2, .iface 28 (.int .i64 x)), (6, .iface 28 (.int .i64 x)), (0, .pointer (some ⟨A, 0, none⟩)), (1, .pointer (some ⟨B, 0, none⟩))] ((1901, .blk B (.cells #[.int .i64 0] 28)) :: (1900, .blk A (.cells #[.slice none 0 0, .int .i64 0] 121)) :: L)
  refine T_seq (T_region ?_)
  refine TL_q (.iface 28 (.int .i64 x)) (fun _ _ hρ _ => r_move (hρ _ _ rfl)) rfl rfl rfl (w_n rfl) ?_
  refine TL_q (.bool true) (fun _ w hρ _ => r_eqI (by rfl) (hρ _ _ rfl) (hρ _ _ rfl) (run_neq_held_nil w 20 _ _ (by kernel_rfl))) rfl rfl rfl (w_n rfl) ?_
  refine TL_seq ?_
  refine T_cond_t rfl ?_
  refine T_seq (T_region ?_)
  refine TL_q (.iface 28 (.int .i64 x)) (fun _ _ hρ _ => r_move (hρ _ _ rfl)) rfl rfl rfl (w_n rfl) ?_
  refine TL_q (.tuple #[.int .i64 x, .bool true]) (fun _ _ hρ _ => r_typeAssert (hρ _ _ rfl) (by kernel_rfl)) rfl rfl rfl (w_n rfl) ?_
  refine TL_q (.tuple #[.int .i64 x, .bool true]) (fun _ _ hρ _ => r_move (hρ _ _ rfl)) rfl rfl rfl (w_n rfl) ?_
  refine TL_q (.int .i64 x) (fun _ _ hρ _ => r_extract (hρ _ _ rfl) rfl) rfl rfl rfl (w_n rfl) ?_
  refine TL_q (.bool true) (fun _ _ hρ _ => r_extract (hρ _ _ rfl) rfl) rfl rfl rfl (w_n rfl) ?_
  refine TL_q (.int .i64 x) (fun _ _ hρ _ => r_assign (hρ _ _ rfl)) rfl rfl rfl (w_n rfl) ?_
  refine TL_q (.bool true) (fun _ _ hρ _ => r_assign (hρ _ _ rfl)) rfl rfl rfl (w_n rfl) ?_
  refine TL_seq ?_
  refine T_seq ?_
  refine T_seq (T_region ?_)
  refine TL_q (.bool true) (fun _ _ hρ _ => r_move (hρ _ _ rfl)) rfl rfl rfl (w_n rfl) ?_
  refine TL_q (.bool false) (fun _ _ hρ _ => r_not (b := true) (hρ _ _ rfl)) rfl rfl rfl (w_n rfl) ?_
  refine TL_seq ?_
  refine T_cond_f rfl ?_
  refine T_skip' ?_
  refine p_seq ?_
  refine T_seq (T_region ?_)
  refine TL_new 1902 (.cells #[.slice none 0 0, .int .i64 0] 121) (fun B => .pointer (some ⟨B, 0, none⟩)) (fun _ _ _ _ => r_alloc (v := .agg #[.slice none 0 0, .int .i64 0]) (by kernel_rfl) rfl) rfl rfl rfl (w_n rfl) ?_
  intro B1
  refine TL_seq ?_
  refine T_region ?_
  refine TL_q (.agg #[.slice none 0 0, .int .i64 0]) (fun _ _ hρ hm => r_loadA ag121 sz121 (hρ _ _ rfl) (hm.at 1902 rfl) rfl rfl) rfl rfl rfl (w_n rfl) ?_
  refine TL_q (.int .i64 x) (fun _ _ hρ _ => r_move (hρ _ _ rfl)) rfl rfl rfl (w_n rfl) ?_
  refine TL_store 1900 (.cells #[.slice none 0 0, .int .i64 0] 121) rfl (fun _ _ hρ hm => r_store sz121 (hρ _ _ rfl) (hρ _ _ rfl) (hm.at 1900 rfl) rfl rfl rfl rfl) rfl rfl (w_n rfl) ?_
  refine TL_store 1901 (.cells #[.int .i64 x] 28) rfl (fun _ _ hρ hm => r_store sz28 (hρ _ _ rfl) (hρ _ _ rfl) (hm.at 1901 rfl) rfl rfl rfl rfl) rfl rfl (w_n rfl) ?_
  refine TL_nil ?_
  refine p_endP ?_
  refine ret_ofP rfl (.tuple #[]) (fun tmps w hk hm => results_none rfl _ _ _) (fun w hm => ?_)
  exact ⟨rfl, hm.of (lk_mid2 (L := L) [(1901, .blk B (.cells #[.int .i64 x] 28)), (1900, .blk A (.cells #[.slice none 0 0, .int .i64 0] 121))] (1902, .blk B1 (.cells #[.slice none 0 0, .int .i64 0] 121)) [(1901, .blk B (.cells #[.int .i64 0] 28)), (1900, .blk A (.cells #[.slice none 0 0, .int .i64 0] 121))] hX rfl rfl)⟩

theorem trF_ok {w₀ : World} {L : Heap} (g : Nat) (cap : Array Value) {ι : Type} (p : ι → Prop) (va0 : ι → Option Addr) (vn0 : ι → Nat) (vc0 : ι → Nat) (vi1 : ι → Int) (N : ι → Heap) (hE : Enters Try.prog g) (h1901 : lk L 1901 = none) (h1900 : lk L 1900 = none) (hN1901 : ∀ x, lk (N x) 1901 = none) (hN1900 : ∀ x, lk (N x) 1900 = none) (H : ∀ A B w, MemOk w₀ ((1901, .blk B (.cells #[.int .i64 0] 28)) :: (1900, .blk A (.cells #[.slice none 0 0, .int .i64 0] 121)) :: L) w → Calls Try.prog g cap w (HAns w₀ p (fun x => .agg #[.slice (va0 x) (vn0 x) (vc0 x), .int .i64 (vi1 x)]) (fun x => N x ++ ((1901, .blk B (.cells #[.int .i64 0] 28)) :: (1900, .blk A (.cells #[.slice none 0 0, .int .i64 0] 121)) :: L)))) : ∀ w, MemOk w₀ L w → Calls Try.prog 90 #[.func (.func g) #[] cap] w (HAns w₀ p (fun x => .tuple #[.agg #[.slice (va0 x) (vn0 x) (vc0 x), .int .i64 (vi1 x)], .int .i64 0]) (fun x => N x ++ L)) := by
  refine ht_of_TD (l := [.func (.func g) #[] cap]) (L := L) 7 Try.func90 rfl rfl rfl ?_
  show T _ _ _ [(0, .func (.func g) #[] cap)] L
  refine T_seq (T_region ?_)
  refine TL_new 1900 (.cells #[.slice none 0 0, .int .i64 0] 121) (fun B => .pointer (some ⟨B, 0, none⟩)) (fun _ _ _ _ => r_alloc (v := .agg #[.slice none 0 0, .int .i64 0]) (by kernel_rfl) rfl) rfl rfl rfl (w_n rfl) ?_
  intro B1
  refine TL_new 1901 (.cells #[.int .i64 0] 28) (fun B => .pointer (some ⟨B, 0, none⟩)) (fun _ _ _ _ => r_alloc (v := .int .i64 0) (by kernel_rfl) rfl) rfl rfl rfl (w_n rfl) ?_
  intro B2
  refine TL_seq ?_
  refine T_seq (T_region ?_)
  refine TL_q (.func (.func 116) #[] #[.pointer (some ⟨B1, 0, none⟩), .pointer (some ⟨B2, 0, none⟩)]) (fun _ _ hρ _ => r_makeFunc (by simp) (map_arr (cons2 (hρ _ _ rfl) (cons2 (hρ _ _ rfl) rfl)))) rfl rfl rfl (w_n rfl) ?_
  refine TL_defer ({ target := .fn (.func 116) #[.pointer (some ⟨B1, 0, none⟩), .pointer (some ⟨B2, 0, none⟩)], args := #[] }) rfl (fun _ _ hρ _ => r_defer (args := []) (hρ _ _ rfl) (by rfl) rfl) rfl (w_n rfl) ?_
  refine TL_seq ?_
  refine T_seq (T_region ?_)
  refine TL_q (.func (.func g) #[] cap) (fun _ _ hρ _ => r_move (hρ _ _ rfl)) rfl rfl rfl (w_n rfl) ?_
  refine TL_callH _ _ _ (fun _ _ hρ _ => r_call (args := []) hE (hρ _ _ rfl) (by rfl) (by simp)) (fun w hm => H B1 B2 w hm) rfl rfl rfl (w_n rfl) ?_
  intro x hx
  refine TL_mem ([(1901, .blk B2 (.cells #[.int .i64 0] 28)), (1900, .blk B1 (.cells #[.slice none 0 0, .int .i64 0] 121))] ++ (N x ++ L)) (fun _ hm => hm.of (lk_front (L := L) [(1901, .blk B2 (.cells #[.int .i64 0] 28)), (1900, .blk B1 (.cells #[.slice none 0 0, .int .i64 0] 121))] (by simp [hN1901, hN1900]))) ?_
  refine TL_store 1900 (.cells #[.slice (va0 x) (vn0 x) (vc0 x), .int .i64 (vi1 x)] 121) rfl (fun _ _ hρ hm => r_store sz121 (hρ _ _ rfl) (hρ _ _ rfl) (hm.at 1900 rfl) rfl rfl rfl rfl) rfl rfl (w_n rfl) ?_
  refine TL_store 1901 (.cells #[.int .i64 0] 28) rfl (fun _ _ hρ hm => r_store sz28 (hρ _ _ rfl) (hρ _ _ rfl) (hm.at 1901 rfl) rfl rfl rfl rfl) rfl rfl (w_n rfl) ?_
  refine TL_seq ?_
  refine T_ret' ?_
  refine ret_ofD [{ target := .fn (.func 116) #[.pointer (some ⟨B1, 0, none⟩), .pointer (some ⟨B2, 0, none⟩)], args := #[] }] rfl (fun tmps hk => ?_)
  refine leavesH_cons (enters_of Try.func116 (by kernel_rfl) rfl) (fun w hm => trF_idle _ _ B1 B2 w hm) ?_
  refine leavesH_nil (.tuple #[.agg #[.slice (va0 x) (vn0 x) (vc0 x), .int .i64 (vi1 x)], .int .i64 0]) (fun _ hm => res2 rfl (res_cell (hk 2 _ rfl) (run_loadVar_agg ag121 sz121 (hm.at 1900 rfl) (Nat.le_of_ble_eq_true rfl) rfl)) (res_cell (hk 3 _ rfl) (run_loadVar_one ag28 (hm.at 1901 rfl) rfl))) (fun w hm => ?_)
  have e1901 := lk_app_none (hN1901 x) h1901
  have e1900 := lk_app_none (hN1900 x) h1900
  exact ⟨x, hx, rfl, hm.of (lk_drop (L := N x ++ L) [(1901, .blk B2 (.cells #[.int .i64 0] 28)), (1900, .blk B1 (.cells #[.slice (va0 x) (vn0 x) (vc0 x), .int .i64 (vi1 x)] 121)), (1901, .blk B2 (.cells #[.int .i64 0] 28)), (1900, .blk B1 (.cells #[.slice none 0 0, .int .i64 0] 121))] (by simp [e1901, e1900]))⟩

theorem trF_no {w₀ : World} {L : Heap} (g : Nat) (cap : Array Value) {ι : Type} (p : ι → Prop) (er : ι → Int) (N : ι → Heap) (hE : Enters Try.prog g) (h1901 : lk L 1901 = none) (h1900 : lk L 1900 = none) (h1902 : lk L 1902 = none) (hN1901 : ∀ x, lk (N x) 1901 = none) (hN1900 : ∀ x, lk (N x) 1900 = none) (hN1902 : ∀ x, lk (N x) 1902 = none) (H : ∀ A B w, MemOk w₀ ((1901, .blk B (.cells #[.int .i64 0] 28)) :: (1900, .blk A (.cells #[.slice none 0 0, .int .i64 0] 121)) :: L) w → Calls Try.prog g cap w (PAns w₀ p (fun x => .iface 28 (.int .i64 (er x))) (fun x => N x ++ ((1901, .blk B (.cells #[.int .i64 0] 28)) :: (1900, .blk A (.cells #[.slice none 0 0, .int .i64 0] 121)) :: L)))) : ∀ w, MemOk w₀ L w → Calls Try.prog 90 #[.func (.func g) #[] cap] w (HAns w₀ p (fun x => .tuple #[.agg #[.slice none 0 0, .int .i64 0], .int .i64 (er x)]) (fun x => N x ++ L)) := by
  refine ht_of_TD (l := [.func (.func g) #[] cap]) (L := L) 7 Try.func90 rfl rfl rfl ?_
  show T _ _ _ [(0, .func (.func g) #[] cap)] L
  refine T_seq (T_region ?_)
  refine TL_new 1900 (.cells #[.slice none 0 0, .int .i64 0] 121) (fun B => .pointer (some ⟨B, 0, none⟩)) (fun _ _ _ _ => r_alloc (v := .agg #[.slice none 0 0, .int .i64 0]) (by kernel_rfl) rfl) rfl rfl rfl (w_n rfl) ?_
  intro B1
  refine TL_new 1901 (.cells #[.int .i64 0] 28) (fun B => .pointer (some ⟨B, 0, none⟩)) (fun _ _ _ _ => r_alloc (v := .int .i64 0) (by kernel_rfl) rfl) rfl rfl rfl (w_n rfl) ?_
  intro B2
  refine TL_seq ?_
  refine T_seq (T_region ?_)
  refine TL_q (.func (.func 116) #[] #[.pointer (some ⟨B1, 0, none⟩), .pointer (some ⟨B2, 0, none⟩)]) (fun _ _ hρ _ => r_makeFunc (by simp) (map_arr (cons2 (hρ _ _ rfl) (cons2 (hρ _ _ rfl) rfl)))) rfl rfl rfl (w_n rfl) ?_
  refine TL_defer ({ target := .fn (.func 116) #[.pointer (some ⟨B1, 0, none⟩), .pointer (some ⟨B2, 0, none⟩)], args := #[] }) rfl (fun _ _ hρ _ => r_defer (args := []) (hρ _ _ rfl) (by rfl) rfl) rfl (w_n rfl) ?_
  refine TL_seq ?_
  refine T_seq (T_region ?_)
  refine TL_q (.func (.func g) #[] cap) (fun _ _ hρ _ => r_move (hρ _ _ rfl)) rfl rfl rfl (w_n rfl) ?_
  refine TL_callP _ _ _ (fun _ _ hρ _ => r_call (args := []) hE (hρ _ _ rfl) (by rfl) (by simp)) (fun w hm => H B1 B2 w hm) rfl (w_n rfl) ?_
  intro x hx
  refine p_mem ([(1901, .blk B2 (.cells #[.int .i64 0] 28)), (1900, .blk B1 (.cells #[.slice none 0 0, .int .i64 0] 121))] ++ (N x ++ L)) (fun _ hm => hm.of (lk_front (L := L) [(1901, .blk B2 (.cells #[.int .i64 0] 28)), (1900, .blk B1 (.cells #[.slice none 0 0, .int .i64 0] 121))] (by simp [hN1901, hN1900]))) ?_
  refine p_then_p ?_
  refine p_panD [{ target := .fn (.func 116) #[.pointer (some ⟨B1, 0, none⟩), .pointer (some ⟨B2, 0, none⟩)], args := #[] }] rfl (fun tmps hk => ?_)
  refine leavesP_cons (L' := [(1901, .blk B2 (.cells #[.int .i64 (er x)] 28)), (1900, .blk B1 (.cells #[.slice none 0 0, .int .i64 0] 121))] ++ (N x ++ L)) (enters_of Try.func116 (by kernel_rfl) rfl) (fun w hm => ((trF_rec _ ([(1901, .blk B2 (.cells #[.int .i64 0] 28)), (1900, .blk B1 (.cells #[.slice none 0 0, .int .i64 0] 121))] ++ (N x ++ L)) B1 B2 _ (show lk (N x ++ L) 1902 = none from lk_app_none (hN1902 x) h1902) rfl rfl w hm).mono fun e u' w' h => ⟨h.1, h.2.1, h.2.2.of (lk_mid (L := N x ++ L) [(1901, .blk B2 (.cells #[.int .i64 (er x)] 28)), (1900, .blk B1 (.cells #[.slice none 0 0, .int .i64 0] 121))] [(1901, .blk B2 (.cells #[.int .i64 0] 28)), (1900, .blk B1 (.cells #[.slice none 0 0, .int .i64 0] 121))] rfl)⟩)) ?_
  refine leavesH_nil (.tuple #[.agg #[.slice none 0 0, .int .i64 0], .int .i64 (er x)]) (fun _ hm => res2 rfl (res_cell (hk 2 _ rfl) (run_loadVar_agg ag121 sz121 (hm.at 1900 rfl) (Nat.le_of_ble_eq_true rfl) rfl)) (res_cell (hk 3 _ rfl) (run_loadVar_one ag28 (hm.at 1901 rfl) rfl))) (fun w hm => ?_)
  have e1901 := lk_app_none (hN1901 x) h1901
  have e1900 := lk_app_none (hN1900 x) h1900
  exact ⟨x, hx, rfl, hm.of (lk_drop (L := N x ++ L) [(1901, .blk B2 (.cells #[.int .i64 (er x)] 28)), (1900, .blk B1 (.cells #[.slice none 0 0, .int .i64 0] 121))] (by simp [e1901, e1900]))⟩

theorem trFW_ok (g : Nat) (cap : Array Value) {ι : Type} (p : ι → Prop) (va0 : ι → Option Addr) (vn0 : ι → Nat) (vc0 : ι → Nat) (vi1 : ι → Int) (N : ι → Heap) (w : World) (hE : Enters Try.prog g) (hN1901 : ∀ x, lk (N x) 1901 = none) (hN1900 : ∀ x, lk (N x) 1900 = none) (H : ∀ w2, Below w.heap.size w w2 → Calls Try.prog g cap w2 (Ans p (fun x => .agg #[.slice (va0 x) (vn0 x) (vc0 x), .int .i64 (vi1 x)]) N w2)) : Calls Try.prog 90 #[.func (.func g) #[] cap] w (Ans p (fun x => .tuple #[.agg #[.slice (va0 x) (vn0 x) (vc0 x), .int .i64 (vi1 x)], .int .i64 0]) N w) := by
  refine (trF_ok (L := []) (w₀ := w) g cap p va0 vn0 vc0 vi1 N hE rfl rfl hN1901 hN1900 (fun A B w2 hm => (H w2 hm.ext).mono ?_) w (MemOk.nil w)).mono ?_
  · rintro e w' ⟨x, hx, he, hb, hn⟩
    exact ⟨x, hx, he, hm.news hb hn⟩
  · rintro e w' ⟨x, hx, he, hm⟩
    simp only [List.append_nil] at hm
    exact ⟨x, hx, he, hm.ext, ⟨fun i r h => hm.own i r h, fun i j r s h1 h2 => hm.sep i j r s h1 h2⟩⟩
theorem trFW_no (g : Nat) (cap : Array Value) (x : Int) (w : World) (hE : Enters Try.prog g) (H : ∀ w2, Below w.heap.size w w2 → Calls Try.prog g cap w2 fun e w' => e = .panicked [{ v := .iface 28 (.int .i64 x), recovered := false }] ∧ Below w2.heap.size w2 w') : Calls Try.prog 90 #[.func (.func g) #[] cap] w fun e w' => e = .returned (.tuple #[.agg #[.slice none 0 0, .int .i64 0], .int .i64 x]) ∧ Below w.heap.size w w' :=
  (trF_no (ι := Unit) (L := []) (w₀ := w) g cap (fun _ => True) (fun _ => x) (fun _ => []) hE rfl rfl rfl (fun _ => rfl) (fun _ => rfl) (fun _ => rfl) (fun A B w2 hm => (H w2 hm.ext).mono fun e w' h => ⟨(), trivial, h.1, hm.below h.2⟩) w (MemOk.nil w)).mono fun e w' ⟨_, _, he, hm⟩ => ⟨he, hm.ext⟩

theorem rec_ok (l : List By) (a : Option Addr) (cap : Nat) (w : World) (hv : SliceAt w a cap 1 byc l) (hcap : cap ≤ Go.maxLen) (h : l.length ≤ 65536) : Calls Try.prog 79 #[.slice a l.length cap] w fun e w' => ∃ a' cap', e = .returned (.slice a' (recP l).length cap') ∧ Below w.heap.size w w' ∧ w'.ownsRow w.heap.size 5 1 (.slice a' (recP l).length cap') (recP l).length ((recP l).flatMap byc) := by
  have hvl := hv.1
  have hcp := hcap
  unfold Go.maxLen at hcp
  have hlb := lenB_len l.length
  refine calls_of_T (l := [.slice a l.length cap]) 24 Try.func79 rfl rfl rfl ?_
  show T _ _ _ [(0, .slice a l.length cap)] []
  refine T_seq (T_region ?_)
  refine TL_q (.slice none 0 0) (fun _ _ hρ _ => r_assign (hρ _ _ rfl)) rfl rfl rfl (w_n rfl) ?_
  refine TL_seq ?_
  refine T_seq (T_region ?_)
  refine TL_q (.slice a l.length cap) (fun _ _ hρ _ => r_move (hρ _ _ rfl)) rfl rfl rfl (w_n rfl) ?_
  refine TL_q (.int .i64 ((l.length : Nat) : Int)) (fun _ _ hρ _ => r_len sl34 (hρ _ _ rfl)) rfl rfl rfl (w_n rfl) ?_
  refine TL_q (.bool true) (fun _ _ hρ _ => r_as (r_leq (hρ _ _ rfl) (hρ _ _ rfl)) (bool_as (decide_eq_true (by omega)))) rfl rfl rfl (w_n rfl) ?_
  refine TL_call (.tuple #[]) (fun _ _ hρ _ => r_call (args := [.bool true, .int .i64 3]) (enters_of Try.func84 (by kernel_rfl) rfl) (hρ _ _ rfl) ((cons2 (hρ _ _ rfl) (cons2 (hρ _ _ rfl) rfl))) rfl) (fun w _ => need_ok_jrn 3 w) rfl rfl rfl (w_n rfl) ?_
  refine TL_seq ?_
  refine T_seq (T_region ?_)
  refine TL_q (.slice a l.length cap) (fun _ _ hρ _ => r_move (hρ _ _ rfl)) rfl rfl rfl (w_n rfl) ?_
  refine TL_q (.int .i64 ((l.length : Nat) : Int)) (fun _ _ hρ _ => r_len sl34 (hρ _ _ rfl)) rfl rfl rfl (w_n rfl) ?_
  refine TL_q (.int .u64 ((BitVec.ofNat 64 l.length).toNat : Int)) (fun _ _ hρ _ => r_convN (k := .i64) (k' := .u64) (n := l.length) un3 io25 rfl (hρ _ _ rfl)) rfl rfl rfl (w_n rfl) ?_
  refine TL_callN (fun (_ : Option Addr × Nat) => True) (fun (ar1, cr1) => .tuple #[.slice ar1 ((lenB l.length).length) cr1, .int .i64 0]) (fun (ar1, cr1) => [(1, .row (.slice ar1 ((lenB l.length).length) cr1) 5 1 ((lenB l.length).length) ((lenB l.length).flatMap byc))]) (fun _ _ hρ _ => r_call (args := [.slice none 0 0, .int .i64 4, .int .u64 ((BitVec.ofNat 64 l.length).toNat : Int)]) (enters_of Try.func111 (by kernel_rfl) rfl) (hρ _ _ rfl) ((cons2 (hρ _ _ rfl) (cons2 (hρ _ _ rfl) (cons2 (hρ _ _ rfl) rfl)))) rfl) (fun w _ => (put_c l.length (by omega) w).mono fun e w' ⟨a', cap', he, hb, hr⟩ => ⟨(a', cap'), trivial, he, hb, newOk1 1 hr⟩) rfl rfl rfl (w_n rfl) ?_
  rintro ⟨ar1, cr1⟩ -
  refine TL_q (.tuple #[.slice ar1 ((lenB l.length).length) cr1, .int .i64 0]) (fun _ _ hρ _ => r_move (hρ _ _ rfl)) rfl rfl rfl (w_n rfl) ?_
  refine TL_q (.slice ar1 ((lenB l.length).length) cr1) (fun _ _ hρ _ => r_extract (hρ _ _ rfl) rfl) rfl rfl rfl (w_n rfl) ?_
  refine TL_q (.int .i64 0) (fun _ _ hρ _ => r_extract (hρ _ _ rfl) rfl) rfl rfl rfl (w_n rfl) ?_
  refine TL_q (.slice ar1 ((lenB l.length).length) cr1) (fun _ _ hρ _ => r_assign (hρ _ _ rfl)) rfl rfl rfl (w_n rfl) ?_
  refine TL_q (.int .i64 0) (fun _ _ hρ _ => r_assign (hρ _ _ rfl)) rfl rfl rfl (w_n rfl) ?_
  refine TL_seq ?_
  refine T_seq (T_region ?_)
  refine TL_q (.int .i64 0) (fun _ _ hρ _ => r_move (hρ _ _ rfl)) rfl rfl rfl (w_n rfl) ?_
  refine TL_q (.bool true) (fun _ _ hρ _ => r_as (r_eql (hρ _ _ rfl) (hρ _ _ rfl)) (by rfl)) rfl rfl rfl (w_n rfl) ?_
  refine TL_q (.int .i64 0) (fun _ _ hρ _ => r_move (hρ _ _ rfl)) rfl rfl rfl (w_n rfl) ?_
  refine TL_call (.tuple #[]) (fun _ _ hρ _ => r_call (args := [.bool true, .int .i64 0]) (enters_of Try.func84 (by kernel_rfl) rfl) (hρ _ _ rfl) ((cons2 (hρ _ _ rfl) (cons2 (hρ _ _ rfl) rfl))) rfl) (fun w _ => need_ok_jrn 0 w) rfl rfl rfl (w_n rfl) ?_
  refine TL_seq ?_
  refine T_seq (T_region ?_)
  refine TL_q (.slice ar1 ((lenB l.length).length) cr1) (fun _ _ hρ _ => r_move (hρ _ _ rfl)) rfl rfl rfl (w_n rfl) ?_
  refine TL_q (.slice a l.length cap) (fun _ _ hρ _ => r_move (hρ _ _ rfl)) rfl rfl rfl (w_n rfl) ?_
  refine TL_append (n := (lenB l.length).length) (m := l.length) (xs := ((lenB l.length).flatMap byc)) (news := (l.flatMap byc)) (z := .int .u8 0) 1 rfl rfl rfl sl34 sz5 by5 (by kernel_rfl) rfl rfl (.inl rfl) (fun _ hm => by have := src_of byc_len (hv.keep hm.ext); simpa using this) byc_oneL (by omega) (by omega) rfl (w_n rfl) ?_
  intro a2 cap2
  have hn3 : ((lenB l.length).length + l.length) = ((lenB l.length) ++ l).length := by rw [List.length_append]
  have hx3 : (((lenB l.length).flatMap byc) ++ (l.flatMap byc)) = ((lenB l.length) ++ l).flatMap byc := by rw [List.flatMap_append]
  rw [hx3, hn3]
  refine TL_callN (fun (_ : Option Addr × Nat) => True) (fun (ar4, cr4) => .slice ar4 ((sealP ((lenB l.length) ++ l)).length) cr4) (fun (ar4, cr4) => [(2, .row (.slice ar4 ((sealP ((lenB l.length) ++ l)).length) cr4) 5 1 ((sealP ((lenB l.length) ++ l)).length) ((sealP ((lenB l.length) ++ l)).flatMap byc))]) (fun _ _ hρ _ => r_call (args := [.slice a2 (((lenB l.length) ++ l).length) cap2]) (enters_of Try.func55 (by kernel_rfl) rfl) (hρ _ _ rfl) ((cons2 (hρ _ _ rfl) rfl)) rfl) (fun w hm => (seal_c ((lenB l.length) ++ l) a2 cap2 w (SliceAt.own byc_len (hm.row 1 rfl) rfl rfl) (by rw [List.length_append, lenB_len]; omega) (row_cap (hm.row 1 rfl))).mono fun e w' ⟨a', cap', he, hb, hr⟩ => ⟨(a', cap'), trivial, he, hb, newOk1 2 hr⟩) rfl rfl rfl (w_n rfl) ?_
  rintro ⟨ar4, cr4⟩ -
  refine TL_q (.slice ar4 ((sealP ((lenB l.length) ++ l)).length) cr4) (fun _ _ hρ _ => r_assign (hρ _ _ rfl)) rfl rfl rfl (w_n rfl) ?_
  refine TL_seq ?_
  refine T_ret' ?_
  refine ret_of rfl (.slice ar4 ((sealP ((lenB l.length) ++ l)).length) cr4) (fun tmps w hk hm => res1 rfl (res_tmp (hk 2 _ rfl))) (fun w hm => ?_)
  exact ⟨ar4, cr4, rfl, hm.ext, hm.row 2 rfl⟩

theorem rec1_ok (T0 : Nat) (l : List By) (a : Option Addr) (cap : Nat) (w : World) (hv : SliceAt w a cap 1 byc l) (hcap : cap ≤ Go.maxLen) (h0 : hp w T0 = some (.cells #[.slice a l.length cap] 34)) (h : l.length ≤ 65536) : Calls Try.prog 80 #[.pointer (some ⟨T0, 0, none⟩)] w fun e w' => ∃ a' cap', e = .returned (.slice a' (recP l).length cap') ∧ Below w.heap.size w w' ∧ w'.ownsRow w.heap.size 5 1 (.slice a' (recP l).length cap') (recP l).length ((recP l).flatMap byc) := by
  refine calls_of_T (l := [.pointer (some ⟨T0, 0, none⟩)]) 4 Try.func80 rfl rfl rfl ?_
  show T _ _ _ [(0, .pointer (some ⟨T0, 0, none⟩))] []
  refine T_seq (T_region ?_)
  refine TL_q (.slice none 0 0) (fun _ _ hρ _ => r_assign (hρ _ _ rfl)) rfl rfl rfl (w_n rfl) ?_
  refine TL_seq ?_
  refine T_seq (T_region ?_)
  refine TL_q (.slice a l.length cap) (fun _ _ hρ hm => r_load ag34 (hρ _ _ rfl) (hm.old h0) rfl) rfl rfl rfl (w_n rfl) ?_
  refine TL_callN (fun (_ : Option Addr × Nat) => True) (fun (ar1, cr1) => .slice ar1 ((recP l).length) cr1) (fun (ar1, cr1) => [(1, .row (.slice ar1 ((recP l).length) cr1) 5 1 ((recP l).length) ((recP l).flatMap byc))]) (fun _ _ hρ _ => r_call (args := [.slice a l.length cap]) (enters_of Try.func79 (by kernel_rfl) rfl) (hρ _ _ rfl) ((cons2 (hρ _ _ rfl) rfl)) rfl) (fun w hm => (rec_ok l a cap w (hv.keep hm.ext) hcap h).mono fun e w' ⟨a', cap', he, hb, hr⟩ => ⟨(a', cap'), trivial, he, hb, newOk1 1 hr⟩) rfl rfl rfl (w_n rfl) ?_
  rintro ⟨ar1, cr1⟩ -
  refine TL_q (.slice ar1 ((recP l).length) cr1) (fun _ _ hρ _ => r_assign (hρ _ _ rfl)) rfl rfl rfl (w_n rfl) ?_
  refine TL_seq ?_
  refine T_ret' ?_
  refine ret_of rfl (.slice ar1 ((recP l).length) cr1) (fun tmps w hk hm => res1 rfl (res_tmp (hk 1 _ rfl))) (fun w hm => ?_)
  exact ⟨ar1, cr1, rfl, hm.ext, hm.row 1 rfl⟩

theorem jrec_ok (l : List By) (a : Option Addr) (cap : Nat) (w : World) (hv : SliceAt w a cap 1 byc l) (hcap : cap ≤ Go.maxLen) (h : l.length ≤ 65536) : Calls Try.prog 40 #[.slice a l.length cap] w fun e w' => ∃ a' cap', e = .returned (.tuple #[.slice a' (recP l).length cap', .int .i64 0]) ∧ Below w.heap.size w w' ∧ w'.ownsRow w.heap.size 5 1 (.slice a' (recP l).length cap') (recP l).length ((recP l).flatMap byc) := by
  refine calls_of_T (l := [.slice a l.length cap]) 8 Try.func40 rfl rfl rfl ?_
  show T _ _ _ [(0, .slice a l.length cap)] []
  refine T_seq (T_region ?_)
  refine TL_new 1 (.cells #[.slice a l.length cap] 34) (fun B => .pointer (some ⟨B, 0, none⟩)) (fun _ _ hρ _ => r_box (hρ _ _ rfl) rfl) rfl rfl rfl (w_n rfl) ?_
  intro B1
  refine TL_q (.slice none 0 0) (fun _ _ hρ _ => r_assign (hρ _ _ rfl)) rfl rfl rfl (w_n rfl) ?_
  refine TL_q (.int .i64 0) (fun _ _ hρ _ => r_assign (hρ _ _ rfl)) rfl rfl rfl (w_n rfl) ?_
  refine TL_seq ?_
  refine T_seq (T_region ?_)
  refine TL_q (.func (.func 80) #[] #[.pointer (some ⟨B1, 0, none⟩)]) (fun _ _ hρ _ => r_makeFunc (by simp) (map_arr (cons2 (hρ _ _ rfl) rfl))) rfl rfl rfl (w_n rfl) ?_
  refine TL_callN (fun (_ : Option Addr × Nat) => True) (fun (ar2, cr2) => .tuple #[.slice ar2 ((recP l).length) cr2, .int .i64 0]) (fun (ar2, cr2) => [(2, .row (.slice ar2 ((recP l).length) cr2) 5 1 ((recP l).length) ((recP l).flatMap byc))]) (fun _ _ hρ _ => r_call (args := [.func (.func 80) #[] #[.pointer (some ⟨B1, 0, none⟩)]]) (enters_of Try.func76 (by kernel_rfl) rfl) (hρ _ _ rfl) ((cons2 (hρ _ _ rfl) rfl)) rfl) (fun w hm => (trJW_ok 80 #[.pointer (some ⟨B1, 0, none⟩)] (fun (_ : Option Addr × Nat) => True) (fun z => z.1) (fun _ => (recP l).length) (fun z => z.2) (fun z => [(1, .row (.slice z.1 (recP l).length z.2) 5 1 (recP l).length ((recP l).flatMap byc))]) w (enters_of Try.func80 (by kernel_rfl) rfl) (fun _ => rfl) (fun _ => rfl) (fun w2 hb2 => (rec1_ok B1 l a cap w2 (hv.keep (hm.ext.trans (hb2.mono hm.ext.size))) hcap (kept hb2 (hm.at 1 rfl)) h).mono fun e w' ⟨a', cap', he, hb, hr⟩ => ⟨(a', cap'), trivial, he, hb, newOk1 1 hr⟩)).mono fun e w' ⟨z, _, he, hb, hn⟩ => ⟨z, trivial, he, hb, newOk_at 2 hn⟩) rfl rfl rfl (w_n rfl) ?_
  rintro ⟨ar2, cr2⟩ -
  refine TL_q (.slice ar2 ((recP l).length) cr2) (fun _ _ hρ _ => r_extract (hρ _ _ rfl) rfl) rfl rfl rfl (w_n rfl) ?_
  refine TL_q (.int .i64 0) (fun _ _ hρ _ => r_extract (hρ _ _ rfl) rfl) rfl rfl rfl (w_n rfl) ?_
  refine TL_q (.slice ar2 ((recP l).length) cr2) (fun _ _ hρ _ => r_assign (hρ _ _ rfl)) rfl rfl rfl (w_n rfl) ?_
  refine TL_q (.int .i64 0) (fun _ _ hρ _ => r_assign (hρ _ _ rfl)) rfl rfl rfl (w_n rfl) ?_
  refine TL_seq ?_
  refine T_ret' ?_
  refine ret_of rfl (.tuple #[.slice ar2 ((recP l).length) cr2, .int .i64 0]) (fun tmps w hk hm => res2 rfl (res_tmp (hk 2 _ rfl)) (res_tmp (hk 3 _ rfl))) (fun w hm => ?_)
  exact ⟨ar2, cr2, rfl, hm.ext, hm.row 2 rfl⟩

end Go.Proofs.Ytcidgbjgeegepaa
/- Things that are only read: many of them, each in some blocks; new ones may share blocks with those that there are. Rows that may be written over. Over any program. -/
namespace Go.Proofs.Ytcidgbjgeegepaa
open Go Go.RowKit
/-- What a thing is, and in which blocks. -/
structure ShK (α : Type) where
  foot : α → Nat → Prop
  At : World → α → Prop
  keep : ∀ {w1 w2 : World} {x : α}, At w1 x → (∀ b, foot x b → hp w2 b = hp w1 b) → At w2 x
  low : ∀ {w : World} {x : α} {b : Nat}, At w x → foot x b → b < w.heap.size
section
variable {α : Type} (K : ShK α)
def ShK.F (l : List α) (b : Nat) : Prop := ∃ x ∈ l, K.foot x b
abbrev Res.shelf (l : List α) : Res := .abs (K.F l) (fun w => ∀ x ∈ l, K.At w x)
theorem ShK.keeps {l : List α} (w1 w2 : World) (h : ∀ x ∈ l, K.At w1 x) (hb : ∀ b, K.F l b → hp w2 b = hp w1 b) : ∀ x ∈ l, K.At w2 x := fun x hx => K.keep (h x hx) fun b hf => hb b ⟨x, hx, hf⟩
theorem ShK.below {w w' : World} {x : α} (h : K.At w x) (hb : Below w.heap.size w w') : K.At w' x := K.keep h fun b hf => hb.block b (K.low h hf)
/-- A new thing, but for what it shares with others. -/
structure ShNew (w w' : World) (l : List α) (d : α) : Prop where
  below : Below w.heap.size w w'
  at' : K.At w' d
  foot : ∀ b, K.foot d b → w.heap.size ≤ b ∨ K.F l b
variable {K}
theorem ShNew.before {w w1 w2 : World} {l : List α} {d : α} (h : ShNew K w1 w2 l d) (hb : Below w.heap.size w w1) : ShNew K w w2 l d :=
  ⟨below_call hb (Nat.le_refl _) h.below, h.at', fun b hf => (h.foot b hf).imp (fun h1 => Nat.le_trans hb.size h1) id⟩
end
/-! ### slices as a thing to be read -/
section
variable {α : Type} {s : Nat} {f : α → List Value} {l : List α} {w : World} {a : Option Addr} {cap : Nat}
/-- The block in which a slice's elements lie. -/
def slF (a : Option Addr) (l : List α) (b : Nat) : Prop := l ≠ [] ∧ ∃ x, a = some x ∧ x.block = b
theorem SliceAt.keepF {w2 : World} (h : SliceAt w a cap s f l) (hb : ∀ b, slF a l b → hp w2 b = hp w b) : SliceAt w2 a cap s f l := by
  refine ⟨h.1, h.2.1, ?_⟩
  rcases h.2.2 with h1 | ⟨b, off, cs, T, fz, e1, e2, e3⟩
  · exact .inl h1
  · by_cases hl : l = []
    · exact .inl hl
    · exact .inr ⟨b, off, cs, T, fz, e1, (hb b ⟨hl, _, e1, rfl⟩).trans e2, e3⟩
theorem SliceAt.lowF {b : Nat} (h : SliceAt w a cap s f l) (hb : slF a l b) : b < w.heap.size := by
  obtain ⟨hl, x, hx, rfl⟩ := hb
  rcases h.2.2 with h1 | ⟨b, off, cs, T, fz, e1, e2, e3⟩
  · exact absurd h1 hl
  · rw [e1] at hx; cases hx; exact hp_lt e2
theorem own_slF {base n : Nat} {e : TypeId} {xs : List Value} (h : w.ownsRow base e s (.slice a n cap) n xs) {b : Nat} (hb : slF a l b) : (Res.row (.slice a n cap) e s n xs).foot b := by
  obtain ⟨_, x, hx, rfl⟩ := hb
  subst hx
  rcases h.2 with ⟨h1, _⟩ | ⟨g, cap', cur, h1, _⟩
  · cases h1
  · cases h1; rfl
end
/-! ### rows of one's own, many of them: to be read -/
section
variable {α : Type} {e : TypeId} {s : Nat} {f : α → List Value}
/-- All of them are one's own (none need be apart from another one). -/
def poolH (e : TypeId) (s : Nat) (f : α → List Value) (rs : List (RowG α)) (w : World) : Prop := ∀ r ∈ rs, w.ownsRow 0 e s r.v r.l.length (r.l.flatMap f)
abbrev Res.pool (e : TypeId) (s : Nat) (f : α → List Value) (rs : List (RowG α)) : Res := .abs (manyF rs) (poolH e s f rs)
theorem pool_keep {rs : List (RowG α)} (w1 w2 : World) (h : poolH e s f rs w1) (hb : ∀ b, manyF rs b → hp w2 b = hp w1 b) : poolH e s f rs w2 :=
  fun r hr => Res.keep (r := .row r.v e s r.l.length (r.l.flatMap f)) (h r hr) fun b hf => hb b ⟨r, hr, hf⟩
theorem MemOk.pool0 {w₀ w : World} {L : Heap} (h : MemOk w₀ L w) (k : Nat) (e : TypeId) (s : Nat) (f : α → List Value) : MemOk w₀ ((k, .pool e s f []) :: L) w :=
  h.set k _ h.ext ⟨(fun r hr => nomatch hr), (fun b hb => by obtain ⟨r, hr, _⟩ := hb; cases hr), pool_keep⟩ (fun _ _ _ _ b _ => ⟨rfl, fun hb => by obtain ⟨r, hr, _⟩ := hb; cases hr⟩)
theorem MemOk.pool {w₀ w : World} {L : Heap} (h : MemOk w₀ L w) (k : Nat) {rs : List (RowG α)} (hk : lk L k = some (.pool e s f rs)) : poolH e s f rs w := (h.own k _ hk).1
theorem poolAt (hf : ∀ x, (f x).length = s) {w : World} {rs : List (RowG α)} (h : poolH e s f rs w) {r : RowG α} (hr : r ∈ rs) : SliceAt w r.a r.cap s f r.l := SliceAt.own hf (h r hr) rfl rfl
theorem poolCap {w : World} {rs : List (RowG α)} (h : poolH e s f rs w) {r : RowG α} (hr : r ∈ rs) : r.cap ≤ Go.maxLen := row_cap (h r hr)
/-- One more. -/
theorem MemOk.poolPush {w₀ w : World} {L : Heap} (h : MemOk w₀ L w) (k j : Nat) {rs : List (RowG α)} {a : Option Addr} {n cap : Nat} {l : List α} (hk : lk L k = some (.pool e s f rs)) (hj : lk L j = some (.row (.slice a n cap) e s n (l.flatMap f))) (hn : n = l.length) (hne : Nat.beq k j = false) :
    MemOk w₀ ((k, .pool e s f (rs ++ [⟨a, cap, l⟩])) :: (j, .no) :: L) w := by
  subst hn
  have hkj : k ≠ j := fun e => by subst e; rw [Nat.beq_refl] at hne; cases hne
  have ok1 := h.own k _ hk
  have ok2 := h.own j _ hj
  have h0 : MemOk w₀ ((j, .no) :: L) w := h.set j _ h.ext ⟨trivial, (fun _ hb => hb.elim), fun _ _ _ _ => trivial⟩ (fun _ _ _ _ b _ => ⟨rfl, id⟩)
  refine h0.set k _ h0.ext ⟨fun r hr => ?_, ?_, pool_keep⟩ (fun i r hi hne' b hb => ⟨rfl, ?_⟩)
  · rcases List.mem_append.1 hr with h1 | h1
    · exact ok1.1 r h1
    · rw [List.mem_singleton.1 h1]; exact Res.lift (r := .row _ _ _ _ _) ok2 (Nat.zero_le _)
  · rintro b ⟨r, hr, hb⟩
    rcases List.mem_append.1 hr with h1 | h1
    · exact ok1.2.1 b ⟨r, h1, hb⟩
    · rw [List.mem_singleton.1 h1] at hb; exact Res.low ok2 hb
  · rintro ⟨q, hq, hqb⟩
    by_cases e2 : j = i
    · subst e2; rw [lk_cons_same] at hi; cases hi; exact hb
    · rw [lk_cons_other _ _ e2] at hi
      rcases List.mem_append.1 hq with h1 | h1
      · exact h.sep k i _ _ hk hi (Ne.symm hne') b ⟨q, h1, hqb⟩ hb
      · rw [List.mem_singleton.1 h1] at hqb
        exact h.sep j i _ _ hj hi e2 b hqb hb
section
variable {P : Program} {w₀ w : World} {L : Heap} {ρ : Operand → Value} {ty : TypeId} {ps : String} {af : Array Edge} {g : Option (Nat × Bool)}
end
end
end Go.Proofs.Ytcidgbjgeegepaa
/- net: parcels, plainly and in memory. -/
namespace Go.Proofs.Ytcidgbjgeegepaa
open Go Go.RowKit
/-- A parcel: its bytes lie somewhere. -/
structure Pcl where
  to : Int
  r : RowG By
  sp : Bool
abbrev Pcl.cells (p : Pcl) : List Value := [.int .i64 p.to, .slice p.r.a p.r.l.length p.r.cap, .bool p.sp]
theorem Pcl.cells_len (p : Pcl) : p.cells.length = 3 := rfl
abbrev Pcl.v (p : Pcl) : Value := .agg p.cells.toArray
/-- Its bytes lie in memory, and are not too many. -/
abbrev Pcl.ok (w : World) (p : Pcl) : Prop := SliceAt w p.r.a p.r.cap 1 byc p.r.l ∧ p.r.cap ≤ Go.maxLen ∧ p.r.l.length ≤ 10000
def PcsAt (w : World) (l : List Pcl) : Prop := ∀ p ∈ l, p.ok w
theorem PcsAt.keep {w w' : World} {l : List Pcl} (h : PcsAt w l) (hb : Below w.heap.size w w') : PcsAt w' l := fun p hp => ⟨(h p hp).1.keep hb, (h p hp).2⟩
theorem PcsAt.sub {w : World} {l m : List Pcl} (h : PcsAt w l) (hs : ∀ p ∈ m, p ∈ l) : PcsAt w m := fun p hp => h p (hs p hp)
/-- A row of parcels, to be read. -/
abbrev NetR := RowG Pcl
abbrev MT : Int := 4611686018427387904
/-- A trick. -/
structure Trk where
  kind : Int
  at' : Int
  bit : Int
  mask : Wd
abbrev Trk.cells (t : Trk) : List Value := [.int .i64 t.kind, .int .i64 t.at', .int .i64 t.bit, .int .u32 (t.mask.toNat : Int)]
theorem Trk.cells_len (t : Trk) : t.cells.length = 4 := rfl
abbrev Trk.v (t : Trk) : Value := .agg t.cells.toArray
/-- What comes of bytes whose bits are turned. -/
def spoilI (l : List By) (bit : Int) (mask : Wd) : Option (List By) := if 0 ≤ bit then spoilP l bit.toNat mask else none
end Go.Proofs.Ytcidgbjgeegepaa
/- append of so many zeros onto nil. Over any program. -/
namespace Go.Proofs.Ytcidgbjgeegepaa
open Go Go.RowKit
section
variable {P : Program} {w₀ w : World} {L : Heap} {ρ : Operand → Value} {d : Option Tmp} {ty : TypeId} {ps : String} {af : Array Edge} {g : Option (Nat × Bool)}
theorem o_growZ {x y : Operand} {ats : Array TypeId} {t tn e : TypeId} {kn : IntKind} {n s by' : Nat} {z : Value} (i : Nat) (hfr : lk L i = none) (hat : ats = #[t, tn]) (hx : ρ x = .slice none 0 0) (hy : ρ y = .int .i64 (n : Nat)) (ht : sliOf P t = some e) (htn : intOf? P tn = some kn)
    (hs : szOf P e = some s) (hs0 : Nat.blt 0 s = true) (hby : byOf P e = some by') (hz : zeroOf P e = some z) (hzs : z.cells.size = s) (h0 : 0 < n) (h63 : n ≤ 4611686018427387904) (hb : n * by' ≤ 140737488355328) (hm : MemOk w₀ L w) :
    ∃ (c : Nat × Nat) (w' : World), (execOp ρ (mk d (.call { callee := .builtin .append, args := #[x, y], argTypes := ats }) ty ps af g)).run P w = .ok (.value (.slice (some ⟨c.1, 0, none⟩) n c.2)) w' ∧ MemOk w₀ ((i, .row (.slice (some ⟨c.1, 0, none⟩) 0 c.2) e s 0 []) :: L) w' := by
  subst hat
  obtain ⟨ti, hi, hsz⟩ := Option.map_eq_some_iff.1 hs
  obtain ⟨ti', hi', hbz⟩ := Option.map_eq_some_iff.1 hby
  rw [hi] at hi'; cases hi'
  have hzz : ti.zero = some z := by simpa [zeroOf, hi] using hz
  have hs1 : 0 < s := by rw [Nat.blt_eq] at hs0; exact hs0
  have hr := Go.Lib.run_append_nil_zeros (P := P) w t tn ty e ti z .i64 kn (und_sli ht) (und_int htn) hi hzz n h0 (by rw [hsz]; exact hs1) (by omega) (by rw [hbz]; omega)
  refine ⟨(w.heap.size, grownCap w n 0 e), _, by rw [run_builtin]; simp only [List.map_toArray, List.map_cons, List.map_nil, hx, hy]; exact run_v hr, ?_⟩
  · have hcm : grownCap w n 0 e ≤ Go.maxLen := grownCap_le_maxLen w n 0 e (by unfold Go.maxLen; omega)
    have hge := grownCap_ge w n 0 e
    refine hm.grow (n := 0) (xs := []) (.inr ⟨hfr, (rfl : (Value.slice none 0 0).ownBlock = none)⟩) ⟨rfl, rfl, rfl, by simp, fun k hk _ => Go.heap_alloc_old w.drew _ k hk⟩ ⟨by simp, .inr ⟨w.heap.size, _, _, rfl, hm.ext.size, Go.heap_alloc_new w.drew _, Nat.zero_le _, hcm, ?_, by simp⟩⟩ (.inr rfl)
    simp only [Array.size_append, size_zeroCells, hzs, ← Nat.add_mul]
    congr 1
    omega
end
end Go.Proofs.Ytcidgbjgeegepaa
/- net and journal: slices.Grow, slices.Concat. Printed by a program of this seat's prover. -/
namespace Go.Proofs.Ytcidgbjgeegepaa
open Go Go.RowKit
set_option maxRecDepth 10000
theorem flat_stepR {α : Type} {rs : List (RowG α)} {k : Nat} {r : RowG α} (h : rs[k]? = some r) : (rs.take (k + 1)).flatMap RowG.l = (rs.take k).flatMap RowG.l ++ r.l := by
  rw [List.take_add_one, h, List.flatMap_append]
  simp
theorem con_as {α : Type} {f : α → List Value} {g e s : Nat} {args : Array Value} {w : World} {l l' : List α} (h : Calls Try.prog g args w fun en w' => ∃ a' cap', en = .returned (.slice a' l.length cap') ∧ Below w.heap.size w w' ∧ w'.ownsRow w.heap.size e s (.slice a' l.length cap') l.length (l.flatMap f)) (hl : l = l') :
    Calls Try.prog g args w fun en w' => ∃ a' cap', en = .returned (.slice a' l'.length cap') ∧ Below w.heap.size w w' ∧ w'.ownsRow w.heap.size e s (.slice a' l'.length cap') l'.length (l'.flatMap f) := hl ▸ h
theorem flat_leR {α : Type} (rs : List (RowG α)) (k : Nat) : ((rs.take k).flatMap RowG.l).length ≤ (rs.flatMap RowG.l).length := by
  have e : rs.flatMap RowG.l = (rs.take k).flatMap RowG.l ++ (rs.drop k).flatMap RowG.l := by rw [← List.flatMap_append, List.take_append_drop]
  rw [e, List.length_append]; omega
theorem rows_oneG {α : Type} {f : α → List Value} (ho : ∀ x, ∀ u ∈ f x, u.oneCell' = true) {l : List α} : ∀ u ∈ l.flatMap f, u.oneCell' = true := fun u hu => by
  obtain ⟨x, _, hx⟩ := List.mem_flatMap.1 hu
  exact ho x u hx

theorem gro_b (n : Nat) (w : World) (hn : n ≤ 1000000) : Calls Try.prog 94 #[.slice none 0 0, .int .i64 (n : Int)] w fun e w' => ∃ a' cap', e = .returned (.slice a' 0 cap') ∧ Below w.heap.size w w' ∧ w'.ownsRow w.heap.size 5 1 (.slice a' 0 cap') 0 [] := by
  refine calls_of_T (l := [.slice none 0 0, .int .i64 ((n : Nat) : Int)]) 27 Try.func94 rfl rfl rfl ?_
  show T _ _ _ [(0, .slice none 0 0), (1, .int .i64 ((n : Nat) : Int))] []
  refine T_seq (T_region ?_)
  refine TL_q (.slice none 0 0) (fun _ _ hρ _ => r_assign (hρ _ _ rfl)) rfl rfl rfl (w_n rfl) ?_
  refine TL_seq ?_
  refine T_seq ?_
  refine T_seq (T_region ?_)
  refine TL_q (.int .i64 ((n : Nat) : Int)) (fun _ _ hρ _ => r_move (hρ _ _ rfl)) rfl rfl rfl (w_n rfl) ?_
  refine TL_q (.bool false) (fun _ _ hρ _ => r_as (r_lss (hρ _ _ rfl) (hρ _ _ rfl)) (bool_as (decide_eq_false (by omega)))) rfl rfl rfl (w_n rfl) ?_
  refine TL_seq ?_
  refine T_cond_f rfl ?_
  refine T_skip' ?_
  refine p_seq ?_
  refine T_seq ?_
  refine T_seq (T_region ?_)
  refine TL_q (.int .i64 ((n : Nat) : Int)) (fun _ _ hρ _ => r_move (hρ _ _ rfl)) rfl rfl rfl (w_n rfl) ?_
  refine TL_q (.slice none 0 0) (fun _ _ hρ _ => r_move (hρ _ _ rfl)) rfl rfl rfl (w_n rfl) ?_
  refine TL_q (.int .i64 0) (fun _ _ hρ _ => r_cap sl34 (hρ _ _ rfl)) rfl rfl rfl (w_n rfl) ?_
  refine TL_q (.slice none 0 0) (fun _ _ hρ _ => r_move (hρ _ _ rfl)) rfl rfl rfl (w_n rfl) ?_
  refine TL_q (.int .i64 0) (fun _ _ hρ _ => r_len sl34 (hρ _ _ rfl)) rfl rfl rfl (w_n rfl) ?_
  refine TL_q (.int .i64 0) (fun _ _ hρ _ => r_as (r_sub (hρ _ _ rfl) (hρ _ _ rfl)) (by rfl)) rfl rfl rfl (w_n rfl) ?_
  refine TL_q (.int .i64 ((n - 0 : Nat) : Int)) (fun _ _ hρ _ => r_as (r_sub (hρ _ _ rfl) (hρ _ _ rfl)) (int_as ((wrap64 (by omega) (by omega)).trans (by omega)))) rfl rfl rfl (w_n rfl) ?_
  refine TL_q (.int .i64 ((n - 0 : Nat) : Int)) (fun _ _ hρ _ => r_assign (hρ _ _ rfl)) rfl rfl rfl (w_n rfl) ?_
  refine TL_seq ?_
  by_cases h0 : 0 < n
  · skip
    refine T_seq (T_region ?_)
    refine TL_q (.int .i64 ((n - 0 : Nat) : Int)) (fun _ _ hρ _ => r_move (hρ _ _ rfl)) rfl rfl rfl (w_n rfl) ?_
    refine TL_q (.bool (decide ((0 : Int) < ((n - 0 : Nat) : Int)))) (fun _ _ hρ _ => r_gtr (hρ _ _ rfl) (hρ _ _ rfl)) rfl rfl rfl (w_n rfl) ?_
    refine TL_seq ?_
    refine T_cond rfl (fun h1 => ?_) (fun h1 => ?_)
    · replace h1 := of_decide_eq_true h1
      refine T_region ?_
      refine TL_q (.slice none 0 0) (fun _ _ hρ _ => r_move (hρ _ _ rfl)) rfl rfl rfl (w_n rfl) ?_
      refine TL_q (.slice none 0 0) (fun _ _ hρ _ => r_move (hρ _ _ rfl)) rfl rfl rfl (w_n rfl) ?_
      refine TL_q (.int .i64 0) (fun _ _ hρ _ => r_cap sl34 (hρ _ _ rfl)) rfl rfl rfl (w_n rfl) ?_
      refine TL_q (.slice none 0 0) (fun ρ _ hρ _ => r_sliceN sl34 sz5 (hρ _ _ rfl) (bd_none ρ _) (bd_some (n := 0) (hρ _ _ rfl)) (bd_none ρ _) (by simp)) rfl rfl rfl (w_n rfl) ?_
      refine TL_q (.int .i64 ((n - 0 : Nat) : Int)) (fun _ _ hρ _ => r_move (hρ _ _ rfl)) rfl rfl rfl (w_n rfl) ?_
      refine TL_op (ι := Nat × Nat) (fun B => .slice (some ⟨B.1, 0, none⟩) n B.2) _ (fun _ _ hρ hm => o_growZ (n := n) (z := .int .u8 0) 940 rfl rfl (hρ _ _ rfl) (hρ _ _ rfl) sl34 io3 sz5 rfl by5 (by kernel_rfl) rfl (by omega) (by omega) (by omega) hm) rfl rfl rfl (w_n rfl) ?_
      intro B1
      refine TL_q (.slice none 0 0) (fun _ _ hρ _ => r_move (hρ _ _ rfl)) rfl rfl rfl (w_n rfl) ?_
      refine TL_q (.int .i64 0) (fun _ _ hρ _ => r_len sl34 (hρ _ _ rfl)) rfl rfl rfl (w_n rfl) ?_
      refine TL_q (.slice (some ⟨B1.1, 0, none⟩) 0 B1.2) (fun ρ _ hρ _ => r_as (r_sliceS sl34 sz5 (hρ _ _ rfl) (bd_none ρ _) (bd_some (n := 0) (hρ _ _ rfl)) (bd_none ρ _) (by simp) (by omega) (by omega) (by omega)) (by simp)) rfl rfl rfl (w_n rfl) ?_
      refine TL_q (.slice (some ⟨B1.1, 0, none⟩) 0 B1.2) (fun _ _ hρ _ => r_assign (hρ _ _ rfl)) rfl rfl rfl (w_n rfl) ?_
      refine TL_nil ?_
      refine p_seq ?_
      refine T_seq (T_region ?_)
      refine TL_q (.slice (some ⟨B1.1, 0, none⟩) 0 B1.2) (fun _ _ hρ _ => r_move (hρ _ _ rfl)) rfl rfl rfl (w_n rfl) ?_
      refine TL_q (.slice (some ⟨B1.1, 0, none⟩) 0 B1.2) (fun _ _ hρ _ => r_assign (hρ _ _ rfl)) rfl rfl rfl (w_n rfl) ?_
      refine TL_seq ?_
      refine T_ret' ?_
      refine ret_of rfl (.slice (some ⟨B1.1, 0, none⟩) 0 B1.2) (fun tmps w hk hm => res1 rfl (res_tmp (hk 4 _ rfl))) (fun w hm => ?_)
      exact ⟨some ⟨B1.1, 0, none⟩, B1.2, rfl, hm.ext, hm.row 940 rfl⟩
    · replace h1 := of_decide_eq_false h1
      refine T_skip' ?_
      refine p_seq ?_
      refine T_seq (T_region ?_)
      refine TL_q (.slice none 0 0) (fun _ _ hρ _ => r_move (hρ _ _ rfl)) rfl rfl rfl (w_n rfl) ?_
      refine TL_q (.slice none 0 0) (fun _ _ hρ _ => r_assign (hρ _ _ rfl)) rfl rfl rfl (w_n rfl) ?_
      refine TL_seq ?_
      refine T_ret' ?_
      refine ret_of rfl (.slice none 0 0) (fun tmps w hk hm => res1 rfl (res_tmp (hk 4 _ rfl))) (fun w hm => ?_)
      exact ⟨none, 0, rfl, hm.ext, World.ownsRow_nil _ _ _ _⟩
  · skip
    refine T_seq (T_region ?_)
    refine TL_q (.int .i64 ((n - 0 : Nat) : Int)) (fun _ _ hρ _ => r_move (hρ _ _ rfl)) rfl rfl rfl (w_n rfl) ?_
    refine TL_q (.bool (decide ((0 : Int) < ((n - 0 : Nat) : Int)))) (fun _ _ hρ _ => r_gtr (hρ _ _ rfl) (hρ _ _ rfl)) rfl rfl rfl (w_n rfl) ?_
    refine TL_seq ?_
    refine T_cond rfl (fun h2 => ?_) (fun h2 => ?_)
    · replace h2 := of_decide_eq_true h2
      refine T_region ?_
      refine TL_q (.slice none 0 0) (fun _ _ hρ _ => r_move (hρ _ _ rfl)) rfl rfl rfl (w_n rfl) ?_
      refine TL_q (.slice none 0 0) (fun _ _ hρ _ => r_move (hρ _ _ rfl)) rfl rfl rfl (w_n rfl) ?_
      refine TL_q (.int .i64 0) (fun _ _ hρ _ => r_cap sl34 (hρ _ _ rfl)) rfl rfl rfl (w_n rfl) ?_
      refine TL_q (.slice none 0 0) (fun ρ _ hρ _ => r_sliceN sl34 sz5 (hρ _ _ rfl) (bd_none ρ _) (bd_some (n := 0) (hρ _ _ rfl)) (bd_none ρ _) (by simp)) rfl rfl rfl (w_n rfl) ?_
      refine TL_q (.int .i64 ((n - 0 : Nat) : Int)) (fun _ _ hρ _ => r_move (hρ _ _ rfl)) rfl rfl rfl (w_n rfl) ?_
      refine TL_op (ι := Nat × Nat) (fun B => .slice (some ⟨B.1, 0, none⟩) n B.2) _ (fun _ _ hρ hm => o_growZ (n := n) (z := .int .u8 0) 940 rfl rfl (hρ _ _ rfl) (hρ _ _ rfl) sl34 io3 sz5 rfl by5 (by kernel_rfl) rfl (by omega) (by omega) (by omega) hm) rfl rfl rfl (w_n rfl) ?_
      intro B2
      refine TL_q (.slice none 0 0) (fun _ _ hρ _ => r_move (hρ _ _ rfl)) rfl rfl rfl (w_n rfl) ?_
      refine TL_q (.int .i64 0) (fun _ _ hρ _ => r_len sl34 (hρ _ _ rfl)) rfl rfl rfl (w_n rfl) ?_
      refine TL_q (.slice (some ⟨B2.1, 0, none⟩) 0 B2.2) (fun ρ _ hρ _ => r_as (r_sliceS sl34 sz5 (hρ _ _ rfl) (bd_none ρ _) (bd_some (n := 0) (hρ _ _ rfl)) (bd_none ρ _) (by simp) (by omega) (by omega) (by omega)) (by simp)) rfl rfl rfl (w_n rfl) ?_
      refine TL_q (.slice (some ⟨B2.1, 0, none⟩) 0 B2.2) (fun _ _ hρ _ => r_assign (hρ _ _ rfl)) rfl rfl rfl (w_n rfl) ?_
      refine TL_nil ?_
      refine p_seq ?_
      refine T_seq (T_region ?_)
      refine TL_q (.slice (some ⟨B2.1, 0, none⟩) 0 B2.2) (fun _ _ hρ _ => r_move (hρ _ _ rfl)) rfl rfl rfl (w_n rfl) ?_
      refine TL_q (.slice (some ⟨B2.1, 0, none⟩) 0 B2.2) (fun _ _ hρ _ => r_assign (hρ _ _ rfl)) rfl rfl rfl (w_n rfl) ?_
      refine TL_seq ?_
      refine T_ret' ?_
      refine ret_of rfl (.slice (some ⟨B2.1, 0, none⟩) 0 B2.2) (fun tmps w hk hm => res1 rfl (res_tmp (hk 4 _ rfl))) (fun w hm => ?_)
      exact ⟨some ⟨B2.1, 0, none⟩, B2.2, rfl, hm.ext, hm.row 940 rfl⟩
    · replace h2 := of_decide_eq_false h2
      refine T_skip' ?_
      refine p_seq ?_
      refine T_seq (T_region ?_)
      refine TL_q (.slice none 0 0) (fun _ _ hρ _ => r_move (hρ _ _ rfl)) rfl rfl rfl (w_n rfl) ?_
      refine TL_q (.slice none 0 0) (fun _ _ hρ _ => r_assign (hρ _ _ rfl)) rfl rfl rfl (w_n rfl) ?_
      refine TL_seq ?_
      refine T_ret' ?_
      refine ret_of rfl (.slice none 0 0) (fun tmps w hk hm => res1 rfl (res_tmp (hk 4 _ rfl))) (fun w hm => ?_)
      exact ⟨none, 0, rfl, hm.ext, World.ownsRow_nil _ _ _ _⟩

set_option maxHeartbeats 1000000 in
theorem con_b (rs : List (RowG By)) (a : Option Addr) (cap : Nat) (w : World) (hv : SliceAt w a cap 1 RowG.cells rs) (hcap : cap ≤ Go.maxLen) (hrs : ∀ r ∈ rs, SliceAt w r.a r.cap 1 byc r.l ∧ r.cap ≤ Go.maxLen) (hn : (rs.flatMap RowG.l).length ≤ 1000000) (hk2 : rs.length ≤ 1000) : Calls Try.prog 54 #[.slice a rs.length cap] w fun e w' => ∃ a' cap', e = .returned (.slice a' (rs.flatMap RowG.l).length cap') ∧ Below w.heap.size w w' ∧ w'.ownsRow w.heap.size 5 1 (.slice a' (rs.flatMap RowG.l).length cap') (rs.flatMap RowG.l).length ((rs.flatMap RowG.l).flatMap byc) := by
  have hvl := hv.1
  have hle9 := flat_leR rs rs.length
  rw [List.take_length] at hle9
  unfold Go.maxLen at hcap
  refine calls_of_T (l := [.slice a rs.length cap]) 36 Try.func54 rfl rfl rfl ?_
  show T _ _ _ [(0, .slice a rs.length cap)] []
  refine T_seq (T_region ?_)
  refine TL_q (.slice none 0 0) (fun _ _ hρ _ => r_assign (hρ _ _ rfl)) rfl rfl rfl (w_n rfl) ?_
  refine TL_seq ?_
  refine T_seq (T_region ?_)
  refine TL_q (.int .i64 0) (fun _ _ hρ _ => r_assign (hρ _ _ rfl)) rfl rfl rfl (w_n rfl) ?_
  refine TL_seq ?_
  refine T_seq ?_
  refine T_seq (T_region ?_)
  refine TL_q (.slice a rs.length cap) (fun _ _ hρ _ => r_move (hρ _ _ rfl)) rfl rfl rfl (w_n rfl) ?_
  refine TL_q (.int .i64 ((rs.length : Nat) : Int)) (fun _ _ hρ _ => r_len sl63 (hρ _ _ rfl)) rfl rfl rfl (w_n rfl) ?_
  refine TL_q (.int .i64 0) (fun _ _ hρ _ => r_move (hρ _ _ rfl)) rfl rfl rfl (w_n rfl) ?_
  refine TL_seq ?_
  refine T_block ?_
  refine T_loop (ι := Nat) (fun (k : Nat) => k ≤ rs.length) (fun (k : Nat) => [(0, .slice a rs.length cap), (2, .slice none 0 0), (9, .slice a rs.length cap), (10, .int .i64 ((rs.length : Nat) : Int)), (11, .int .i64 ((k : Nat) : Int)), (3, .int .i64 ((((rs.take k).flatMap RowG.l).length : Nat) : Int))]) (fun (k : Nat) => []) (fun (k : Nat) => rs.length - k) 0 (Nat.zero_le _) (sub_cons rfl (sub_cons rfl (sub_cons rfl (sub_cons rfl (sub_cons rfl (sub_cons rfl sub_nil)))))) sub_nil ?_
  rintro k hp
  have hk := hp
  show T _ _ _ [(0, .slice a rs.length cap), (2, .slice none 0 0), (9, .slice a rs.length cap), (10, .int .i64 ((rs.length : Nat) : Int)), (11, .int .i64 ((k : Nat) : Int)), (3, .int .i64 ((((rs.take k).flatMap RowG.l).length : Nat) : Int))] []
  refine T_seq (T_region ?_)
  refine TL_q (.bool (decide (((k : Nat) : Int) < ((rs.length : Nat) : Int)))) (fun _ _ hρ _ => r_lss (hρ _ _ rfl) (hρ _ _ rfl)) rfl rfl rfl (w_n rfl) ?_
  refine TL_seq ?_
  refine T_seq ?_
  refine T_cond rfl (fun h1 => ?_) (fun h1 => ?_)
  · replace h1 := of_decide_eq_true h1
    refine T_skip' ?_
    refine p_seq ?_
    refine T_seq ?_
    refine T_block ?_
    obtain ⟨r, hr⟩ : ∃ x, rs[k]? = some x := ⟨_, List.getElem?_eq_getElem (by omega)⟩
    have hro := hrs r (List.mem_of_getElem? hr)
    have hst := flat_stepR hr
    have hsl := congrArg List.length hst
    rw [List.length_append] at hsl
    have hrl := hro.1.1
    have hrc := hro.2
    unfold Go.maxLen at hrc
    have hle := flat_leR rs (k + 1)
    obtain ⟨b1, of1, cs1, T1, fz1, ha1, hq1, hr1⟩ := hv.open (i := k) (by omega)
    subst ha1
    refine T_seq (T_region ?_)
    refine TL_q (.pointer (some ⟨b1, of1 + k * 1, none⟩)) (fun _ _ hρ _ => r_indexAddrS (i := k) sl63 sz34 (hρ _ _ rfl) (hρ _ _ rfl) (by omega)) rfl rfl rfl (w_n rfl) ?_
    refine TL_q (.slice r.a r.l.length r.cap) (fun _ _ hρ hm => r_loadRow1 (f := RowG.cells) (u := r) ag34 (hρ _ _ rfl) (hm.old hq1) hr1 hr rfl) rfl rfl rfl (w_n rfl) ?_
    refine TL_q (.slice r.a r.l.length r.cap) (fun _ _ hρ _ => r_assign (hρ _ _ rfl)) rfl rfl rfl (w_n rfl) ?_
    refine TL_seq ?_
    refine T_seq (T_region ?_)
    refine TL_q (.int .i64 ((((rs.take k).flatMap RowG.l).length : Nat) : Int)) (fun _ _ hρ _ => r_move (hρ _ _ rfl)) rfl rfl rfl (w_n rfl) ?_
    refine TL_q (.slice r.a r.l.length r.cap) (fun _ _ hρ _ => r_move (hρ _ _ rfl)) rfl rfl rfl (w_n rfl) ?_
    refine TL_q (.int .i64 ((r.l.length : Nat) : Int)) (fun _ _ hρ _ => r_len sl34 (hρ _ _ rfl)) rfl rfl rfl (w_n rfl) ?_
    refine TL_q (.int .i64 (((((rs.take k).flatMap RowG.l).length) + r.l.length : Nat) : Int)) (fun _ _ hρ _ => r_as (r_add (hρ _ _ rfl) (hρ _ _ rfl)) (int_as ((wrap64 (by omega) (by omega)).trans (by omega)))) rfl rfl rfl (w_n rfl) ?_
    refine TL_q (.int .i64 (((((rs.take k).flatMap RowG.l).length) + r.l.length : Nat) : Int)) (fun _ _ hρ _ => r_assign (hρ _ _ rfl)) rfl rfl rfl (w_n rfl) ?_
    refine TL_seq ?_
    refine T_seq (T_region ?_)
    refine TL_q (.int .i64 (((((rs.take k).flatMap RowG.l).length) + r.l.length : Nat) : Int)) (fun _ _ hρ _ => r_move (hρ _ _ rfl)) rfl rfl rfl (w_n rfl) ?_
    refine TL_q (.bool false) (fun _ _ hρ _ => r_as (r_lss (hρ _ _ rfl) (hρ _ _ rfl)) (bool_as (decide_eq_false (by omega)))) rfl rfl rfl (w_n rfl) ?_
    refine TL_seq ?_
    refine T_cond_f rfl ?_
    refine T_skip' ?_
    refine p_blk_n ?_
    refine p_seq ?_
    refine T_region ?_
    refine TL_q (.int .i64 ((k + 1 : Nat) : Int)) (fun _ _ hρ _ => r_as (r_add (hρ _ _ rfl) (hρ _ _ rfl)) (int_as ((wrap64 (by omega) (by omega)).trans (by omega)))) rfl rfl rfl (w_n rfl) ?_
    refine TL_q (.int .i64 ((k + 1 : Nat) : Int)) (fun _ _ hρ _ => r_move (hρ _ _ rfl)) rfl rfl rfl (w_n rfl) ?_
    refine TL_nil ?_
    exact p_at (k + 1) ⟨by omega, by omega⟩ (sub_cons rfl (sub_cons rfl (sub_cons rfl (sub_cons rfl (sub_cons rfl (sub_cons (by rw [hst, List.length_append]; rfl) sub_nil)))))) sub_nil
  · replace h1 := of_decide_eq_false h1
    refine T_exit' ?_
    refine p_then_x ?_
    refine p_then_x ?_
    refine p_blk_x ?_
    refine p_seq ?_
    have hke : k = rs.length := by omega
    subst hke
    have hlz := flat_leR rs rs.length
    refine T_seq (T_region ?_)
    refine TL_q (.int .i64 ((((rs.take rs.length).flatMap RowG.l).length : Nat) : Int)) (fun _ _ hρ _ => r_move (hρ _ _ rfl)) rfl rfl rfl (w_n rfl) ?_
    refine TL_callN (fun (_ : Option Addr × Nat) => True) (fun (ag2, cg2) => .slice ag2 0 cg2) (fun (ag2, cg2) => [(941, .row (.slice ag2 0 cg2) 5 1 0 [])]) (fun _ _ hρ _ => r_call (args := [.slice none 0 0, .int .i64 ((((rs.take rs.length).flatMap RowG.l).length : Nat) : Int)]) (enters_of Try.func94 (by kernel_rfl) rfl) (hρ _ _ rfl) ((cons2 (hρ _ _ rfl) (cons2 (hρ _ _ rfl) rfl))) rfl) (fun w _ => (gro_b (((rs.take rs.length).flatMap RowG.l).length) w (by omega)).mono fun e w' ⟨a', cap', he, hb, hr⟩ => ⟨(a', cap'), trivial, he, hb, newOk1 941 hr⟩) rfl rfl rfl (w_n rfl) ?_
    rintro ⟨ag2, cg2⟩ -
    refine TL_q (.slice ag2 0 cg2) (fun _ _ hρ _ => r_assign (hρ _ _ rfl)) rfl rfl rfl (w_n rfl) ?_
    refine TL_seq ?_
    refine T_seq ?_
    refine T_seq (T_region ?_)
    refine TL_q (.slice a rs.length cap) (fun _ _ hρ _ => r_move (hρ _ _ rfl)) rfl rfl rfl (w_n rfl) ?_
    refine TL_q (.int .i64 ((rs.length : Nat) : Int)) (fun _ _ hρ _ => r_len sl63 (hρ _ _ rfl)) rfl rfl rfl (w_n rfl) ?_
    refine TL_q (.int .i64 0) (fun _ _ hρ _ => r_move (hρ _ _ rfl)) rfl rfl rfl (w_n rfl) ?_
    refine TL_seq ?_
    refine T_block ?_
    refine T_loop (ι := Nat × Option Addr × Nat) (fun (z : Nat × Option Addr × Nat) => match z with | (k, a2, cap2) => k ≤ rs.length) (fun (z : Nat × Option Addr × Nat) => match z with | (k, a2, cap2) => [(2, .slice none 0 0), (25, .slice a rs.length cap), (26, .int .i64 ((rs.length : Nat) : Int)), (27, .int .i64 ((k : Nat) : Int)), (6, .slice a2 (((rs.take k).flatMap RowG.l).length) cap2)]) (fun (z : Nat × Option Addr × Nat) => match z with | (k, a2, cap2) => [(941, .row (.slice a2 (((rs.take k).flatMap RowG.l).length) cap2) 5 1 (((rs.take k).flatMap RowG.l).length) (((rs.take k).flatMap RowG.l).flatMap byc))]) (fun (z : Nat × Option Addr × Nat) => match z with | (k, a2, cap2) => rs.length - k) (0, ag2, cg2) (Nat.zero_le _) (sub_cons rfl (sub_cons rfl (sub_cons rfl (sub_cons rfl (sub_cons rfl sub_nil))))) (sub_cons rfl sub_nil) ?_
    rintro ⟨k, a2, cap2⟩ hp
    have hk := hp
    have hle0 := flat_leR rs k
    show T _ _ _ [(2, .slice none 0 0), (25, .slice a rs.length cap), (26, .int .i64 ((rs.length : Nat) : Int)), (27, .int .i64 ((k : Nat) : Int)), (6, .slice a2 (((rs.take k).flatMap RowG.l).length) cap2)] [(941, .row (.slice a2 (((rs.take k).flatMap RowG.l).length) cap2) 5 1 (((rs.take k).flatMap RowG.l).length) (((rs.take k).flatMap RowG.l).flatMap byc))]
    refine T_seq (T_region ?_)
    refine TL_q (.bool (decide (((k : Nat) : Int) < ((rs.length : Nat) : Int)))) (fun _ _ hρ _ => r_lss (hρ _ _ rfl) (hρ _ _ rfl)) rfl rfl rfl (w_n rfl) ?_
    refine TL_seq ?_
    refine T_seq ?_
    refine T_cond rfl (fun h2 => ?_) (fun h2 => ?_)
    · replace h2 := of_decide_eq_true h2
      refine T_skip' ?_
      refine p_seq ?_
      refine T_seq ?_
      refine T_block ?_
      obtain ⟨r, hr⟩ : ∃ x, rs[k]? = some x := ⟨_, List.getElem?_eq_getElem (by omega)⟩
      have hro := hrs r (List.mem_of_getElem? hr)
      have hst := flat_stepR hr
      have hsl := congrArg List.length hst
      rw [List.length_append] at hsl
      have hrl := hro.1.1
      have hrc := hro.2
      unfold Go.maxLen at hrc
      have hle := flat_leR rs (k + 1)
      obtain ⟨b3, of3, cs3, T3, fz3, ha3, hq3, hr3⟩ := hv.open (i := k) (by omega)
      subst ha3
      refine T_seq (T_region ?_)
      refine TL_q (.pointer (some ⟨b3, of3 + k * 1, none⟩)) (fun _ _ hρ _ => r_indexAddrS (i := k) sl63 sz34 (hρ _ _ rfl) (hρ _ _ rfl) (by omega)) rfl rfl rfl (w_n rfl) ?_
      refine TL_q (.slice r.a r.l.length r.cap) (fun _ _ hρ hm => r_loadRow1 (f := RowG.cells) (u := r) ag34 (hρ _ _ rfl) (hm.old hq3) hr3 hr rfl) rfl rfl rfl (w_n rfl) ?_
      refine TL_q (.slice r.a r.l.length r.cap) (fun _ _ hρ _ => r_assign (hρ _ _ rfl)) rfl rfl rfl (w_n rfl) ?_
      refine TL_seq ?_
      refine T_region ?_
      refine TL_q (.slice a2 (((rs.take k).flatMap RowG.l).length) cap2) (fun _ _ hρ _ => r_move (hρ _ _ rfl)) rfl rfl rfl (w_n rfl) ?_
      refine TL_q (.slice r.a r.l.length r.cap) (fun _ _ hρ _ => r_move (hρ _ _ rfl)) rfl rfl rfl (w_n rfl) ?_
      refine TL_append (n := ((rs.take k).flatMap RowG.l).length) (m := r.l.length) (xs := (((rs.take k).flatMap RowG.l).flatMap byc)) (news := (r.l.flatMap byc)) (z := .int .u8 0) 941 rfl rfl rfl sl34 sz5 by5 (by kernel_rfl) rfl rfl (.inl rfl) (fun _ hm => by have := src_of byc_len (hro.1.keep hm.ext); simpa using this) (rows_oneG byc_one) (by omega) (by omega) rfl (w_n rfl) ?_
      intro a4 cap4
      refine TL_q (.slice a4 (((rs.take k).flatMap RowG.l).length + r.l.length) cap4) (fun _ _ hρ _ => r_assign (hρ _ _ rfl)) rfl rfl rfl (w_n rfl) ?_
      refine TL_nil ?_
      refine p_blk_n ?_
      refine p_seq ?_
      refine T_region ?_
      refine TL_q (.int .i64 ((k + 1 : Nat) : Int)) (fun _ _ hρ _ => r_as (r_add (hρ _ _ rfl) (hρ _ _ rfl)) (int_as ((wrap64 (by omega) (by omega)).trans (by omega)))) rfl rfl rfl (w_n rfl) ?_
      refine TL_q (.int .i64 ((k + 1 : Nat) : Int)) (fun _ _ hρ _ => r_move (hρ _ _ rfl)) rfl rfl rfl (w_n rfl) ?_
      refine TL_nil ?_
      have e1 : (((rs.take k).flatMap RowG.l).length + r.l.length) = ((rs.take (k + 1)).flatMap RowG.l).length := by rw [hst, List.length_append]
      have e2 : ((((rs.take k).flatMap RowG.l).flatMap byc) ++ (r.l.flatMap byc)) = ((rs.take (k + 1)).flatMap RowG.l).flatMap byc := by rw [hst, List.flatMap_append]
      rw [e1, e2]
      exact p_at (k + 1, a4, cap4) ⟨by omega, by dsimp only; omega⟩ (sub_cons rfl (sub_cons rfl (sub_cons rfl (sub_cons rfl (sub_cons rfl sub_nil))))) (sub_cons rfl sub_nil)
    · replace h2 := of_decide_eq_false h2
      refine T_exit' ?_
      refine p_then_x ?_
      refine p_then_x ?_
      refine p_blk_x ?_
      refine p_seq ?_
      refine T_seq (T_region ?_)
      refine TL_q (.slice a2 (((rs.take k).flatMap RowG.l).length) cap2) (fun _ _ hρ _ => r_move (hρ _ _ rfl)) rfl rfl rfl (w_n rfl) ?_
      refine TL_q (.slice a2 (((rs.take k).flatMap RowG.l).length) cap2) (fun _ _ hρ _ => r_assign (hρ _ _ rfl)) rfl rfl rfl (w_n rfl) ?_
      refine TL_seq ?_
      refine T_ret' ?_
      refine ret_of rfl (.slice a2 (((rs.take k).flatMap RowG.l).length) cap2) (fun tmps w hk hm => res1 rfl (res_tmp (hk 2 _ rfl))) (fun w hm => ?_)
      have hke : k = rs.length := by omega
      subst hke
      rw [List.take_length]
      have hrow := hm.row 941 rfl
      rw [List.take_length] at hrow
      exact ⟨a2, cap2, rfl, hm.ext, hrow⟩

end Go.Proofs.Ytcidgbjgeegepaa
/- net and journal: joined, Join, first. Printed by a program of this seat's prover. -/
namespace Go.Proofs.Ytcidgbjgeegepaa
open Go Go.RowKit
set_option maxRecDepth 10000
theorem join_step {rs : List (RowG By)} {k : Nat} {r : RowG By} (h : rs[k]? = some r) : joinP ((rls rs).take (k + 1)) = joinP ((rls rs).take k) ++ recP r.l := by
  rw [List.take_add_one, List.getElem?_map, h, join_app]
  unfold joinP; simp
theorem join_bound {rs : List (RowG By)} {k : Nat} (h : ∀ r ∈ rs.take k, r.l.length ≤ 65536) : (joinP ((rls rs).take k)).length ≤ (rs.take k).length * 65544 := by
  rw [← List.map_take]
  generalize rs.take k = q at h ⊢
  induction q with
  | nil => exact Nat.le_refl _
  | cons r l ih =>
    have h1 := h r (List.mem_cons_self ..)
    have h2 : (joinP (rls l)).length ≤ l.length * 65544 := ih fun q hq => h q (List.mem_cons_of_mem _ hq)
    show (recP r.l ++ joinP (rls l)).length ≤ _
    rw [List.length_append, recP_len, List.length_cons]; omega
theorem upto_step {rs : List (RowG By)} {k : Nat} {r : RowG By} (h : ∀ x ∈ rs.take k, x.l.length ≤ 65536) (hr : rs[k]? = some r) (h6 : r.l.length ≤ 65536) : ∀ x ∈ rs.take (k + 1), x.l.length ≤ 65536 := fun x hx => by
  rw [List.take_add_one, hr] at hx
  rcases List.mem_append.1 hx with h1 | h1
  · exact h x h1
  · rw [List.mem_singleton.1 h1]; exact h6

theorem joined_ok (rs : List (RowG By)) (a : Option Addr) (cap : Nat) (w : World) (hv : SliceAt w a cap 1 RowG.cells rs) (hcap : cap ≤ Go.maxLen) (hx : RowsIn w rs) (hn : rs.length ≤ 1000) (h : ∀ r ∈ rs, r.l.length ≤ 65536) : Calls Try.prog 78 #[.slice a rs.length cap, .func (.func 79) #[] #[]] w fun e w' => ∃ a' cap', e = .returned (.slice a' (joinP (rls rs)).length cap') ∧ Below w.heap.size w w' ∧ w'.ownsRow w.heap.size 5 1 (.slice a' (joinP (rls rs)).length cap') (joinP (rls rs)).length ((joinP (rls rs)).flatMap byc) := by
  have hvl := hv.1
  have hcp := hcap
  unfold Go.maxLen at hcp
  refine calls_of_T (l := [.slice a rs.length cap, .func (.func 79) #[] #[]]) 21 Try.func78 rfl rfl rfl ?_
  show T _ _ _ [(0, .slice a rs.length cap), (1, .func (.func 79) #[] #[])] []
  refine T_seq (T_region ?_)
  refine TL_q (.slice none 0 0) (fun _ _ hρ _ => r_assign (hρ _ _ rfl)) rfl rfl rfl (w_n rfl) ?_
  refine TL_seq ?_
  refine T_seq (T_region ?_)
  refine TL_q (.slice none 0 0) (fun _ _ hρ _ => r_assign (hρ _ _ rfl)) rfl rfl rfl (w_n rfl) ?_
  refine TL_seq ?_
  refine T_seq ?_
  refine T_seq (T_region ?_)
  refine TL_q (.slice a rs.length cap) (fun _ _ hρ _ => r_move (hρ _ _ rfl)) rfl rfl rfl (w_n rfl) ?_
  refine TL_q (.int .i64 ((rs.length : Nat) : Int)) (fun _ _ hρ _ => r_len sl63 (hρ _ _ rfl)) rfl rfl rfl (w_n rfl) ?_
  refine TL_q (.int .i64 0) (fun _ _ hρ _ => r_move (hρ _ _ rfl)) rfl rfl rfl (w_n rfl) ?_
  refine TL_seq ?_
  refine T_block ?_
  refine T_mem (_ :: _) (fun _ hm => hm.nilRow 941 5 1) ?_
  refine T_loop (ι := Nat × Option Addr × Nat) (fun (z : Nat × Option Addr × Nat) => match z with | (k, a2, cap2) => k ≤ rs.length ∧ ∀ x ∈ rs.take k, x.l.length ≤ 65536) (fun (z : Nat × Option Addr × Nat) => match z with | (k, a2, cap2) => [(1, .func (.func 79) #[] #[]), (4, .slice none 0 0), (8, .slice a rs.length cap), (9, .int .i64 ((rs.length : Nat) : Int)), (10, .int .i64 ((k : Nat) : Int)), (5, .slice a2 ((joinP ((rls rs).take k)).length) cap2)]) (fun (z : Nat × Option Addr × Nat) => match z with | (k, a2, cap2) => [(941, .row (.slice a2 ((joinP ((rls rs).take k)).length) cap2) 5 1 ((joinP ((rls rs).take k)).length) ((joinP ((rls rs).take k)).flatMap byc))]) (fun (z : Nat × Option Addr × Nat) => match z with | (k, a2, cap2) => rs.length - k) (0, none, 0) ⟨Nat.zero_le _, fun _ h => nomatch h⟩ (sub_cons rfl (sub_cons rfl (sub_cons rfl (sub_cons rfl (sub_cons rfl (sub_cons rfl sub_nil)))))) (sub_cons rfl sub_nil) ?_
  rintro ⟨k, a2, cap2⟩ hp
  obtain ⟨hk, hup⟩ := hp
  show T _ _ _ [(1, .func (.func 79) #[] #[]), (4, .slice none 0 0), (8, .slice a rs.length cap), (9, .int .i64 ((rs.length : Nat) : Int)), (10, .int .i64 ((k : Nat) : Int)), (5, .slice a2 ((joinP ((rls rs).take k)).length) cap2)] [(941, .row (.slice a2 ((joinP ((rls rs).take k)).length) cap2) 5 1 ((joinP ((rls rs).take k)).length) ((joinP ((rls rs).take k)).flatMap byc))]
  refine T_seq (T_region ?_)
  refine TL_q (.bool (decide (((k : Nat) : Int) < ((rs.length : Nat) : Int)))) (fun _ _ hρ _ => r_lss (hρ _ _ rfl) (hρ _ _ rfl)) rfl rfl rfl (w_n rfl) ?_
  refine TL_seq ?_
  refine T_seq ?_
  refine T_cond rfl (fun h1 => ?_) (fun h1 => ?_)
  · replace h1 := of_decide_eq_true h1
    refine T_skip' ?_
    refine p_seq ?_
    refine T_seq ?_
    refine T_block ?_
    obtain ⟨r, hr⟩ : ∃ x, rs[k]? = some x := ⟨_, List.getElem?_eq_getElem (by omega)⟩
    have hro := hx r (List.mem_of_getElem? hr)
    have hrl := hro.1.1
    have hrc := hro.2
    unfold Go.maxLen at hrc
    have hst := join_step hr
    have hbd := join_bound hup
    rw [List.length_take] at hbd
    have hrp := recP_len r.l
    have h6 := h r (List.mem_of_getElem? hr)
    obtain ⟨b1, of1, cs1, T1, fz1, ha1, hq1, hr1⟩ := hv.open (i := k) (by omega)
    subst ha1
    refine T_seq (T_region ?_)
    refine TL_q (.pointer (some ⟨b1, of1 + k * 1, none⟩)) (fun _ _ hρ _ => r_indexAddrS (i := k) sl63 sz34 (hρ _ _ rfl) (hρ _ _ rfl) (by omega)) rfl rfl rfl (w_n rfl) ?_
    refine TL_q (.slice r.a r.l.length r.cap) (fun _ _ hρ hm => r_loadRow1 (f := RowG.cells) (u := r) ag34 (hρ _ _ rfl) (hm.old hq1) hr1 hr rfl) rfl rfl rfl (w_n rfl) ?_
    refine TL_q (.slice r.a r.l.length r.cap) (fun _ _ hρ _ => r_assign (hρ _ _ rfl)) rfl rfl rfl (w_n rfl) ?_
    refine TL_seq ?_
    refine T_region ?_
    refine TL_q (.slice a2 ((joinP ((rls rs).take k)).length) cap2) (fun _ _ hρ _ => r_move (hρ _ _ rfl)) rfl rfl rfl (w_n rfl) ?_
    refine TL_q (.func (.func 79) #[] #[]) (fun _ _ hρ _ => r_move (hρ _ _ rfl)) rfl rfl rfl (w_n rfl) ?_
    refine TL_q (.slice r.a r.l.length r.cap) (fun _ _ hρ _ => r_move (hρ _ _ rfl)) rfl rfl rfl (w_n rfl) ?_
    refine TL_callN (fun (_ : Option Addr × Nat) => True) (fun (ar2, cr2) => .slice ar2 ((recP r.l).length) cr2) (fun (ar2, cr2) => [(1, .row (.slice ar2 ((recP r.l).length) cr2) 5 1 ((recP r.l).length) ((recP r.l).flatMap byc))]) (fun _ _ hρ _ => r_call (args := [.slice r.a r.l.length r.cap]) (enters_of Try.func79 (by kernel_rfl) rfl) (hρ _ _ rfl) ((cons2 (hρ _ _ rfl) rfl)) rfl) (fun w hm => (rec_ok r.l r.a r.cap w (hro.1.keep hm.ext) hro.2 (h r (List.mem_of_getElem? hr))).mono fun e w' ⟨a', cap', he, hb, hr⟩ => ⟨(a', cap'), trivial, he, hb, newOk1 1 hr⟩) rfl rfl rfl (w_n rfl) ?_
    rintro ⟨ar2, cr2⟩ -
    refine TL_append (n := (joinP ((rls rs).take k)).length) (m := (recP r.l).length) (xs := ((joinP ((rls rs).take k)).flatMap byc)) (news := ((recP r.l).flatMap byc)) (z := .int .u8 0) 941 rfl rfl rfl sl34 sz5 by5 (by kernel_rfl) rfl rfl (.inl rfl) (fun _ hm => src_of byc_len (SliceAt.own byc_len (hm.row 1 rfl) rfl rfl)) byc_oneL (by omega) (by omega) rfl (w_n rfl) ?_
    intro a3 cap3
    refine TL_q (.slice a3 ((joinP ((rls rs).take k)).length + (recP r.l).length) cap3) (fun _ _ hρ _ => r_assign (hρ _ _ rfl)) rfl rfl rfl (w_n rfl) ?_
    refine TL_nil ?_
    refine p_blk_n ?_
    refine p_seq ?_
    refine T_region ?_
    refine TL_q (.int .i64 ((k + 1 : Nat) : Int)) (fun _ _ hρ _ => r_as (r_add (hρ _ _ rfl) (hρ _ _ rfl)) (int_as ((wrap64 (by omega) (by omega)).trans (by omega)))) rfl rfl rfl (w_n rfl) ?_
    refine TL_q (.int .i64 ((k + 1 : Nat) : Int)) (fun _ _ hρ _ => r_move (hρ _ _ rfl)) rfl rfl rfl (w_n rfl) ?_
    refine TL_nil ?_
    have e1 : ((joinP ((rls rs).take k)).length + (recP r.l).length) = (joinP ((rls rs).take (k + 1))).length := by rw [hst, List.length_append]
    have e2 : (((joinP ((rls rs).take k)).flatMap byc) ++ ((recP r.l).flatMap byc)) = (joinP ((rls rs).take (k + 1))).flatMap byc := by rw [hst, List.flatMap_append]
    rw [e1, e2]
    exact p_at (k + 1, a3, cap3) ⟨⟨by omega, upto_step hup hr (h r (List.mem_of_getElem? hr))⟩, by dsimp only; omega⟩ (sub_cons rfl (sub_cons rfl (sub_cons rfl (sub_cons rfl (sub_cons rfl (sub_cons rfl sub_nil)))))) (sub_cons rfl sub_nil)
  · replace h1 := of_decide_eq_false h1
    refine T_exit' ?_
    refine p_then_x ?_
    refine p_then_x ?_
    refine p_blk_x ?_
    refine p_seq ?_
    refine T_seq (T_region ?_)
    refine TL_q (.slice a2 ((joinP ((rls rs).take k)).length) cap2) (fun _ _ hρ _ => r_move (hρ _ _ rfl)) rfl rfl rfl (w_n rfl) ?_
    refine TL_q (.slice a2 ((joinP ((rls rs).take k)).length) cap2) (fun _ _ hρ _ => r_assign (hρ _ _ rfl)) rfl rfl rfl (w_n rfl) ?_
    refine TL_seq ?_
    refine T_ret' ?_
    refine ret_of rfl (.slice a2 ((joinP ((rls rs).take k)).length) cap2) (fun tmps w hk hm => res1 rfl (res_tmp (hk 4 _ rfl))) (fun w hm => ?_)
    have hke : k = rs.length := by omega
    subst hke
    have hrow := hm.row 941 rfl
    have et : (rls rs).take rs.length = rls rs := by rw [← List.map_take, List.take_length]
    rw [et] at hrow ⊢
    exact ⟨a2, cap2, rfl, hm.ext, hrow⟩

theorem join1_ok (T0 : Nat) (rs : List (RowG By)) (a : Option Addr) (cap : Nat) (w : World) (hv : SliceAt w a cap 1 RowG.cells rs) (hcap : cap ≤ Go.maxLen) (hx : RowsIn w rs) (hn : rs.length ≤ 1000) (h0 : hp w T0 = some (.cells #[.slice a rs.length cap] 63)) (h : ∀ r ∈ rs, r.l.length ≤ 65536) : Calls Try.prog 77 #[.pointer (some ⟨T0, 0, none⟩)] w fun e w' => ∃ a' cap', e = .returned (.slice a' (joinP (rls rs)).length cap') ∧ Below w.heap.size w w' ∧ w'.ownsRow w.heap.size 5 1 (.slice a' (joinP (rls rs)).length cap') (joinP (rls rs)).length ((joinP (rls rs)).flatMap byc) := by
  refine calls_of_T (l := [.pointer (some ⟨T0, 0, none⟩)]) 4 Try.func77 rfl rfl rfl ?_
  show T _ _ _ [(0, .pointer (some ⟨T0, 0, none⟩))] []
  refine T_seq (T_region ?_)
  refine TL_q (.slice none 0 0) (fun _ _ hρ _ => r_assign (hρ _ _ rfl)) rfl rfl rfl (w_n rfl) ?_
  refine TL_seq ?_
  refine T_seq (T_region ?_)
  refine TL_q (.slice a rs.length cap) (fun _ _ hρ hm => r_load ag63 (hρ _ _ rfl) (hm.old h0) rfl) rfl rfl rfl (w_n rfl) ?_
  refine TL_callN (fun (_ : Option Addr × Nat) => True) (fun (ar1, cr1) => .slice ar1 ((joinP (rls rs)).length) cr1) (fun (ar1, cr1) => [(1, .row (.slice ar1 ((joinP (rls rs)).length) cr1) 5 1 ((joinP (rls rs)).length) ((joinP (rls rs)).flatMap byc))]) (fun _ _ hρ _ => r_call (args := [.slice a rs.length cap, .func (.func 79) #[] #[]]) (enters_of Try.func78 (by kernel_rfl) rfl) (hρ _ _ rfl) ((cons2 (hρ _ _ rfl) (cons2 (hρ _ _ rfl) rfl))) rfl) (fun w hm => (joined_ok rs a cap w (hv.keep hm.ext) hcap (hx.keep hm.ext) hn h).mono fun e w' ⟨a', cap', he, hb, hr⟩ => ⟨(a', cap'), trivial, he, hb, newOk1 1 hr⟩) rfl rfl rfl (w_n rfl) ?_
  rintro ⟨ar1, cr1⟩ -
  refine TL_q (.slice ar1 ((joinP (rls rs)).length) cr1) (fun _ _ hρ _ => r_assign (hρ _ _ rfl)) rfl rfl rfl (w_n rfl) ?_
  refine TL_seq ?_
  refine T_ret' ?_
  refine ret_of rfl (.slice ar1 ((joinP (rls rs)).length) cr1) (fun tmps w hk hm => res1 rfl (res_tmp (hk 1 _ rfl))) (fun w hm => ?_)
  exact ⟨ar1, cr1, rfl, hm.ext, hm.row 1 rfl⟩

theorem join_ok (rs : List (RowG By)) (a : Option Addr) (cap : Nat) (w : World) (hv : SliceAt w a cap 1 RowG.cells rs) (hcap : cap ≤ Go.maxLen) (hx : RowsIn w rs) (hn : rs.length ≤ 1000) (h : ∀ r ∈ rs, r.l.length ≤ 65536) : Calls Try.prog 38 #[.slice a rs.length cap] w fun e w' => ∃ a' cap', e = .returned (.tuple #[.slice a' (joinP (rls rs)).length cap', .int .i64 0]) ∧ Below w.heap.size w w' ∧ w'.ownsRow w.heap.size 5 1 (.slice a' (joinP (rls rs)).length cap') (joinP (rls rs)).length ((joinP (rls rs)).flatMap byc) := by
  refine calls_of_T (l := [.slice a rs.length cap]) 8 Try.func38 rfl rfl rfl ?_
  show T _ _ _ [(0, .slice a rs.length cap)] []
  refine T_seq (T_region ?_)
  refine TL_new 1 (.cells #[.slice a rs.length cap] 63) (fun B => .pointer (some ⟨B, 0, none⟩)) (fun _ _ hρ _ => r_box (hρ _ _ rfl) rfl) rfl rfl rfl (w_n rfl) ?_
  intro B1
  refine TL_q (.slice none 0 0) (fun _ _ hρ _ => r_assign (hρ _ _ rfl)) rfl rfl rfl (w_n rfl) ?_
  refine TL_q (.int .i64 0) (fun _ _ hρ _ => r_assign (hρ _ _ rfl)) rfl rfl rfl (w_n rfl) ?_
  refine TL_seq ?_
  refine T_seq (T_region ?_)
  refine TL_q (.func (.func 77) #[] #[.pointer (some ⟨B1, 0, none⟩)]) (fun _ _ hρ _ => r_makeFunc (by simp) (map_arr (cons2 (hρ _ _ rfl) rfl))) rfl rfl rfl (w_n rfl) ?_
  refine TL_callN (fun (_ : Option Addr × Nat) => True) (fun (ar2, cr2) => .tuple #[.slice ar2 ((joinP (rls rs)).length) cr2, .int .i64 0]) (fun (ar2, cr2) => [(2, .row (.slice ar2 ((joinP (rls rs)).length) cr2) 5 1 ((joinP (rls rs)).length) ((joinP (rls rs)).flatMap byc))]) (fun _ _ hρ _ => r_call (args := [.func (.func 77) #[] #[.pointer (some ⟨B1, 0, none⟩)]]) (enters_of Try.func76 (by kernel_rfl) rfl) (hρ _ _ rfl) ((cons2 (hρ _ _ rfl) rfl)) rfl) (fun w hm => (trJW_ok 77 #[.pointer (some ⟨B1, 0, none⟩)] (fun (_ : Option Addr × Nat) => True) (fun z => z.1) (fun _ => (joinP (rls rs)).length) (fun z => z.2) (fun z => [(1, .row (.slice z.1 (joinP (rls rs)).length z.2) 5 1 (joinP (rls rs)).length ((joinP (rls rs)).flatMap byc))]) w (enters_of Try.func77 (by kernel_rfl) rfl) (fun _ => rfl) (fun _ => rfl) (fun w2 hb2 => (join1_ok B1 rs a cap w2 (hv.keep (hm.ext.trans (hb2.mono hm.ext.size))) hcap (hx.keep (hm.ext.trans (hb2.mono hm.ext.size))) hn (kept hb2 (hm.at 1 rfl)) h).mono fun e w' ⟨a', cap', he, hb, hr⟩ => ⟨(a', cap'), trivial, he, hb, newOk1 1 hr⟩)).mono fun e w' ⟨z, _, he, hb, hn⟩ => ⟨z, trivial, he, hb, newOk_at 2 hn⟩) rfl rfl rfl (w_n rfl) ?_
  rintro ⟨ar2, cr2⟩ -
  refine TL_q (.slice ar2 ((joinP (rls rs)).length) cr2) (fun _ _ hρ _ => r_extract (hρ _ _ rfl) rfl) rfl rfl rfl (w_n rfl) ?_
  refine TL_q (.int .i64 0) (fun _ _ hρ _ => r_extract (hρ _ _ rfl) rfl) rfl rfl rfl (w_n rfl) ?_
  refine TL_q (.slice ar2 ((joinP (rls rs)).length) cr2) (fun _ _ hρ _ => r_assign (hρ _ _ rfl)) rfl rfl rfl (w_n rfl) ?_
  refine TL_q (.int .i64 0) (fun _ _ hρ _ => r_assign (hρ _ _ rfl)) rfl rfl rfl (w_n rfl) ?_
  refine TL_seq ?_
  refine T_ret' ?_
  refine ret_of rfl (.tuple #[.slice ar2 ((joinP (rls rs)).length) cr2, .int .i64 0]) (fun tmps w hk hm => res2 rfl (res_tmp (hk 2 _ rfl)) (res_tmp (hk 3 _ rfl))) (fun w hm => ?_)
  exact ⟨ar2, cr2, rfl, hm.ext, hm.row 2 rfl⟩

/-- A row of bytes to be read, in new memory. -/
abbrev Res.sl (a : Option Addr) (cap : Nat) (l : List By) : Res := .abs (slF a l) (fun w => SliceAt w a cap 1 byc l ∧ cap ≤ Go.maxLen)
theorem MemOk.slAt {w₀ w : World} {L : Heap} (h : MemOk w₀ L w) (k : Nat) {a : Option Addr} {cap : Nat} {l : List By} (hk : lk L k = some (.sl a cap l)) : SliceAt w a cap 1 byc l := (h.own k _ hk).1.1
theorem slF_part {a : Option Addr} {l : List By} {m lo hi b : Nat} (h : slF (if m = lo then a else a.map (·.add (lo * 1))) ((l.drop lo).take (hi - lo)) b) : slF a l b := by
  obtain ⟨h1, x, hx, rfl⟩ := h
  refine ⟨fun e => h1 (by rw [e]; simp), ?_⟩
  split at hx
  · exact ⟨x, hx, rfl⟩
  · cases a with
    | none => cases hx
    | some y =>
      cases hx
      refine ⟨y, rfl, ?_⟩
      show y.block = (y.add (lo * 1)).block
      unfold Addr.add
      split <;> rfl
theorem sl_ok {base n cap lo hi m : Nat} {e : TypeId} {a : Option Addr} {l : List By} {w : World} (hr : w.ownsRow base e 1 (.slice a n cap) n (l.flatMap byc)) (hn : n = l.length) (h1 : lo ≤ hi) (h2 : hi ≤ l.length) (h3 : hi ≤ m) (h4 : m ≤ cap) : (Res.sl (if m = lo then a else a.map (·.add (lo * 1))) (m - lo) ((l.drop lo).take (hi - lo))).ok base w := by
  have hs := (SliceAt.own byc_len hr hn rfl).part h1 h2 h3 h4
  refine ⟨⟨hs, Nat.le_trans (Nat.sub_le _ _) (Nat.le_trans h4 (row_cap hr))⟩, fun b hb => ?_, fun w1 w2 h hb => ⟨h.1.keepF hb, h.2⟩⟩
  subst hn
  exact Res.low (r := .row (.slice a l.length cap) e 1 l.length (l.flatMap byc)) hr (own_slF hr (slF_part hb))
theorem first_e1 {l : List By} (h : ¬ 4 ≤ l.length) : firstE l = 110 := by unfold firstE; rw [if_pos (by omega)]
theorem first_e2 {l : List By} (h : 4 ≤ l.length) (h2 : ¬ numP l ≤ 65536) : firstE l = 3 := by unfold firstE; rw [if_neg (by omega), if_pos (by omega)]
theorem first_e3 {l : List By} (h : 4 ≤ l.length) (h2 : numP l ≤ 65536) (h3 : ¬ numP l + 8 ≤ l.length) : firstE l = 110 := by unfold firstE; rw [if_neg (by omega), if_neg (by omega), if_pos (by omega)]
theorem openE_is (l : List By) : openE l = if (openP l).isNone then 120 else 0 := by
  unfold openE
  cases openP l <;> rfl
theorem first_e4 {l : List By} (h : 4 ≤ l.length) (h2 : numP l ≤ 65536) (h3 : numP l + 8 ≤ l.length) : firstE l = openE (l.take (numP l + 8)) := by
  rw [openE_is]
  unfold firstE
  rw [if_neg (by omega), if_neg (by omega), if_neg (by omega)]
theorem openE_no {l : List By} (h : ¬ openE l = 0) : openE l = 120 := by
  rw [openE_is] at h ⊢
  split
  · rfl
  · rename_i e; rw [if_neg e] at h; exact absurd rfl h

theorem openL_len {l : List By} (h : openE l = 0) : (openL l).length + 4 = l.length := by
  unfold openE at h
  unfold openL
  cases e : openP l with
  | none => rw [e] at h; cases h
  | some x => exact openP_len e

theorem first_c (l : List By) (a : Option Addr) (cap : Nat) (w : World) (hv : SliceAt w a cap 1 byc l) (hcap : cap ≤ Go.maxLen) (h : firstE l = 0) : Calls Try.prog 92 #[.slice a l.length cap] w fun e w' => ∃ a' cap', e = .returned (.agg #[.slice a' (heldP l).length cap', .int .i64 (((heldP l).length + 8 : Nat) : Int)]) ∧ Below w.heap.size w w' ∧ (Res.sl a' cap' (heldP l)).ok w.heap.size w' := by
  have hvl := hv.1
  have hcp := hcap
  unfold Go.maxLen at hcp
  have hnl := numP_lt l
  have c1 := (first_ok h).1
  have c2 := (first_ok h).2.1
  have c3 := (first_ok h).2.2.1
  have hopE : openE (l.take (numP l + 8)) = 0 := (first_e4 c1 c2 c3).symm.trans h
  refine calls_of_T (l := [.slice a l.length cap]) 41 Try.func92 rfl rfl rfl ?_
  show T _ _ _ [(0, .slice a l.length cap)] []
  refine T_seq (T_region ?_)
  refine TL_new 1 (.cells #[.slice none 0 0, .int .i64 0] 121) (fun B => .pointer (some ⟨B, 0, none⟩)) (fun _ _ _ _ => r_alloc (v := .agg #[.slice none 0 0, .int .i64 0]) (by kernel_rfl) rfl) rfl rfl rfl (w_n rfl) ?_
  intro B1
  refine TL_seq ?_
  refine T_seq (T_region ?_)
  refine TL_q (.slice a l.length cap) (fun _ _ hρ _ => r_move (hρ _ _ rfl)) rfl rfl rfl (w_n rfl) ?_
  refine TL_call (.tuple #[.int .u64 ((numP l : Nat) : Int), .int .i64 0]) (fun _ _ hρ _ => r_call (args := [.slice a l.length cap, .int .i64 0, .int .i64 4]) (enters_of Try.func117 (by kernel_rfl) rfl) (hρ _ _ rfl) ((cons2 (hρ _ _ rfl) (cons2 (hρ _ _ rfl) (cons2 (hρ _ _ rfl) rfl)))) rfl) (fun w hm => get_ok l a cap w (hv.keep hm.ext) hcap c1) rfl rfl rfl (w_n rfl) ?_
  refine TL_q (.tuple #[.int .u64 ((numP l : Nat) : Int), .int .i64 0]) (fun _ _ hρ _ => r_move (hρ _ _ rfl)) rfl rfl rfl (w_n rfl) ?_
  refine TL_q (.int .u64 ((numP l : Nat) : Int)) (fun _ _ hρ _ => r_extract (hρ _ _ rfl) rfl) rfl rfl rfl (w_n rfl) ?_
  refine TL_q (.int .i64 0) (fun _ _ hρ _ => r_extract (hρ _ _ rfl) rfl) rfl rfl rfl (w_n rfl) ?_
  refine TL_q (.int .u64 ((numP l : Nat) : Int)) (fun _ _ hρ _ => r_assign (hρ _ _ rfl)) rfl rfl rfl (w_n rfl) ?_
  refine TL_q (.int .i64 0) (fun _ _ hρ _ => r_assign (hρ _ _ rfl)) rfl rfl rfl (w_n rfl) ?_
  refine TL_seq ?_
  refine T_seq (T_region ?_)
  refine TL_q (.int .i64 0) (fun _ _ hρ _ => r_move (hρ _ _ rfl)) rfl rfl rfl (w_n rfl) ?_
  refine TL_q (.bool true) (fun _ _ hρ _ => r_as (r_eql (hρ _ _ rfl) (hρ _ _ rfl)) (by rfl)) rfl rfl rfl (w_n rfl) ?_
  refine TL_call (.tuple #[]) (fun _ _ hρ _ => r_call (args := [.bool true, .int .i64 110]) (enters_of Try.func84 (by kernel_rfl) rfl) (hρ _ _ rfl) ((cons2 (hρ _ _ rfl) (cons2 (hρ _ _ rfl) rfl))) rfl) (fun w _ => need_ok_jrn 110 w) rfl rfl rfl (w_n rfl) ?_
  refine TL_seq ?_
  refine T_seq (T_region ?_)
  refine TL_q (.int .u64 ((numP l : Nat) : Int)) (fun _ _ hρ _ => r_move (hρ _ _ rfl)) rfl rfl rfl (w_n rfl) ?_
  refine TL_q (.bool true) (fun _ _ hρ _ => r_as (r_leq (hρ _ _ rfl) (hρ _ _ rfl)) (bool_as (decide_eq_true (by omega)))) rfl rfl rfl (w_n rfl) ?_
  refine TL_call (.tuple #[]) (fun _ _ hρ _ => r_call (args := [.bool true, .int .i64 3]) (enters_of Try.func84 (by kernel_rfl) rfl) (hρ _ _ rfl) ((cons2 (hρ _ _ rfl) (cons2 (hρ _ _ rfl) rfl))) rfl) (fun w _ => need_ok_jrn 3 w) rfl rfl rfl (w_n rfl) ?_
  refine TL_seq ?_
  refine T_seq (T_region ?_)
  refine TL_q (.int .u64 ((numP l : Nat) : Int)) (fun _ _ hρ _ => r_move (hρ _ _ rfl)) rfl rfl rfl (w_n rfl) ?_
  refine TL_q (.int .i64 ((numP l : Nat) : Int)) (fun _ _ hρ _ => r_as (r_conv un25 io3 (hρ _ _ rfl)) (int_as (wrap64 (by omega) (by omega)))) rfl rfl rfl (w_n rfl) ?_
  refine TL_q (.int .i64 ((numP l + 8 : Nat) : Int)) (fun _ _ hρ _ => r_as (r_add (hρ _ _ rfl) (hρ _ _ rfl)) (int_as ((wrap64 (by omega) (by omega)).trans (by omega)))) rfl rfl rfl (w_n rfl) ?_
  refine TL_q (.int .i64 ((numP l + 8 : Nat) : Int)) (fun _ _ hρ _ => r_assign (hρ _ _ rfl)) rfl rfl rfl (w_n rfl) ?_
  refine TL_seq ?_
  refine T_seq (T_region ?_)
  refine TL_q (.slice a l.length cap) (fun _ _ hρ _ => r_move (hρ _ _ rfl)) rfl rfl rfl (w_n rfl) ?_
  refine TL_q (.int .i64 ((l.length : Nat) : Int)) (fun _ _ hρ _ => r_len sl34 (hρ _ _ rfl)) rfl rfl rfl (w_n rfl) ?_
  refine TL_q (.int .i64 ((numP l + 8 : Nat) : Int)) (fun _ _ hρ _ => r_move (hρ _ _ rfl)) rfl rfl rfl (w_n rfl) ?_
  refine TL_q (.bool true) (fun _ _ hρ _ => r_as (r_geq (hρ _ _ rfl) (hρ _ _ rfl)) (bool_as (decide_eq_true (by omega)))) rfl rfl rfl (w_n rfl) ?_
  refine TL_call (.tuple #[]) (fun _ _ hρ _ => r_call (args := [.bool true, .int .i64 110]) (enters_of Try.func84 (by kernel_rfl) rfl) (hρ _ _ rfl) ((cons2 (hρ _ _ rfl) (cons2 (hρ _ _ rfl) rfl))) rfl) (fun w _ => need_ok_jrn 110 w) rfl rfl rfl (w_n rfl) ?_
  refine TL_seq ?_
  refine T_seq (T_region ?_)
  refine TL_q (.slice a l.length cap) (fun _ _ hρ _ => r_move (hρ _ _ rfl)) rfl rfl rfl (w_n rfl) ?_
  refine TL_q (.int .i64 ((numP l + 8 : Nat) : Int)) (fun _ _ hρ _ => r_move (hρ _ _ rfl)) rfl rfl rfl (w_n rfl) ?_
  refine TL_q (.int .i64 ((numP l + 8 : Nat) : Int)) (fun _ _ hρ _ => r_move (hρ _ _ rfl)) rfl rfl rfl (w_n rfl) ?_
  obtain ⟨l2, hl2, hn2⟩ : ∃ lz, lz = l.take (numP l + 8) ∧ lz.length = numP l + 8 := ⟨_, rfl, by rw [List.length_take]; omega⟩
  have hs2 := SliceAt.front hv (n := numP l + 8) (m := numP l + 8) (by omega) (by omega) (by omega)
  rw [← hl2] at hs2
  refine TL_q (.slice a l2.length (numP l + 8)) (fun ρ _ hρ _ => r_as (r_sliceO sl34 sz5 (hρ _ _ rfl) (bd_some (n := numP l + 8) (hρ _ _ rfl)) (bd_some (n := numP l + 8) (hρ _ _ rfl)) (bd_none ρ _) (by simp) (by omega) (by omega) (by omega)) (by rw [hn2]; exact slo_zero _ _ _ _)) rfl rfl rfl (w_n rfl) ?_
  refine TL_callN (fun (_ : Option Addr × Nat) => True) (fun (ar3, cr3) => .tuple #[.slice ar3 ((openL l2).length) cr3, .int .i64 0]) (fun (ar3, cr3) => [(2, .row (.slice ar3 ((openL l2).length) cr3) 5 1 ((openL l2).length) ((openL l2).flatMap byc))]) (fun _ _ hρ _ => r_call (args := [.slice a l2.length (numP l + 8)]) (enters_of Try.func56 (by kernel_rfl) rfl) (hρ _ _ rfl) ((cons2 (hρ _ _ rfl) rfl)) rfl) (fun w hm => (open_c l2 a (numP l + 8) w (hs2.keep hm.ext) (by omega) (by omega)).mono fun e w' ⟨a', cap', he, hb, hr⟩ => ⟨(a', cap'), trivial, he.trans (by rw [show openE l2 = 0 by rw [hl2]; exact hopE]), hb, newOk1 2 hr⟩) rfl rfl rfl (w_n rfl) ?_
  rintro ⟨ar3, cr3⟩ -
  refine TL_q (.tuple #[.slice ar3 ((openL l2).length) cr3, .int .i64 0]) (fun _ _ hρ _ => r_move (hρ _ _ rfl)) rfl rfl rfl (w_n rfl) ?_
  refine TL_q (.slice ar3 ((openL l2).length) cr3) (fun _ _ hρ _ => r_extract (hρ _ _ rfl) rfl) rfl rfl rfl (w_n rfl) ?_
  refine TL_q (.int .i64 0) (fun _ _ hρ _ => r_extract (hρ _ _ rfl) rfl) rfl rfl rfl (w_n rfl) ?_
  refine TL_q (.slice ar3 ((openL l2).length) cr3) (fun _ _ hρ _ => r_assign (hρ _ _ rfl)) rfl rfl rfl (w_n rfl) ?_
  refine TL_q (.int .i64 0) (fun _ _ hρ _ => r_assign (hρ _ _ rfl)) rfl rfl rfl (w_n rfl) ?_
  refine TL_seq ?_
  refine T_sub [(2, .pointer (some ⟨B1, 0, none⟩)), (5, .int .i64 ((numP l + 8 : Nat) : Int)), (6, .slice ar3 ((openL l2).length) cr3), (4, .int .i64 0)] [(2, .row (.slice ar3 ((openL l2).length) cr3) 5 1 ((openL l2).length) ((openL l2).flatMap byc)), (1, .blk B1 (.cells #[.slice none 0 0, .int .i64 0] 121))] (sub_cons rfl (sub_cons rfl (sub_cons rfl (sub_cons rfl sub_nil)))) (sub_cons rfl (sub_cons rfl sub_nil)) ?_
  refine T_rowcap 2 rfl (fun hrc => ?_)
  have hol := openL_len (l := l2) (by rw [hl2]; exact hopE)
  refine T_seq (T_region ?_)
  refine TL_q (.int .i64 0) (fun _ _ hρ _ => r_move (hρ _ _ rfl)) rfl rfl rfl (w_n rfl) ?_
  refine TL_q (.bool true) (fun _ _ hρ _ => r_as (r_eql (hρ _ _ rfl) (hρ _ _ rfl)) (by rfl)) rfl rfl rfl (w_n rfl) ?_
  refine TL_call (.tuple #[]) (fun _ _ hρ _ => r_call (args := [.bool true, .int .i64 120]) (enters_of Try.func84 (by kernel_rfl) rfl) (hρ _ _ rfl) ((cons2 (hρ _ _ rfl) (cons2 (hρ _ _ rfl) rfl))) rfl) (fun w _ => need_ok_jrn 120 w) rfl rfl rfl (w_n rfl) ?_
  refine TL_seq ?_
  refine T_seq (T_region ?_)
  refine TL_q (.slice ar3 ((openL l2).length) cr3) (fun _ _ hρ _ => r_move (hρ _ _ rfl)) rfl rfl rfl (w_n rfl) ?_
  obtain ⟨l4, hl4, hn4⟩ : ∃ lz, lz = ((openL l2).drop 4).take ((openL l2).length - 4) ∧ lz.length = (openL l2).length - 4 := ⟨_, rfl, by rw [List.length_take, List.length_drop]; omega⟩
  obtain ⟨a4, ha4⟩ : ∃ az : Option Addr, az = (if cr3 = 4 then (ar3 : Option Addr) else Option.map (fun z : Addr => z.add (4 * 1)) (ar3 : Option Addr)) := ⟨_, rfl⟩
  refine TL_q (.slice a4 l4.length (cr3 - 4)) (fun ρ _ hρ _ => r_as (r_sliceO sl34 sz5 (hρ _ _ rfl) (bd_none ρ _) (bd_none ρ _) (bd_some (n := 4) (hρ _ _ rfl)) (by simp) (by omega) (by omega) (by omega)) (by rw [hn4, ha4])) rfl rfl rfl (w_n rfl) ?_
  refine TL_q (.int .i64 ((numP l + 8 : Nat) : Int)) (fun _ _ hρ _ => r_move (hρ _ _ rfl)) rfl rfl rfl (w_n rfl) ?_
  refine TL_q (.agg #[.slice a4 l4.length (cr3 - 4), .int .i64 ((numP l + 8 : Nat) : Int)]) (fun _ _ hρ _ => r_build (vs := [(0, .slice a4 l4.length (cr3 - 4)), (1, .int .i64 ((numP l + 8 : Nat) : Int))]) (by kernel_rfl) (cons2 (pair2 (hρ _ _ rfl)) (cons2 (pair2 (hρ _ _ rfl)) rfl))) rfl rfl rfl (w_n rfl) ?_
  refine TL_store 1 (.cells #[.slice a4 l4.length (cr3 - 4), .int .i64 ((numP l + 8 : Nat) : Int)] 121) rfl (fun _ _ hρ hm => r_store sz121 (hρ _ _ rfl) (hρ _ _ rfl) (hm.at 1 rfl) rfl rfl rfl rfl) rfl rfl (w_n rfl) ?_
  refine TL_seq ?_
  refine T_ret' ?_
  refine ret_of rfl (.agg #[.slice a4 l4.length (cr3 - 4), .int .i64 ((numP l + 8 : Nat) : Int)]) (fun tmps w hk hm => res1 rfl (res_cell (hk 2 _ rfl) (run_loadVar_agg ag121 sz121 (hm.at 1 rfl) (Nat.le_of_ble_eq_true rfl) rfl))) (fun w hm => ?_)
  have hrw := sl_ok (hm.row 2 rfl) rfl (lo := 4) (hi := (openL l2).length) (m := cr3) (by omega) (Nat.le_refl _) (by omega) (by omega)
  rw [← hl4, ← ha4] at hrw
  have hz : l4 = heldP l := by rw [hl4]; unfold heldP; rw [← hl2]; exact List.take_of_length_le (by rw [List.length_drop]; exact Nat.le_refl _)
  rw [hz] at hrw ⊢
  exact ⟨a4, (cr3 - 4), by rw [heldP_len h], hm.ext, hrw⟩

theorem first_p (l : List By) (a : Option Addr) (cap : Nat) (w : World) (hv : SliceAt w a cap 1 byc l) (hcap : cap ≤ Go.maxLen) (h : ¬ firstE l = 0) : Calls Try.prog 92 #[.slice a l.length cap] w fun e w' => e = .panicked [{ v := .iface 28 (.int .i64 (firstE l)), recovered := false }] ∧ Below w.heap.size w w' := by
  have hvl := hv.1
  have hcp := hcap
  unfold Go.maxLen at hcp
  have hnl := numP_lt l
  refine calls_of_T (l := [.slice a l.length cap]) 41 Try.func92 rfl rfl rfl ?_
  show T _ _ _ [(0, .slice a l.length cap)] []
  refine T_seq (T_region ?_)
  refine TL_new 1 (.cells #[.slice none 0 0, .int .i64 0] 121) (fun B => .pointer (some ⟨B, 0, none⟩)) (fun _ _ _ _ => r_alloc (v := .agg #[.slice none 0 0, .int .i64 0]) (by kernel_rfl) rfl) rfl rfl rfl (w_n rfl) ?_
  intro B1
  refine TL_seq ?_
  by_cases c1 : 4 ≤ l.length
  · skip
    refine T_seq (T_region ?_)
    refine TL_q (.slice a l.length cap) (fun _ _ hρ _ => r_move (hρ _ _ rfl)) rfl rfl rfl (w_n rfl) ?_
    refine TL_call (.tuple #[.int .u64 ((numP l : Nat) : Int), .int .i64 0]) (fun _ _ hρ _ => r_call (args := [.slice a l.length cap, .int .i64 0, .int .i64 4]) (enters_of Try.func117 (by kernel_rfl) rfl) (hρ _ _ rfl) ((cons2 (hρ _ _ rfl) (cons2 (hρ _ _ rfl) (cons2 (hρ _ _ rfl) rfl)))) rfl) (fun w hm => get_ok l a cap w (hv.keep hm.ext) hcap c1) rfl rfl rfl (w_n rfl) ?_
    refine TL_q (.tuple #[.int .u64 ((numP l : Nat) : Int), .int .i64 0]) (fun _ _ hρ _ => r_move (hρ _ _ rfl)) rfl rfl rfl (w_n rfl) ?_
    refine TL_q (.int .u64 ((numP l : Nat) : Int)) (fun _ _ hρ _ => r_extract (hρ _ _ rfl) rfl) rfl rfl rfl (w_n rfl) ?_
    refine TL_q (.int .i64 0) (fun _ _ hρ _ => r_extract (hρ _ _ rfl) rfl) rfl rfl rfl (w_n rfl) ?_
    refine TL_q (.int .u64 ((numP l : Nat) : Int)) (fun _ _ hρ _ => r_assign (hρ _ _ rfl)) rfl rfl rfl (w_n rfl) ?_
    refine TL_q (.int .i64 0) (fun _ _ hρ _ => r_assign (hρ _ _ rfl)) rfl rfl rfl (w_n rfl) ?_
    refine TL_seq ?_
    refine T_seq (T_region ?_)
    refine TL_q (.int .i64 0) (fun _ _ hρ _ => r_move (hρ _ _ rfl)) rfl rfl rfl (w_n rfl) ?_
    refine TL_q (.bool true) (fun _ _ hρ _ => r_as (r_eql (hρ _ _ rfl) (hρ _ _ rfl)) (by rfl)) rfl rfl rfl (w_n rfl) ?_
    refine TL_call (.tuple #[]) (fun _ _ hρ _ => r_call (args := [.bool true, .int .i64 110]) (enters_of Try.func84 (by kernel_rfl) rfl) (hρ _ _ rfl) ((cons2 (hρ _ _ rfl) (cons2 (hρ _ _ rfl) rfl))) rfl) (fun w _ => need_ok_jrn 110 w) rfl rfl rfl (w_n rfl) ?_
    refine TL_seq ?_
    by_cases c2 : ((numP l : Nat) : Int) ≤ 65536
    · skip
      refine T_seq (T_region ?_)
      refine TL_q (.int .u64 ((numP l : Nat) : Int)) (fun _ _ hρ _ => r_move (hρ _ _ rfl)) rfl rfl rfl (w_n rfl) ?_
      refine TL_q (.bool true) (fun _ _ hρ _ => r_as (r_leq (hρ _ _ rfl) (hρ _ _ rfl)) (bool_as (decide_eq_true c2))) rfl rfl rfl (w_n rfl) ?_
      refine TL_call (.tuple #[]) (fun _ _ hρ _ => r_call (args := [.bool true, .int .i64 3]) (enters_of Try.func84 (by kernel_rfl) rfl) (hρ _ _ rfl) ((cons2 (hρ _ _ rfl) (cons2 (hρ _ _ rfl) rfl))) rfl) (fun w _ => need_ok_jrn 3 w) rfl rfl rfl (w_n rfl) ?_
      refine TL_seq ?_
      refine T_seq (T_region ?_)
      refine TL_q (.int .u64 ((numP l : Nat) : Int)) (fun _ _ hρ _ => r_move (hρ _ _ rfl)) rfl rfl rfl (w_n rfl) ?_
      refine TL_q (.int .i64 ((numP l : Nat) : Int)) (fun _ _ hρ _ => r_as (r_conv un25 io3 (hρ _ _ rfl)) (int_as (wrap64 (by omega) (by omega)))) rfl rfl rfl (w_n rfl) ?_
      refine TL_q (.int .i64 ((numP l + 8 : Nat) : Int)) (fun _ _ hρ _ => r_as (r_add (hρ _ _ rfl) (hρ _ _ rfl)) (int_as ((wrap64 (by omega) (by omega)).trans (by omega)))) rfl rfl rfl (w_n rfl) ?_
      refine TL_q (.int .i64 ((numP l + 8 : Nat) : Int)) (fun _ _ hρ _ => r_assign (hρ _ _ rfl)) rfl rfl rfl (w_n rfl) ?_
      refine TL_seq ?_
      by_cases c3 : ((numP l + 8 : Nat) : Int) ≤ ((l.length : Nat) : Int)
      · skip
        refine T_seq (T_region ?_)
        refine TL_q (.slice a l.length cap) (fun _ _ hρ _ => r_move (hρ _ _ rfl)) rfl rfl rfl (w_n rfl) ?_
        refine TL_q (.int .i64 ((l.length : Nat) : Int)) (fun _ _ hρ _ => r_len sl34 (hρ _ _ rfl)) rfl rfl rfl (w_n rfl) ?_
        refine TL_q (.int .i64 ((numP l + 8 : Nat) : Int)) (fun _ _ hρ _ => r_move (hρ _ _ rfl)) rfl rfl rfl (w_n rfl) ?_
        refine TL_q (.bool true) (fun _ _ hρ _ => r_as (r_geq (hρ _ _ rfl) (hρ _ _ rfl)) (bool_as (decide_eq_true c3))) rfl rfl rfl (w_n rfl) ?_
        refine TL_call (.tuple #[]) (fun _ _ hρ _ => r_call (args := [.bool true, .int .i64 110]) (enters_of Try.func84 (by kernel_rfl) rfl) (hρ _ _ rfl) ((cons2 (hρ _ _ rfl) (cons2 (hρ _ _ rfl) rfl))) rfl) (fun w _ => need_ok_jrn 110 w) rfl rfl rfl (w_n rfl) ?_
        refine TL_seq ?_
        by_cases hopE : openE (l.take (numP l + 8)) = 0
        · skip
          refine T_seq (T_region ?_)
          refine TL_q (.slice a l.length cap) (fun _ _ hρ _ => r_move (hρ _ _ rfl)) rfl rfl rfl (w_n rfl) ?_
          refine TL_q (.int .i64 ((numP l + 8 : Nat) : Int)) (fun _ _ hρ _ => r_move (hρ _ _ rfl)) rfl rfl rfl (w_n rfl) ?_
          refine TL_q (.int .i64 ((numP l + 8 : Nat) : Int)) (fun _ _ hρ _ => r_move (hρ _ _ rfl)) rfl rfl rfl (w_n rfl) ?_
          obtain ⟨l2, hl2, hn2⟩ : ∃ lz, lz = l.take (numP l + 8) ∧ lz.length = numP l + 8 := ⟨_, rfl, by rw [List.length_take]; omega⟩
          have hs2 := SliceAt.front hv (n := numP l + 8) (m := numP l + 8) (by omega) (by omega) (by omega)
          rw [← hl2] at hs2
          refine TL_q (.slice a l2.length (numP l + 8)) (fun ρ _ hρ _ => r_as (r_sliceO sl34 sz5 (hρ _ _ rfl) (bd_some (n := numP l + 8) (hρ _ _ rfl)) (bd_some (n := numP l + 8) (hρ _ _ rfl)) (bd_none ρ _) (by simp) (by omega) (by omega) (by omega)) (by rw [hn2]; exact slo_zero _ _ _ _)) rfl rfl rfl (w_n rfl) ?_
          refine TL_callN (fun (_ : Option Addr × Nat) => True) (fun (ar3, cr3) => .tuple #[.slice ar3 ((openL l2).length) cr3, .int .i64 0]) (fun (ar3, cr3) => [(2, .row (.slice ar3 ((openL l2).length) cr3) 5 1 ((openL l2).length) ((openL l2).flatMap byc))]) (fun _ _ hρ _ => r_call (args := [.slice a l2.length (numP l + 8)]) (enters_of Try.func56 (by kernel_rfl) rfl) (hρ _ _ rfl) ((cons2 (hρ _ _ rfl) rfl)) rfl) (fun w hm => (open_c l2 a (numP l + 8) w (hs2.keep hm.ext) (by omega) (by omega)).mono fun e w' ⟨a', cap', he, hb, hr⟩ => ⟨(a', cap'), trivial, he.trans (by rw [show openE l2 = 0 by rw [hl2]; exact hopE]), hb, newOk1 2 hr⟩) rfl rfl rfl (w_n rfl) ?_
          rintro ⟨ar3, cr3⟩ -
          refine TL_q (.tuple #[.slice ar3 ((openL l2).length) cr3, .int .i64 0]) (fun _ _ hρ _ => r_move (hρ _ _ rfl)) rfl rfl rfl (w_n rfl) ?_
          refine TL_q (.slice ar3 ((openL l2).length) cr3) (fun _ _ hρ _ => r_extract (hρ _ _ rfl) rfl) rfl rfl rfl (w_n rfl) ?_
          refine TL_q (.int .i64 0) (fun _ _ hρ _ => r_extract (hρ _ _ rfl) rfl) rfl rfl rfl (w_n rfl) ?_
          refine TL_q (.slice ar3 ((openL l2).length) cr3) (fun _ _ hρ _ => r_assign (hρ _ _ rfl)) rfl rfl rfl (w_n rfl) ?_
          refine TL_q (.int .i64 0) (fun _ _ hρ _ => r_assign (hρ _ _ rfl)) rfl rfl rfl (w_n rfl) ?_
          refine TL_seq ?_
          refine T_sub [(2, .pointer (some ⟨B1, 0, none⟩)), (5, .int .i64 ((numP l + 8 : Nat) : Int)), (6, .slice ar3 ((openL l2).length) cr3), (4, .int .i64 0)] [(2, .row (.slice ar3 ((openL l2).length) cr3) 5 1 ((openL l2).length) ((openL l2).flatMap byc)), (1, .blk B1 (.cells #[.slice none 0 0, .int .i64 0] 121))] (sub_cons rfl (sub_cons rfl (sub_cons rfl (sub_cons rfl sub_nil)))) (sub_cons rfl (sub_cons rfl sub_nil)) ?_
          refine T_rowcap 2 rfl (fun hrc => ?_)
          have hol := openL_len (l := l2) (by rw [hl2]; exact hopE)
          refine T_seq (T_region ?_)
          refine TL_q (.int .i64 0) (fun _ _ hρ _ => r_move (hρ _ _ rfl)) rfl rfl rfl (w_n rfl) ?_
          refine TL_q (.bool true) (fun _ _ hρ _ => r_as (r_eql (hρ _ _ rfl) (hρ _ _ rfl)) (by rfl)) rfl rfl rfl (w_n rfl) ?_
          refine TL_call (.tuple #[]) (fun _ _ hρ _ => r_call (args := [.bool true, .int .i64 120]) (enters_of Try.func84 (by kernel_rfl) rfl) (hρ _ _ rfl) ((cons2 (hρ _ _ rfl) (cons2 (hρ _ _ rfl) rfl))) rfl) (fun w _ => need_ok_jrn 120 w) rfl rfl rfl (w_n rfl) ?_
          refine TL_seq ?_
          refine T_seq (T_region ?_)
          refine TL_q (.slice ar3 ((openL l2).length) cr3) (fun _ _ hρ _ => r_move (hρ _ _ rfl)) rfl rfl rfl (w_n rfl) ?_
          obtain ⟨l4, hl4, hn4⟩ : ∃ lz, lz = ((openL l2).drop 4).take ((openL l2).length - 4) ∧ lz.length = (openL l2).length - 4 := ⟨_, rfl, by rw [List.length_take, List.length_drop]; omega⟩
          obtain ⟨a4, ha4⟩ : ∃ az : Option Addr, az = (if cr3 = 4 then (ar3 : Option Addr) else Option.map (fun z : Addr => z.add (4 * 1)) (ar3 : Option Addr)) := ⟨_, rfl⟩
          refine TL_q (.slice a4 l4.length (cr3 - 4)) (fun ρ _ hρ _ => r_as (r_sliceO sl34 sz5 (hρ _ _ rfl) (bd_none ρ _) (bd_none ρ _) (bd_some (n := 4) (hρ _ _ rfl)) (by simp) (by omega) (by omega) (by omega)) (by rw [hn4, ha4])) rfl rfl rfl (w_n rfl) ?_
          refine TL_q (.int .i64 ((numP l + 8 : Nat) : Int)) (fun _ _ hρ _ => r_move (hρ _ _ rfl)) rfl rfl rfl (w_n rfl) ?_
          refine TL_q (.agg #[.slice a4 l4.length (cr3 - 4), .int .i64 ((numP l + 8 : Nat) : Int)]) (fun _ _ hρ _ => r_build (vs := [(0, .slice a4 l4.length (cr3 - 4)), (1, .int .i64 ((numP l + 8 : Nat) : Int))]) (by kernel_rfl) (cons2 (pair2 (hρ _ _ rfl)) (cons2 (pair2 (hρ _ _ rfl)) rfl))) rfl rfl rfl (w_n rfl) ?_
          refine TL_store 1 (.cells #[.slice a4 l4.length (cr3 - 4), .int .i64 ((numP l + 8 : Nat) : Int)] 121) rfl (fun _ _ hρ hm => r_store sz121 (hρ _ _ rfl) (hρ _ _ rfl) (hm.at 1 rfl) rfl rfl rfl rfl) rfl rfl (w_n rfl) ?_
          refine TL_seq ?_
          refine T_ret' ?_
          refine ret_of rfl (.agg #[.slice a4 l4.length (cr3 - 4), .int .i64 ((numP l + 8 : Nat) : Int)]) (fun tmps w hk hm => res1 rfl (res_cell (hk 2 _ rfl) (run_loadVar_agg ag121 sz121 (hm.at 1 rfl) (Nat.le_of_ble_eq_true rfl) rfl))) (fun w hm => ?_)
          exact absurd ((first_e4 c1 (by omega) (by omega)).trans hopE) h
        · skip
          refine T_seq (T_region ?_)
          refine TL_q (.slice a l.length cap) (fun _ _ hρ _ => r_move (hρ _ _ rfl)) rfl rfl rfl (w_n rfl) ?_
          refine TL_q (.int .i64 ((numP l + 8 : Nat) : Int)) (fun _ _ hρ _ => r_move (hρ _ _ rfl)) rfl rfl rfl (w_n rfl) ?_
          refine TL_q (.int .i64 ((numP l + 8 : Nat) : Int)) (fun _ _ hρ _ => r_move (hρ _ _ rfl)) rfl rfl rfl (w_n rfl) ?_
          obtain ⟨l5, hl5, hn5⟩ : ∃ lz, lz = l.take (numP l + 8) ∧ lz.length = numP l + 8 := ⟨_, rfl, by rw [List.length_take]; omega⟩
          have hs5 := SliceAt.front hv (n := numP l + 8) (m := numP l + 8) (by omega) (by omega) (by omega)
          rw [← hl5] at hs5
          refine TL_q (.slice a l5.length (numP l + 8)) (fun ρ _ hρ _ => r_as (r_sliceO sl34 sz5 (hρ _ _ rfl) (bd_some (n := numP l + 8) (hρ _ _ rfl)) (bd_some (n := numP l + 8) (hρ _ _ rfl)) (bd_none ρ _) (by simp) (by omega) (by omega) (by omega)) (by rw [hn5]; exact slo_zero _ _ _ _)) rfl rfl rfl (w_n rfl) ?_
          refine TL_callN (fun (_ : Option Addr × Nat) => True) (fun (ar6, cr6) => .tuple #[.slice ar6 ((openL l5).length) cr6, .int .i64 120]) (fun (ar6, cr6) => [(3, .row (.slice ar6 ((openL l5).length) cr6) 5 1 ((openL l5).length) ((openL l5).flatMap byc))]) (fun _ _ hρ _ => r_call (args := [.slice a l5.length (numP l + 8)]) (enters_of Try.func56 (by kernel_rfl) rfl) (hρ _ _ rfl) ((cons2 (hρ _ _ rfl) rfl)) rfl) (fun w hm => (open_c l5 a (numP l + 8) w (hs5.keep hm.ext) (by omega) (by omega)).mono fun e w' ⟨a', cap', he, hb, hr⟩ => ⟨(a', cap'), trivial, he.trans (by rw [show openE l5 = 120 by rw [hl5]; exact (openE_no hopE)]), hb, newOk1 3 hr⟩) rfl rfl rfl (w_n rfl) ?_
          rintro ⟨ar6, cr6⟩ -
          refine TL_q (.tuple #[.slice ar6 ((openL l5).length) cr6, .int .i64 120]) (fun _ _ hρ _ => r_move (hρ _ _ rfl)) rfl rfl rfl (w_n rfl) ?_
          refine TL_q (.slice ar6 ((openL l5).length) cr6) (fun _ _ hρ _ => r_extract (hρ _ _ rfl) rfl) rfl rfl rfl (w_n rfl) ?_
          refine TL_q (.int .i64 120) (fun _ _ hρ _ => r_extract (hρ _ _ rfl) rfl) rfl rfl rfl (w_n rfl) ?_
          refine TL_q (.slice ar6 ((openL l5).length) cr6) (fun _ _ hρ _ => r_assign (hρ _ _ rfl)) rfl rfl rfl (w_n rfl) ?_
          refine TL_q (.int .i64 120) (fun _ _ hρ _ => r_assign (hρ _ _ rfl)) rfl rfl rfl (w_n rfl) ?_
          refine TL_seq ?_
          refine T_sub [(2, .pointer (some ⟨B1, 0, none⟩)), (5, .int .i64 ((numP l + 8 : Nat) : Int)), (6, .slice ar6 ((openL l5).length) cr6), (4, .int .i64 120)] [(3, .row (.slice ar6 ((openL l5).length) cr6) 5 1 ((openL l5).length) ((openL l5).flatMap byc)), (1, .blk B1 (.cells #[.slice none 0 0, .int .i64 0] 121))] (sub_cons rfl (sub_cons rfl (sub_cons rfl (sub_cons rfl sub_nil)))) (sub_cons rfl (sub_cons rfl sub_nil)) ?_
          refine T_seq (T_region ?_)
          refine TL_q (.int .i64 120) (fun _ _ hρ _ => r_move (hρ _ _ rfl)) rfl rfl rfl (w_n rfl) ?_
          refine TL_q (.bool false) (fun _ _ hρ _ => r_as (r_eql (hρ _ _ rfl) (hρ _ _ rfl)) (by rfl)) rfl rfl rfl (w_n rfl) ?_
          refine TL_callQ (v := .iface 28 (.int .i64 120)) (fun _ _ hρ _ => r_call (args := [.bool false, .int .i64 120]) (enters_of Try.func84 (by kernel_rfl) rfl) (hρ _ _ rfl) ((cons2 (hρ _ _ rfl) (cons2 (hρ _ _ rfl) rfl))) rfl) (fun w _ => need_no_jrn 120 w) rfl (w_n rfl) ?_
          refine p_then_p ?_
          refine p_pan rfl (fun w hm => ?_)
          exact ⟨by rw [first_e4 c1 (by omega) (by omega), openE_no hopE], hm.ext⟩
      · skip
        refine T_seq (T_region ?_)
        refine TL_q (.slice a l.length cap) (fun _ _ hρ _ => r_move (hρ _ _ rfl)) rfl rfl rfl (w_n rfl) ?_
        refine TL_q (.int .i64 ((l.length : Nat) : Int)) (fun _ _ hρ _ => r_len sl34 (hρ _ _ rfl)) rfl rfl rfl (w_n rfl) ?_
        refine TL_q (.int .i64 ((numP l + 8 : Nat) : Int)) (fun _ _ hρ _ => r_move (hρ _ _ rfl)) rfl rfl rfl (w_n rfl) ?_
        refine TL_q (.bool false) (fun _ _ hρ _ => r_as (r_geq (hρ _ _ rfl) (hρ _ _ rfl)) (bool_as (decide_eq_false c3))) rfl rfl rfl (w_n rfl) ?_
        refine TL_callQ (v := .iface 28 (.int .i64 110)) (fun _ _ hρ _ => r_call (args := [.bool false, .int .i64 110]) (enters_of Try.func84 (by kernel_rfl) rfl) (hρ _ _ rfl) ((cons2 (hρ _ _ rfl) (cons2 (hρ _ _ rfl) rfl))) rfl) (fun w _ => need_no_jrn 110 w) rfl (w_n rfl) ?_
        refine p_then_p ?_
        refine p_pan rfl (fun w hm => ?_)
        exact ⟨by rw [first_e3 c1 (by omega) (by omega)], hm.ext⟩
    · skip
      refine T_seq (T_region ?_)
      refine TL_q (.int .u64 ((numP l : Nat) : Int)) (fun _ _ hρ _ => r_move (hρ _ _ rfl)) rfl rfl rfl (w_n rfl) ?_
      refine TL_q (.bool false) (fun _ _ hρ _ => r_as (r_leq (hρ _ _ rfl) (hρ _ _ rfl)) (bool_as (decide_eq_false c2))) rfl rfl rfl (w_n rfl) ?_
      refine TL_callQ (v := .iface 28 (.int .i64 3)) (fun _ _ hρ _ => r_call (args := [.bool false, .int .i64 3]) (enters_of Try.func84 (by kernel_rfl) rfl) (hρ _ _ rfl) ((cons2 (hρ _ _ rfl) (cons2 (hρ _ _ rfl) rfl))) rfl) (fun w _ => need_no_jrn 3 w) rfl (w_n rfl) ?_
      refine p_then_p ?_
      refine p_pan rfl (fun w hm => ?_)
      exact ⟨by rw [first_e2 c1 (by omega)], hm.ext⟩
  · skip
    refine T_seq (T_region ?_)
    refine TL_q (.slice a l.length cap) (fun _ _ hρ _ => r_move (hρ _ _ rfl)) rfl rfl rfl (w_n rfl) ?_
    refine TL_call (.tuple #[.int .u64 0, .int .i64 110]) (fun _ _ hρ _ => r_call (args := [.slice a l.length cap, .int .i64 0, .int .i64 4]) (enters_of Try.func117 (by kernel_rfl) rfl) (hρ _ _ rfl) ((cons2 (hρ _ _ rfl) (cons2 (hρ _ _ rfl) (cons2 (hρ _ _ rfl) rfl)))) rfl) (fun w hm => get_no l a cap w (hv.keep hm.ext) hcap c1) rfl rfl rfl (w_n rfl) ?_
    refine TL_q (.tuple #[.int .u64 0, .int .i64 110]) (fun _ _ hρ _ => r_move (hρ _ _ rfl)) rfl rfl rfl (w_n rfl) ?_
    refine TL_q (.int .u64 0) (fun _ _ hρ _ => r_extract (hρ _ _ rfl) rfl) rfl rfl rfl (w_n rfl) ?_
    refine TL_q (.int .i64 110) (fun _ _ hρ _ => r_extract (hρ _ _ rfl) rfl) rfl rfl rfl (w_n rfl) ?_
    refine TL_q (.int .u64 0) (fun _ _ hρ _ => r_assign (hρ _ _ rfl)) rfl rfl rfl (w_n rfl) ?_
    refine TL_q (.int .i64 110) (fun _ _ hρ _ => r_assign (hρ _ _ rfl)) rfl rfl rfl (w_n rfl) ?_
    refine TL_seq ?_
    refine T_seq (T_region ?_)
    refine TL_q (.int .i64 110) (fun _ _ hρ _ => r_move (hρ _ _ rfl)) rfl rfl rfl (w_n rfl) ?_
    refine TL_q (.bool false) (fun _ _ hρ _ => r_as (r_eql (hρ _ _ rfl) (hρ _ _ rfl)) (by rfl)) rfl rfl rfl (w_n rfl) ?_
    refine TL_callQ (v := .iface 28 (.int .i64 110)) (fun _ _ hρ _ => r_call (args := [.bool false, .int .i64 110]) (enters_of Try.func84 (by kernel_rfl) rfl) (hρ _ _ rfl) ((cons2 (hρ _ _ rfl) (cons2 (hρ _ _ rfl) rfl))) rfl) (fun w _ => need_no_jrn 110 w) rfl (w_n rfl) ?_
    refine p_then_p ?_
    refine p_pan rfl (fun w hm => ?_)
    exact ⟨by rw [first_e1 c1], hm.ext⟩
end Go.Proofs.Ytcidgbjgeegepaa
/- Contracts over an open list of what is known of memory: numbers that are free, entries told again. Over any program. -/
namespace Go.Proofs.Ytcidgbjgeegepaa
open Go Go.RowKit
/-- No entry bears a number from a on, below b. -/
def NoIds (L : Heap) (a b : Nat) : Prop := ∀ k, a ≤ k → k < b → lk L k = none
theorem NoIds.sub {L : Heap} {a b c d : Nat} (h : NoIds L a b) (h1 : Nat.ble a c = true) (h2 : Nat.ble d b = true) : NoIds L c d := fun k hk hk2 => h k (Nat.le_trans (Nat.le_of_ble_eq_true h1) hk) (Nat.lt_of_lt_of_le hk2 (Nat.le_of_ble_eq_true h2))
theorem noIds_app {F L : Heap} {a b : Nat} (h : (F.map (·.1)).all (fun i => Nat.blt i a || Nat.ble b i) = true) (hL : NoIds L a b) : NoIds (F ++ L) a b := fun k h1 h2 => by
  refine lk_app_none (lk_none_of fun p hp e => ?_) (hL k h1 h2)
  have := List.all_eq_true.1 h p.1 (List.mem_map.2 ⟨p, hp, rfl⟩)
  rw [Bool.or_eq_true, Nat.blt_eq] at this
  rcases this with h3 | h3
  · omega
  · have := Nat.le_of_ble_eq_true h3; omega
theorem noIds_cons {p : Nat × Res} {L : Heap} {a b : Nat} (h : (Nat.blt p.1 a || Nat.ble b p.1) = true) (hL : NoIds L a b) : NoIds (p :: L) a b := noIds_app (F := [p]) (by simp only [List.map_cons, List.map_nil, List.all_cons, List.all_nil, Bool.and_true]; exact h) hL
theorem noIds_nil (a b : Nat) : NoIds [] a b := fun _ _ _ => rfl
theorem lk_fin {F T L : Heap} {a b : Nat} (hT : SubK F T) (hk : (F.map (·.1)).all (fun i => (T.map (·.1)).contains i || (Nat.ble a i && Nat.blt i b)) = true) (hL : NoIds L a b) : ∀ k q, lk (T ++ L) k = some q → lk (F ++ L) k = some q := fun k q h => by
  rw [lk_append] at h ⊢
  cases e : lk T k with
  | some r => rw [e] at h; cases h; rw [hT.get k q e]
  | none =>
    rw [e] at h
    cases e2 : lk F k with
    | none => exact h
    | some r =>
      obtain ⟨p, hp, rfl⟩ := lk_key e2
      have := List.all_eq_true.1 hk p.1 (List.mem_map.2 ⟨p, hp, rfl⟩)
      rw [Bool.or_eq_true] at this
      rcases this with h1 | h1
      · exfalso
        obtain ⟨t, ht, e3⟩ := List.mem_map.1 (List.contains_iff_mem.1 h1)
        have : ∀ (A : Heap), t ∈ A → ∃ r, lk A t.1 = some r := fun A => by
          induction A with
          | nil => intro h; cases h
          | cons x A ih =>
            intro h
            by_cases e4 : x.1 = t.1
            · exact ⟨x.2, by rw [← e4]; exact lk_cons_same _ _ _⟩
            · rw [lk_cons_other _ _ e4]
              rcases List.mem_cons.1 h with rfl | h
              · exact absurd rfl e4
              · exact ih h
        obtain ⟨r', hr'⟩ := this T ht
        rw [e3] at hr'
        rw [hr'] at e; cases e
      · rw [Bool.and_eq_true, Nat.blt_eq] at h1
        have h2 := hL p.1 (Nat.le_of_ble_eq_true h1.1) h1.2
        rw [h2] at h; cases h
/-- A thing under another number. -/
theorem MemOk.move {w₀ w : World} {L : Heap} (h : MemOk w₀ L w) (i j : Nat) {r : Res} (hj : lk L j = some r) (hne : Nat.beq i j = false) : MemOk w₀ ((i, r) :: (j, .no) :: L) w := by
  have hij : i ≠ j := fun e => by subst e; rw [Nat.beq_refl] at hne; cases hne
  have h0 : MemOk w₀ ((j, .no) :: L) w := h.set j _ h.ext ⟨trivial, (fun _ hb => hb.elim), fun _ _ _ _ => trivial⟩ (fun _ _ _ _ b _ => ⟨rfl, id⟩)
  refine h0.set i r h0.ext (h.own j r hj) (fun k q hk hne' b hb => ⟨rfl, fun hr => ?_⟩)
  by_cases e2 : j = k
  · subst e2; rw [lk_cons_same] at hk; cases hk; exact hb
  · rw [lk_cons_other _ _ e2] at hk
    exact h.sep j k r q hj hk e2 b hr hb
section
variable {C : Cx} {Q : Post} {K : List (Nat × Value)} {L : Heap}
end
end Go.Proofs.Ytcidgbjgeegepaa
/- A range over a function that hands over new memory at each round. Over any program. -/
namespace Go.Proofs.Ytcidgbjgeegepaa
open Go Go.RowKit
/-- An iterator that keeps something of its own (R), and hands over a new thing (E) with each of the elements of xs. -/
def IterZ (P : Program) (w₀ : World) (gf : Nat) (lb : Array Value) {ι α ζ : Type} (encs : α → ζ → List Value) (E : α → ζ → Res) (xs : List α) (p : Nat → ι → Prop) (LJ : Nat → ι → Heap) : Prop :=
  ∀ (l : Nat) (κ : Type) (pX : κ → Prop) (LX : κ → Heap),
    (∀ R k x z i W, xs[k]? = some x → p k i → MemOk w₀ ((1700, R) :: (1701, E x z) :: LJ k i) W → YieldAt Fence.wide 0 P l (encs x z).toArray W fun e W' =>
      (e = .returned (.bool true) ∧ ∃ i', p (k + 1) i' ∧ MemOk w₀ ((1700, R) :: LJ (k + 1) i') W') ∨ (e = .returned (.bool false) ∧ ∃ j, pX j ∧ MemOk w₀ (LX j) W')) →
    ∀ i W, p 0 i → MemOk w₀ (LJ 0 i) W → Calls P gf (#[.func (.yield l) #[] #[]] ++ lb) W fun e W' =>
      (∃ v, e = .returned v) ∧ ((∃ i', p xs.length i' ∧ MemOk w₀ (LJ xs.length i') W') ∨ ∃ j, pX j ∧ MemOk w₀ (LX j) W')
theorem lk_ins {i : Nat} {r : Res} (A B : Heap) (hA : ∀ p ∈ A, p.1 ≠ i) : ∀ k q, lk ((i, r) :: (A ++ B)) k = some q → lk (A ++ (i, r) :: B) k = some q := fun k q h => by
  by_cases e : i = k
  · subst e
    rw [lk_cons_same] at h
    rw [lk_append, lk_none_of hA]
    exact (lk_cons_same B i r).trans h
  · rw [lk_cons_other _ _ e, lk_append] at h
    rw [lk_append, lk_cons_other _ _ e]
    exact h
theorem T_rangeZ {C : Cx} {ζ ζ' : Type} {Q : Post} {K : List (Nat × Value)} {L : Heap} {ι α : Type} {g : Operand} {pl : List Tmp} {assign body : Code} {gf : Nat} {lb : Array Value} {encs : α → ζ → List Value} {E : α → ζ → Res} {xs : List α}
    (hro : C.ro = none) (hg : ev K g = some (.func (.func gf) #[] lb)) (eg : Enters C.P gf) (hps : ∀ x z, (encs x z).length = pl.length) (hpN : (pl.all fun t => Nat.blt t C.N) = true)
    (idD idl : Nat) (hne : Nat.beq idD idl = false) (hD7 : Nat.blt idD 1700 = true) (hl7 : Nat.blt idl 1700 = true) (p : Nat → ι → Prop) (LI : Nat → ι → Heap) (pX : Code → ι → Prop) (LX : ι → Heap) (K1 : α → ζ → ζ' → List (Nat × Value)) (E' : α → ζ → ζ' → Heap)
    (hit : ∀ D l rec, IterZ C.P C.w₀ gf lb encs E xs p (fun k i => (idD, .blk D (.deferred (some []))) :: (idl, .blk l (.loop rec)) :: LI k i)) (hids : ∀ k i, lk (LI k i) idD = none ∧ lk (LI k i) idl = none) (hidx : ∀ i, lk (LX i) idD = none ∧ lk (LX i) idl = none)
    (i₀ : ι) (h0 : p 0 i₀) (hL : SubK L (LI 0 i₀))
    (hassign : ∀ D l rec R k x z i, xs[k]? = some x → p k i → T (C.round l) assign (Exit.then (At (C.round l) (fun _ : ζ' => True) (fun z' => K1 x z z') (fun z' => (idD, .blk D (.deferred (some []))) :: (idl, .blk l (.loop rec)) :: (1700, R) :: (E' x z z' ++ LI k i))) (fun _ _ _ => False))
      (zipK pl (encs x z) K) ((idD, .blk D (.deferred (some []))) :: (idl, .blk l (.loop rec)) :: (1700, R) :: (1701, E x z) :: LI k i))
    (hround : ∀ D l rec R k x z i z', xs[k]? = some x → p k i → T (C.round l) body (RoundQ C.w₀ idD idl D l rec (p (k + 1)) (fun i => (1700, R) :: LI (k + 1) i) pX LX) (K1 x z z') ((idD, .blk D (.deferred (some []))) :: (idl, .blk l (.loop { rec with state := .busy })) :: (1700, R) :: (E' x z z' ++ LI k i)))
    (hdone : ∀ D i, p xs.length i → POk (C.with D) Q .normal K ((idD, .blk D (.deferred (some []))) :: LI xs.length i))
    (hstop : ∀ D c i, pX c i → T (C.with D) c Q K ((idD, .blk D (.deferred (some []))) :: LX i)) : T C (.rangeFunc g pl.toArray assign body) Q K L := by
  obtain ⟨P, w₀, N, CD, ro⟩ := C
  cases hro
  have hne' : idD ≠ idl := fun e => by subst e; rw [Nat.beq_refl] at hne; cases hne
  rw [Nat.blt_eq] at hD7 hl7
  intro a w hf hm
  show (Code.rangeFunc g pl.toArray assign body).wpIn Fence.wide 0 P _ a w
  refine (wpIn_wide (n := 0)).2 ((wpIn_wide (n := 2)).1 (wpIn_rangeFunc ?_))
  intro fn hfn
  rw [show Fence.wide.round = none from rfl]
  have hg' := hf.rd _ _ hg
  obtain ⟨rec, hrec⟩ : ∃ rec : Loop, rec = { state := .ready, pending := none, fn, tmps := a.tmps, params := pl.toArray, assign, body, defers := w.heap.size } := ⟨_, rfl⟩
  have hm1 : MemOk w₀ ((idl, .blk (w.heap.size + 1) (.loop rec)) :: (idD, .blk w.heap.size (.deferred (some []))) :: LI 0 i₀) ((w.alloc (.deferred (some []))).alloc (.loop rec)) := by
    have h1 := (hm.sub hL).new (alloc_below w (.deferred (some []))) idD (Nat.le_refl _) (hp_new w _)
    have h2 := h1.new (alloc_below (w.alloc (.deferred (some []))) (.loop rec)) idl (Nat.le_refl _) (hp_new _ _)
    rwa [World.size_alloc] at h2
  have hm1 : MemOk w₀ ((idD, .blk w.heap.size (.deferred (some []))) :: (idl, .blk (w.heap.size + 1) (.loop rec)) :: LI 0 i₀) ((w.alloc (.deferred (some []))).alloc (.loop rec)) := by
    refine hm1.of (fun k q hk => ?_)
    by_cases e1 : idD = k
    · subst e1; rw [lk_cons_same] at hk; rw [ids_ne (Ne.symm hne')]; exact hk
    · rw [lk_cons_other _ _ e1] at hk
      by_cases e2 : idl = k
      · subst e2; rw [lk_cons_same] at hk ⊢; exact hk
      · rw [lk_cons_other _ _ e2] at hk; rw [lk_cons_other _ _ e2, lk_cons_other _ _ e1]; exact hk
  obtain ⟨W1, hW1⟩ : ∃ W1, (w.alloc (.deferred (some []))).alloc (.loop rec) = W1 := ⟨_, rfl⟩
  rw [hW1] at hm1
  have back : ∀ (D l : Nat) (o : Obj) (R : Res) (A : Heap) (W : World), MemOk w₀ ((idD, .blk D (.deferred (some []))) :: (idl, .blk l o) :: (1700, R) :: A) W → MemOk w₀ ((1700, R) :: (idD, .blk D (.deferred (some []))) :: (idl, .blk l o) :: A) W := fun D l o R A W h =>
    h.of (lk_ins [(idD, .blk D (.deferred (some []))), (idl, .blk l o)] A (by simp; omega))
  refine ⟨w.heap.size + 1, [{ target := .collected w.heap.size, args := #[] }], W1, { target := .fn (.func gf) lb, args := #[.func (.yield (w.heap.size + 1)) #[] #[]] }, W1, gf,
    #[.func (.yield (w.heap.size + 1)) #[] #[]] ++ lb, W1, ?_, ?_, ?_, ?_, fun h => by simp [Fence.wide] at h, ?_⟩
  · rw [← hW1, hrec]; exact run_enterLoop_outer _ _ _ _ _
  · simp only [resolve, hg']
    simp [go_sem]
  · intro f' _; trivial
  · simp [invoke, eg _ _]
  · -- what holds at each round's head, and behind a round that left
    refine CallsIn.mono (callsIn_wide.2 (hit w.heap.size (w.heap.size + 1) rec (w.heap.size + 1) (Code × ι) (fun z => pX z.1 z.2)
      (fun z => (idD, .blk w.heap.size (.deferred (some []))) :: (idl, .blk (w.heap.size + 1) (.loop { rec with state := .done, pending := some z.1 })) :: LX z.2) ?_ i₀ W1 h0 hm1)) ?_
    · intro R k x z i W hx hi hmi0
      have hmi : MemOk w₀ ((idD, .blk w.heap.size (.deferred (some []))) :: (idl, .blk (w.heap.size + 1) (.loop rec)) :: (1700, R) :: (1701, E x z) :: LI k i) W := by
        have h1 := hmi0.of (lk_ins [(1700, R), (1701, E x z), (idD, .blk w.heap.size (.deferred (some [])))] (LI k i) (i := idl) (r := .blk (w.heap.size + 1) (.loop rec)) (by simp; omega))
        exact h1.of (lk_ins [(idl, .blk (w.heap.size + 1) (.loop rec)), (1700, R), (1701, E x z)] (LI k i) (i := idD) (r := .blk w.heap.size (.deferred (some []))) (by simp; omega))
      have hl : W.heap[w.heap.size + 1]? = some (.loop rec) := hmi.at idl (ids_ne hne')
      have hy := run_yield (P := P) (args := (encs x z).toArray) hl (by rw [hrec]; simp [hps])
      have hfr : FrOk N [] (zipK pl (encs x z) K) { tmps := (pl.zip (encs x z)).foldl (fun t (p, v) => t.setIfInBounds p v) a.tmps, defers := [] } :=
        FrOk.zip pl (encs x z) (fun t ht => List.all_eq_true.1 hpN t ht) ⟨hf.size, rfl, hf.knows⟩
      have htm : (rec.params.zip (encs x z).toArray).foldl (fun tmps (t, a) => tmps.setIfInBounds t a) rec.tmps = (pl.zip (encs x z)).foldl (fun t (p, v) => t.setIfInBounds p v) a.tmps := by
        rw [hrec]; simp [List.zip_toArray]
      rw [htm] at hy
      rw [show rec.fn = fn by rw [hrec], show rec.assign = assign by rw [hrec], show rec.body = body by rw [hrec]] at hy
      refine ⟨fn, _, assign, body, hy, roundIn_of_wpIn hfn ?_⟩
      have hA := hassign w.heap.size (w.heap.size + 1) rec R k x z i hx hi _ W hfr hmi
      refine wpIn_mono hA ?_
      intro e a1 W2 hq
      cases e with
      | normal =>
        obtain ⟨z', _, hf1, hm2⟩ := hq
        have hl2 : W2.heap[w.heap.size + 1]? = some (.loop rec) := hm2.at idl (ids_ne hne')
        refine ⟨_, run_beginRound hl2 (by rw [hrec]), ?_⟩
        have hm3 := (hm2.putObj (.loop { rec with state := .busy }) (ids_ne hne' : lk _ idl = some (.blk (w.heap.size + 1) (.loop rec)))).second hne'
        have hB := hround w.heap.size (w.heap.size + 1) rec R k x z i z' hx hi a1 _ hf1 hm3
        refine wpIn_mono hB ?_
        have fin : ∀ (jump : Option Code) (W3 : World) (LL : Heap), MemOk w₀ ((idD, .blk w.heap.size (.deferred (some []))) :: (idl, .blk (w.heap.size + 1) (.loop { rec with state := .busy })) :: LL) W3 →
            (Instr.endRound (w.heap.size + 1) jump).run P W3 = .ok (.bool jump.isNone) (W3.putObj (w.heap.size + 1) (.loop { rec with state := if jump.isNone then .ready else .done, pending := jump })) ∧
            MemOk w₀ ((idD, .blk w.heap.size (.deferred (some []))) :: (idl, .blk (w.heap.size + 1) (.loop { rec with state := if jump.isNone then .ready else .done, pending := jump })) :: LL) (W3.putObj (w.heap.size + 1) (.loop { rec with state := if jump.isNone then .ready else .done, pending := jump })) := fun jump W3 LL h3 => by
          have hl3 : W3.heap[w.heap.size + 1]? = some (.loop { rec with state := .busy }) := h3.at idl (ids_ne hne')
          exact ⟨run_endRound (P := P) (r := { rec with state := .busy }) jump hl3, (h3.putObj _ (ids_ne hne')).second hne'⟩
        have hrd : ({ rec with state := .ready, pending := none } : Loop) = rec := by rw [hrec]
        rintro e a3 W3 hp
        cases e with
        | normal =>
          obtain ⟨i', hi', h3⟩ := hp
          obtain ⟨hr, h4⟩ := fin none W3 _ h3
          exact ⟨_, _, hr, .inl ⟨rfl, i', hi', back _ _ _ _ _ _ (by simpa [hrd] using h4)⟩⟩
        | ret =>
          obtain ⟨i', hi', h3⟩ := hp
          obtain ⟨hr, h4⟩ := fin (some .ret) W3 _ h3
          exact ⟨_, _, hr, .inr ⟨rfl, (.ret, i'), hi', by simpa using h4⟩⟩
        | exit id =>
          obtain ⟨i', hi', h3⟩ := hp
          obtain ⟨hr, h4⟩ := fin (some (.exit id)) W3 _ h3
          exact ⟨_, _, hr, .inr ⟨rfl, (.exit id, i'), hi', by simpa using h4⟩⟩
        | goto t =>
          obtain ⟨i', hi', h3⟩ := hp
          obtain ⟨hr, h4⟩ := fin (some (.goto t)) W3 _ h3
          exact ⟨_, _, hr, .inr ⟨rfl, (.goto t, i'), hi', by simpa using h4⟩⟩
        | panic ch => exact hp.elim
        | outgrown => exact hp.elim
      | exit id => exact hq.elim
      | goto l => exact hq.elim
      | ret => exact hq.elim
      | panic ch => exact hq.elim
      | outgrown => exact hq.elim
    · have hf' : ∀ (D : Nat), FrOk N ({ target := .collected D, args := #[] } :: CD) K { a with defers := [{ target := .collected D, args := #[] }] ++ a.defers } := fun D => ⟨hf.size, by rw [hf.defers]; rfl, hf.knows⟩
      rintro e W2 ⟨⟨v, rfl⟩, (⟨i, hi, h2⟩ | ⟨⟨c, i⟩, hi, h2⟩)⟩
      · have hl2 : W2.heap[w.heap.size + 1]? = some (.loop rec) := h2.at idl (ids_ne hne')
        refine ⟨none, _, by have := run_endLoop (P := P) hl2 (by rw [hrec]; simp); rw [this, hrec], ?_⟩
        exact hdone w.heap.size i hi _ _ (hf' _) (((h2.putObj _ (ids_ne hne')).second hne').drop2 (hids _ i).2)
      · have hl2 : W2.heap[w.heap.size + 1]? = some (.loop { rec with state := .done, pending := some c }) := h2.at idl (ids_ne hne')
        refine ⟨some c, _, by have := run_endLoop (P := P) hl2 (by simp); exact this, ?_⟩
        exact wpIn_wide.2 ((wpIn_wide (n := 0)).1 (hstop w.heap.size c i hi _ _ (hf' _) (((h2.putObj _ (ids_ne hne')).second hne').drop2 (hidx i).2)))
theorem p_jmpT {C : Cx} {Q : Post} {K : List (Nat × Value)} {L : Heap} {ι : Type} {p : ι → Prop} {KJ : ι → List (Nat × Value)} {LJ : ι → Heap} {l : Nat} (i : ι) (hp : p i) (hK : SubK K (KJ i)) (hL : ∀ k q, lk (LJ i) k = some q → lk L k = some q) : POk C (Exit.jump l (At C p KJ LJ) Q) (.goto l) K L :=
  fun _ _ hf hm => ⟨rfl, i, hp, hf.sub hK, hm.of hL⟩
/-- Jumps back, the way ahead of the label leading to what holds there too. -/
theorem T_jumpsV {C : Cx} {Q : Post} {K : List (Nat × Value)} {L : Heap} {ι : Type} (l : Nat) (p : ι → Prop) (KI : ι → List (Nat × Value)) (LI : ι → Heap) (μ : ι → Nat) {c y : Code} (hro : C.ro = none) (hl : findLabel c l = some (.seq .skip y))
    (first : (∀ i, p i → T C y (Exit.jump l (At C p KI LI) Q) (KI i) (LI i)) → T C c (Exit.jump l (At C p KI LI) Q) K L) (pass : ∀ i, p i → T C y (Exit.jump l (At C (fun j => p j ∧ μ j < μ i) KI LI) Q) (KI i) (LI i)) : T C (.scope c) Q K L := by
  refine T_jumps l p KI LI μ hro hl (first fun i hi a w hf hm => wpIn_mono (pass i hi a w hf hm) ?_) (fun i hi => T_seq (T_skip' (p_seq (pass i hi))))
  intro e a' w' hq
  cases e with
  | normal => exact hq
  | exit id => exact hq
  | goto l' =>
    obtain ⟨rfl, j, ⟨hj, _⟩, h1, h2⟩ := hq
    exact ⟨rfl, j, hj, h1, h2⟩
  | ret => exact hq
  | panic ch => exact hq
  | outgrown => exact hq
theorem T_into {C : Cx} {c : Code} {Q : Post} {K K' : List (Nat × Value)} {L L' : Heap} (h : T C c Q K' L') (hK : SubK K K') (hL : ∀ k q, lk L' k = some q → lk L k = some q) : T C c Q K L := fun a w hf hm => h a w (hf.sub hK) (hm.of hL)
end Go.Proofs.Ytcidgbjgeegepaa
/- net and journal: First, records. Printed by a program of this seat's prover. -/
namespace Go.Proofs.Ytcidgbjgeegepaa
open Go Go.RowKit
set_option maxRecDepth 10000
theorem first1_p (T0 : Nat) (l : List By) (a : Option Addr) (cap : Nat) (w : World) (hv : SliceAt w a cap 1 byc l) (hcap : cap ≤ Go.maxLen) (h0 : hp w T0 = some (.cells #[.slice a l.length cap] 34)) (h : ¬ firstE l = 0) : Calls Try.prog 91 #[.pointer (some ⟨T0, 0, none⟩)] w fun e w' => e = .panicked [{ v := .iface 28 (.int .i64 (firstE l)), recovered := false }] ∧ Below w.heap.size w w' := by
  refine calls_of_T (l := [.pointer (some ⟨T0, 0, none⟩)]) 4 Try.func91 rfl rfl rfl ?_
  show T _ _ _ [(0, .pointer (some ⟨T0, 0, none⟩))] []
  refine T_seq (T_region ?_)
  refine TL_new 1 (.cells #[.slice none 0 0, .int .i64 0] 121) (fun B => .pointer (some ⟨B, 0, none⟩)) (fun _ _ _ _ => r_alloc (v := .agg #[.slice none 0 0, .int .i64 0]) (by kernel_rfl) rfl) rfl rfl rfl (w_n rfl) ?_
  intro B1
  refine TL_seq ?_
  refine T_seq (T_region ?_)
  refine TL_q (.slice a l.length cap) (fun _ _ hρ hm => r_load ag34 (hρ _ _ rfl) (hm.old h0) rfl) rfl rfl rfl (w_n rfl) ?_
  refine TL_callQ (v := .iface 28 (.int .i64 (firstE l))) (fun _ _ hρ _ => r_call (args := [.slice a l.length cap]) (enters_of Try.func92 (by kernel_rfl) rfl) (hρ _ _ rfl) ((cons2 (hρ _ _ rfl) rfl)) rfl) (fun w hm => first_p l a cap w (hv.keep hm.ext) hcap h) rfl (w_n rfl) ?_
  refine p_then_p ?_
  refine p_pan rfl (fun w hm => ?_)
  exact ⟨rfl, hm.ext⟩

theorem next1_c (T0 S at9 : Nat) (l : List By) (a : Option Addr) (cap : Nat) (w : World) (hv : SliceAt w a cap 1 byc l) (hcap : cap ≤ Go.maxLen) (h0 : hp w T0 = some (.cells #[.pointer (some ⟨S, 0, none⟩)] 146)) (hS : hp w S = some (.cells #[.slice a l.length cap, .int .i64 (at9 : Int)] 150)) (h : firstE l = 0) : Calls Try.prog 127 #[.pointer (some ⟨T0, 0, none⟩)] w fun e w' => ∃ a' cap', e = .returned (.agg #[.slice a' (heldP l).length cap', .int .i64 (((heldP l).length + 8 : Nat) : Int)]) ∧ Below w.heap.size w w' ∧ (Res.sl a' cap' (heldP l)).ok w.heap.size w' := by
  refine calls_of_T (l := [.pointer (some ⟨T0, 0, none⟩)]) 8 Try.func127 rfl rfl rfl ?_
  show T _ _ _ [(0, .pointer (some ⟨T0, 0, none⟩))] []
  refine T_seq (T_region ?_)
  refine TL_new 1 (.cells #[.slice none 0 0, .int .i64 0] 121) (fun B => .pointer (some ⟨B, 0, none⟩)) (fun _ _ _ _ => r_alloc (v := .agg #[.slice none 0 0, .int .i64 0]) (by kernel_rfl) rfl) rfl rfl rfl (w_n rfl) ?_
  intro B1
  refine TL_seq ?_
  refine T_seq (T_region ?_)
  refine TL_q (.pointer (some ⟨S, 0, none⟩)) (fun _ _ hρ hm => r_load ag146 (hρ _ _ rfl) (hm.old h0) rfl) rfl rfl rfl (w_n rfl) ?_
  refine TL_q (.pointer (some ⟨S, 0, none⟩)) (fun _ _ hρ _ => r_nilCheck (hρ _ _ rfl) rfl) rfl rfl rfl (w_n rfl) ?_
  refine TL_q (.pointer (some ⟨S, 0, none⟩)) (fun _ _ hρ _ => r_fieldAddr fl150_0 sz148 (hρ _ _ rfl)) rfl rfl rfl (w_n rfl) ?_
  refine TL_q (.pointer (some ⟨S, 0, none⟩)) (fun _ _ hρ _ => r_fieldAddr fl148_0 sz34 (hρ _ _ rfl)) rfl rfl rfl (w_n rfl) ?_
  refine TL_q (.slice a l.length cap) (fun _ _ hρ hm => r_load ag34 (hρ _ _ rfl) (hm.old hS) rfl) rfl rfl rfl (w_n rfl) ?_
  refine TL_callN (fun (_ : Option Addr × Nat) => True) (fun (ah2, ch2) => .agg #[.slice ah2 ((heldP l).length) ch2, .int .i64 (((heldP l).length + 8 : Nat) : Int)]) (fun (ah2, ch2) => [(2, .sl ah2 ch2 (heldP l))]) (fun _ _ hρ _ => r_call (args := [.slice a l.length cap]) (enters_of Try.func92 (by kernel_rfl) rfl) (hρ _ _ rfl) ((cons2 (hρ _ _ rfl) rfl)) rfl) (fun w hm => (first_c l a cap w (hv.keep hm.ext) hcap h).mono fun e w' ⟨a', cap', he, hb, hr⟩ => ⟨(a', cap'), trivial, he, hb, newOk1 2 hr⟩) rfl rfl rfl (w_n rfl) ?_
  rintro ⟨ah2, ch2⟩ -
  refine TL_store 1 (.cells #[.slice ah2 ((heldP l).length) ch2, .int .i64 (((heldP l).length + 8 : Nat) : Int)] 121) rfl (fun _ _ hρ hm => r_store sz121 (hρ _ _ rfl) (hρ _ _ rfl) (hm.at 1 rfl) rfl rfl rfl rfl) rfl rfl (w_n rfl) ?_
  refine TL_seq ?_
  refine T_ret' ?_
  refine ret_of rfl (.agg #[.slice ah2 ((heldP l).length) ch2, .int .i64 (((heldP l).length + 8 : Nat) : Int)]) (fun tmps w hk hm => res1 rfl (res_cell (hk 1 _ rfl) (run_loadVar_agg ag121 sz121 (hm.at 1 rfl) (Nat.le_of_ble_eq_true rfl) rfl))) (fun w hm => ?_)
  exact ⟨ah2, ch2, rfl, hm.ext, hm.own 2 _ rfl⟩

theorem next1_p (T0 S at9 : Nat) (l : List By) (a : Option Addr) (cap : Nat) (w : World) (hv : SliceAt w a cap 1 byc l) (hcap : cap ≤ Go.maxLen) (h0 : hp w T0 = some (.cells #[.pointer (some ⟨S, 0, none⟩)] 146)) (hS : hp w S = some (.cells #[.slice a l.length cap, .int .i64 (at9 : Int)] 150)) (h : ¬ firstE l = 0) : Calls Try.prog 127 #[.pointer (some ⟨T0, 0, none⟩)] w fun e w' => e = .panicked [{ v := .iface 28 (.int .i64 (firstE l)), recovered := false }] ∧ Below w.heap.size w w' := by
  refine calls_of_T (l := [.pointer (some ⟨T0, 0, none⟩)]) 8 Try.func127 rfl rfl rfl ?_
  show T _ _ _ [(0, .pointer (some ⟨T0, 0, none⟩))] []
  refine T_seq (T_region ?_)
  refine TL_new 1 (.cells #[.slice none 0 0, .int .i64 0] 121) (fun B => .pointer (some ⟨B, 0, none⟩)) (fun _ _ _ _ => r_alloc (v := .agg #[.slice none 0 0, .int .i64 0]) (by kernel_rfl) rfl) rfl rfl rfl (w_n rfl) ?_
  intro B1
  refine TL_seq ?_
  refine T_seq (T_region ?_)
  refine TL_q (.pointer (some ⟨S, 0, none⟩)) (fun _ _ hρ hm => r_load ag146 (hρ _ _ rfl) (hm.old h0) rfl) rfl rfl rfl (w_n rfl) ?_
  refine TL_q (.pointer (some ⟨S, 0, none⟩)) (fun _ _ hρ _ => r_nilCheck (hρ _ _ rfl) rfl) rfl rfl rfl (w_n rfl) ?_
  refine TL_q (.pointer (some ⟨S, 0, none⟩)) (fun _ _ hρ _ => r_fieldAddr fl150_0 sz148 (hρ _ _ rfl)) rfl rfl rfl (w_n rfl) ?_
  refine TL_q (.pointer (some ⟨S, 0, none⟩)) (fun _ _ hρ _ => r_fieldAddr fl148_0 sz34 (hρ _ _ rfl)) rfl rfl rfl (w_n rfl) ?_
  refine TL_q (.slice a l.length cap) (fun _ _ hρ hm => r_load ag34 (hρ _ _ rfl) (hm.old hS) rfl) rfl rfl rfl (w_n rfl) ?_
  refine TL_callQ (v := .iface 28 (.int .i64 (firstE l))) (fun _ _ hρ _ => r_call (args := [.slice a l.length cap]) (enters_of Try.func92 (by kernel_rfl) rfl) (hρ _ _ rfl) ((cons2 (hρ _ _ rfl) rfl)) rfl) (fun w hm => first_p l a cap w (hv.keep hm.ext) hcap h) rfl (w_n rfl) ?_
  refine p_then_p ?_
  refine p_pan rfl (fun w hm => ?_)
  exact ⟨rfl, hm.ext⟩

theorem jfirst_p (l : List By) (a : Option Addr) (cap : Nat) (w : World) (hv : SliceAt w a cap 1 byc l) (hcap : cap ≤ Go.maxLen) (h : ¬ firstE l = 0) : Calls Try.prog 52 #[.slice a l.length cap] w fun e w' => ∃ a' cap', e = .returned (.tuple #[.slice a' ([] : List By).length cap', .int .i64 0, .int .i64 (firstE l)]) ∧ Below w.heap.size w w' ∧ w'.ownsRow w.heap.size 5 1 (.slice a' ([] : List By).length cap') ([] : List By).length (([] : List By).flatMap byc) := by
  have hvl := hv.1
  have hcp := hcap
  unfold Go.maxLen at hcp
  refine calls_of_T (l := [.slice a l.length cap]) 18 Try.func52 rfl rfl rfl ?_
  show T _ _ _ [(0, .slice a l.length cap)] []
  refine T_seq (T_region ?_)
  refine TL_new 1 (.cells #[.slice a l.length cap] 34) (fun B => .pointer (some ⟨B, 0, none⟩)) (fun _ _ hρ _ => r_box (hρ _ _ rfl) rfl) rfl rfl rfl (w_n rfl) ?_
  intro B1
  refine TL_q (.slice none 0 0) (fun _ _ hρ _ => r_assign (hρ _ _ rfl)) rfl rfl rfl (w_n rfl) ?_
  refine TL_q (.int .i64 0) (fun _ _ hρ _ => r_assign (hρ _ _ rfl)) rfl rfl rfl (w_n rfl) ?_
  refine TL_q (.int .i64 0) (fun _ _ hρ _ => r_assign (hρ _ _ rfl)) rfl rfl rfl (w_n rfl) ?_
  refine TL_seq ?_
  refine T_seq (T_region ?_)
  refine TL_q (.func (.func 91) #[] #[.pointer (some ⟨B1, 0, none⟩)]) (fun _ _ hρ _ => r_makeFunc (by simp) (map_arr (cons2 (hρ _ _ rfl) rfl))) rfl rfl rfl (w_n rfl) ?_
  refine TL_call (.tuple #[.agg #[.slice none 0 0, .int .i64 0], .int .i64 (firstE l)]) (fun _ _ hρ _ => r_call (args := [.func (.func 91) #[] #[.pointer (some ⟨B1, 0, none⟩)]]) (enters_of Try.func90 (by kernel_rfl) rfl) (hρ _ _ rfl) ((cons2 (hρ _ _ rfl) rfl)) rfl) (fun w hm => trFW_no 91 #[.pointer (some ⟨B1, 0, none⟩)] (firstE l) w (enters_of Try.func91 (by kernel_rfl) rfl) (fun w2 hb2 => first1_p B1 l a cap w2 (hv.keep (hm.ext.trans (hb2.mono hm.ext.size))) hcap (kept hb2 (hm.at 1 rfl)) h)) rfl rfl rfl (w_n rfl) ?_
  refine TL_q (.tuple #[.agg #[.slice none 0 0, .int .i64 0], .int .i64 (firstE l)]) (fun _ _ hρ _ => r_move (hρ _ _ rfl)) rfl rfl rfl (w_n rfl) ?_
  refine TL_q (.agg #[.slice none 0 0, .int .i64 0]) (fun _ _ hρ _ => r_extract (hρ _ _ rfl) rfl) rfl rfl rfl (w_n rfl) ?_
  refine TL_q (.int .i64 (firstE l)) (fun _ _ hρ _ => r_extract (hρ _ _ rfl) rfl) rfl rfl rfl (w_n rfl) ?_
  refine TL_new 2 (.cells #[.slice none 0 0, .int .i64 0] 121) (fun B => .pointer (some ⟨B, 0, none⟩)) (fun _ _ _ _ => r_alloc (v := .agg #[.slice none 0 0, .int .i64 0]) (by kernel_rfl) rfl) rfl rfl rfl (w_n rfl) ?_
  intro B2
  refine TL_store 2 (.cells #[.slice none 0 0, .int .i64 0] 121) rfl (fun _ _ hρ hm => r_store sz121 (hρ _ _ rfl) (hρ _ _ rfl) (hm.at 2 rfl) rfl rfl rfl rfl) rfl rfl (w_n rfl) ?_
  refine TL_q (.int .i64 (firstE l)) (fun _ _ hρ _ => r_assign (hρ _ _ rfl)) rfl rfl rfl (w_n rfl) ?_
  refine TL_seq ?_
  refine T_seq (T_draw (V := [(0, .pointer (some ⟨B2, 0, none⟩)), (1, .slice none 0 0), (3, .pointer (some ⟨B2, 1, none⟩)), (4, .int .i64 0), (5, .int .i64 (firstE l))]) [0, 1, 3, 0, 8, 0, 7, 95, 255] [[(5, none)], [(12, some 0)], [(13, some 1)], [(5, none)], [(15, some 3)], [(6, none)], [(14, some 2)], [(16, some 4)], [(17, some 5)]] 4 mixed (by kernel_rfl) ?_)
  refine G_step [0, 1, 3, 4, 5] 2 [] (by kernel_rfl) (allM (all_cons (q_run (.pointer (some ⟨B2, 0, none⟩)) rfl rfl (wv_n rfl) rfl (fun _ _ hρ _ => r_fieldAddr fl121_0 sz34 (hρ _ _ rfl))) (all_cons (q_run (.slice none 0 0) rfl rfl (wv_n rfl) rfl (fun _ _ hρ hm => r_load ag34 (hρ _ _ rfl) (hm.at 2 rfl) rfl)) (all_cons (q_run (.pointer (some ⟨B2, 1, none⟩)) rfl rfl (wv_n rfl) rfl (fun _ _ hρ _ => r_fieldAddr fl121_1 sz3 (hρ _ _ rfl))) (all_cons (q_run (.int .i64 0) rfl rfl (wv_n rfl) rfl (fun _ _ hρ hm => r_load ag3 (hρ _ _ rfl) (hm.at 2 rfl) rfl)) (all_cons (q_run (.int .i64 (firstE l)) rfl rfl (wv_n rfl) rfl (fun _ _ hρ _ => r_move (hρ _ _ rfl))) all_nil)))))) (allM (all_cons ?_ all_nil))
  refine LOb_callN (fun (_ : Option Addr × Nat) => True) (fun (ar4, cr4) => .slice ar4 (([] : List By).length) cr4) (fun (ar4, cr4) => [(3, .row (.slice ar4 (([] : List By).length) cr4) 5 1 (([] : List By).length) (([] : List By).flatMap byc))]) (fun (ar4, cr4) => [(6, .slice ar4 (([] : List By).length) cr4), (7, .int .i64 0), (8, .int .i64 (firstE l))]) rfl (wv_n rfl) rfl rfl (fun _ _ hρ _ => r_call (args := [.slice none 0 0]) (enters_of Try.func37 (by kernel_rfl) rfl) (hρ _ _ rfl) ((cons2 (hρ _ _ rfl) rfl)) rfl) (fun w _ => (clone_b byc byc_len byc_one [] none 0 w (sliceNil w) (by decide)).mono fun e w' ⟨a', cap', he, hb, hr⟩ => ⟨(a', cap'), trivial, he, hb, newOk1 3 hr⟩) (fun (ar4, cr4) => by kernel_rfl) ?_
  rintro ⟨ar4, cr4⟩ -
  refine G_last [3, 4, 5, 6, 7, 8] [(2, .slice ar4 (([] : List By).length) cr4), (3, .int .i64 0), (4, .int .i64 (firstE l))] (by kernel_rfl) (allM (all_cons (q_run (.pointer (some ⟨B2, 1, none⟩)) rfl rfl (wv_n rfl) rfl (fun _ _ hρ _ => r_fieldAddr fl121_1 sz3 (hρ _ _ rfl))) (all_cons (q_run (.int .i64 0) rfl rfl (wv_n rfl) rfl (fun _ _ hρ hm => r_load ag3 (hρ _ _ rfl) (hm.at 2 rfl) rfl)) (all_cons (q_run (.int .i64 (firstE l)) rfl rfl (wv_n rfl) rfl (fun _ _ hρ _ => r_move (hρ _ _ rfl))) (all_cons (q_run (.slice ar4 (([] : List By).length) cr4) rfl rfl (wv_n rfl) rfl (fun _ _ hρ _ => r_assign (hρ _ _ rfl))) (all_cons (q_run (.int .i64 0) rfl rfl (wv_n rfl) rfl (fun _ _ hρ _ => r_assign (hρ _ _ rfl))) (all_cons (q_run (.int .i64 (firstE l)) rfl rfl (wv_n rfl) rfl (fun _ _ hρ _ => r_assign (hρ _ _ rfl))) all_nil))))))) (end_new 6 rfl rfl (end_new 7 rfl rfl (end_new 8 rfl rfl end_nil))) ?_
  refine T_ret' ?_
  refine ret_of rfl (.tuple #[.slice ar4 (([] : List By).length) cr4, .int .i64 0, .int .i64 (firstE l)]) (fun tmps w hk hm => res3 rfl (res_tmp (hk 2 _ rfl)) (res_tmp (hk 3 _ rfl)) (res_tmp (hk 4 _ rfl))) (fun w hm => ?_)
  exact ⟨ar4, cr4, rfl, hm.ext, hm.row 3 rfl⟩

theorem next_ok {w₀ : World} {L : Heap} (S : Nat) (l : List By) (a : Option Addr) (cap at9 : Nat) (hL : NoIds L 1701 1800) (hv : SliceAt w₀ a cap 1 byc l) (hcap : cap ≤ Go.maxLen) (ha9 : at9 + l.length ≤ 140737488355328) (h : firstE l = 0) : ∀ w, MemOk w₀ ((1700, .blk S (.cells #[.slice a l.length cap, .int .i64 ((at9 : Nat) : Int)] 150)) :: L) w → Calls Try.prog 115 #[.pointer (some ⟨S, 0, none⟩)] w (HAns w₀ (fun z : (Option Addr × Nat) × (Option Addr × Nat) => SliceAt w₀ z.2.1 z.2.2 1 byc (l.drop ((heldP l).length + 8)) ∧ z.2.2 ≤ Go.maxLen) (fun z => .tuple #[.agg #[.slice z.1.1 (heldP l).length z.1.2, .int .i64 (((heldP l).length + 8 : Nat) : Int)], .bool true]) (fun z => (1701, .sl z.1.1 z.1.2 (heldP l)) :: (1700, .blk S (.cells #[.slice z.2.1 (l.drop ((heldP l).length + 8)).length z.2.2, .int .i64 ((at9 + ((heldP l).length + 8) : Nat) : Int)] 150)) :: L)) := by
  have hvl := hv.1
  have hcp := hcap
  unfold Go.maxLen at hcp
  have hhl := heldP_len h
  have c2 := (first_ok h).2.1
  have c3 := (first_ok h).2.2.1
  refine ht_of_T (l := [.pointer (some ⟨S, 0, none⟩)]) (L := ((1700, .blk S (.cells #[.slice a l.length cap, .int .i64 ((at9 : Nat) : Int)] 150)) :: L)) 37 Try.func115 rfl rfl rfl ?_
  show T _ _ _ [(0, .pointer (some ⟨S, 0, none⟩))] ((1700, .blk S (.cells #[.slice a l.length cap, .int .i64 ((at9 : Nat) : Int)] 150)) :: L)
  refine T_seq (T_region ?_)
  refine TL_new 1711 (.cells #[.pointer (some ⟨S, 0, none⟩)] 146) (fun B => .pointer (some ⟨B, 0, none⟩)) (fun _ _ hρ _ => r_box (hρ _ _ rfl) rfl) rfl rfl rfl (w_n rfl) ?_
  intro B1
  refine TL_new 1712 (.cells #[.slice none 0 0, .int .i64 0] 121) (fun B => .pointer (some ⟨B, 0, none⟩)) (fun _ _ _ _ => r_alloc (v := .agg #[.slice none 0 0, .int .i64 0]) (by kernel_rfl) rfl) rfl rfl rfl (w_n rfl) ?_
  intro B2
  refine TL_q (.bool false) (fun _ _ hρ _ => r_assign (hρ _ _ rfl)) rfl rfl rfl (w_n rfl) ?_
  refine TL_seq ?_
  refine T_seq (T_region ?_)
  refine TL_q (.func (.func 127) #[] #[.pointer (some ⟨B1, 0, none⟩)]) (fun _ _ hρ _ => r_makeFunc (by simp) (map_arr (cons2 (hρ _ _ rfl) rfl))) rfl rfl rfl (w_n rfl) ?_
  refine TL_callN (fun (_ : Option Addr × Nat) => True) (fun (ah3, ch3) => .tuple #[.agg #[.slice ah3 ((heldP l).length) ch3, .int .i64 (((heldP l).length + 8 : Nat) : Int)], .int .i64 0]) (fun (ah3, ch3) => [(1701, .sl ah3 ch3 (heldP l))]) (fun _ _ hρ _ => r_call (args := [.func (.func 127) #[] #[.pointer (some ⟨B1, 0, none⟩)]]) (enters_of Try.func90 (by kernel_rfl) rfl) (hρ _ _ rfl) ((cons2 (hρ _ _ rfl) rfl)) rfl) (fun w hm => trFW_ok 127 #[.pointer (some ⟨B1, 0, none⟩)] (fun (_ : Option Addr × Nat) => True) (fun z => z.1) (fun _ => (heldP l).length) (fun z => z.2) (fun _ => (((heldP l).length + 8 : Nat) : Int)) (fun z => [(1701, .sl z.1 z.2 (heldP l))]) w (enters_of Try.func127 (by kernel_rfl) rfl) (fun _ => rfl) (fun _ => rfl) (fun w2 hb2 => (next1_c B1 S at9 l a cap w2 (hv.keep (hm.ext.trans (hb2.mono hm.ext.size))) hcap (kept hb2 (hm.at 1711 rfl)) (kept hb2 (hm.at 1700 rfl)) h).mono fun e w' ⟨a', cap', he, hb, hr⟩ => ⟨(a', cap'), trivial, he, hb, newOk1 1701 hr⟩)) rfl rfl rfl (w_n rfl) ?_
  rintro ⟨ah3, ch3⟩ -
  refine TL_q (.tuple #[.agg #[.slice ah3 ((heldP l).length) ch3, .int .i64 (((heldP l).length + 8 : Nat) : Int)], .int .i64 0]) (fun _ _ hρ _ => r_move (hρ _ _ rfl)) rfl rfl rfl (w_n rfl) ?_
  refine TL_q (.agg #[.slice ah3 ((heldP l).length) ch3, .int .i64 (((heldP l).length + 8 : Nat) : Int)]) (fun _ _ hρ _ => r_extract (hρ _ _ rfl) rfl) rfl rfl rfl (w_n rfl) ?_
  refine TL_q (.int .i64 0) (fun _ _ hρ _ => r_extract (hρ _ _ rfl) rfl) rfl rfl rfl (w_n rfl) ?_
  refine TL_new 1713 (.cells #[.slice none 0 0, .int .i64 0] 121) (fun B => .pointer (some ⟨B, 0, none⟩)) (fun _ _ _ _ => r_alloc (v := .agg #[.slice none 0 0, .int .i64 0]) (by kernel_rfl) rfl) rfl rfl rfl (w_n rfl) ?_
  intro B4
  refine TL_store 1713 (.cells #[.slice ah3 ((heldP l).length) ch3, .int .i64 (((heldP l).length + 8 : Nat) : Int)] 121) rfl (fun _ _ hρ hm => r_store sz121 (hρ _ _ rfl) (hρ _ _ rfl) (hm.at 1713 rfl) rfl rfl rfl rfl) rfl rfl (w_n rfl) ?_
  refine TL_q (.int .i64 0) (fun _ _ hρ _ => r_assign (hρ _ _ rfl)) rfl rfl rfl (w_n rfl) ?_
  refine TL_seq ?_
  refine T_seq ?_
  refine T_seq (T_region ?_)
  refine TL_q (.int .i64 0) (fun _ _ hρ _ => r_move (hρ _ _ rfl)) rfl rfl rfl (w_n rfl) ?_
  refine TL_q (.bool false) (fun _ _ hρ _ => r_as (r_neq (hρ _ _ rfl) (hρ _ _ rfl)) (by rfl)) rfl rfl rfl (w_n rfl) ?_
  refine TL_seq ?_
  refine T_cond_f rfl ?_
  refine T_skip' ?_
  refine p_seq ?_
  obtain ⟨l5, hl5, hn5⟩ : ∃ lz, lz = (l.drop ((heldP l).length + 8)).take (l.length - ((heldP l).length + 8)) ∧ lz.length = l.length - ((heldP l).length + 8) := ⟨_, rfl, by rw [List.length_take, List.length_drop]; omega⟩
  obtain ⟨a5, ha5⟩ : ∃ az : Option Addr, az = (if cap = (heldP l).length + 8 then a else Option.map (·.add (((heldP l).length + 8) * 1)) a) := ⟨_, rfl⟩
  have hs5 := SliceAt.part hv (lo := (heldP l).length + 8) (hi := l.length) (m := cap) (by omega) (by omega) (by omega) (by omega)
  rw [← hl5, ← ha5] at hs5
  refine T_seq (T_draw (V := [(0, .pointer (some ⟨S, 0, none⟩)), (1, .pointer (some ⟨S, 0, none⟩)), (2, .pointer (some ⟨S, 0, none⟩)), (3, .pointer (some ⟨S, 0, none⟩)), (4, .pointer (some ⟨S, 0, none⟩)), (5, .pointer (some ⟨S, 0, none⟩)), (6, .slice a l.length cap), (7, .pointer (some ⟨B4, 1, none⟩)), (8, .int .i64 (((heldP l).length + 8 : Nat) : Int)), (9, .slice a5 l5.length (cap - ((heldP l).length + 8))), (10, .pointer (some ⟨S, 0, none⟩)), (11, .pointer (some ⟨S, 0, none⟩)), (12, .pointer (some ⟨S, 1, none⟩)), (13, .int .i64 ((at9 : Nat) : Int)), (14, .pointer (some ⟨B4, 1, none⟩)), (15, .int .i64 (((heldP l).length + 8 : Nat) : Int)), (16, .int .i64 ((at9 + ((heldP l).length + 8) : Nat) : Int)), (17, .pointer (some ⟨S, 0, none⟩)), (18, .pointer (some ⟨S, 0, none⟩)), (19, .pointer (some ⟨S, 0, none⟩))]) [0, 0, 0, 4, 12, 28, 60, 0, 128, 508, 0, 1024, 3072, 7168, 0, 16384, 64512, 16381, 147453, 409597, 933885, 2097151, 4194303, 8388607] [[(1, none)], [(1, none)], [(1, none)], [(16, some 2)], [(17, some 3)], [(18, some 4)], [(19, some 5)], [(4, none)], [(21, some 7)], [(20, some 6), (22, some 8)], [(1, none)], [(24, some 10)], [(25, some 11)], [(26, some 12)], [(4, none)], [(28, some 14)], [(27, some 13), (29, some 15)], [(14, some 0)], [(31, some 17)], [(32, some 18)], [(33, some 19), (23, some 9)], [(15, some 1)], [(34, some 21)], [(35, some 22), (30, some 16)]] 9437184 mixed (by kernel_rfl) ?_)
  refine G_step [0, 1, 2, 3, 4, 5, 6, 7, 8, 9, 10, 11, 12, 13, 14, 15, 16, 17, 18, 19] 20 [] (by kernel_rfl) (allM (all_cons (q_run (.pointer (some ⟨S, 0, none⟩)) rfl rfl (wv_n rfl) rfl (fun _ _ hρ hm => r_load ag146 (hρ _ _ rfl) (hm.at 1711 rfl) rfl)) (all_cons (q_run (.pointer (some ⟨S, 0, none⟩)) rfl rfl (wv_n rfl) rfl (fun _ _ hρ hm => r_load ag146 (hρ _ _ rfl) (hm.at 1711 rfl) rfl)) (all_cons (q_run (.pointer (some ⟨S, 0, none⟩)) rfl rfl (wv_n rfl) rfl (fun _ _ hρ hm => r_load ag146 (hρ _ _ rfl) (hm.at 1711 rfl) rfl)) (all_cons (q_run (.pointer (some ⟨S, 0, none⟩)) rfl rfl (wv_n rfl) rfl (fun _ _ hρ _ => r_nilCheck (hρ _ _ rfl) rfl)) (all_cons (q_run (.pointer (some ⟨S, 0, none⟩)) rfl rfl (wv_n rfl) rfl (fun _ _ hρ _ => r_fieldAddr fl150_0 sz148 (hρ _ _ rfl))) (all_cons (q_run (.pointer (some ⟨S, 0, none⟩)) rfl rfl (wv_n rfl) rfl (fun _ _ hρ _ => r_fieldAddr fl148_0 sz34 (hρ _ _ rfl))) (all_cons (q_run (.slice a l.length cap) rfl rfl (wv_n rfl) rfl (fun _ _ hρ hm => r_load ag34 (hρ _ _ rfl) (hm.at 1700 rfl) rfl)) (all_cons (q_run (.pointer (some ⟨B4, 1, none⟩)) rfl rfl (wv_n rfl) rfl (fun _ _ hρ _ => r_fieldAddr fl121_1 sz3 (hρ _ _ rfl))) (all_cons (q_run (.int .i64 (((heldP l).length + 8 : Nat) : Int)) rfl rfl (wv_n rfl) rfl (fun _ _ hρ hm => r_load ag3 (hρ _ _ rfl) (hm.at 1713 rfl) rfl)) (all_cons (q_run (.slice a5 l5.length (cap - ((heldP l).length + 8))) rfl rfl (wv_n rfl) rfl (fun ρ _ hρ _ => r_as (r_sliceO sl34 sz5 (hρ _ _ rfl) (bd_none ρ _) (bd_none ρ _) (bd_some (n := (heldP l).length + 8) (hρ _ _ rfl)) (by simp) (by omega) (by omega) (by omega)) (by rw [hn5, ha5]))) (all_cons (q_run (.pointer (some ⟨S, 0, none⟩)) rfl rfl (wv_n rfl) rfl (fun _ _ hρ hm => r_load ag146 (hρ _ _ rfl) (hm.at 1711 rfl) rfl)) (all_cons (q_run (.pointer (some ⟨S, 0, none⟩)) rfl rfl (wv_n rfl) rfl (fun _ _ hρ _ => r_nilCheck (hρ _ _ rfl) rfl)) (all_cons (q_run (.pointer (some ⟨S, 1, none⟩)) rfl rfl (wv_n rfl) rfl (fun _ _ hρ _ => r_fieldAddr fl150_1 sz3 (hρ _ _ rfl))) (all_cons (q_run (.int .i64 ((at9 : Nat) : Int)) rfl rfl (wv_n rfl) rfl (fun _ _ hρ hm => r_load ag3 (hρ _ _ rfl) (hm.at 1700 rfl) rfl)) (all_cons (q_run (.pointer (some ⟨B4, 1, none⟩)) rfl rfl (wv_n rfl) rfl (fun _ _ hρ _ => r_fieldAddr fl121_1 sz3 (hρ _ _ rfl))) (all_cons (q_run (.int .i64 (((heldP l).length + 8 : Nat) : Int)) rfl rfl (wv_n rfl) rfl (fun _ _ hρ hm => r_load ag3 (hρ _ _ rfl) (hm.at 1713 rfl) rfl)) (all_cons (q_run (.int .i64 ((at9 + ((heldP l).length + 8) : Nat) : Int)) rfl rfl (wv_n rfl) rfl (fun _ _ hρ _ => r_as (r_add (hρ _ _ rfl) (hρ _ _ rfl)) (int_as ((wrap64 (by omega) (by omega)).trans (by omega))))) (all_cons (q_run (.pointer (some ⟨S, 0, none⟩)) rfl rfl (wv_n rfl) rfl (fun _ _ hρ _ => r_nilCheck (hρ _ _ rfl) rfl)) (all_cons (q_run (.pointer (some ⟨S, 0, none⟩)) rfl rfl (wv_n rfl) rfl (fun _ _ hρ _ => r_fieldAddr fl150_0 sz148 (hρ _ _ rfl))) (all_cons (q_run (.pointer (some ⟨S, 0, none⟩)) rfl rfl (wv_n rfl) rfl (fun _ _ hρ _ => r_fieldAddr fl148_0 sz34 (hρ _ _ rfl))) all_nil))))))))))))))))))))) (allM (all_cons ?_ all_nil))
  refine LOb_store 1700 (.cells #[.slice a5 l5.length (cap - ((heldP l).length + 8)), .int .i64 ((at9 : Nat) : Int)] 150) [(21, .pointer (some ⟨S, 0, none⟩)), (22, .pointer (some ⟨S, 1, none⟩))] rfl (wv_n rfl) rfl rfl rfl (fun _ _ hρ hm => r_store sz34 (hρ _ _ rfl) (hρ _ _ rfl) (hm.at 1700 rfl) rfl rfl rfl rfl) (by kernel_rfl) ?_
  refine G_step [1, 14, 15, 16, 21, 22] 23 [] (by kernel_rfl) (allM (all_cons (q_run (.pointer (some ⟨S, 0, none⟩)) rfl rfl (wv_n rfl) rfl (fun _ _ hρ hm => r_load ag146 (hρ _ _ rfl) (hm.at 1711 rfl) rfl)) (all_cons (q_run (.pointer (some ⟨B4, 1, none⟩)) rfl rfl (wv_n rfl) rfl (fun _ _ hρ _ => r_fieldAddr fl121_1 sz3 (hρ _ _ rfl))) (all_cons (q_run (.int .i64 (((heldP l).length + 8 : Nat) : Int)) rfl rfl (wv_n rfl) rfl (fun _ _ hρ hm => r_load ag3 (hρ _ _ rfl) (hm.at 1713 rfl) rfl)) (all_cons (q_run (.int .i64 ((at9 + ((heldP l).length + 8) : Nat) : Int)) rfl rfl (wv_n rfl) rfl (fun _ _ hρ _ => r_as (r_add (hρ _ _ rfl) (hρ _ _ rfl)) (int_as ((wrap64 (by omega) (by omega)).trans (by omega))))) (all_cons (q_run (.pointer (some ⟨S, 0, none⟩)) rfl rfl (wv_n rfl) rfl (fun _ _ hρ _ => r_nilCheck (hρ _ _ rfl) rfl)) (all_cons (q_run (.pointer (some ⟨S, 1, none⟩)) rfl rfl (wv_n rfl) rfl (fun _ _ hρ _ => r_fieldAddr fl150_1 sz3 (hρ _ _ rfl))) all_nil))))))) (allM (all_cons ?_ all_nil))
  refine LOb_store 1700 (.cells #[.slice a5 l5.length (cap - ((heldP l).length + 8)), .int .i64 ((at9 + ((heldP l).length + 8) : Nat) : Int)] 150) [] rfl (wv_n rfl) rfl rfl rfl (fun _ _ hρ hm => r_store sz3 (hρ _ _ rfl) (hρ _ _ rfl) (hm.at 1700 rfl) rfl rfl rfl rfl) (by kernel_rfl) ?_
  refine G_last [] [(2, .pointer (some ⟨B2, 0, none⟩)), (3, .bool false), (4, .pointer (some ⟨B4, 0, none⟩))] (by kernel_rfl) (allM all_nil) (end_old rfl rfl (end_old rfl rfl (end_old rfl rfl end_nil))) ?_
  refine T_seq (T_region ?_)
  refine TL_q (.agg #[.slice ah3 ((heldP l).length) ch3, .int .i64 (((heldP l).length + 8 : Nat) : Int)]) (fun _ _ hρ hm => r_loadA ag121 sz121 (hρ _ _ rfl) (hm.at 1713 rfl) rfl rfl) rfl rfl rfl (w_n rfl) ?_
  refine TL_store 1712 (.cells #[.slice ah3 ((heldP l).length) ch3, .int .i64 (((heldP l).length + 8 : Nat) : Int)] 121) rfl (fun _ _ hρ hm => r_store sz121 (hρ _ _ rfl) (hρ _ _ rfl) (hm.at 1712 rfl) rfl rfl rfl rfl) rfl rfl (w_n rfl) ?_
  refine TL_q (.bool true) (fun _ _ hρ _ => r_assign (hρ _ _ rfl)) rfl rfl rfl (w_n rfl) ?_
  refine TL_seq ?_
  refine T_ret' ?_
  refine ret_of rfl (.tuple #[.agg #[.slice ah3 ((heldP l).length) ch3, .int .i64 (((heldP l).length + 8 : Nat) : Int)], .bool true]) (fun tmps w hk hm => res2 rfl (res_cell (hk 2 _ rfl) (run_loadVar_agg ag121 sz121 (hm.at 1712 rfl) (Nat.le_of_ble_eq_true rfl) rfl)) (res_tmp (hk 3 _ rfl))) (fun w hm => ?_)
  have ez : l5 = (l.drop ((heldP l).length + 8)) := by rw [hl5]; exact List.take_of_length_le (by rw [List.length_drop]; exact Nat.le_refl _)
  subst ez
  refine ⟨((ah3, ch3), (a5, (cap - ((heldP l).length + 8)))), ⟨hs5, Nat.le_trans (Nat.sub_le _ _) hcap⟩, rfl, ?_⟩
  first | exact hm.of (lk_fin (F := [_, _, _, _, _]) (T := [(1701, .sl ah3 ch3 (heldP l)), (1700, .blk S (.cells #[.slice a5 (l.drop ((heldP l).length + 8)).length (cap - ((heldP l).length + 8)), .int .i64 ((at9 + ((heldP l).length + 8) : Nat) : Int)] 150))]) (sub_cons rfl (sub_cons rfl sub_nil)) rfl hL) | exact hm.of (lk_fin (F := [_, _, _, _, _, _]) (T := [(1701, .sl ah3 ch3 (heldP l)), (1700, .blk S (.cells #[.slice a5 (l.drop ((heldP l).length + 8)).length (cap - ((heldP l).length + 8)), .int .i64 ((at9 + ((heldP l).length + 8) : Nat) : Int)] 150))]) (sub_cons rfl (sub_cons rfl sub_nil)) rfl hL) | exact hm.of (lk_fin (F := [_, _, _, _, _, _, _]) (T := [(1701, .sl ah3 ch3 (heldP l)), (1700, .blk S (.cells #[.slice a5 (l.drop ((heldP l).length + 8)).length (cap - ((heldP l).length + 8)), .int .i64 ((at9 + ((heldP l).length + 8) : Nat) : Int)] 150))]) (sub_cons rfl (sub_cons rfl sub_nil)) rfl hL) | exact hm.of (lk_fin (F := [_, _, _, _, _, _, _, _]) (T := [(1701, .sl ah3 ch3 (heldP l)), (1700, .blk S (.cells #[.slice a5 (l.drop ((heldP l).length + 8)).length (cap - ((heldP l).length + 8)), .int .i64 ((at9 + ((heldP l).length + 8) : Nat) : Int)] 150))]) (sub_cons rfl (sub_cons rfl sub_nil)) rfl hL) | exact hm.of (lk_fin (F := [_, _, _, _, _, _, _, _, _]) (T := [(1701, .sl ah3 ch3 (heldP l)), (1700, .blk S (.cells #[.slice a5 (l.drop ((heldP l).length + 8)).length (cap - ((heldP l).length + 8)), .int .i64 ((at9 + ((heldP l).length + 8) : Nat) : Int)] 150))]) (sub_cons rfl (sub_cons rfl sub_nil)) rfl hL) | exact hm.of (lk_fin (F := [_, _, _, _, _, _, _, _, _, _]) (T := [(1701, .sl ah3 ch3 (heldP l)), (1700, .blk S (.cells #[.slice a5 (l.drop ((heldP l).length + 8)).length (cap - ((heldP l).length + 8)), .int .i64 ((at9 + ((heldP l).length + 8) : Nat) : Int)] 150))]) (sub_cons rfl (sub_cons rfl sub_nil)) rfl hL) | exact hm.of (lk_fin (F := [_, _, _, _, _, _, _, _, _, _, _]) (T := [(1701, .sl ah3 ch3 (heldP l)), (1700, .blk S (.cells #[.slice a5 (l.drop ((heldP l).length + 8)).length (cap - ((heldP l).length + 8)), .int .i64 ((at9 + ((heldP l).length + 8) : Nat) : Int)] 150))]) (sub_cons rfl (sub_cons rfl sub_nil)) rfl hL) | exact hm.of (lk_fin (F := [_, _, _, _, _, _, _, _, _, _, _, _]) (T := [(1701, .sl ah3 ch3 (heldP l)), (1700, .blk S (.cells #[.slice a5 (l.drop ((heldP l).length + 8)).length (cap - ((heldP l).length + 8)), .int .i64 ((at9 + ((heldP l).length + 8) : Nat) : Int)] 150))]) (sub_cons rfl (sub_cons rfl sub_nil)) rfl hL) | exact hm.of (lk_fin (F := [_, _, _, _, _, _, _, _, _, _, _, _, _]) (T := [(1701, .sl ah3 ch3 (heldP l)), (1700, .blk S (.cells #[.slice a5 (l.drop ((heldP l).length + 8)).length (cap - ((heldP l).length + 8)), .int .i64 ((at9 + ((heldP l).length + 8) : Nat) : Int)] 150))]) (sub_cons rfl (sub_cons rfl sub_nil)) rfl hL) | exact hm.of (lk_fin (F := [_, _, _, _, _, _, _, _, _, _, _, _, _, _]) (T := [(1701, .sl ah3 ch3 (heldP l)), (1700, .blk S (.cells #[.slice a5 (l.drop ((heldP l).length + 8)).length (cap - ((heldP l).length + 8)), .int .i64 ((at9 + ((heldP l).length + 8) : Nat) : Int)] 150))]) (sub_cons rfl (sub_cons rfl sub_nil)) rfl hL)

theorem next_no {w₀ : World} {L : Heap} (S : Nat) (l : List By) (a : Option Addr) (cap at9 : Nat) (hL : NoIds L 1701 1800) (hv : SliceAt w₀ a cap 1 byc l) (hcap : cap ≤ Go.maxLen) (ha9 : at9 + l.length ≤ 140737488355328) (h : ¬ firstE l = 0) : ∀ w, MemOk w₀ ((1700, .blk S (.cells #[.slice a l.length cap, .int .i64 ((at9 : Nat) : Int)] 150)) :: L) w → Calls Try.prog 115 #[.pointer (some ⟨S, 0, none⟩)] w (HAns w₀ (fun _ : Unit => True) (fun _ => .tuple #[.agg #[.slice none 0 0, .int .i64 0], .bool false]) (fun _ => (1700, .blk S (.cells #[.slice a l.length cap, .int .i64 ((at9 : Nat) : Int)] 150)) :: L)) := by
  have hvl := hv.1
  have hcp := hcap
  unfold Go.maxLen at hcp
  refine ht_of_T (l := [.pointer (some ⟨S, 0, none⟩)]) (L := ((1700, .blk S (.cells #[.slice a l.length cap, .int .i64 ((at9 : Nat) : Int)] 150)) :: L)) 37 Try.func115 rfl rfl rfl ?_
  show T _ _ _ [(0, .pointer (some ⟨S, 0, none⟩))] ((1700, .blk S (.cells #[.slice a l.length cap, .int .i64 ((at9 : Nat) : Int)] 150)) :: L)
  refine T_seq (T_region ?_)
  refine TL_new 1711 (.cells #[.pointer (some ⟨S, 0, none⟩)] 146) (fun B => .pointer (some ⟨B, 0, none⟩)) (fun _ _ hρ _ => r_box (hρ _ _ rfl) rfl) rfl rfl rfl (w_n rfl) ?_
  intro B1
  refine TL_new 1712 (.cells #[.slice none 0 0, .int .i64 0] 121) (fun B => .pointer (some ⟨B, 0, none⟩)) (fun _ _ _ _ => r_alloc (v := .agg #[.slice none 0 0, .int .i64 0]) (by kernel_rfl) rfl) rfl rfl rfl (w_n rfl) ?_
  intro B2
  refine TL_q (.bool false) (fun _ _ hρ _ => r_assign (hρ _ _ rfl)) rfl rfl rfl (w_n rfl) ?_
  refine TL_seq ?_
  refine T_seq (T_region ?_)
  refine TL_q (.func (.func 127) #[] #[.pointer (some ⟨B1, 0, none⟩)]) (fun _ _ hρ _ => r_makeFunc (by simp) (map_arr (cons2 (hρ _ _ rfl) rfl))) rfl rfl rfl (w_n rfl) ?_
  refine TL_call (.tuple #[.agg #[.slice none 0 0, .int .i64 0], .int .i64 (firstE l)]) (fun _ _ hρ _ => r_call (args := [.func (.func 127) #[] #[.pointer (some ⟨B1, 0, none⟩)]]) (enters_of Try.func90 (by kernel_rfl) rfl) (hρ _ _ rfl) ((cons2 (hρ _ _ rfl) rfl)) rfl) (fun w hm => trFW_no 127 #[.pointer (some ⟨B1, 0, none⟩)] (firstE l) w (enters_of Try.func127 (by kernel_rfl) rfl) (fun w2 hb2 => next1_p B1 S at9 l a cap w2 (hv.keep (hm.ext.trans (hb2.mono hm.ext.size))) hcap (kept hb2 (hm.at 1711 rfl)) (kept hb2 (hm.at 1700 rfl)) h)) rfl rfl rfl (w_n rfl) ?_
  refine TL_q (.tuple #[.agg #[.slice none 0 0, .int .i64 0], .int .i64 (firstE l)]) (fun _ _ hρ _ => r_move (hρ _ _ rfl)) rfl rfl rfl (w_n rfl) ?_
  refine TL_q (.agg #[.slice none 0 0, .int .i64 0]) (fun _ _ hρ _ => r_extract (hρ _ _ rfl) rfl) rfl rfl rfl (w_n rfl) ?_
  refine TL_q (.int .i64 (firstE l)) (fun _ _ hρ _ => r_extract (hρ _ _ rfl) rfl) rfl rfl rfl (w_n rfl) ?_
  refine TL_new 1713 (.cells #[.slice none 0 0, .int .i64 0] 121) (fun B => .pointer (some ⟨B, 0, none⟩)) (fun _ _ _ _ => r_alloc (v := .agg #[.slice none 0 0, .int .i64 0]) (by kernel_rfl) rfl) rfl rfl rfl (w_n rfl) ?_
  intro B3
  refine TL_store 1713 (.cells #[.slice none 0 0, .int .i64 0] 121) rfl (fun _ _ hρ hm => r_store sz121 (hρ _ _ rfl) (hρ _ _ rfl) (hm.at 1713 rfl) rfl rfl rfl rfl) rfl rfl (w_n rfl) ?_
  refine TL_q (.int .i64 (firstE l)) (fun _ _ hρ _ => r_assign (hρ _ _ rfl)) rfl rfl rfl (w_n rfl) ?_
  refine TL_seq ?_
  refine T_seq ?_
  refine T_seq (T_region ?_)
  refine TL_q (.int .i64 (firstE l)) (fun _ _ hρ _ => r_move (hρ _ _ rfl)) rfl rfl rfl (w_n rfl) ?_
  refine TL_q (.bool true) (fun _ _ hρ _ => r_as (r_neq (hρ _ _ rfl) (hρ _ _ rfl)) (bool_as (by rw [decide_eq_false h]; rfl))) rfl rfl rfl (w_n rfl) ?_
  refine TL_seq ?_
  refine T_cond_t rfl ?_
  refine T_seq (T_region ?_)
  refine TL_q (.agg #[.slice none 0 0, .int .i64 0]) (fun _ _ _ _ => r_build (vs := []) (by kernel_rfl) rfl) rfl rfl rfl (w_n rfl) ?_
  refine TL_store 1712 (.cells #[.slice none 0 0, .int .i64 0] 121) rfl (fun _ _ hρ hm => r_store sz121 (hρ _ _ rfl) (hρ _ _ rfl) (hm.at 1712 rfl) rfl rfl rfl rfl) rfl rfl (w_n rfl) ?_
  refine TL_q (.bool false) (fun _ _ hρ _ => r_assign (hρ _ _ rfl)) rfl rfl rfl (w_n rfl) ?_
  refine TL_seq ?_
  refine T_ret' ?_
  refine p_then_r ?_
  refine ret_of rfl (.tuple #[.agg #[.slice none 0 0, .int .i64 0], .bool false]) (fun tmps w hk hm => res2 rfl (res_cell (hk 2 _ rfl) (run_loadVar_agg ag121 sz121 (hm.at 1712 rfl) (Nat.le_of_ble_eq_true rfl) rfl)) (res_tmp (hk 3 _ rfl))) (fun w hm => ?_)
  refine ⟨(), trivial, rfl, ?_⟩
  first | exact hm.of (lk_fin (F := [_, _, _, _]) (T := [(1700, .blk S (.cells #[.slice a l.length cap, .int .i64 ((at9 : Nat) : Int)] 150))]) (sub_cons rfl sub_nil) rfl hL) | exact hm.of (lk_fin (F := [_, _, _, _, _]) (T := [(1700, .blk S (.cells #[.slice a l.length cap, .int .i64 ((at9 : Nat) : Int)] 150))]) (sub_cons rfl sub_nil) rfl hL) | exact hm.of (lk_fin (F := [_, _, _, _, _, _]) (T := [(1700, .blk S (.cells #[.slice a l.length cap, .int .i64 ((at9 : Nat) : Int)] 150))]) (sub_cons rfl sub_nil) rfl hL) | exact hm.of (lk_fin (F := [_, _, _, _, _, _, _]) (T := [(1700, .blk S (.cells #[.slice a l.length cap, .int .i64 ((at9 : Nat) : Int)] 150))]) (sub_cons rfl sub_nil) rfl hL) | exact hm.of (lk_fin (F := [_, _, _, _, _, _, _, _]) (T := [(1700, .blk S (.cells #[.slice a l.length cap, .int .i64 ((at9 : Nat) : Int)] 150))]) (sub_cons rfl sub_nil) rfl hL) | exact hm.of (lk_fin (F := [_, _, _, _, _, _, _, _, _]) (T := [(1700, .blk S (.cells #[.slice a l.length cap, .int .i64 ((at9 : Nat) : Int)] 150))]) (sub_cons rfl sub_nil) rfl hL) | exact hm.of (lk_fin (F := [_, _, _, _, _, _, _, _, _, _]) (T := [(1700, .blk S (.cells #[.slice a l.length cap, .int .i64 ((at9 : Nat) : Int)] 150))]) (sub_cons rfl sub_nil) rfl hL) | exact hm.of (lk_fin (F := [_, _, _, _, _, _, _, _, _, _, _]) (T := [(1700, .blk S (.cells #[.slice a l.length cap, .int .i64 ((at9 : Nat) : Int)] 150))]) (sub_cons rfl sub_nil) rfl hL) | exact hm.of (lk_fin (F := [_, _, _, _, _, _, _, _, _, _, _, _]) (T := [(1700, .blk S (.cells #[.slice a l.length cap, .int .i64 ((at9 : Nat) : Int)] 150))]) (sub_cons rfl sub_nil) rfl hL) | exact hm.of (lk_fin (F := [_, _, _, _, _, _, _, _, _, _, _, _, _]) (T := [(1700, .blk S (.cells #[.slice a l.length cap, .int .i64 ((at9 : Nat) : Int)] 150))]) (sub_cons rfl sub_nil) rfl hL)

theorem scanA_h {l : List By} (at' : Nat) (h : firstE l = 0) : scanA at' l = (at', heldP l) :: scanA (at' + ((heldP l).length + 8)) (l.drop ((heldP l).length + 8)) := by
  rw [heldP_len h]; exact scanA_t at' h
theorem drop_get {α : Type} {l t : List α} {k : Nat} {x : α} (h : l.drop k = x :: t) : l[k]? = some x := by
  have := congrArg (fun z => z[0]?) h
  rw [List.getElem?_drop] at this
  exact this
theorem drop_lt {α : Type} {l t : List α} {k : Nat} {x : α} (h : l.drop k = x :: t) : k + 1 ≤ l.length := (List.getElem?_eq_some_iff.1 (drop_get h)).1
theorem drop_next {α : Type} {l t : List α} {k : Nat} {x : α} (h : l.drop k = x :: t) : l.drop (k + 1) = t := by
  rw [← List.drop_drop, h]; rfl
theorem drop_none {α : Type} {l : List α} {k : Nat} (hk : k ≤ l.length) (h : l.drop k = []) : k = l.length := by
  have := congrArg List.length h
  rw [List.length_drop, List.length_nil] at this
  omega
/-- What the records' iterator hands over. -/
def encF (x : Nat × List By) (z : Option Addr × Nat) : List Value := [.int .i64 (x.1 : Int), .agg #[.slice z.1 x.2.length z.2, .int .i64 ((x.2.length + 8 : Nat) : Int)]]
abbrev EF (x : Nat × List By) (z : Option Addr × Nat) : Res := .sl z.1 z.2 x.2

theorem recs_iter {ι : Type} (w₀ : World) (p' : Nat → ι → Prop) (LJ : Nat → ι → Heap) (T1 : Nat) (l : List By) (a : Option Addr) (cap : Nat) (hv : SliceAt w₀ a cap 1 byc l) (hcap : cap ≤ Go.maxLen) (hl9 : l.length ≤ 140737488355328) (hfr7 : ∀ k i, NoIds (LJ k i) 1700 1800)
    (hT1 : ∀ i w, MemOk w₀ (LJ 0 i) w → hp w T1 = some (.cells #[.slice a l.length cap] 34)) :
    IterZ Try.prog w₀ 114 #[.pointer (some ⟨T1, 0, none⟩)] encF EF (scanA 0 l) p' LJ := by
  intro lY κ pX LX hY i₀ W₁ hp0 hm0
  have hfr : ∀ k i, NoIds (LJ k i) 1701 1800 := fun k i => (hfr7 k i).sub rfl rfl
  have hvl := hv.1
  show Calls _ _ #[.func (.yield lY) #[] #[], .pointer (some ⟨T1, 0, none⟩)] _ _
  refine ht_of_T (l := [.func (.yield lY) #[] #[], .pointer (some ⟨T1, 0, none⟩)]) (L := LJ 0 i₀) 30 Try.func114 rfl rfl rfl ?_ W₁ hm0
  show T _ _ _ [(0, .func (.yield lY) #[] #[]), (1, .pointer (some ⟨T1, 0, none⟩))] (LJ 0 i₀)
  refine T_jumpsV (ι := Nat × ι × List By × Option Addr × Nat × Nat × Nat) 0 (fun (z : Nat × ι × List By × Option Addr × Nat × Nat × Nat) => match z with | (k, i, r, ra, rc, at9, S9) => p' k i ∧ k ≤ (scanA 0 l).length ∧ (scanA 0 l).drop k = scanA at9 r ∧ SliceAt w₀ ra rc 1 byc r ∧ rc ≤ Go.maxLen ∧ at9 + r.length ≤ 140737488355328) (fun (z : Nat × ι × List By × Option Addr × Nat × Nat × Nat) => match z with | (k, i, r, ra, rc, at9, S9) => [(0, .func (.yield lY) #[] #[]), (3, .pointer (some ⟨S9, 0, none⟩)), (4, .func (.func 115) #[.pointer (some ⟨S9, 0, none⟩)] #[])]) (fun (z : Nat × ι × List By × Option Addr × Nat × Nat × Nat) => match z with | (k, i, r, ra, rc, at9, S9) => ((1700, .blk S9 (.cells #[.slice ra r.length rc, .int .i64 ((at9 : Nat) : Int)] 150)) :: (LJ k i))) (fun (z : Nat × ι × List By × Option Addr × Nat × Nat × Nat) => match z with | (k, i, r, ra, rc, at9, S9) => r.length) rfl rfl ?_ ?_
  · intro hps
    refine T_seq (T_region ?_)
    refine TL_q (.slice a l.length cap) (fun _ _ hρ hm => r_load ag34 (hρ _ _ rfl) (hT1 _ _ hm) rfl) rfl rfl rfl (w_n rfl) ?_
    refine TL_q (.agg #[.slice a l.length cap]) (fun _ _ hρ _ => r_build (vs := [(0, .slice a l.length cap)]) (by kernel_rfl) (cons2 (pair2 (hρ _ _ rfl)) rfl)) rfl rfl rfl (w_n rfl) ?_
    refine TL_q (.agg #[.slice a l.length cap, .int .i64 0]) (fun _ _ hρ _ => r_build (vs := [(0, .agg #[.slice a l.length cap])]) (by kernel_rfl) (cons2 (pair2 (hρ _ _ rfl)) rfl)) rfl rfl rfl (w_n rfl) ?_
    refine TL_new 1700 (.cells #[.slice a l.length cap, .int .i64 0] 150) (fun B => .pointer (some ⟨B, 0, none⟩)) (fun _ _ hρ _ => r_box (hρ _ _ rfl) rfl) rfl rfl rfl (w_n rfl) ?_
    intro B1
    refine TL_q (.pointer (some ⟨B1, 0, none⟩)) (fun _ _ hρ _ => r_assign (hρ _ _ rfl)) rfl rfl rfl (w_n rfl) ?_
    refine TL_seq ?_
    refine T_seq (T_region ?_)
    refine TL_q (.pointer (some ⟨B1, 0, none⟩)) (fun _ _ hρ _ => r_move (hρ _ _ rfl)) rfl rfl rfl (w_n rfl) ?_
    refine TL_q (.func (.func 115) #[.pointer (some ⟨B1, 0, none⟩)] #[]) (fun _ _ hρ _ => r_makeFunc (map_arr (cons2 (hρ _ _ rfl) rfl)) (by simp)) rfl rfl rfl (w_n rfl) ?_
    refine TL_q (.func (.func 115) #[.pointer (some ⟨B1, 0, none⟩)] #[]) (fun _ _ hρ _ => r_assign (hρ _ _ rfl)) rfl rfl rfl (w_n rfl) ?_
    refine TL_seq ?_
    refine T_label ?_
    exact T_into (hps (0, i₀, l, a, cap, 0, B1) ⟨hp0, Nat.zero_le _, rfl, hv, hcap, by omega⟩) (sub_cons rfl (sub_cons rfl (sub_cons rfl sub_nil))) (fun _ _ h => h)
  · rintro ⟨k, i, r, ra, rc, at9, S9⟩ hp
    obtain ⟨hpi, hk, hd, hv9, hcap9, ha9⟩ := hp
    have hrl := hv9.1
    show T _ _ _ [(0, .func (.yield lY) #[] #[]), (3, .pointer (some ⟨S9, 0, none⟩)), (4, .func (.func 115) #[.pointer (some ⟨S9, 0, none⟩)] #[])] ((1700, .blk S9 (.cells #[.slice ra r.length rc, .int .i64 ((at9 : Nat) : Int)] 150)) :: (LJ k i))
    refine T_seq (T_region ?_)
    refine TL_q (.pointer (some ⟨S9, 0, none⟩)) (fun _ _ hρ _ => r_move (hρ _ _ rfl)) rfl rfl rfl (w_n rfl) ?_
    refine TL_q (.pointer (some ⟨S9, 0, none⟩)) (fun _ _ hρ _ => r_nilCheck (hρ _ _ rfl) rfl) rfl rfl rfl (w_n rfl) ?_
    refine TL_q (.pointer (some ⟨S9, 1, none⟩)) (fun _ _ hρ _ => r_fieldAddr fl150_1 sz3 (hρ _ _ rfl)) rfl rfl rfl (w_n rfl) ?_
    refine TL_q (.int .i64 ((at9 : Nat) : Int)) (fun _ _ hρ hm => r_load ag3 (hρ _ _ rfl) (hm.at 1700 rfl) rfl) rfl rfl rfl (w_n rfl) ?_
    refine TL_q (.int .i64 ((at9 : Nat) : Int)) (fun _ _ hρ _ => r_assign (hρ _ _ rfl)) rfl rfl rfl (w_n rfl) ?_
    refine TL_seq ?_
    by_cases hz : firstE r = 0
    · skip
      have hhl := heldP_len hz
      have c2 := (first_ok hz).2.1
      have c3 := (first_ok hz).2.2.1
      have hd1x := hd.trans (scanA_h at9 hz)
      have hk1 := drop_lt hd1x
      have hd1 := drop_next hd1x
      refine T_seq (T_region ?_)
      refine TL_q (.func (.func 115) #[.pointer (some ⟨S9, 0, none⟩)] #[]) (fun _ _ hρ _ => r_move (hρ _ _ rfl)) rfl rfl rfl (w_n rfl) ?_
      refine TL_callH _ _ _ (fun _ _ hρ _ => r_call (args := []) (enters_of Try.func115 (by kernel_rfl) rfl) (hρ _ _ rfl) (by rfl) rfl) (fun w hm => next_ok S9 r ra rc at9 (hfr k i) hv9 hcap9 ha9 hz w hm) rfl rfl rfl (w_n rfl) ?_
      rintro ⟨⟨ha1, hc1⟩, ⟨ra2, rc2⟩⟩ ⟨hs2, hcap2⟩
      refine TL_q (.tuple #[.agg #[.slice ha1 ((heldP r).length) hc1, .int .i64 (((heldP r).length + 8 : Nat) : Int)], .bool true]) (fun _ _ hρ _ => r_move (hρ _ _ rfl)) rfl rfl rfl (w_n rfl) ?_
      refine TL_q (.agg #[.slice ha1 ((heldP r).length) hc1, .int .i64 (((heldP r).length + 8 : Nat) : Int)]) (fun _ _ hρ _ => r_extract (hρ _ _ rfl) rfl) rfl rfl rfl (w_n rfl) ?_
      refine TL_q (.bool true) (fun _ _ hρ _ => r_extract (hρ _ _ rfl) rfl) rfl rfl rfl (w_n rfl) ?_
      refine TL_new 1711 (.cells #[.slice none 0 0, .int .i64 0] 121) (fun B => .pointer (some ⟨B, 0, none⟩)) (fun _ _ _ _ => r_alloc (v := .agg #[.slice none 0 0, .int .i64 0]) (by kernel_rfl) rfl) rfl rfl rfl (w_n rfl) ?_
      intro B2
      refine TL_store 1711 (.cells #[.slice ha1 ((heldP r).length) hc1, .int .i64 (((heldP r).length + 8 : Nat) : Int)] 121) rfl (fun _ _ hρ hm => r_store sz121 (hρ _ _ rfl) (hρ _ _ rfl) (hm.at 1711 rfl) rfl rfl rfl rfl) rfl rfl (w_n rfl) ?_
      refine TL_q (.bool true) (fun _ _ hρ _ => r_assign (hρ _ _ rfl)) rfl rfl rfl (w_n rfl) ?_
      refine TL_seq ?_
      refine T_seq (T_region ?_)
      refine TL_q (.bool true) (fun _ _ hρ _ => r_move (hρ _ _ rfl)) rfl rfl rfl (w_n rfl) ?_
      refine TL_q (.bool true) (fun _ _ hρ _ => r_move (hρ _ _ rfl)) rfl rfl rfl (w_n rfl) ?_
      refine TL_q (.func (.yield lY) #[] #[]) (fun _ _ hρ _ => r_move (hρ _ _ rfl)) rfl rfl rfl (want_y 24 rfl rfl rfl) ?_
      refine TL_q (.int .i64 ((at9 : Nat) : Int)) (fun _ _ hρ _ => r_move (hρ _ _ rfl)) rfl rfl rfl (want_y 24 rfl rfl rfl) ?_
      refine TL_q (.agg #[.slice ha1 ((heldP r).length) hc1, .int .i64 (((heldP r).length + 8 : Nat) : Int)]) (fun _ _ hρ hm => r_loadA ag121 sz121 (hρ _ _ rfl) (hm.at 1711 rfl) rfl rfl) rfl rfl rfl (want_y 24 rfl rfl rfl) ?_
      refine TL_yieldB (fun i => p' (k + 1) i) (fun i => (1700, (.blk S9 (.cells #[.slice ra2 (r.drop ((heldP r).length + 8)).length rc2, .int .i64 ((at9 + ((heldP r).length + 8) : Nat) : Int)] 150))) :: LJ (k + 1) i) pX LX rfl (fun _ _ hρ _ => r_yield (hρ _ _ rfl) ((cons2 (hρ _ _ rfl) (cons2 (hρ _ _ rfl) rfl)))) (fun W hm => hY (.blk S9 (.cells #[.slice ra2 (r.drop ((heldP r).length + 8)).length rc2, .int .i64 ((at9 + ((heldP r).length + 8) : Nat) : Int)] 150)) k (at9, heldP r) (ha1, hc1) i W (drop_get hd1x) hpi (by first | exact hm.of (lk_fin (F := [_, _, _]) (T := [(1700, (.blk S9 (.cells #[.slice ra2 (r.drop ((heldP r).length + 8)).length rc2, .int .i64 ((at9 + ((heldP r).length + 8) : Nat) : Int)] 150))), (1701, .sl ha1 hc1 (heldP r))]) (sub_cons rfl (sub_cons rfl sub_nil)) rfl (hfr k i)) | exact hm.of (lk_fin (F := [_, _, _, _]) (T := [(1700, (.blk S9 (.cells #[.slice ra2 (r.drop ((heldP r).length + 8)).length rc2, .int .i64 ((at9 + ((heldP r).length + 8) : Nat) : Int)] 150))), (1701, .sl ha1 hc1 (heldP r))]) (sub_cons rfl (sub_cons rfl sub_nil)) rfl (hfr k i)) | exact hm.of (lk_fin (F := [_, _, _, _, _]) (T := [(1700, (.blk S9 (.cells #[.slice ra2 (r.drop ((heldP r).length + 8)).length rc2, .int .i64 ((at9 + ((heldP r).length + 8) : Nat) : Int)] 150))), (1701, .sl ha1 hc1 (heldP r))]) (sub_cons rfl (sub_cons rfl sub_nil)) rfl (hfr k i)) | exact hm.of (lk_fin (F := [_, _, _, _, _, _]) (T := [(1700, (.blk S9 (.cells #[.slice ra2 (r.drop ((heldP r).length + 8)).length rc2, .int .i64 ((at9 + ((heldP r).length + 8) : Nat) : Int)] 150))), (1701, .sl ha1 hc1 (heldP r))]) (sub_cons rfl (sub_cons rfl sub_nil)) rfl (hfr k i)) | exact hm.of (lk_fin (F := [_, _, _, _, _, _, _]) (T := [(1700, (.blk S9 (.cells #[.slice ra2 (r.drop ((heldP r).length + 8)).length rc2, .int .i64 ((at9 + ((heldP r).length + 8) : Nat) : Int)] 150))), (1701, .sl ha1 hc1 (heldP r))]) (sub_cons rfl (sub_cons rfl sub_nil)) rfl (hfr k i)) | exact hm.of (lk_fin (F := [_, _, _, _, _, _, _, _]) (T := [(1700, (.blk S9 (.cells #[.slice ra2 (r.drop ((heldP r).length + 8)).length rc2, .int .i64 ((at9 + ((heldP r).length + 8) : Nat) : Int)] 150))), (1701, .sl ha1 hc1 (heldP r))]) (sub_cons rfl (sub_cons rfl sub_nil)) rfl (hfr k i)) | exact hm.of (lk_fin (F := [_, _, _, _, _, _, _, _, _]) (T := [(1700, (.blk S9 (.cells #[.slice ra2 (r.drop ((heldP r).length + 8)).length rc2, .int .i64 ((at9 + ((heldP r).length + 8) : Nat) : Int)] 150))), (1701, .sl ha1 hc1 (heldP r))]) (sub_cons rfl (sub_cons rfl sub_nil)) rfl (hfr k i)) | exact hm.of (lk_fin (F := [_, _, _, _, _, _, _, _, _, _]) (T := [(1700, (.blk S9 (.cells #[.slice ra2 (r.drop ((heldP r).length + 8)).length rc2, .int .i64 ((at9 + ((heldP r).length + 8) : Nat) : Int)] 150))), (1701, .sl ha1 hc1 (heldP r))]) (sub_cons rfl (sub_cons rfl sub_nil)) rfl (hfr k i)))) rfl rfl rfl (want_y 24 rfl rfl rfl) ?_
      intro yx3 hyx3
      refine TL_q (.bool yx3.isLeft) (fun _ _ hρ _ => r_pick_t (hρ _ _ rfl) (hρ _ _ rfl)) rfl rfl rfl (w_n rfl) ?_
      refine TL_seq ?_
      refine T_cond rfl (fun h1 => ?_) (fun h1 => ?_)
      · skip
        obtain ⟨i1, rfl⟩ := isL (by simpa using h1)
        refine T_goto ?_
        exact p_jmpT (k + 1, i1, r.drop ((heldP r).length + 8), ra2, rc2, at9 + ((heldP r).length + 8), S9) ⟨⟨hyx3, hk1, hd1, hs2, hcap2, by rw [List.length_drop]; omega⟩, by dsimp only; rw [List.length_drop]; omega⟩ (sub_cons rfl (sub_cons rfl (sub_cons rfl sub_nil))) (fun _ _ h => h)
      · skip
        obtain ⟨j, rfl⟩ := isR (by simpa using h1)
        refine T_skip' ?_
        refine p_j_n ?_
        refine p_end ?_
        refine ret_of rfl (.tuple #[]) (fun tmps w hk hm => results_none rfl _ _ _) (fun w hm => ?_)
        exact ⟨⟨_, rfl⟩, .inr ⟨j, hyx3, hm⟩⟩
    · skip
      refine T_seq (T_region ?_)
      refine TL_q (.func (.func 115) #[.pointer (some ⟨S9, 0, none⟩)] #[]) (fun _ _ hρ _ => r_move (hρ _ _ rfl)) rfl rfl rfl (w_n rfl) ?_
      refine TL_callH _ _ _ (fun _ _ hρ _ => r_call (args := []) (enters_of Try.func115 (by kernel_rfl) rfl) (hρ _ _ rfl) (by rfl) rfl) (fun w hm => next_no S9 r ra rc at9 (hfr k i) hv9 hcap9 ha9 hz w hm) rfl rfl rfl (w_n rfl) ?_
      rintro ⟨⟩ -
      refine TL_q (.tuple #[.agg #[.slice none 0 0, .int .i64 0], .bool false]) (fun _ _ hρ _ => r_move (hρ _ _ rfl)) rfl rfl rfl (w_n rfl) ?_
      refine TL_q (.agg #[.slice none 0 0, .int .i64 0]) (fun _ _ hρ _ => r_extract (hρ _ _ rfl) rfl) rfl rfl rfl (w_n rfl) ?_
      refine TL_q (.bool false) (fun _ _ hρ _ => r_extract (hρ _ _ rfl) rfl) rfl rfl rfl (w_n rfl) ?_
      refine TL_new 1712 (.cells #[.slice none 0 0, .int .i64 0] 121) (fun B => .pointer (some ⟨B, 0, none⟩)) (fun _ _ _ _ => r_alloc (v := .agg #[.slice none 0 0, .int .i64 0]) (by kernel_rfl) rfl) rfl rfl rfl (w_n rfl) ?_
      intro B4
      refine TL_store 1712 (.cells #[.slice none 0 0, .int .i64 0] 121) rfl (fun _ _ hρ hm => r_store sz121 (hρ _ _ rfl) (hρ _ _ rfl) (hm.at 1712 rfl) rfl rfl rfl rfl) rfl rfl (w_n rfl) ?_
      refine TL_q (.bool false) (fun _ _ hρ _ => r_assign (hρ _ _ rfl)) rfl rfl rfl (w_n rfl) ?_
      refine TL_seq ?_
      refine T_seq (T_region ?_)
      refine TL_q (.bool false) (fun _ _ hρ _ => r_move (hρ _ _ rfl)) rfl rfl rfl (w_n rfl) ?_
      refine TL_q (.bool false) (fun _ _ hρ _ => r_move (hρ _ _ rfl)) rfl rfl rfl (w_n rfl) ?_
      refine TL_no rfl rfl (want_n 24 rfl rfl rfl) ?_
      refine TL_no rfl rfl (want_n 24 rfl rfl rfl) ?_
      refine TL_no rfl rfl (want_n 24 rfl rfl rfl) ?_
      refine TL_no rfl rfl (want_n 24 rfl rfl rfl) ?_
      refine TL_q (.bool false) (fun _ _ hρ _ => r_pick_f (hρ _ _ rfl) (hρ _ _ rfl)) rfl rfl rfl (w_n rfl) ?_
      refine TL_seq ?_
      refine T_cond_f rfl ?_
      refine T_skip' ?_
      refine p_j_n ?_
      refine p_end ?_
      refine ret_of rfl (.tuple #[]) (fun tmps w hk hm => results_none rfl _ _ _) (fun w hm => ?_)
      have hke : k = (scanA 0 l).length := drop_none hk (hd.trans (scanA_f at9 hz))
      subst hke
      exact ⟨⟨_, rfl⟩, .inl ⟨i, hpi, by first | exact hm.of (lk_fin (F := [_]) (T := []) sub_nil rfl (hfr7 _ i)) | exact hm.of (lk_fin (F := [_, _]) (T := []) sub_nil rfl (hfr7 _ i)) | exact hm.of (lk_fin (F := [_, _, _]) (T := []) sub_nil rfl (hfr7 _ i)) | exact hm.of (lk_fin (F := [_, _, _, _]) (T := []) sub_nil rfl (hfr7 _ i)) | exact hm.of (lk_fin (F := [_, _, _, _, _]) (T := []) sub_nil rfl (hfr7 _ i)) | exact hm.of (lk_fin (F := [_, _, _, _, _, _]) (T := []) sub_nil rfl (hfr7 _ i)) | exact hm.of (lk_fin (F := [_, _, _, _, _, _, _]) (T := []) sub_nil rfl (hfr7 _ i)) | exact hm.of (lk_fin (F := [_, _, _, _, _, _, _, _]) (T := []) sub_nil rfl (hfr7 _ i)) | exact hm.of (lk_fin (F := [_, _, _, _, _, _, _, _, _]) (T := []) sub_nil rfl (hfr7 _ i)) | exact hm.of (lk_fin (F := [_, _, _, _, _, _, _, _, _, _]) (T := []) sub_nil rfl (hfr7 _ i)) | exact hm.of (lk_fin (F := [_, _, _, _, _, _, _, _, _, _, _]) (T := []) sub_nil rfl (hfr7 _ i))⟩⟩

theorem recs_c (a : Option Addr) (n cap : Nat) (w : World) : Calls Try.prog 87 #[.slice a n cap] w fun e w' => ∃ q, e = .returned (.func (.func 114) #[] #[.pointer (some ⟨q, 0, none⟩)]) ∧ Below w.heap.size w w' ∧ (Res.blk q (.cells #[.slice a n cap] 34)).ok w.heap.size w' := by
  refine calls_of_T (l := [.slice a n cap]) 4 Try.func87 rfl rfl rfl ?_
  show T _ _ _ [(0, .slice a n cap)] []
  refine T_seq (T_region ?_)
  refine TL_new 1 (.cells #[.slice a n cap] 34) (fun B => .pointer (some ⟨B, 0, none⟩)) (fun _ _ hρ _ => r_box (hρ _ _ rfl) rfl) rfl rfl rfl (w_n rfl) ?_
  intro B1
  refine TL_q (.nilFunc) (fun _ _ hρ _ => r_assign (hρ _ _ rfl)) rfl rfl rfl (w_n rfl) ?_
  refine TL_seq ?_
  refine T_seq (T_region ?_)
  refine TL_q (.func (.func 114) #[] #[.pointer (some ⟨B1, 0, none⟩)]) (fun _ _ hρ _ => r_makeFunc (by simp) (map_arr (cons2 (hρ _ _ rfl) rfl))) rfl rfl rfl (w_n rfl) ?_
  refine TL_q (.func (.func 114) #[] #[.pointer (some ⟨B1, 0, none⟩)]) (fun _ _ hρ _ => r_assign (hρ _ _ rfl)) rfl rfl rfl (w_n rfl) ?_
  refine TL_seq ?_
  refine T_ret' ?_
  refine ret_of rfl (.func (.func 114) #[] #[.pointer (some ⟨B1, 0, none⟩)]) (fun tmps w hk hm => res1 rfl (res_tmp (hk 2 _ rfl))) (fun w hm => ?_)
  exact ⟨B1, rfl, hm.ext, hm.own 1 _ rfl⟩
end Go.Proofs.Ytcidgbjgeegepaa
/- net and journal: Scan, Places, Cut, Why, Append. Printed by a program of this seat's prover. -/
namespace Go.Proofs.Ytcidgbjgeegepaa
open Go Go.RowKit
set_option maxRecDepth 10000
abbrev nic (n : Nat) : List Value := [.int .i64 (n : Int)]
theorem nic_len (n : Nat) : (nic n).length = 1 := rfl
abbrev rowR (n : RowG (RowG By)) : Res := .row (.slice n.a n.l.length n.cap) 34 1 n.l.length (n.l.flatMap RowG.cells)
theorem scan_bound : ∀ (n at' : Nat) (l : List By), l.length ≤ n → ∀ x ∈ scanA at' l, at' ≤ x.1 ∧ x.1 + (x.2.length + 8) ≤ at' + l.length := by
  intro n
  induction n with
  | zero =>
    intro at' l h x hx
    have e : l = [] := List.eq_nil_of_length_eq_zero (by omega)
    subst e
    cases hx
  | succ n ih =>
    intro at' l h x hx
    by_cases e : firstE l = 0
    · obtain ⟨h1, h2, h3, _⟩ := first_ok e
      have hl := heldP_len e
      rw [scanA_t at' e] at hx
      rcases List.mem_cons.1 hx with rfl | hx
      · exact ⟨Nat.le_refl _, by dsimp only; omega⟩
      · have := ih _ _ (by rw [List.length_drop]; omega) x hx
        rw [List.length_drop] at this
        omega
    · rw [scanA_f at' e] at hx; cases hx
theorem scan_many : ∀ (n at' : Nat) (l : List By), l.length ≤ n → (scanA at' l).length ≤ l.length := by
  intro n
  induction n with
  | zero =>
    intro at' l h
    have e : l = [] := List.eq_nil_of_length_eq_zero (by omega)
    subst e; exact Nat.le_refl _
  | succ n ih =>
    intro at' l h
    by_cases e : firstE l = 0
    · obtain ⟨h1, h2, h3, _⟩ := first_ok e
      rw [scanA_t at' e]
      have := ih (at' + (numP l + 8)) (l.drop (numP l + 8)) (by rw [List.length_drop]; omega)
      rw [List.length_drop] at this
      rw [List.length_cons]; omega
    · rw [scanA_f at' e]; exact Nat.zero_le _
theorem scan_cnt {l : List By} {α : Type} {f : Nat × List By → α} {m : List α} {k : Nat} (h : m = ((scanA 0 l).take k).map f) : m.length ≤ l.length := by
  have h2 := scan_many l.length 0 l (Nat.le_refl _)
  rw [h, List.length_map, List.length_take]; omega
theorem rls_len (l : List (RowG By)) : (rls l).length = l.length := List.length_map _
theorem endS_at {xs : List (Nat × List By)} {k : Nat} {x : Nat × List By} (h : xs[k]? = some x) : endS (xs.take (k + 1)) 0 = x.1 + (x.2.length + 8) := by
  rw [List.take_add_one, h]; exact endS_snoc _ _ _
theorem scan_step {ss : List (RowG By)} {xs : List (Nat × List By)} {k : Nat} {x : Nat × List By} {a : Option Addr} {c : Nat} (h : rls ss = (xs.take k).map (·.2)) (hx : xs[k]? = some x) : rls (ss ++ [⟨a, c, x.2⟩]) = (xs.take (k + 1)).map (·.2) := by
  unfold rls at h ⊢
  rw [List.map_append, h, List.take_add_one, hx, List.map_append]; rfl
theorem place_step {ss : List Nat} {xs : List (Nat × List By)} {k : Nat} {x : Nat × List By} (h : ss = (xs.take k).map (·.1)) (hx : xs[k]? = some x) : ss ++ [x.1] = (xs.take (k + 1)).map (·.1) := by
  rw [h, List.take_add_one, hx, List.map_append]; rfl
theorem scan_all {xs : List (Nat × List By)} {α : Type} {m : List α} {f : Nat × List By → α} (h : m = (xs.take xs.length).map f) : m = xs.map f := by rw [h, List.take_length]

theorem scan_c (l : List By) (a : Option Addr) (cap : Nat) (w : World) (hv : SliceAt w a cap 1 byc l) (hcap : cap ≤ Go.maxLen) (hl9 : l.length ≤ 1000000) : Calls Try.prog 46 #[.slice a l.length cap] w fun e w' => ∃ n : RowG (RowG By), rls n.l = heldsV l ∧ e = .returned (.tuple #[.slice n.a n.l.length n.cap, .int .i64 (sizeV l : Int)]) ∧ Below w.heap.size w w' ∧ (rowR n).ok w.heap.size w' ∧ (Res.pool 5 1 byc n.l).ok w.heap.size w' ∧ ∀ b, (rowR n).foot b → ¬ (Res.pool 5 1 byc n.l).foot b := by
  have hvl := hv.1
  have hcp := hcap
  unfold Go.maxLen at hcp
  refine calls_of_T (l := [.slice a l.length cap]) 31 Try.func46 rfl rfl rfl ?_
  show T _ _ _ [(0, .slice a l.length cap)] []
  refine T_seq (T_region ?_)
  refine TL_q (.slice none 0 0) (fun _ _ hρ _ => r_assign (hρ _ _ rfl)) rfl rfl rfl (w_n rfl) ?_
  refine TL_q (.int .i64 0) (fun _ _ hρ _ => r_assign (hρ _ _ rfl)) rfl rfl rfl (w_n rfl) ?_
  refine TL_seq ?_
  refine T_seq (T_region ?_)
  refine TL_new 1 (.cells #[.slice none 0 0] 63) (fun B => .pointer (some ⟨B, 0, none⟩)) (fun _ _ _ _ => r_alloc (v := .slice none 0 0) (by kernel_rfl) rfl) rfl rfl rfl (w_n rfl) ?_
  intro B1
  refine TL_seq ?_
  refine T_seq (T_region ?_)
  refine TL_new 2 (.cells #[.int .i64 0] 3) (fun B => .pointer (some ⟨B, 0, none⟩)) (fun _ _ _ _ => r_alloc (v := .int .i64 0) (by kernel_rfl) rfl) rfl rfl rfl (w_n rfl) ?_
  intro B2
  refine TL_store 2 (.cells #[.int .i64 0] 3) rfl (fun _ _ hρ hm => r_store sz3 (hρ _ _ rfl) (hρ _ _ rfl) (hm.at 2 rfl) rfl rfl rfl rfl) rfl rfl (w_n rfl) ?_
  refine TL_seq ?_
  refine T_seq ?_
  refine T_mem (_ :: _ :: _) (fun _ hm => (hm.nilRow 963 34 1).pool0 964 5 1 byc) ?_
  refine T_seq (T_region ?_)
  refine TL_q (.slice a l.length cap) (fun _ _ hρ _ => r_move (hρ _ _ rfl)) rfl rfl rfl (w_n rfl) ?_
  refine TL_callN (fun (_ : Nat) => True) (fun qr3 => .func (.func 114) #[] #[.pointer (some ⟨qr3, 0, none⟩)]) (fun qr3 => [(908, .blk qr3 (.cells #[.slice a l.length cap] 34))]) (fun _ _ hρ _ => r_call (args := [.slice a l.length cap]) (enters_of Try.func87 (by kernel_rfl) rfl) (hρ _ _ rfl) ((cons2 (hρ _ _ rfl) rfl)) rfl) (fun w _ => (recs_c a l.length cap w).mono fun e w' ⟨q, he, hb, hr⟩ => ⟨q, trivial, he, hb, newOk1 908 hr⟩) rfl rfl rfl (w_n rfl) ?_
  rintro qr3 -
  refine TL_seq ?_
  refine T_block ?_
  refine T_sub [(2, .slice none 0 0), (3, .int .i64 0), (4, .pointer (some ⟨B1, 0, none⟩)), (5, .pointer (some ⟨B2, 0, none⟩)), (10, .func (.func 114) #[] #[.pointer (some ⟨qr3, 0, none⟩)])] [(908, .blk qr3 (.cells #[.slice a l.length cap] 34)), (964, .pool 5 1 byc []), (963, .row (.slice none 0 0) 34 1 0 []), (1, .blk B1 (.cells #[.slice none 0 0] 63)), (2, .blk B2 (.cells #[.int .i64 0] 3))] (sub_cons rfl (sub_cons rfl (sub_cons rfl (sub_cons rfl (sub_cons rfl sub_nil))))) (sub_cons rfl (sub_cons rfl (sub_cons rfl (sub_cons rfl (sub_cons rfl sub_nil))))) ?_
  refine T_rangeZ (ι := RowG (RowG By)) (ζ := Option Addr × Nat) (ζ' := Nat) (encs := encF) (E := EF) (xs := (scanA 0 l)) rfl rfl (enters_of Try.func114 (by kernel_rfl) rfl) (fun _ _ => rfl) rfl 801 802 rfl rfl rfl (fun (k : Nat) (n9 : RowG (RowG By)) => rls n9.l = ((scanA 0 l).take k).map (·.2)) (fun (k : Nat) (n9 : RowG (RowG By)) => [(1, .blk B1 (.cells #[.slice n9.a n9.l.length n9.cap] 63)), (2, .blk B2 (.cells #[.int .i64 ((endS ((scanA 0 l).take k) 0 : Nat) : Int)] 3)), (963, .row (.slice n9.a n9.l.length n9.cap) 34 1 n9.l.length (n9.l.flatMap RowG.cells)), (964, .pool 5 1 byc n9.l), (908, .blk qr3 (.cells #[.slice a l.length cap] 34))]) (fun _ _ => False) (fun _ => []) (fun x z Bz => [(2, .slice none 0 0), (3, .int .i64 0), (4, .pointer (some ⟨B1, 0, none⟩)), (5, .pointer (some ⟨B2, 0, none⟩)), (10, .func (.func 114) #[] #[.pointer (some ⟨qr3, 0, none⟩)]), (6, .int .i64 ((x.1 : Nat) : Int)), (7, .pointer (some ⟨Bz, 0, none⟩))]) (fun x z Bz => [(1801, .blk Bz (.cells #[.slice z.1 x.2.length z.2, .int .i64 ((x.2.length + 8 : Nat) : Int)] 121)), (1701, .sl z.1 z.2 x.2)]) (fun D l9 rec => recs_iter w _ _ qr3 l a cap hv hcap (by omega) (fun _ _ => by repeat (first | exact noIds_nil _ _ | refine noIds_cons rfl ?_)) (fun _ _ hm => hm.at 908 rfl)) (fun _ _ => ⟨rfl, rfl⟩) (fun _ => ⟨rfl, rfl⟩) ⟨none, 0, []⟩ rfl (sub_cons rfl (sub_cons rfl (sub_cons rfl (sub_cons rfl (sub_cons rfl sub_nil))))) ?_ ?_ ?_ (fun _ _ _ h => h.elim)
  · intro D1 l1 rec1 R1 k x z n9 hx1 hp1
    refine T_sub [(2, .slice none 0 0), (3, .int .i64 0), (4, .pointer (some ⟨B1, 0, none⟩)), (5, .pointer (some ⟨B2, 0, none⟩)), (10, .func (.func 114) #[] #[.pointer (some ⟨qr3, 0, none⟩)]), (11, .int .i64 ((x.1 : Nat) : Int)), (12, .agg #[.slice z.1 x.2.length z.2, .int .i64 ((x.2.length + 8 : Nat) : Int)])] [(801, .blk D1 (.deferred (some []))), (802, .blk l1 (.loop rec1)), (1700, R1), (1701, .sl z.1 z.2 x.2), (1, .blk B1 (.cells #[.slice n9.a n9.l.length n9.cap] 63)), (2, .blk B2 (.cells #[.int .i64 ((endS ((scanA 0 l).take k) 0 : Nat) : Int)] 3)), (963, .row (.slice n9.a n9.l.length n9.cap) 34 1 n9.l.length (n9.l.flatMap RowG.cells)), (964, .pool 5 1 byc n9.l), (908, .blk qr3 (.cells #[.slice a l.length cap] 34))] (sub_cons rfl (sub_cons rfl (sub_cons rfl (sub_cons rfl (sub_cons rfl (sub_cons rfl (sub_cons rfl sub_nil))))))) (sub_cons rfl (sub_cons rfl (sub_cons rfl (sub_cons rfl (sub_cons rfl (sub_cons rfl (sub_cons rfl (sub_cons rfl (sub_cons rfl sub_nil))))))))) ?_
    refine T_seq (T_region ?_)
    refine TL_q (.int .i64 ((x.1 : Nat) : Int)) (fun _ _ hρ _ => r_assign (hρ _ _ rfl)) rfl rfl rfl (w_n rfl) ?_
    refine TL_seq ?_
    refine T_region ?_
    refine TL_new 1801 (.cells #[.slice none 0 0, .int .i64 0] 121) (fun B => .pointer (some ⟨B, 0, none⟩)) (fun _ _ _ _ => r_alloc (v := .agg #[.slice none 0 0, .int .i64 0]) (by kernel_rfl) rfl) rfl rfl rfl (w_n rfl) ?_
    intro B4
    refine TL_store 1801 (.cells #[.slice z.1 x.2.length z.2, .int .i64 ((x.2.length + 8 : Nat) : Int)] 121) rfl (fun _ _ hρ hm => r_store sz121 (hρ _ _ rfl) (hρ _ _ rfl) (hm.at 1801 rfl) rfl rfl rfl rfl) rfl rfl (w_n rfl) ?_
    refine TL_nil ?_
    exact p_at B4 trivial (sub_cons rfl (sub_cons rfl (sub_cons rfl (sub_cons rfl (sub_cons rfl (sub_cons rfl (sub_cons rfl sub_nil))))))) (sub_cons rfl (sub_cons rfl (sub_cons rfl (sub_cons rfl (sub_cons rfl (sub_cons rfl (sub_cons rfl (sub_cons rfl (sub_cons rfl (sub_cons rfl sub_nil))))))))))
  · intro D1 l1 rec1 R1 k x z n9 Bz hx1 hp1
    show T _ _ _ [(2, .slice none 0 0), (3, .int .i64 0), (4, .pointer (some ⟨B1, 0, none⟩)), (5, .pointer (some ⟨B2, 0, none⟩)), (10, .func (.func 114) #[] #[.pointer (some ⟨qr3, 0, none⟩)]), (6, .int .i64 ((x.1 : Nat) : Int)), (7, .pointer (some ⟨Bz, 0, none⟩))] [(801, .blk D1 (.deferred (some []))), (802, .blk l1 (.loop { rec1 with state := .busy })), (1700, R1), (1801, .blk Bz (.cells #[.slice z.1 x.2.length z.2, .int .i64 ((x.2.length + 8 : Nat) : Int)] 121)), (1701, .sl z.1 z.2 x.2), (1, .blk B1 (.cells #[.slice n9.a n9.l.length n9.cap] 63)), (2, .blk B2 (.cells #[.int .i64 ((endS ((scanA 0 l).take k) 0 : Nat) : Int)] 3)), (963, .row (.slice n9.a n9.l.length n9.cap) 34 1 n9.l.length (n9.l.flatMap RowG.cells)), (964, .pool 5 1 byc n9.l), (908, .blk qr3 (.cells #[.slice a l.length cap] 34))]
    have hbd := scan_bound l.length 0 l (Nat.le_refl _) x (List.mem_of_getElem? hx1)
    have hcn := scan_cnt hp1
    rw [rls_len] at hcn
    refine T_block ?_
    refine T_seq (T_region ?_)
    refine TL_q (.pointer (some ⟨Bz, 0, none⟩)) (fun _ _ hρ _ => r_fieldAddr fl121_0 sz34 (hρ _ _ rfl)) rfl rfl rfl (w_n rfl) ?_
    refine TL_q (.slice z.1 x.2.length z.2) (fun _ _ hρ hm => r_load ag34 (hρ _ _ rfl) (hm.at 1801 rfl) rfl) rfl rfl rfl (w_n rfl) ?_
    refine TL_q (.int .i64 ((x.2.length : Nat) : Int)) (fun _ _ hρ _ => r_len sl34 (hρ _ _ rfl)) rfl rfl rfl (w_n rfl) ?_
    refine TL_op (ι := Nat) (fun B => .slice (some ⟨B, 0, none⟩) x.2.length x.2.length) _ (fun _ _ hρ hm => o_make (n := x.2.length) (cap := x.2.length) (z := .int .u8 0) (f := byc) (u := 0#8) 1802 rfl (hρ _ _ rfl) (hρ _ _ rfl) sl34 by5 sz5 rfl (by kernel_rfl) rfl byc_len (by omega) (by omega) (by omega) hm) rfl rfl rfl (w_n rfl) ?_
    intro B5
    refine TL_q (.slice (some ⟨B5, 0, none⟩) x.2.length x.2.length) (fun _ _ hρ _ => r_assign (hρ _ _ rfl)) rfl rfl rfl (w_n rfl) ?_
    refine TL_seq ?_
    refine T_seq (T_region ?_)
    refine TL_q (.slice (some ⟨B5, 0, none⟩) x.2.length x.2.length) (fun _ _ hρ _ => r_move (hρ _ _ rfl)) rfl rfl rfl (w_n rfl) ?_
    refine TL_q (.pointer (some ⟨Bz, 0, none⟩)) (fun _ _ hρ _ => r_fieldAddr fl121_0 sz34 (hρ _ _ rfl)) rfl rfl rfl (w_n rfl) ?_
    refine TL_q (.slice z.1 x.2.length z.2) (fun _ _ hρ hm => r_load ag34 (hρ _ _ rfl) (hm.at 1801 rfl) rfl) rfl rfl rfl (w_n rfl) ?_
    refine TL_op1 (.int .i64 ((x.2.length : Nat) : Int)) _ (fun _ _ hρ hm => o_copy (s := 1) (news := (x.2.flatMap byc)) 1802 rfl (hρ _ _ rfl) (hρ _ _ rfl) rfl sl34 sz5 (src_of byc_len (hm.slAt 1701 rfl)) byc_oneL hm) rfl rfl rfl (w_n rfl) ?_
    refine TL_seq ?_
    refine T_draw (V := [(0, .slice n9.a n9.l.length n9.cap), (1, .slice (some ⟨B5, 0, none⟩) x.2.length x.2.length), (4, .int .i64 ((x.1 : Nat) : Int)), (5, .pointer (some ⟨Bz, 1, none⟩)), (6, .int .i64 ((x.2.length + 8 : Nat) : Int)), (7, .int .i64 ((x.1 + (x.2.length + 8) : Nat) : Int))]) [0, 0, 2, 7, 0, 0, 32, 112, 15, 511] [[(4, none)], [(8, none)], [(22, some 1)], [(21, some 0), (23, some 2)], [(6, none)], [(7, none)], [(26, some 5)], [(25, some 4), (27, some 6)], [(4, none), (24, some 3)], [(5, none), (28, some 7)]] 780 mixed (by kernel_rfl) ?_
    refine G_step [0, 1, 4, 5, 6, 7] 2 [] (by kernel_rfl) (allM (all_cons (q_run (.slice n9.a n9.l.length n9.cap) rfl rfl (wv_n rfl) rfl (fun _ _ hρ hm => r_load ag63 (hρ _ _ rfl) (hm.at 1 rfl) rfl)) (all_cons (q_run (.slice (some ⟨B5, 0, none⟩) x.2.length x.2.length) rfl rfl (wv_n rfl) rfl (fun _ _ hρ _ => r_move (hρ _ _ rfl))) (all_cons (q_run (.int .i64 ((x.1 : Nat) : Int)) rfl rfl (wv_n rfl) rfl (fun _ _ hρ _ => r_move (hρ _ _ rfl))) (all_cons (q_run (.pointer (some ⟨Bz, 1, none⟩)) rfl rfl (wv_n rfl) rfl (fun _ _ hρ _ => r_fieldAddr fl121_1 sz3 (hρ _ _ rfl))) (all_cons (q_run (.int .i64 ((x.2.length + 8 : Nat) : Int)) rfl rfl (wv_n rfl) rfl (fun _ _ hρ hm => r_load ag3 (hρ _ _ rfl) (hm.at 1801 rfl) rfl)) (all_cons (q_run (.int .i64 ((x.1 + (x.2.length + 8) : Nat) : Int)) rfl rfl (wv_n rfl) rfl (fun _ _ hρ _ => r_as (r_add (hρ _ _ rfl) (hρ _ _ rfl)) (int_as ((wrap64 (by omega) (by omega)).trans (by omega))))) all_nil))))))) (allM (all_cons ?_ all_nil))
    refine LOb_new 1803 (.cells #[.slice (some ⟨B5, 0, none⟩) x.2.length x.2.length] 34) (fun B => .slice (some ⟨B, 0, none⟩) 1 1) (fun B => []) rfl (wv_n rfl) rfl rfl (fun _ _ hρ _ => r_buildSlice (vs := [(0, .slice (some ⟨B5, 0, none⟩) x.2.length x.2.length)]) (by kernel_rfl) (cons2 (pair2 (hρ _ _ rfl)) rfl)) (fun B => by kernel_rfl) ?_
    intro B7
    refine G_step [0, 4, 5, 6, 7] 3 [] (by kernel_rfl) (allM (all_cons (q_run (.slice n9.a n9.l.length n9.cap) rfl rfl (wv_n rfl) rfl (fun _ _ hρ hm => r_load ag63 (hρ _ _ rfl) (hm.at 1 rfl) rfl)) (all_cons (q_run (.int .i64 ((x.1 : Nat) : Int)) rfl rfl (wv_n rfl) rfl (fun _ _ hρ _ => r_move (hρ _ _ rfl))) (all_cons (q_run (.pointer (some ⟨Bz, 1, none⟩)) rfl rfl (wv_n rfl) rfl (fun _ _ hρ _ => r_fieldAddr fl121_1 sz3 (hρ _ _ rfl))) (all_cons (q_run (.int .i64 ((x.2.length + 8 : Nat) : Int)) rfl rfl (wv_n rfl) rfl (fun _ _ hρ hm => r_load ag3 (hρ _ _ rfl) (hm.at 1801 rfl) rfl)) (all_cons (q_run (.int .i64 ((x.1 + (x.2.length + 8) : Nat) : Int)) rfl rfl (wv_n rfl) rfl (fun _ _ hρ _ => r_as (r_add (hρ _ _ rfl) (hρ _ _ rfl)) (int_as ((wrap64 (by omega) (by omega)).trans (by omega))))) all_nil)))))) (allM (all_cons ?_ all_nil))
    refine LOb_append (n := n9.l.length) (m := 1) (xs := (n9.l.flatMap RowG.cells)) (news := [.slice (some ⟨B5, 0, none⟩) x.2.length x.2.length]) (z := .slice none 0 0) 963 (fun a cap => []) rfl (wv_n rfl) rfl rfl rfl sl63 sz34 by34 (by kernel_rfl) rfl rfl (.inl rfl) (fun _ hm => src_blk (news := [.slice (some ⟨B5, 0, none⟩) x.2.length x.2.length]) (hm.at 1803 rfl) rfl) (by simp [Value.oneCell']) (by omega) (by omega) (fun a cap => by kernel_rfl) ?_
    intro a8 cap8
    refine G_step [4, 5, 6, 7] 8 [] (by kernel_rfl) (allM (all_cons (q_run (.int .i64 ((x.1 : Nat) : Int)) rfl rfl (wv_n rfl) rfl (fun _ _ hρ _ => r_move (hρ _ _ rfl))) (all_cons (q_run (.pointer (some ⟨Bz, 1, none⟩)) rfl rfl (wv_n rfl) rfl (fun _ _ hρ _ => r_fieldAddr fl121_1 sz3 (hρ _ _ rfl))) (all_cons (q_run (.int .i64 ((x.2.length + 8 : Nat) : Int)) rfl rfl (wv_n rfl) rfl (fun _ _ hρ hm => r_load ag3 (hρ _ _ rfl) (hm.at 1801 rfl) rfl)) (all_cons (q_run (.int .i64 ((x.1 + (x.2.length + 8) : Nat) : Int)) rfl rfl (wv_n rfl) rfl (fun _ _ hρ _ => r_as (r_add (hρ _ _ rfl) (hρ _ _ rfl)) (int_as ((wrap64 (by omega) (by omega)).trans (by omega))))) all_nil))))) (allM (all_cons ?_ all_nil))
    refine LOb_store 1 (.cells #[.slice a8 (n9.l.length + 1) cap8] 63) [] rfl (wv_n rfl) rfl rfl rfl (fun _ _ hρ hm => r_store sz63 (hρ _ _ rfl) (hρ _ _ rfl) (hm.at 1 rfl) rfl rfl rfl rfl) (by kernel_rfl) ?_
    refine G_step [4, 5, 6, 7] 9 [] (by kernel_rfl) (allM (all_cons (q_run (.int .i64 ((x.1 : Nat) : Int)) rfl rfl (wv_n rfl) rfl (fun _ _ hρ _ => r_move (hρ _ _ rfl))) (all_cons (q_run (.pointer (some ⟨Bz, 1, none⟩)) rfl rfl (wv_n rfl) rfl (fun _ _ hρ _ => r_fieldAddr fl121_1 sz3 (hρ _ _ rfl))) (all_cons (q_run (.int .i64 ((x.2.length + 8 : Nat) : Int)) rfl rfl (wv_n rfl) rfl (fun _ _ hρ hm => r_load ag3 (hρ _ _ rfl) (hm.at 1801 rfl) rfl)) (all_cons (q_run (.int .i64 ((x.1 + (x.2.length + 8) : Nat) : Int)) rfl rfl (wv_n rfl) rfl (fun _ _ hρ _ => r_as (r_add (hρ _ _ rfl) (hρ _ _ rfl)) (int_as ((wrap64 (by omega) (by omega)).trans (by omega))))) all_nil))))) (allM (all_cons ?_ all_nil))
    refine LOb_store 2 (.cells #[.int .i64 ((x.1 + (x.2.length + 8) : Nat) : Int)] 3) [] rfl (wv_n rfl) rfl rfl rfl (fun _ _ hρ hm => r_store sz3 (hρ _ _ rfl) (hρ _ _ rfl) (hm.at 2 rfl) rfl rfl rfl rfl) (by kernel_rfl) ?_
    refine G_lastQ [] [(2, .slice none 0 0), (3, .int .i64 0)] (by kernel_rfl) (allM all_nil) (end_old rfl rfl (end_old rfl rfl end_nil)) ?_
    refine p_blk_n ?_
    have hn9 : (n9.l.length + 1) = (n9.l ++ [(⟨(some ⟨B5, 0, none⟩), x.2.length, x.2⟩ : RowG By)]).length := by simp
    have hx9 : ((n9.l.flatMap RowG.cells) ++ [.slice (some ⟨B5, 0, none⟩) x.2.length x.2.length]) = (n9.l ++ [(⟨(some ⟨B5, 0, none⟩), x.2.length, x.2⟩ : RowG By)]).flatMap RowG.cells := by simp [RowG.cells]
    rw [hx9, hn9]
    refine p_mem (_ :: _ :: _) (fun _ hm => hm.poolPush 964 1802 rfl rfl rfl rfl) ?_
    rw [← endS_at hx1]
    exact p_round_n ⟨a8, cap8, n9.l ++ [(⟨(some ⟨B5, 0, none⟩), x.2.length, x.2⟩ : RowG By)]⟩ (scan_step hp1 hx1) (sub_cons rfl (sub_cons rfl (sub_cons rfl (sub_cons rfl (sub_cons rfl (sub_cons rfl (sub_cons rfl (sub_cons rfl sub_nil))))))))
  · intro D1 n9 hp1
    refine p_sub [(2, .slice none 0 0), (3, .int .i64 0), (4, .pointer (some ⟨B1, 0, none⟩)), (5, .pointer (some ⟨B2, 0, none⟩)), (10, .func (.func 114) #[] #[.pointer (some ⟨qr3, 0, none⟩)])] [(801, .blk D1 (.deferred (some []))), (908, .blk qr3 (.cells #[.slice a l.length cap] 34)), (1, .blk B1 (.cells #[.slice n9.a n9.l.length n9.cap] 63)), (2, .blk B2 (.cells #[.int .i64 ((endS ((scanA 0 l).take (scanA 0 l).length) 0 : Nat) : Int)] 3)), (963, .row (.slice n9.a n9.l.length n9.cap) 34 1 n9.l.length (n9.l.flatMap RowG.cells)), (964, .pool 5 1 byc n9.l)] (sub_cons rfl (sub_cons rfl (sub_cons rfl (sub_cons rfl (sub_cons rfl sub_nil))))) (sub_cons rfl (sub_cons rfl (sub_cons rfl (sub_cons rfl (sub_cons rfl (sub_cons rfl sub_nil)))))) ?_
    refine p_blk_n ?_
    refine p_seq ?_
    refine T_seq (T_draw (V := [(0, .slice n9.a n9.l.length n9.cap), (1, .int .i64 ((endS ((scanA 0 l).take (scanA 0 l).length) 0 : Nat) : Int)), (2, .slice n9.a n9.l.length n9.cap), (3, .int .i64 ((endS ((scanA 0 l).take (scanA 0 l).length) 0 : Nat) : Int))]) [0, 0, 1, 7] [[(4, none)], [(5, none)], [(29, some 0)], [(30, some 1)]] 0 mixed (by kernel_rfl) ?_)
    refine G_last [0, 1, 2, 3] [(2, .slice n9.a n9.l.length n9.cap), (3, .int .i64 ((endS ((scanA 0 l).take (scanA 0 l).length) 0 : Nat) : Int))] (by kernel_rfl) (allM (all_cons (q_run (.slice n9.a n9.l.length n9.cap) rfl rfl (wv_n rfl) rfl (fun _ _ hρ hm => r_load ag63 (hρ _ _ rfl) (hm.at 1 rfl) rfl)) (all_cons (q_run (.int .i64 ((endS ((scanA 0 l).take (scanA 0 l).length) 0 : Nat) : Int)) rfl rfl (wv_n rfl) rfl (fun _ _ hρ hm => r_load ag3 (hρ _ _ rfl) (hm.at 2 rfl) rfl)) (all_cons (q_run (.slice n9.a n9.l.length n9.cap) rfl rfl (wv_n rfl) rfl (fun _ _ hρ _ => r_assign (hρ _ _ rfl))) (all_cons (q_run (.int .i64 ((endS ((scanA 0 l).take (scanA 0 l).length) 0 : Nat) : Int)) rfl rfl (wv_n rfl) rfl (fun _ _ hρ _ => r_assign (hρ _ _ rfl))) all_nil))))) (end_new 2 rfl rfl (end_new 3 rfl rfl end_nil)) ?_
    refine T_ret' ?_
    refine ret_of1 801 D1 rfl rfl (.tuple #[.slice n9.a n9.l.length n9.cap, .int .i64 ((endS ((scanA 0 l).take (scanA 0 l).length) 0 : Nat) : Int)]) (fun tmps w hk hm => res2 rfl (res_tmp (hk 2 _ rfl)) (res_tmp (hk 3 _ rfl))) (fun w hm => ?_)
    rw [List.take_length] at hp1
    exact ⟨n9, hp1, by rw [List.take_length], hm.ext, hm.own 963 _ rfl, hm.own 964 _ rfl, hm.sep 963 964 _ _ rfl rfl (by decide)⟩

theorem places_c (l : List By) (a : Option Addr) (cap : Nat) (w : World) (hv : SliceAt w a cap 1 byc l) (hcap : cap ≤ Go.maxLen) (hl9 : l.length ≤ 1000000) : Calls Try.prog 49 #[.slice a l.length cap] w fun e w' => ∃ a' cap', e = .returned (.slice a' (placesV l).length cap') ∧ Below w.heap.size w w' ∧ w'.ownsRow w.heap.size 3 1 (.slice a' (placesV l).length cap') (placesV l).length ((placesV l).flatMap nic) := by
  have hvl := hv.1
  have hcp := hcap
  unfold Go.maxLen at hcp
  refine calls_of_T (l := [.slice a l.length cap]) 18 Try.func49 rfl rfl rfl ?_
  show T _ _ _ [(0, .slice a l.length cap)] []
  refine T_seq (T_region ?_)
  refine TL_new 1 (.cells #[.slice a l.length cap] 34) (fun B => .pointer (some ⟨B, 0, none⟩)) (fun _ _ hρ _ => r_box (hρ _ _ rfl) rfl) rfl rfl rfl (w_n rfl) ?_
  intro B1
  refine TL_q (.slice none 0 0) (fun _ _ hρ _ => r_assign (hρ _ _ rfl)) rfl rfl rfl (w_n rfl) ?_
  refine TL_seq ?_
  refine T_scope ?_
  refine T_seq (T_region ?_)
  refine TL_new 2 (.cells #[.slice none 0 0] 71) (fun B => .pointer (some ⟨B, 0, none⟩)) (fun _ _ _ _ => r_alloc (v := .slice none 0 0) (by kernel_rfl) rfl) rfl rfl rfl (w_n rfl) ?_
  intro B2
  refine TL_seq ?_
  refine T_label ?_
  refine T_seq ?_
  refine T_mem (_ :: _) (fun _ hm => hm.nilRow 963 3 1) ?_
  refine T_seq (T_region ?_)
  refine TL_q (.slice a l.length cap) (fun _ _ hρ hm => r_load ag34 (hρ _ _ rfl) (hm.at 1 rfl) rfl) rfl rfl rfl (w_n rfl) ?_
  refine TL_callN (fun (_ : Nat) => True) (fun qr3 => .func (.func 114) #[] #[.pointer (some ⟨qr3, 0, none⟩)]) (fun qr3 => [(908, .blk qr3 (.cells #[.slice a l.length cap] 34))]) (fun _ _ hρ _ => r_call (args := [.slice a l.length cap]) (enters_of Try.func87 (by kernel_rfl) rfl) (hρ _ _ rfl) ((cons2 (hρ _ _ rfl) rfl)) rfl) (fun w _ => (recs_c a l.length cap w).mono fun e w' ⟨q, he, hb, hr⟩ => ⟨q, trivial, he, hb, newOk1 908 hr⟩) rfl rfl rfl (w_n rfl) ?_
  rintro qr3 -
  refine TL_seq ?_
  refine T_block ?_
  refine T_sub [(1, .pointer (some ⟨B1, 0, none⟩)), (2, .slice none 0 0), (3, .pointer (some ⟨B2, 0, none⟩)), (6, .func (.func 114) #[] #[.pointer (some ⟨qr3, 0, none⟩)])] [(908, .blk qr3 (.cells #[.slice a l.length cap] 34)), (963, .row (.slice none 0 0) 3 1 0 []), (1, .blk B1 (.cells #[.slice a l.length cap] 34)), (2, .blk B2 (.cells #[.slice none 0 0] 71))] (sub_cons rfl (sub_cons rfl (sub_cons rfl (sub_cons rfl sub_nil)))) (sub_cons rfl (sub_cons rfl (sub_cons rfl (sub_cons rfl sub_nil)))) ?_
  refine T_rangeZ (ι := RowG Nat) (ζ := Option Addr × Nat) (ζ' := Unit) (encs := encF) (E := EF) (xs := (scanA 0 l)) rfl rfl (enters_of Try.func114 (by kernel_rfl) rfl) (fun _ _ => rfl) rfl 801 802 rfl rfl rfl (fun (k : Nat) (n9 : RowG Nat) => n9.l = ((scanA 0 l).take k).map (·.1)) (fun (k : Nat) (n9 : RowG Nat) => [(2, .blk B2 (.cells #[.slice n9.a n9.l.length n9.cap] 71)), (963, .row (.slice n9.a n9.l.length n9.cap) 3 1 n9.l.length (n9.l.flatMap nic)), (908, .blk qr3 (.cells #[.slice a l.length cap] 34)), (1, .blk B1 (.cells #[.slice a l.length cap] 34))]) (fun _ _ => False) (fun _ => []) (fun x z _u => [(1, .pointer (some ⟨B1, 0, none⟩)), (2, .slice none 0 0), (3, .pointer (some ⟨B2, 0, none⟩)), (6, .func (.func 114) #[] #[.pointer (some ⟨qr3, 0, none⟩)]), (4, .int .i64 ((x.1 : Nat) : Int))]) (fun x z _u => []) (fun D l9 rec => recs_iter w _ _ qr3 l a cap hv hcap (by omega) (fun _ _ => by repeat (first | exact noIds_nil _ _ | refine noIds_cons rfl ?_)) (fun _ _ hm => hm.at 908 rfl)) (fun _ _ => ⟨rfl, rfl⟩) (fun _ => ⟨rfl, rfl⟩) ⟨none, 0, []⟩ rfl (sub_cons rfl (sub_cons rfl (sub_cons rfl (sub_cons rfl sub_nil)))) ?_ ?_ ?_ (fun _ _ _ h => h.elim)
  · intro D1 l1 rec1 R1 k x z n9 hx1 hp1
    refine T_sub [(1, .pointer (some ⟨B1, 0, none⟩)), (2, .slice none 0 0), (3, .pointer (some ⟨B2, 0, none⟩)), (6, .func (.func 114) #[] #[.pointer (some ⟨qr3, 0, none⟩)]), (7, .int .i64 ((x.1 : Nat) : Int)), (8, .agg #[.slice z.1 x.2.length z.2, .int .i64 ((x.2.length + 8 : Nat) : Int)])] [(801, .blk D1 (.deferred (some []))), (802, .blk l1 (.loop rec1)), (1700, R1), (1701, .sl z.1 z.2 x.2), (2, .blk B2 (.cells #[.slice n9.a n9.l.length n9.cap] 71)), (963, .row (.slice n9.a n9.l.length n9.cap) 3 1 n9.l.length (n9.l.flatMap nic)), (908, .blk qr3 (.cells #[.slice a l.length cap] 34)), (1, .blk B1 (.cells #[.slice a l.length cap] 34))] (sub_cons rfl (sub_cons rfl (sub_cons rfl (sub_cons rfl (sub_cons rfl (sub_cons rfl sub_nil)))))) (sub_cons rfl (sub_cons rfl (sub_cons rfl (sub_cons rfl (sub_cons rfl (sub_cons rfl (sub_cons rfl (sub_cons rfl sub_nil)))))))) ?_
    refine T_region ?_
    refine TL_q (.int .i64 ((x.1 : Nat) : Int)) (fun _ _ hρ _ => r_assign (hρ _ _ rfl)) rfl rfl rfl (w_n rfl) ?_
    refine TL_nil ?_
    exact p_at () trivial (sub_cons rfl (sub_cons rfl (sub_cons rfl (sub_cons rfl (sub_cons rfl sub_nil))))) (sub_cons rfl (sub_cons rfl (sub_cons rfl (sub_cons rfl (sub_cons rfl (sub_cons rfl (sub_cons rfl sub_nil)))))))
  · intro D1 l1 rec1 R1 k x z n9 _u hx1 hp1
    show T _ _ _ [(1, .pointer (some ⟨B1, 0, none⟩)), (2, .slice none 0 0), (3, .pointer (some ⟨B2, 0, none⟩)), (6, .func (.func 114) #[] #[.pointer (some ⟨qr3, 0, none⟩)]), (4, .int .i64 ((x.1 : Nat) : Int))] [(801, .blk D1 (.deferred (some []))), (802, .blk l1 (.loop { rec1 with state := .busy })), (1700, R1), (2, .blk B2 (.cells #[.slice n9.a n9.l.length n9.cap] 71)), (963, .row (.slice n9.a n9.l.length n9.cap) 3 1 n9.l.length (n9.l.flatMap nic)), (908, .blk qr3 (.cells #[.slice a l.length cap] 34)), (1, .blk B1 (.cells #[.slice a l.length cap] 34))]
    have hbd := scan_bound l.length 0 l (Nat.le_refl _) x (List.mem_of_getElem? hx1)
    have hcn := scan_cnt hp1
    refine T_block ?_
    refine T_seq (T_region ?_)
    refine TL_q (.slice n9.a n9.l.length n9.cap) (fun _ _ hρ hm => r_load ag71 (hρ _ _ rfl) (hm.at 2 rfl) rfl) rfl rfl rfl (w_n rfl) ?_
    refine TL_q (.int .i64 ((x.1 : Nat) : Int)) (fun _ _ hρ _ => r_move (hρ _ _ rfl)) rfl rfl rfl (w_n rfl) ?_
    refine TL_new 3 (.cells #[.int .i64 ((x.1 : Nat) : Int)] 3) (fun B => .slice (some ⟨B, 0, none⟩) 1 1) (fun _ _ hρ _ => r_buildSlice (vs := [(0, .int .i64 ((x.1 : Nat) : Int))]) (by kernel_rfl) (cons2 (pair2 (hρ _ _ rfl)) rfl)) rfl rfl rfl (w_n rfl) ?_
    intro B4
    refine TL_append (n := n9.l.length) (m := 1) (xs := (n9.l.flatMap nic)) (news := [.int .i64 ((x.1 : Nat) : Int)]) (z := .int .i64 0) 963 rfl rfl rfl sl71 sz3 by3 (by kernel_rfl) rfl rfl (.inl rfl) (fun _ hm => src_blk (news := [.int .i64 ((x.1 : Nat) : Int)]) (hm.at 3 rfl) rfl) (by simp [Value.oneCell']) (by omega) (by omega) rfl (w_n rfl) ?_
    intro a5 cap5
    refine TL_store 2 (.cells #[.slice a5 (n9.l.length + 1) cap5] 71) rfl (fun _ _ hρ hm => r_store sz71 (hρ _ _ rfl) (hρ _ _ rfl) (hm.at 2 rfl) rfl rfl rfl rfl) rfl rfl (w_n rfl) ?_
    refine TL_seq ?_
    refine T_seq (T_region ?_)
    refine TL_q (.int .i64 ((x.1 : Nat) : Int)) (fun _ _ hρ _ => r_move (hρ _ _ rfl)) rfl rfl rfl (w_n rfl) ?_
    refine TL_q (.slice a l.length cap) (fun _ _ hρ hm => r_load ag34 (hρ _ _ rfl) (hm.at 1 rfl) rfl) rfl rfl rfl (w_n rfl) ?_
    refine TL_q (.int .i64 ((l.length : Nat) : Int)) (fun _ _ hρ _ => r_len sl34 (hρ _ _ rfl)) rfl rfl rfl (w_n rfl) ?_
    refine TL_q (.bool false) (fun _ _ hρ _ => r_as (r_geq (hρ _ _ rfl) (hρ _ _ rfl)) (bool_as (decide_eq_false (by omega)))) rfl rfl rfl (w_n rfl) ?_
    refine TL_seq ?_
    refine T_cond_f rfl ?_
    refine T_skip' ?_
    refine p_blk_n ?_
    have hn6 : (n9.l.length + 1) = (n9.l ++ [x.1]).length := by simp
    have hx6 : ((n9.l.flatMap nic) ++ [.int .i64 ((x.1 : Nat) : Int)]) = (n9.l ++ [x.1]).flatMap nic := by simp [nic]
    rw [hx6, hn6]
    exact p_round_n ⟨a5, cap5, n9.l ++ [x.1]⟩ (place_step hp1 hx1) (sub_cons rfl (sub_cons rfl (sub_cons rfl (sub_cons rfl (sub_cons rfl (sub_cons rfl (sub_cons rfl sub_nil)))))))
  · intro D1 n9 hp1
    refine p_sub [(1, .pointer (some ⟨B1, 0, none⟩)), (2, .slice none 0 0), (3, .pointer (some ⟨B2, 0, none⟩)), (6, .func (.func 114) #[] #[.pointer (some ⟨qr3, 0, none⟩)])] [(801, .blk D1 (.deferred (some []))), (908, .blk qr3 (.cells #[.slice a l.length cap] 34)), (1, .blk B1 (.cells #[.slice a l.length cap] 34)), (2, .blk B2 (.cells #[.slice n9.a n9.l.length n9.cap] 71)), (963, .row (.slice n9.a n9.l.length n9.cap) 3 1 n9.l.length (n9.l.flatMap nic))] (sub_cons rfl (sub_cons rfl (sub_cons rfl (sub_cons rfl sub_nil)))) (sub_cons rfl (sub_cons rfl (sub_cons rfl (sub_cons rfl (sub_cons rfl sub_nil))))) ?_
    refine p_blk_n ?_
    refine p_seq ?_
    refine T_seq (T_region ?_)
    refine TL_q (.slice n9.a n9.l.length n9.cap) (fun _ _ hρ hm => r_load ag71 (hρ _ _ rfl) (hm.at 2 rfl) rfl) rfl rfl rfl (w_n rfl) ?_
    refine TL_q (.slice n9.a n9.l.length n9.cap) (fun _ _ hρ _ => r_assign (hρ _ _ rfl)) rfl rfl rfl (w_n rfl) ?_
    refine TL_seq ?_
    refine T_ret' ?_
    refine p_ng_r ?_
    refine ret_of1 801 D1 rfl rfl (.slice n9.a n9.l.length n9.cap) (fun tmps w hk hm => res1 rfl (res_tmp (hk 2 _ rfl))) (fun w hm => ?_)
    have hpl := scan_all hp1
    have hrow := hm.row 963 rfl
    obtain ⟨na, nc, nl⟩ := n9
    dsimp only at hpl hrow
    subst hpl
    exact ⟨na, nc, rfl, hm.ext, hrow⟩

theorem cut_c (l : List By) (a : Option Addr) (cap : Nat) (w : World) (hv : SliceAt w a cap 1 byc l) (hcap : cap ≤ Go.maxLen) (hl9 : l.length ≤ 1000000) : Calls Try.prog 50 #[.slice a l.length cap] w fun e w' => ∃ a' cap', e = .returned (.slice a' (l.take (sizeV l)).length cap') ∧ Below w.heap.size w w' ∧ w'.ownsRow w.heap.size 5 1 (.slice a' (l.take (sizeV l)).length cap') (l.take (sizeV l)).length ((l.take (sizeV l)).flatMap byc) := by
  have hvl := hv.1
  have hcp := hcap
  unfold Go.maxLen at hcp
  have hsz := size_le l
  refine calls_of_T (l := [.slice a l.length cap]) 14 Try.func50 rfl rfl rfl ?_
  show T _ _ _ [(0, .slice a l.length cap)] []
  refine T_seq (T_region ?_)
  refine TL_q (.slice none 0 0) (fun _ _ hρ _ => r_assign (hρ _ _ rfl)) rfl rfl rfl (w_n rfl) ?_
  refine TL_seq ?_
  refine T_seq (T_region ?_)
  refine TL_q (.slice a l.length cap) (fun _ _ hρ _ => r_move (hρ _ _ rfl)) rfl rfl rfl (w_n rfl) ?_
  refine TL_callN (fun ((na1, nc1, nl1) : Option Addr × Nat × List (RowG By)) => rls nl1 = heldsV l) (fun (na1, nc1, nl1) => .tuple #[.slice na1 nl1.length nc1, .int .i64 ((sizeV l : Nat) : Int)]) (fun (na1, nc1, nl1) => [(1, .row (.slice na1 nl1.length nc1) 34 1 nl1.length (nl1.flatMap RowG.cells)), (2, .pool 5 1 byc nl1)]) (fun _ _ hρ _ => r_call (args := [.slice a l.length cap]) (enters_of Try.func46 (by kernel_rfl) rfl) (hρ _ _ rfl) ((cons2 (hρ _ _ rfl) rfl)) rfl) (fun w hm => (scan_c l a cap w (hv.keep hm.ext) hcap (by omega)).mono fun e w' ⟨n, hf, he, hb, r1, r2, hs⟩ => ⟨(n.a, n.cap, n.l), hf, he, hb, newOk2 1 2 r1 r2 hs⟩) rfl rfl rfl (w_n rfl) ?_
  rintro ⟨na1, nc1, nl1⟩ hsc1
  refine TL_q (.tuple #[.slice na1 nl1.length nc1, .int .i64 ((sizeV l : Nat) : Int)]) (fun _ _ hρ _ => r_move (hρ _ _ rfl)) rfl rfl rfl (w_n rfl) ?_
  refine TL_q (.slice na1 nl1.length nc1) (fun _ _ hρ _ => r_extract (hρ _ _ rfl) rfl) rfl rfl rfl (w_n rfl) ?_
  refine TL_q (.int .i64 ((sizeV l : Nat) : Int)) (fun _ _ hρ _ => r_extract (hρ _ _ rfl) rfl) rfl rfl rfl (w_n rfl) ?_
  refine TL_q (.slice na1 nl1.length nc1) (fun _ _ hρ _ => r_assign (hρ _ _ rfl)) rfl rfl rfl (w_n rfl) ?_
  refine TL_q (.int .i64 ((sizeV l : Nat) : Int)) (fun _ _ hρ _ => r_assign (hρ _ _ rfl)) rfl rfl rfl (w_n rfl) ?_
  refine TL_seq ?_
  refine T_seq (T_region ?_)
  refine TL_q (.slice a l.length cap) (fun _ _ hρ _ => r_move (hρ _ _ rfl)) rfl rfl rfl (w_n rfl) ?_
  refine TL_q (.int .i64 ((sizeV l : Nat) : Int)) (fun _ _ hρ _ => r_move (hρ _ _ rfl)) rfl rfl rfl (w_n rfl) ?_
  obtain ⟨l2, hl2, hn2⟩ : ∃ lz, lz = l.take (sizeV l) ∧ lz.length = sizeV l := ⟨_, rfl, by rw [List.length_take]; omega⟩
  have hs2 := SliceAt.front hv (n := sizeV l) (m := cap) (by omega) (by omega) (by omega)
  rw [← hl2] at hs2
  refine TL_q (.slice a l2.length cap) (fun ρ _ hρ _ => r_as (r_sliceO sl34 sz5 (hρ _ _ rfl) (bd_none ρ _) (bd_some (n := sizeV l) (hρ _ _ rfl)) (bd_none ρ _) (by simp) (by omega) (by omega) (by omega)) (by rw [hn2]; exact slo_zero _ _ _ _)) rfl rfl rfl (w_n rfl) ?_
  refine TL_callN (fun (_ : Option Addr × Nat) => True) (fun (ar3, cr3) => .slice ar3 ((l2).length) cr3) (fun (ar3, cr3) => [(3, .row (.slice ar3 ((l2).length) cr3) 5 1 ((l2).length) ((l2).flatMap byc))]) (fun _ _ hρ _ => r_call (args := [.slice a l2.length cap]) (enters_of Try.func37 (by kernel_rfl) rfl) (hρ _ _ rfl) ((cons2 (hρ _ _ rfl) rfl)) rfl) (fun w hm => (clone_b byc byc_len byc_one l2 a cap w (hs2.keep hm.ext) (by omega)).mono fun e w' ⟨a', cap', he, hb, hr⟩ => ⟨(a', cap'), trivial, he, hb, newOk1 3 hr⟩) rfl rfl rfl (w_n rfl) ?_
  rintro ⟨ar3, cr3⟩ -
  refine TL_q (.slice ar3 ((l2).length) cr3) (fun _ _ hρ _ => r_assign (hρ _ _ rfl)) rfl rfl rfl (w_n rfl) ?_
  refine TL_seq ?_
  refine T_ret' ?_
  refine ret_of rfl (.slice ar3 ((l2).length) cr3) (fun tmps w hk hm => res1 rfl (res_tmp (hk 2 _ rfl))) (fun w hm => ?_)
  have hrow := hm.row 3 rfl
  rw [hl2] at hrow ⊢
  exact ⟨ar3, cr3, rfl, hm.ext, hrow⟩

theorem why_c (l : List By) (a : Option Addr) (cap : Nat) (w : World) (hv : SliceAt w a cap 1 byc l) (hcap : cap ≤ Go.maxLen) (hl9 : l.length ≤ 1000000) : Calls Try.prog 47 #[.slice a l.length cap] w fun e w' => e = .returned (.tuple #[.int .i64 (sizeV l : Int), .int .i64 (whyE l)]) ∧ Below w.heap.size w w' := by
  have hvl := hv.1
  have hcp := hcap
  unfold Go.maxLen at hcp
  have hsz := size_le l
  refine calls_of_T (l := [.slice a l.length cap]) 29 Try.func47 rfl rfl rfl ?_
  show T _ _ _ [(0, .slice a l.length cap)] []
  refine T_seq (T_region ?_)
  refine TL_q (.int .i64 0) (fun _ _ hρ _ => r_assign (hρ _ _ rfl)) rfl rfl rfl (w_n rfl) ?_
  refine TL_q (.int .i64 0) (fun _ _ hρ _ => r_assign (hρ _ _ rfl)) rfl rfl rfl (w_n rfl) ?_
  refine TL_seq ?_
  refine T_seq (T_region ?_)
  refine TL_q (.slice a l.length cap) (fun _ _ hρ _ => r_move (hρ _ _ rfl)) rfl rfl rfl (w_n rfl) ?_
  refine TL_callN (fun ((na1, nc1, nl1) : Option Addr × Nat × List (RowG By)) => rls nl1 = heldsV l) (fun (na1, nc1, nl1) => .tuple #[.slice na1 nl1.length nc1, .int .i64 ((sizeV l : Nat) : Int)]) (fun (na1, nc1, nl1) => [(1, .row (.slice na1 nl1.length nc1) 34 1 nl1.length (nl1.flatMap RowG.cells)), (2, .pool 5 1 byc nl1)]) (fun _ _ hρ _ => r_call (args := [.slice a l.length cap]) (enters_of Try.func46 (by kernel_rfl) rfl) (hρ _ _ rfl) ((cons2 (hρ _ _ rfl) rfl)) rfl) (fun w hm => (scan_c l a cap w (hv.keep hm.ext) hcap (by omega)).mono fun e w' ⟨n, hf, he, hb, r1, r2, hs⟩ => ⟨(n.a, n.cap, n.l), hf, he, hb, newOk2 1 2 r1 r2 hs⟩) rfl rfl rfl (w_n rfl) ?_
  rintro ⟨na1, nc1, nl1⟩ hsc1
  refine TL_q (.tuple #[.slice na1 nl1.length nc1, .int .i64 ((sizeV l : Nat) : Int)]) (fun _ _ hρ _ => r_move (hρ _ _ rfl)) rfl rfl rfl (w_n rfl) ?_
  refine TL_q (.slice na1 nl1.length nc1) (fun _ _ hρ _ => r_extract (hρ _ _ rfl) rfl) rfl rfl rfl (w_n rfl) ?_
  refine TL_q (.int .i64 ((sizeV l : Nat) : Int)) (fun _ _ hρ _ => r_extract (hρ _ _ rfl) rfl) rfl rfl rfl (w_n rfl) ?_
  refine TL_q (.slice na1 nl1.length nc1) (fun _ _ hρ _ => r_assign (hρ _ _ rfl)) rfl rfl rfl (w_n rfl) ?_
  refine TL_q (.int .i64 ((sizeV l : Nat) : Int)) (fun _ _ hρ _ => r_assign (hρ _ _ rfl)) rfl rfl rfl (w_n rfl) ?_
  refine TL_seq ?_
  refine T_seq ?_
  by_cases hse : ((sizeV l : Nat) : Int) = ((l.length : Nat) : Int)
  · skip
    refine T_seq (T_region ?_)
    refine TL_q (.int .i64 ((sizeV l : Nat) : Int)) (fun _ _ hρ _ => r_move (hρ _ _ rfl)) rfl rfl rfl (w_n rfl) ?_
    refine TL_q (.slice a l.length cap) (fun _ _ hρ _ => r_move (hρ _ _ rfl)) rfl rfl rfl (w_n rfl) ?_
    refine TL_q (.int .i64 ((l.length : Nat) : Int)) (fun _ _ hρ _ => r_len sl34 (hρ _ _ rfl)) rfl rfl rfl (w_n rfl) ?_
    refine TL_q (.bool true) (fun _ _ hρ _ => r_as (r_eql (hρ _ _ rfl) (hρ _ _ rfl)) (bool_as (decide_eq_true hse))) rfl rfl rfl (w_n rfl) ?_
    refine TL_seq ?_
    refine T_cond_t rfl ?_
    refine T_seq (T_region ?_)
    refine TL_q (.int .i64 ((sizeV l : Nat) : Int)) (fun _ _ hρ _ => r_move (hρ _ _ rfl)) rfl rfl rfl (w_n rfl) ?_
    refine TL_q (.int .i64 ((sizeV l : Nat) : Int)) (fun _ _ hρ _ => r_assign (hρ _ _ rfl)) rfl rfl rfl (w_n rfl) ?_
    refine TL_q (.int .i64 0) (fun _ _ hρ _ => r_assign (hρ _ _ rfl)) rfl rfl rfl (w_n rfl) ?_
    refine TL_seq ?_
    refine T_ret' ?_
    refine p_then_r ?_
    refine ret_of rfl (.tuple #[.int .i64 ((sizeV l : Nat) : Int), .int .i64 0]) (fun tmps w hk hm => res2 rfl (res_tmp (hk 2 _ rfl)) (res_tmp (hk 3 _ rfl))) (fun w hm => ?_)
    exact ⟨by rw [show whyE l = 0 from if_pos (by omega)], hm.ext⟩
  · skip
    refine T_seq (T_region ?_)
    refine TL_q (.int .i64 ((sizeV l : Nat) : Int)) (fun _ _ hρ _ => r_move (hρ _ _ rfl)) rfl rfl rfl (w_n rfl) ?_
    refine TL_q (.slice a l.length cap) (fun _ _ hρ _ => r_move (hρ _ _ rfl)) rfl rfl rfl (w_n rfl) ?_
    refine TL_q (.int .i64 ((l.length : Nat) : Int)) (fun _ _ hρ _ => r_len sl34 (hρ _ _ rfl)) rfl rfl rfl (w_n rfl) ?_
    refine TL_q (.bool false) (fun _ _ hρ _ => r_as (r_eql (hρ _ _ rfl) (hρ _ _ rfl)) (bool_as (decide_eq_false hse))) rfl rfl rfl (w_n rfl) ?_
    refine TL_seq ?_
    refine T_cond_f rfl ?_
    refine T_skip' ?_
    refine p_seq ?_
    refine T_seq (T_region ?_)
    refine TL_q (.slice a l.length cap) (fun _ _ hρ _ => r_move (hρ _ _ rfl)) rfl rfl rfl (w_n rfl) ?_
    refine TL_q (.int .i64 ((sizeV l : Nat) : Int)) (fun _ _ hρ _ => r_move (hρ _ _ rfl)) rfl rfl rfl (w_n rfl) ?_
    obtain ⟨l2, hl2, hn2⟩ : ∃ lz, lz = (l.drop (sizeV l)).take (l.length - (sizeV l)) ∧ lz.length = l.length - (sizeV l) := ⟨_, rfl, by rw [List.length_take, List.length_drop]; omega⟩
    obtain ⟨a2, ha2⟩ : ∃ az : Option Addr, az = (if cap = sizeV l then a else Option.map (·.add ((sizeV l) * 1)) a) := ⟨_, rfl⟩
    have hs2 := SliceAt.part hv (lo := sizeV l) (hi := l.length) (m := cap) (by omega) (by omega) (by omega) (by omega)
    rw [← hl2, ← ha2] at hs2
    refine TL_q (.slice a2 l2.length (cap - (sizeV l))) (fun ρ _ hρ _ => r_as (r_sliceO sl34 sz5 (hρ _ _ rfl) (bd_none ρ _) (bd_none ρ _) (bd_some (n := sizeV l) (hρ _ _ rfl)) (by simp) (by omega) (by omega) (by omega)) (by rw [hn2, ha2])) rfl rfl rfl (w_n rfl) ?_
    have er2 : l2 = l.drop (sizeV l) := by rw [hl2]; exact List.take_of_length_le (by rw [List.length_drop]; exact Nat.le_refl _)
    refine TL_callN (fun (_ : Option Addr × Nat) => True) (fun (ar3, cr3) => .tuple #[.slice ar3 (([] : List By).length) cr3, .int .i64 0, .int .i64 (firstE l2)]) (fun (ar3, cr3) => [(3, .row (.slice ar3 (([] : List By).length) cr3) 5 1 (([] : List By).length) (([] : List By).flatMap byc))]) (fun _ _ hρ _ => r_call (args := [.slice a2 l2.length (cap - (sizeV l))]) (enters_of Try.func52 (by kernel_rfl) rfl) (hρ _ _ rfl) ((cons2 (hρ _ _ rfl) rfl)) rfl) (fun w hm => (jfirst_p l2 a2 (cap - (sizeV l)) w (hs2.keep hm.ext) (by omega) (by rw [er2]; exact size_rest l)).mono fun e w' ⟨a', cap', he, hb, hr⟩ => ⟨(a', cap'), trivial, he, hb, newOk1 3 hr⟩) rfl rfl rfl (w_n rfl) ?_
    rintro ⟨ar3, cr3⟩ -
    refine TL_q (.tuple #[.slice ar3 (([] : List By).length) cr3, .int .i64 0, .int .i64 (firstE l2)]) (fun _ _ hρ _ => r_move (hρ _ _ rfl)) rfl rfl rfl (w_n rfl) ?_
    refine TL_q (.slice ar3 (([] : List By).length) cr3) (fun _ _ hρ _ => r_extract (hρ _ _ rfl) rfl) rfl rfl rfl (w_n rfl) ?_
    refine TL_q (.int .i64 0) (fun _ _ hρ _ => r_extract (hρ _ _ rfl) rfl) rfl rfl rfl (w_n rfl) ?_
    refine TL_q (.int .i64 (firstE l2)) (fun _ _ hρ _ => r_extract (hρ _ _ rfl) rfl) rfl rfl rfl (w_n rfl) ?_
    refine TL_q (.slice ar3 (([] : List By).length) cr3) (fun _ _ hρ _ => r_assign (hρ _ _ rfl)) rfl rfl rfl (w_n rfl) ?_
    refine TL_q (.int .i64 0) (fun _ _ hρ _ => r_assign (hρ _ _ rfl)) rfl rfl rfl (w_n rfl) ?_
    refine TL_q (.int .i64 (firstE l2)) (fun _ _ hρ _ => r_assign (hρ _ _ rfl)) rfl rfl rfl (w_n rfl) ?_
    refine TL_seq ?_
    refine T_seq (T_region ?_)
    refine TL_q (.int .i64 ((sizeV l : Nat) : Int)) (fun _ _ hρ _ => r_move (hρ _ _ rfl)) rfl rfl rfl (w_n rfl) ?_
    refine TL_q (.int .i64 (firstE l2)) (fun _ _ hρ _ => r_move (hρ _ _ rfl)) rfl rfl rfl (w_n rfl) ?_
    refine TL_q (.int .i64 ((sizeV l : Nat) : Int)) (fun _ _ hρ _ => r_assign (hρ _ _ rfl)) rfl rfl rfl (w_n rfl) ?_
    refine TL_q (.int .i64 (firstE l2)) (fun _ _ hρ _ => r_assign (hρ _ _ rfl)) rfl rfl rfl (w_n rfl) ?_
    refine TL_seq ?_
    refine T_ret' ?_
    refine ret_of rfl (.tuple #[.int .i64 ((sizeV l : Nat) : Int), .int .i64 (firstE l2)]) (fun tmps w hk hm => res2 rfl (res_tmp (hk 2 _ rfl)) (res_tmp (hk 3 _ rfl))) (fun w hm => ?_)
    exact ⟨by rw [show whyE l = firstE l2 by rw [er2]; exact if_neg (by omega)], hm.ext⟩

theorem app1_arg (T0 T1 : Nat) (l : List By) (a : Option Addr) (cap : Nat) (w : World) (hv : SliceAt w a cap 1 byc l) (hcap : cap ≤ Go.maxLen) (rs : List (RowG By)) (b : Option Addr) (capb : Nat) (hu : SliceAt w b capb 1 RowG.cells rs) (hcapb : capb ≤ Go.maxLen) (hx : RowsIn w rs) (hl9 : l.length ≤ 400000) (hn : rs.length ≤ 8) (h0 : hp w T0 = some (.cells #[.slice a l.length cap] 34)) (h1 : hp w T1 = some (.cells #[.slice b rs.length capb] 63)) (hwy : ¬ whyE l = 0) : Calls Try.prog 83 #[.pointer (some ⟨T0, 0, none⟩), .pointer (some ⟨T1, 0, none⟩)] w fun e w' => e = .panicked [{ v := .iface 28 (.int .i64 2), recovered := false }] ∧ Below w.heap.size w w' := by
  have hvl := hv.1
  have hcp := hcap
  unfold Go.maxLen at hcp
  refine calls_of_T (l := [.pointer (some ⟨T0, 0, none⟩), .pointer (some ⟨T1, 0, none⟩)]) 18 Try.func83 rfl rfl rfl ?_
  show T _ _ _ [(0, .pointer (some ⟨T0, 0, none⟩)), (1, .pointer (some ⟨T1, 0, none⟩))] []
  refine T_seq (T_region ?_)
  refine TL_q (.slice none 0 0) (fun _ _ hρ _ => r_assign (hρ _ _ rfl)) rfl rfl rfl (w_n rfl) ?_
  refine TL_seq ?_
  refine T_seq (T_region ?_)
  refine TL_q (.slice a l.length cap) (fun _ _ hρ hm => r_load ag34 (hρ _ _ rfl) (hm.old h0) rfl) rfl rfl rfl (w_n rfl) ?_
  refine TL_call (.tuple #[.int .i64 ((sizeV l : Nat) : Int), .int .i64 (whyE l)]) (fun _ _ hρ _ => r_call (args := [.slice a l.length cap]) (enters_of Try.func47 (by kernel_rfl) rfl) (hρ _ _ rfl) ((cons2 (hρ _ _ rfl) rfl)) rfl) (fun w hm => why_c l a cap w (hv.keep hm.ext) hcap (by omega)) rfl rfl rfl (w_n rfl) ?_
  refine TL_q (.tuple #[.int .i64 ((sizeV l : Nat) : Int), .int .i64 (whyE l)]) (fun _ _ hρ _ => r_move (hρ _ _ rfl)) rfl rfl rfl (w_n rfl) ?_
  refine TL_q (.int .i64 ((sizeV l : Nat) : Int)) (fun _ _ hρ _ => r_extract (hρ _ _ rfl) rfl) rfl rfl rfl (w_n rfl) ?_
  refine TL_q (.int .i64 (whyE l)) (fun _ _ hρ _ => r_extract (hρ _ _ rfl) rfl) rfl rfl rfl (w_n rfl) ?_
  refine TL_q (.int .i64 ((sizeV l : Nat) : Int)) (fun _ _ hρ _ => r_assign (hρ _ _ rfl)) rfl rfl rfl (w_n rfl) ?_
  refine TL_q (.int .i64 (whyE l)) (fun _ _ hρ _ => r_assign (hρ _ _ rfl)) rfl rfl rfl (w_n rfl) ?_
  refine TL_seq ?_
  refine T_seq (T_region ?_)
  refine TL_q (.int .i64 (whyE l)) (fun _ _ hρ _ => r_move (hρ _ _ rfl)) rfl rfl rfl (w_n rfl) ?_
  refine TL_q (.bool false) (fun _ _ hρ _ => r_as (r_eql (hρ _ _ rfl) (hρ _ _ rfl)) (bool_as (decide_eq_false hwy))) rfl rfl rfl (w_n rfl) ?_
  refine TL_callQ (v := .iface 28 (.int .i64 2)) (fun _ _ hρ _ => r_call (args := [.bool false, .int .i64 2]) (enters_of Try.func84 (by kernel_rfl) rfl) (hρ _ _ rfl) ((cons2 (hρ _ _ rfl) (cons2 (hρ _ _ rfl) rfl))) rfl) (fun w _ => need_no_jrn 2 w) rfl (w_n rfl) ?_
  refine p_then_p ?_
  refine p_pan rfl (fun w hm => ?_)
  exact ⟨rfl, hm.ext⟩

theorem app_arg (l : List By) (a : Option Addr) (cap : Nat) (w : World) (hv : SliceAt w a cap 1 byc l) (hcap : cap ≤ Go.maxLen) (rs : List (RowG By)) (b : Option Addr) (capb : Nat) (hu : SliceAt w b capb 1 RowG.cells rs) (hcapb : capb ≤ Go.maxLen) (hx : RowsIn w rs) (hl9 : l.length ≤ 400000) (hn : rs.length ≤ 8) (hwy : ¬ whyE l = 0) : Calls Try.prog 43 #[.slice a l.length cap, .slice b rs.length capb] w fun e w' => e = .returned (.tuple #[.slice none 0 0, .int .i64 2]) ∧ Below w.heap.size w w' := by
  refine calls_of_T (l := [.slice a l.length cap, .slice b rs.length capb]) 10 Try.func43 rfl rfl rfl ?_
  show T _ _ _ [(0, .slice a l.length cap), (1, .slice b rs.length capb)] []
  refine T_seq (T_region ?_)
  refine TL_new 1 (.cells #[.slice a l.length cap] 34) (fun B => .pointer (some ⟨B, 0, none⟩)) (fun _ _ hρ _ => r_box (hρ _ _ rfl) rfl) rfl rfl rfl (w_n rfl) ?_
  intro B1
  refine TL_new 2 (.cells #[.slice b rs.length capb] 63) (fun B => .pointer (some ⟨B, 0, none⟩)) (fun _ _ hρ _ => r_box (hρ _ _ rfl) rfl) rfl rfl rfl (w_n rfl) ?_
  intro B2
  refine TL_q (.slice none 0 0) (fun _ _ hρ _ => r_assign (hρ _ _ rfl)) rfl rfl rfl (w_n rfl) ?_
  refine TL_q (.int .i64 0) (fun _ _ hρ _ => r_assign (hρ _ _ rfl)) rfl rfl rfl (w_n rfl) ?_
  refine TL_seq ?_
  refine T_seq (T_region ?_)
  refine TL_q (.func (.func 83) #[] #[.pointer (some ⟨B1, 0, none⟩), .pointer (some ⟨B2, 0, none⟩)]) (fun _ _ hρ _ => r_makeFunc (by simp) (map_arr (cons2 (hρ _ _ rfl) (cons2 (hρ _ _ rfl) rfl)))) rfl rfl rfl (w_n rfl) ?_
  refine TL_call (.tuple #[.slice none 0 0, .int .i64 2]) (fun _ _ hρ _ => r_call (args := [.func (.func 83) #[] #[.pointer (some ⟨B1, 0, none⟩), .pointer (some ⟨B2, 0, none⟩)]]) (enters_of Try.func76 (by kernel_rfl) rfl) (hρ _ _ rfl) ((cons2 (hρ _ _ rfl) rfl)) rfl) (fun w hm => trJW_no 83 #[.pointer (some ⟨B1, 0, none⟩), .pointer (some ⟨B2, 0, none⟩)] 2 w (enters_of Try.func83 (by kernel_rfl) rfl) (fun w2 hb2 => app1_arg B1 B2 l a cap w2 (hv.keep (hm.ext.trans (hb2.mono hm.ext.size))) hcap rs b capb (hu.keep (hm.ext.trans (hb2.mono hm.ext.size))) hcapb (hx.keep (hm.ext.trans (hb2.mono hm.ext.size))) hl9 hn (kept hb2 (hm.at 1 rfl)) (kept hb2 (hm.at 2 rfl)) hwy)) rfl rfl rfl (w_n rfl) ?_
  refine TL_q (.slice none 0 0) (fun _ _ hρ _ => r_extract (hρ _ _ rfl) rfl) rfl rfl rfl (w_n rfl) ?_
  refine TL_q (.int .i64 2) (fun _ _ hρ _ => r_extract (hρ _ _ rfl) rfl) rfl rfl rfl (w_n rfl) ?_
  refine TL_q (.slice none 0 0) (fun _ _ hρ _ => r_assign (hρ _ _ rfl)) rfl rfl rfl (w_n rfl) ?_
  refine TL_q (.int .i64 2) (fun _ _ hρ _ => r_assign (hρ _ _ rfl)) rfl rfl rfl (w_n rfl) ?_
  refine TL_seq ?_
  refine T_ret' ?_
  refine ret_of rfl (.tuple #[.slice none 0 0, .int .i64 2]) (fun tmps w hk hm => res2 rfl (res_tmp (hk 4 _ rfl)) (res_tmp (hk 5 _ rfl))) (fun w hm => ?_)
  exact ⟨rfl, hm.ext⟩

end Go.Proofs.Ytcidgbjgeegepaa
/- journal: rows of bytes to be read, many of them. -/
namespace Go.Proofs.Ytcidgbjgeegepaa
open Go Go.RowKit
def rowK : ShK (RowG By) where
  foot := fun r => slF r.a r.l
  At := fun w r => SliceAt w r.a r.cap 1 byc r.l ∧ r.cap ≤ Go.maxLen
  keep := fun h hb => ⟨h.1.keepF hb, h.2⟩
  low := fun h hb => h.1.lowF hb
abbrev Res.rows (l : List (RowG By)) : Res := .shelf rowK l
end Go.Proofs.Ytcidgbjgeegepaa
