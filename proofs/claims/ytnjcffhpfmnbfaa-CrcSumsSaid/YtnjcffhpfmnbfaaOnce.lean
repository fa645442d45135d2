/- crc: sync.Once and what it asks. Printed by a program of this seat's prover. -/
import Derived.Test.YtnjcffhpfmnbfaaSync
namespace Go.Proofs.Ytnjcffhpfmnbfaa
open Go Go.RowKit
set_option maxRecDepth 10000
abbrev tbZ : Array Value := #[.int .u32 0, .int .i32 0, .int .u32 0, .int .u32 0, .int .u32 0, .int .u32 0, .int .u32 0, .int .u32 0, .int .u32 0, .int .u32 0, .int .u32 0, .int .u32 0, .int .u32 0, .int .u32 0, .int .u32 0, .int .u32 0, .int .u32 0, .int .u32 0, .int .u32 0]
abbrev tbL : Array Value := #[.int .u32 0, .int .i32 1, .int .u32 0, .int .u32 0, .int .u32 0, .int .u32 0, .int .u32 0, .int .u32 0, .int .u32 0, .int .u32 0, .int .u32 0, .int .u32 0, .int .u32 0, .int .u32 0, .int .u32 0, .int .u32 0, .int .u32 0, .int .u32 0, .int .u32 0]
abbrev tbF : Array Value := #[.int .u32 0, .int .i32 1, .int .u32 0, .int .u32 0, .int .u32 498536548, .int .u32 997073096, .int .u32 651767980, .int .u32 1994146192, .int .u32 1802195444, .int .u32 1303535960, .int .u32 1342533948, .int .u32 3988292384, .int .u32 4027552580, .int .u32 3604390888, .int .u32 3412177804, .int .u32 2607071920, .int .u32 2262029012, .int .u32 2685067896, .int .u32 3183342108]
abbrev tbD : Array Value := #[.int .u32 1, .int .i32 1, .int .u32 0, .int .u32 0, .int .u32 498536548, .int .u32 997073096, .int .u32 651767980, .int .u32 1994146192, .int .u32 1802195444, .int .u32 1303535960, .int .u32 1342533948, .int .u32 3988292384, .int .u32 4027552580, .int .u32 3604390888, .int .u32 3412177804, .int .u32 2607071920, .int .u32 2262029012, .int .u32 2685067896, .int .u32 3183342108]
abbrev tbE : Array Value := #[.int .u32 1, .int .i32 0, .int .u32 0, .int .u32 0, .int .u32 498536548, .int .u32 997073096, .int .u32 651767980, .int .u32 1994146192, .int .u32 1802195444, .int .u32 1303535960, .int .u32 1342533948, .int .u32 3988292384, .int .u32 4027552580, .int .u32 3604390888, .int .u32 3412177804, .int .u32 2607071920, .int .u32 2262029012, .int .u32 2685067896, .int .u32 3183342108]

theorem lock2_ht (w₀ : World) (L : Heap) (B : Nat) (hi : lk L 900 = some (.blk B (.cells tbZ 74))) : ∀ w, MemOk w₀ L w → Calls Try.prog 50 #[.pointer (some ⟨B, 1, none⟩)] w (HAns w₀ (fun _ : Unit => True) (fun _ => .tuple #[]) (fun _ => (900, .blk B (.cells tbL 74)) :: L)) := by
  refine ht_of_T (l := [.pointer (some ⟨B, 1, none⟩)]) (L := L) 13 Try.func50 rfl rfl rfl ?_
  refine T_mem ((900, .blk B (.cells #[.int .u32 0, .int .i32 0, .int .u32 0, .int .u32 0, .int .u32 0, .int .u32 0, .int .u32 0, .int .u32 0, .int .u32 0, .int .u32 0, .int .u32 0, .int .u32 0, .int .u32 0, .int .u32 0, .int .u32 0, .int .u32 0, .int .u32 0, .int .u32 0, .int .u32 0] 74)) :: L) (fun _ hm => hm.of (lk_dup hi)) ?_
  show T _ _ _ [(0, .pointer (some ⟨B, 1, none⟩))] ((900, .blk B (.cells #[.int .u32 0, .int .i32 0, .int .u32 0, .int .u32 0, .int .u32 0, .int .u32 0, .int .u32 0, .int .u32 0, .int .u32 0, .int .u32 0, .int .u32 0, .int .u32 0, .int .u32 0, .int .u32 0, .int .u32 0, .int .u32 0, .int .u32 0, .int .u32 0, .int .u32 0] 74)) :: L)
  refine T_seq (T_region ?_)
  refine TL_q (.tuple #[]) (fun _ w hρ _ => r_callE (args := []) (hρ _ _ rfl) (by rfl) rfl (run_call_mark0 Try.func54 (by kernel_rfl) (by kernel_rfl) (by kernel_rfl) .disable (by kernel_rfl) w)) rfl rfl rfl (w_n rfl) ?_
  refine TL_seq ?_
  refine T_seq ?_
  refine T_seq (T_region ?_)
  refine TL_q (.pointer (some ⟨B, 1, none⟩)) (fun _ _ hρ _ => r_move (hρ _ _ rfl)) rfl rfl rfl (w_n rfl) ?_
  refine TL_q (.pointer (some ⟨B, 1, none⟩)) (fun _ _ hρ _ => r_nilCheck (hρ _ _ rfl) rfl) rfl rfl rfl (w_n rfl) ?_
  refine TL_q (.pointer (some ⟨B, 1, none⟩)) (fun _ _ hρ _ => r_fieldAddr fl67_0 sz21 (hρ _ _ rfl)) rfl rfl rfl (w_n rfl) ?_
  refine TL_upd 900 (.bool true) (.cells #[.int .u32 0, .int .i32 1, .int .u32 0, .int .u32 0, .int .u32 0, .int .u32 0, .int .u32 0, .int .u32 0, .int .u32 0, .int .u32 0, .int .u32 0, .int .u32 0, .int .u32 0, .int .u32 0, .int .u32 0, .int .u32 0, .int .u32 0, .int .u32 0, .int .u32 0] 74) rfl (fun _ _ hρ hm => ⟨_, r_callE (args := [.pointer (some ⟨B, 1, none⟩), .int .i32 0, .int .i32 1]) (hρ _ _ rfl) ((cons2 (hρ _ _ rfl) (cons2 (hρ _ _ rfl) (cons2 (hρ _ _ rfl) rfl)))) rfl (run_call_cas_hit Try.func55 (by kernel_rfl) (by kernel_rfl) (by kernel_rfl) .i32 (by kernel_rfl) (cell_of (hm.at 900 rfl) rfl) (free_of (hm.at 900 rfl))), Upd.setCell (off := 1) (hm.at 900 rfl) _⟩) rfl rfl rfl (w_n rfl) ?_
  refine TL_seq ?_
  refine T_cond_t rfl ?_
  refine T_seq ?_
  refine T_cond_t rfl ?_
  refine T_seq (T_region ?_)
  refine TL_q (.tuple #[]) (fun _ w hρ _ => r_callE (args := []) (hρ _ _ rfl) (by rfl) rfl (run_call_mark0 Try.func56 (by kernel_rfl) (by kernel_rfl) (by kernel_rfl) .enable (by kernel_rfl) w)) rfl rfl rfl (w_n rfl) ?_
  refine TL_seq ?_
  refine T_region ?_
  refine TL_q (.pointer (some ⟨B, 1, none⟩)) (fun _ _ hρ _ => r_move (hρ _ _ rfl)) rfl rfl rfl (w_n rfl) ?_
  refine TL_q (.pointer (some ⟨B, 1, none⟩)) (fun _ _ hρ hm => r_toUnsafe (P := Try.prog) (t := 67) (by kernel_rfl) (by kernel_rfl) (by kernel_rfl) (hρ _ _ rfl) (cell_of (hm.at 900 rfl) rfl)) rfl rfl rfl (w_n rfl) ?_
  refine TL_q (.tuple #[]) (fun _ w hρ _ => r_callE (args := [.pointer (some ⟨B, 1, none⟩)]) (hρ _ _ rfl) ((cons2 (hρ _ _ rfl) rfl)) rfl (run_call_marked Try.func57 (by kernel_rfl) (by kernel_rfl) (by kernel_rfl) .acquire (by kernel_rfl) ⟨B, 1, none⟩ w)) rfl rfl rfl (w_n rfl) ?_
  refine TL_nil ?_
  refine p_seq ?_
  refine T_ret' ?_
  refine p_then_r ?_
  refine ret_of rfl (.tuple #[]) (fun tmps w hk hm => results_none rfl _ _ _) (fun w hm => ?_)
  exact ⟨(), trivial, rfl, hm.of lk_shadow⟩

theorem lock_ht (w₀ : World) (L : Heap) (B : Nat) (hi : lk L 900 = some (.blk B (.cells tbZ 74))) : ∀ w, MemOk w₀ L w → Calls Try.prog 47 #[.pointer (some ⟨B, 1, none⟩)] w (HAns w₀ (fun _ : Unit => True) (fun _ => .tuple #[]) (fun _ => (900, .blk B (.cells tbL 74)) :: L)) := by
  refine ht_of_T (l := [.pointer (some ⟨B, 1, none⟩)]) (L := L) 6 Try.func47 rfl rfl rfl ?_
  refine T_mem ((900, .blk B (.cells #[.int .u32 0, .int .i32 0, .int .u32 0, .int .u32 0, .int .u32 0, .int .u32 0, .int .u32 0, .int .u32 0, .int .u32 0, .int .u32 0, .int .u32 0, .int .u32 0, .int .u32 0, .int .u32 0, .int .u32 0, .int .u32 0, .int .u32 0, .int .u32 0, .int .u32 0] 74)) :: L) (fun _ hm => hm.of (lk_dup hi)) ?_
  show T _ _ _ [(0, .pointer (some ⟨B, 1, none⟩))] ((900, .blk B (.cells #[.int .u32 0, .int .i32 0, .int .u32 0, .int .u32 0, .int .u32 0, .int .u32 0, .int .u32 0, .int .u32 0, .int .u32 0, .int .u32 0, .int .u32 0, .int .u32 0, .int .u32 0, .int .u32 0, .int .u32 0, .int .u32 0, .int .u32 0, .int .u32 0, .int .u32 0] 74)) :: L)
  refine T_region ?_
  refine TL_q (.pointer (some ⟨B, 1, none⟩)) (fun _ _ hρ _ => r_move (hρ _ _ rfl)) rfl rfl rfl (w_n rfl) ?_
  refine TL_q (.pointer (some ⟨B, 1, none⟩)) (fun _ _ hρ _ => r_nilCheck (hρ _ _ rfl) rfl) rfl rfl rfl (w_n rfl) ?_
  refine TL_q (.pointer (some ⟨B, 1, none⟩)) (fun _ _ hρ _ => r_fieldAddr fl69_1 sz67 (hρ _ _ rfl)) rfl rfl rfl (w_n rfl) ?_
  refine TL_callH _ _ _ (fun _ _ hρ _ => r_call (args := [.pointer (some ⟨B, 1, none⟩)]) (enters_of Try.func50 (by kernel_rfl) rfl) (hρ _ _ rfl) ((cons2 (hρ _ _ rfl) rfl)) rfl) (fun w hm => lock2_ht _ _ B rfl w hm) rfl rfl rfl (w_n rfl) ?_
  intro _ _
  refine TL_nil ?_
  refine p_end ?_
  refine ret_of rfl (.tuple #[]) (fun tmps w hk hm => results_none rfl _ _ _) (fun w hm => ?_)
  exact ⟨(), trivial, rfl, hm.of lk_shadow⟩

theorem unlock2_ht (w₀ : World) (L : Heap) (B : Nat) (hi : lk L 900 = some (.blk B (.cells tbD 74))) : ∀ w, MemOk w₀ L w → Calls Try.prog 51 #[.pointer (some ⟨B, 1, none⟩)] w (HAns w₀ (fun _ : Unit => True) (fun _ => .tuple #[]) (fun _ => (900, .blk B (.cells tbE 74)) :: L)) := by
  refine ht_of_T (l := [.pointer (some ⟨B, 1, none⟩)]) (L := L) 21 Try.func51 rfl rfl rfl ?_
  refine T_mem ((900, .blk B (.cells #[.int .u32 1, .int .i32 1, .int .u32 0, .int .u32 0, .int .u32 498536548, .int .u32 997073096, .int .u32 651767980, .int .u32 1994146192, .int .u32 1802195444, .int .u32 1303535960, .int .u32 1342533948, .int .u32 3988292384, .int .u32 4027552580, .int .u32 3604390888, .int .u32 3412177804, .int .u32 2607071920, .int .u32 2262029012, .int .u32 2685067896, .int .u32 3183342108] 74)) :: L) (fun _ hm => hm.of (lk_dup hi)) ?_
  show T _ _ _ [(0, .pointer (some ⟨B, 1, none⟩))] ((900, .blk B (.cells #[.int .u32 1, .int .i32 1, .int .u32 0, .int .u32 0, .int .u32 498536548, .int .u32 997073096, .int .u32 651767980, .int .u32 1994146192, .int .u32 1802195444, .int .u32 1303535960, .int .u32 1342533948, .int .u32 3988292384, .int .u32 4027552580, .int .u32 3604390888, .int .u32 3412177804, .int .u32 2607071920, .int .u32 2262029012, .int .u32 2685067896, .int .u32 3183342108] 74)) :: L)
  refine T_seq ?_
  refine T_cond_t rfl ?_
  refine T_seq (T_region ?_)
  refine TL_q (.pointer (some ⟨B, 1, none⟩)) (fun _ _ hρ _ => r_move (hρ _ _ rfl)) rfl rfl rfl (w_n rfl) ?_
  refine TL_q (.pointer (some ⟨B, 1, none⟩)) (fun _ _ hρ _ => r_nilCheck (hρ _ _ rfl) rfl) rfl rfl rfl (w_n rfl) ?_
  refine TL_q (.pointer (some ⟨B, 1, none⟩)) (fun _ _ hρ _ => r_fieldAddr fl67_0 sz21 (hρ _ _ rfl)) rfl rfl rfl (w_n rfl) ?_
  refine TL_q (.int .i32 1) (fun _ _ hρ hm => r_load ag21 (hρ _ _ rfl) (hm.at 900 rfl) rfl) rfl rfl rfl (w_n rfl) ?_
  refine TL_seq ?_
  refine T_seq (T_region ?_)
  refine TL_q (.pointer (some ⟨B, 1, none⟩)) (fun _ _ hρ _ => r_move (hρ _ _ rfl)) rfl rfl rfl (w_n rfl) ?_
  refine TL_q (.pointer (some ⟨B, 1, none⟩)) (fun _ _ hρ hm => r_toUnsafe (P := Try.prog) (t := 67) (by kernel_rfl) (by kernel_rfl) (by kernel_rfl) (hρ _ _ rfl) (cell_of (hm.at 900 rfl) rfl)) rfl rfl rfl (w_n rfl) ?_
  refine TL_q (.tuple #[]) (fun _ w hρ _ => r_callE (args := [.pointer (some ⟨B, 1, none⟩)]) (hρ _ _ rfl) ((cons2 (hρ _ _ rfl) rfl)) rfl (run_call_marked Try.func59 (by kernel_rfl) (by kernel_rfl) (by kernel_rfl) .releaseMerge (by kernel_rfl) ⟨B, 1, none⟩ w)) rfl rfl rfl (w_n rfl) ?_
  refine TL_seq ?_
  refine T_region ?_
  refine TL_q (.tuple #[]) (fun _ w hρ _ => r_callE (args := []) (hρ _ _ rfl) (by rfl) rfl (run_call_mark0 Try.func54 (by kernel_rfl) (by kernel_rfl) (by kernel_rfl) .disable (by kernel_rfl) w)) rfl rfl rfl (w_n rfl) ?_
  refine TL_nil ?_
  refine p_seq ?_
  refine T_seq (T_region ?_)
  refine TL_q (.pointer (some ⟨B, 1, none⟩)) (fun _ _ hρ _ => r_move (hρ _ _ rfl)) rfl rfl rfl (w_n rfl) ?_
  refine TL_q (.pointer (some ⟨B, 1, none⟩)) (fun _ _ hρ _ => r_nilCheck (hρ _ _ rfl) rfl) rfl rfl rfl (w_n rfl) ?_
  refine TL_q (.pointer (some ⟨B, 1, none⟩)) (fun _ _ hρ _ => r_fieldAddr fl67_0 sz21 (hρ _ _ rfl)) rfl rfl rfl (w_n rfl) ?_
  refine TL_upd 900 (.int .i32 0) (.cells #[.int .u32 1, .int .i32 0, .int .u32 0, .int .u32 0, .int .u32 498536548, .int .u32 997073096, .int .u32 651767980, .int .u32 1994146192, .int .u32 1802195444, .int .u32 1303535960, .int .u32 1342533948, .int .u32 3988292384, .int .u32 4027552580, .int .u32 3604390888, .int .u32 3412177804, .int .u32 2607071920, .int .u32 2262029012, .int .u32 2685067896, .int .u32 3183342108] 74) rfl (fun _ _ hρ hm => ⟨_, r_callE (args := [.pointer (some ⟨B, 1, none⟩), .int .i32 (-1)]) (hρ _ _ rfl) ((cons2 (hρ _ _ rfl) (cons2 (hρ _ _ rfl) rfl))) rfl (run_call_add Try.func60 (by kernel_rfl) (by kernel_rfl) (by kernel_rfl) .i32 (by kernel_rfl) (s := 0) (cell_of (hm.at 900 rfl) rfl) (free_of (hm.at 900 rfl)) (by kernel_rfl)), Upd.setCell (off := 1) (hm.at 900 rfl) _⟩) rfl rfl rfl (w_n rfl) ?_
  refine TL_q (.int .i32 0) (fun _ _ hρ _ => r_assign (hρ _ _ rfl)) rfl rfl rfl (w_n rfl) ?_
  refine TL_seq ?_
  refine T_seq ?_
  refine T_seq (T_region ?_)
  refine TL_q (.int .i32 0) (fun _ _ hρ _ => r_move (hρ _ _ rfl)) rfl rfl rfl (w_n rfl) ?_
  refine TL_q (.bool false) (fun _ _ hρ _ => r_as (r_neq (hρ _ _ rfl) (hρ _ _ rfl)) (by rfl)) rfl rfl rfl (w_n rfl) ?_
  refine TL_seq ?_
  refine T_cond_f rfl ?_
  refine T_skip' ?_
  refine p_seq ?_
  refine T_region ?_
  refine TL_q (.tuple #[]) (fun _ w hρ _ => r_callE (args := []) (hρ _ _ rfl) (by rfl) rfl (run_call_mark0 Try.func56 (by kernel_rfl) (by kernel_rfl) (by kernel_rfl) .enable (by kernel_rfl) w)) rfl rfl rfl (w_n rfl) ?_
  refine TL_nil ?_
  refine p_end ?_
  refine ret_of rfl (.tuple #[]) (fun tmps w hk hm => results_none rfl _ _ _) (fun w hm => ?_)
  exact ⟨(), trivial, rfl, hm.of lk_shadow⟩

theorem unlock_d (w₀ : World) (L : Heap) (B : Nat) (hi : lk L 900 = some (.blk B (.cells tbD 74))) : ∀ w, MemOk w₀ L w → CallsD Try.prog 48 #[.pointer (some ⟨B, 1, none⟩)] .returning w (fun e u' w' => u' = .returning ∧ (e = .returned (.tuple #[]) ∧ MemOk w₀ ((900, .blk B (.cells tbE 74)) :: L) w')) := by
  refine d_of_T (l := [.pointer (some ⟨B, 1, none⟩)]) (L := L) 6 Try.func48 rfl rfl rfl ?_
  refine T_mem ((900, .blk B (.cells #[.int .u32 1, .int .i32 1, .int .u32 0, .int .u32 0, .int .u32 498536548, .int .u32 997073096, .int .u32 651767980, .int .u32 1994146192, .int .u32 1802195444, .int .u32 1303535960, .int .u32 1342533948, .int .u32 3988292384, .int .u32 4027552580, .int .u32 3604390888, .int .u32 3412177804, .int .u32 2607071920, .int .u32 2262029012, .int .u32 2685067896, .int .u32 3183342108] 74)) :: L) (fun _ hm => hm.of (lk_dup hi)) ?_
  show T _ _ _ [(0, .pointer (some ⟨B, 1, none⟩))] ((900, .blk B (.cells #[.int .u32 1, .int .i32 1, .int .u32 0, .int .u32 0, .int .u32 498536548, .int .u32 997073096, .int .u32 651767980, .int .u32 1994146192, .int .u32 1802195444, .int .u32 1303535960, .int .u32 1342533948, .int .u32 3988292384, .int .u32 4027552580, .int .u32 3604390888, .int .u32 3412177804, .int .u32 2607071920, .int .u32 2262029012, .int .u32 2685067896, .int .u32 3183342108] 74)) :: L)
  refine T_region ?_
  refine TL_q (.pointer (some ⟨B, 1, none⟩)) (fun _ _ hρ _ => r_move (hρ _ _ rfl)) rfl rfl rfl (w_n rfl) ?_
  refine TL_q (.pointer (some ⟨B, 1, none⟩)) (fun _ _ hρ _ => r_nilCheck (hρ _ _ rfl) rfl) rfl rfl rfl (w_n rfl) ?_
  refine TL_q (.pointer (some ⟨B, 1, none⟩)) (fun _ _ hρ _ => r_fieldAddr fl69_1 sz67 (hρ _ _ rfl)) rfl rfl rfl (w_n rfl) ?_
  refine TL_callH _ _ _ (fun _ _ hρ _ => r_call (args := [.pointer (some ⟨B, 1, none⟩)]) (enters_of Try.func51 (by kernel_rfl) rfl) (hρ _ _ rfl) ((cons2 (hρ _ _ rfl) rfl)) rfl) (fun w hm => unlock2_ht _ _ B rfl w hm) rfl rfl rfl (w_n rfl) ?_
  intro _ _
  refine TL_nil ?_
  refine p_endP ?_
  refine ret_ofP rfl (.tuple #[]) (fun tmps w hk hm => results_none rfl _ _ _) (fun w hm => ?_)
  exact ⟨rfl, hm.of lk_shadow⟩

theorem b32_c (w : World) : Calls Try.prog 53 #[.bool true] w fun e w' => e = .returned (.int .u32 1) ∧ Below w.heap.size w w' := by
  refine calls_of_T (l := [.bool true]) 4 Try.func53 rfl rfl rfl ?_
  show T _ _ _ [(0, .bool true)] []
  refine T_seq (T_region ?_)
  refine TL_q (.int .u32 0) (fun _ _ hρ _ => r_assign (hρ _ _ rfl)) rfl rfl rfl (w_n rfl) ?_
  refine TL_seq ?_
  refine T_seq ?_
  refine T_seq (T_region ?_)
  refine TL_q (.bool true) (fun _ _ hρ _ => r_move (hρ _ _ rfl)) rfl rfl rfl (w_n rfl) ?_
  refine TL_seq ?_
  refine T_cond_t rfl ?_
  refine T_seq (T_region ?_)
  refine TL_q (.int .u32 1) (fun _ _ hρ _ => r_assign (hρ _ _ rfl)) rfl rfl rfl (w_n rfl) ?_
  refine TL_seq ?_
  refine T_ret' ?_
  refine p_then_r ?_
  refine ret_of rfl (.int .u32 1) (fun tmps w hk hm => res1 rfl (res_tmp (hk 2 _ rfl))) (fun w hm => ?_)
  exact ⟨rfl, hm.ext⟩

theorem store_d (w₀ : World) (L : Heap) (B : Nat) (hi : lk L 900 = some (.blk B (.cells tbF 74))) : ∀ w, MemOk w₀ L w → CallsD Try.prog 49 #[.pointer (some ⟨B, 0, none⟩), .bool true] .returning w (fun e u' w' => u' = .returning ∧ (e = .returned (.tuple #[]) ∧ MemOk w₀ ((900, .blk B (.cells tbD 74)) :: L) w')) := by
  refine d_of_T (l := [.pointer (some ⟨B, 0, none⟩), .bool true]) (L := L) 10 Try.func49 rfl rfl rfl ?_
  refine T_mem ((900, .blk B (.cells #[.int .u32 0, .int .i32 1, .int .u32 0, .int .u32 0, .int .u32 498536548, .int .u32 997073096, .int .u32 651767980, .int .u32 1994146192, .int .u32 1802195444, .int .u32 1303535960, .int .u32 1342533948, .int .u32 3988292384, .int .u32 4027552580, .int .u32 3604390888, .int .u32 3412177804, .int .u32 2607071920, .int .u32 2262029012, .int .u32 2685067896, .int .u32 3183342108] 74)) :: L) (fun _ hm => hm.of (lk_dup hi)) ?_
  show T _ _ _ [(0, .pointer (some ⟨B, 0, none⟩)), (1, .bool true)] ((900, .blk B (.cells #[.int .u32 0, .int .i32 1, .int .u32 0, .int .u32 0, .int .u32 498536548, .int .u32 997073096, .int .u32 651767980, .int .u32 1994146192, .int .u32 1802195444, .int .u32 1303535960, .int .u32 1342533948, .int .u32 3988292384, .int .u32 4027552580, .int .u32 3604390888, .int .u32 3412177804, .int .u32 2607071920, .int .u32 2262029012, .int .u32 2685067896, .int .u32 3183342108] 74)) :: L)
  refine T_draw (V := [(0, .pointer (some ⟨B, 0, none⟩)), (1, .pointer (some ⟨B, 0, none⟩)), (2, .pointer (some ⟨B, 0, none⟩)), (3, .bool true)]) [0, 1, 3, 0, 8, 31] [[(0, none)], [(4, some 0)], [(5, some 1)], [(1, none)], [(7, some 3)], [(6, some 2), (8, some 4)]] 48 mixed (by kernel_rfl) ?_
  refine G_step [0, 1, 2, 3] 4 [] (by kernel_rfl) (allM (all_cons (q_run (.pointer (some ⟨B, 0, none⟩)) rfl rfl (wv_n rfl) rfl (fun _ _ hρ _ => r_move (hρ _ _ rfl))) (all_cons (q_run (.pointer (some ⟨B, 0, none⟩)) rfl rfl (wv_n rfl) rfl (fun _ _ hρ _ => r_nilCheck (hρ _ _ rfl) rfl)) (all_cons (q_run (.pointer (some ⟨B, 0, none⟩)) rfl rfl (wv_n rfl) rfl (fun _ _ hρ _ => r_fieldAddr fl65_1 sz24 (hρ _ _ rfl))) (all_cons (q_run (.bool true) rfl rfl (wv_n rfl) rfl (fun _ _ hρ _ => r_move (hρ _ _ rfl))) all_nil))))) (allM (all_cons ?_ all_nil))
  refine LOb_call (.int .u32 1) [] rfl (wv_n rfl) rfl rfl (fun _ _ hρ _ => r_call (args := [.bool true]) (enters_of Try.func53 (by kernel_rfl) rfl) (hρ _ _ rfl) ((cons2 (hρ _ _ rfl) rfl)) rfl) (fun w _ => b32_c w) (by kernel_rfl) ?_
  refine G_step [0, 1, 2] 5 [] (by kernel_rfl) (allM (all_cons (q_run (.pointer (some ⟨B, 0, none⟩)) rfl rfl (wv_n rfl) rfl (fun _ _ hρ _ => r_move (hρ _ _ rfl))) (all_cons (q_run (.pointer (some ⟨B, 0, none⟩)) rfl rfl (wv_n rfl) rfl (fun _ _ hρ _ => r_nilCheck (hρ _ _ rfl) rfl)) (all_cons (q_run (.pointer (some ⟨B, 0, none⟩)) rfl rfl (wv_n rfl) rfl (fun _ _ hρ _ => r_fieldAddr fl65_1 sz24 (hρ _ _ rfl))) all_nil)))) (allM (all_cons ?_ all_nil))
  refine LOb_upd 900 (.tuple #[]) (.cells #[.int .u32 1, .int .i32 1, .int .u32 0, .int .u32 0, .int .u32 498536548, .int .u32 997073096, .int .u32 651767980, .int .u32 1994146192, .int .u32 1802195444, .int .u32 1303535960, .int .u32 1342533948, .int .u32 3988292384, .int .u32 4027552580, .int .u32 3604390888, .int .u32 3412177804, .int .u32 2607071920, .int .u32 2262029012, .int .u32 2685067896, .int .u32 3183342108] 74) [] rfl (wv_n rfl) rfl rfl rfl (fun _ _ hρ hm => ⟨_, r_callE (args := [.pointer (some ⟨B, 0, none⟩), .int .u32 1]) (hρ _ _ rfl) ((cons2 (hρ _ _ rfl) (cons2 (hρ _ _ rfl) rfl))) rfl (run_call_store Try.func52 (by kernel_rfl) (by kernel_rfl) (by kernel_rfl) (by kernel_rfl) (cell_of (hm.at 900 rfl) rfl) (free_of (hm.at 900 rfl))), Upd.setCell (off := 0) (hm.at 900 rfl) _⟩) (by kernel_rfl) ?_
  refine G_lastQ [] [] (by kernel_rfl) (allM all_nil) end_nil ?_
  refine p_endP ?_
  refine ret_ofP rfl (.tuple #[]) (fun tmps w hk hm => results_none rfl _ _ _) (fun w hm => ?_)
  exact ⟨rfl, hm.of lk_shadow⟩

theorem load_tbL (w₀ : World) (L : Heap) (B : Nat) (hi : lk L 900 = some (.blk B (.cells tbL 74))) : ∀ w, MemOk w₀ L w → Calls Try.prog 44 #[.pointer (some ⟨B, 0, none⟩)] w (HAns w₀ (fun _ : Unit => True) (fun _ => .bool false) (fun _ => L)) := by
  refine ht_of_T (l := [.pointer (some ⟨B, 0, none⟩)]) (L := L) 8 Try.func44 rfl rfl rfl ?_
  refine T_mem ((900, .blk B (.cells #[.int .u32 0, .int .i32 1, .int .u32 0, .int .u32 0, .int .u32 0, .int .u32 0, .int .u32 0, .int .u32 0, .int .u32 0, .int .u32 0, .int .u32 0, .int .u32 0, .int .u32 0, .int .u32 0, .int .u32 0, .int .u32 0, .int .u32 0, .int .u32 0, .int .u32 0] 74)) :: L) (fun _ hm => hm.of (lk_dup hi)) ?_
  show T _ _ _ [(0, .pointer (some ⟨B, 0, none⟩))] ((900, .blk B (.cells #[.int .u32 0, .int .i32 1, .int .u32 0, .int .u32 0, .int .u32 0, .int .u32 0, .int .u32 0, .int .u32 0, .int .u32 0, .int .u32 0, .int .u32 0, .int .u32 0, .int .u32 0, .int .u32 0, .int .u32 0, .int .u32 0, .int .u32 0, .int .u32 0, .int .u32 0] 74)) :: L)
  refine T_seq (T_region ?_)
  refine TL_q (.bool false) (fun _ _ hρ _ => r_assign (hρ _ _ rfl)) rfl rfl rfl (w_n rfl) ?_
  refine TL_seq ?_
  refine T_seq (T_region ?_)
  refine TL_q (.pointer (some ⟨B, 0, none⟩)) (fun _ _ hρ _ => r_move (hρ _ _ rfl)) rfl rfl rfl (w_n rfl) ?_
  refine TL_q (.pointer (some ⟨B, 0, none⟩)) (fun _ _ hρ _ => r_nilCheck (hρ _ _ rfl) rfl) rfl rfl rfl (w_n rfl) ?_
  refine TL_q (.pointer (some ⟨B, 0, none⟩)) (fun _ _ hρ _ => r_fieldAddr fl65_1 sz24 (hρ _ _ rfl)) rfl rfl rfl (w_n rfl) ?_
  refine TL_q (.int .u32 0) (fun _ _ hρ hm => r_callE (args := [.pointer (some ⟨B, 0, none⟩)]) (hρ _ _ rfl) ((cons2 (hρ _ _ rfl) rfl)) rfl (run_call_load Try.func46 (by kernel_rfl) (by kernel_rfl) (by kernel_rfl) .u32 (by kernel_rfl) (cell_of (hm.at 900 rfl) rfl))) rfl rfl rfl (w_n rfl) ?_
  refine TL_q (.bool false) (fun _ _ hρ _ => r_as (r_neq (hρ _ _ rfl) (hρ _ _ rfl)) (by rfl)) rfl rfl rfl (w_n rfl) ?_
  refine TL_q (.bool false) (fun _ _ hρ _ => r_assign (hρ _ _ rfl)) rfl rfl rfl (w_n rfl) ?_
  refine TL_seq ?_
  refine T_ret' ?_
  refine ret_of rfl (.bool false) (fun tmps w hk hm => res1 rfl (res_tmp (hk 2 _ rfl))) (fun w hm => ?_)
  exact ⟨(), trivial, rfl, hm.of (lk_into hi)⟩

theorem load_tbZ (w₀ : World) (L : Heap) (B : Nat) (hi : lk L 900 = some (.blk B (.cells tbZ 74))) : ∀ w, MemOk w₀ L w → Calls Try.prog 44 #[.pointer (some ⟨B, 0, none⟩)] w (HAns w₀ (fun _ : Unit => True) (fun _ => .bool false) (fun _ => L)) := by
  refine ht_of_T (l := [.pointer (some ⟨B, 0, none⟩)]) (L := L) 8 Try.func44 rfl rfl rfl ?_
  refine T_mem ((900, .blk B (.cells #[.int .u32 0, .int .i32 0, .int .u32 0, .int .u32 0, .int .u32 0, .int .u32 0, .int .u32 0, .int .u32 0, .int .u32 0, .int .u32 0, .int .u32 0, .int .u32 0, .int .u32 0, .int .u32 0, .int .u32 0, .int .u32 0, .int .u32 0, .int .u32 0, .int .u32 0] 74)) :: L) (fun _ hm => hm.of (lk_dup hi)) ?_
  show T _ _ _ [(0, .pointer (some ⟨B, 0, none⟩))] ((900, .blk B (.cells #[.int .u32 0, .int .i32 0, .int .u32 0, .int .u32 0, .int .u32 0, .int .u32 0, .int .u32 0, .int .u32 0, .int .u32 0, .int .u32 0, .int .u32 0, .int .u32 0, .int .u32 0, .int .u32 0, .int .u32 0, .int .u32 0, .int .u32 0, .int .u32 0, .int .u32 0] 74)) :: L)
  refine T_seq (T_region ?_)
  refine TL_q (.bool false) (fun _ _ hρ _ => r_assign (hρ _ _ rfl)) rfl rfl rfl (w_n rfl) ?_
  refine TL_seq ?_
  refine T_seq (T_region ?_)
  refine TL_q (.pointer (some ⟨B, 0, none⟩)) (fun _ _ hρ _ => r_move (hρ _ _ rfl)) rfl rfl rfl (w_n rfl) ?_
  refine TL_q (.pointer (some ⟨B, 0, none⟩)) (fun _ _ hρ _ => r_nilCheck (hρ _ _ rfl) rfl) rfl rfl rfl (w_n rfl) ?_
  refine TL_q (.pointer (some ⟨B, 0, none⟩)) (fun _ _ hρ _ => r_fieldAddr fl65_1 sz24 (hρ _ _ rfl)) rfl rfl rfl (w_n rfl) ?_
  refine TL_q (.int .u32 0) (fun _ _ hρ hm => r_callE (args := [.pointer (some ⟨B, 0, none⟩)]) (hρ _ _ rfl) ((cons2 (hρ _ _ rfl) rfl)) rfl (run_call_load Try.func46 (by kernel_rfl) (by kernel_rfl) (by kernel_rfl) .u32 (by kernel_rfl) (cell_of (hm.at 900 rfl) rfl))) rfl rfl rfl (w_n rfl) ?_
  refine TL_q (.bool false) (fun _ _ hρ _ => r_as (r_neq (hρ _ _ rfl) (hρ _ _ rfl)) (by rfl)) rfl rfl rfl (w_n rfl) ?_
  refine TL_q (.bool false) (fun _ _ hρ _ => r_assign (hρ _ _ rfl)) rfl rfl rfl (w_n rfl) ?_
  refine TL_seq ?_
  refine T_ret' ?_
  refine ret_of rfl (.bool false) (fun tmps w hk hm => res1 rfl (res_tmp (hk 2 _ rfl))) (fun w hm => ?_)
  exact ⟨(), trivial, rfl, hm.of (lk_into hi)⟩

theorem load_tbE (w₀ : World) (L : Heap) (B : Nat) (hi : lk L 900 = some (.blk B (.cells tbE 74))) : ∀ w, MemOk w₀ L w → Calls Try.prog 44 #[.pointer (some ⟨B, 0, none⟩)] w (HAns w₀ (fun _ : Unit => True) (fun _ => .bool true) (fun _ => L)) := by
  refine ht_of_T (l := [.pointer (some ⟨B, 0, none⟩)]) (L := L) 8 Try.func44 rfl rfl rfl ?_
  refine T_mem ((900, .blk B (.cells #[.int .u32 1, .int .i32 0, .int .u32 0, .int .u32 0, .int .u32 498536548, .int .u32 997073096, .int .u32 651767980, .int .u32 1994146192, .int .u32 1802195444, .int .u32 1303535960, .int .u32 1342533948, .int .u32 3988292384, .int .u32 4027552580, .int .u32 3604390888, .int .u32 3412177804, .int .u32 2607071920, .int .u32 2262029012, .int .u32 2685067896, .int .u32 3183342108] 74)) :: L) (fun _ hm => hm.of (lk_dup hi)) ?_
  show T _ _ _ [(0, .pointer (some ⟨B, 0, none⟩))] ((900, .blk B (.cells #[.int .u32 1, .int .i32 0, .int .u32 0, .int .u32 0, .int .u32 498536548, .int .u32 997073096, .int .u32 651767980, .int .u32 1994146192, .int .u32 1802195444, .int .u32 1303535960, .int .u32 1342533948, .int .u32 3988292384, .int .u32 4027552580, .int .u32 3604390888, .int .u32 3412177804, .int .u32 2607071920, .int .u32 2262029012, .int .u32 2685067896, .int .u32 3183342108] 74)) :: L)
  refine T_seq (T_region ?_)
  refine TL_q (.bool false) (fun _ _ hρ _ => r_assign (hρ _ _ rfl)) rfl rfl rfl (w_n rfl) ?_
  refine TL_seq ?_
  refine T_seq (T_region ?_)
  refine TL_q (.pointer (some ⟨B, 0, none⟩)) (fun _ _ hρ _ => r_move (hρ _ _ rfl)) rfl rfl rfl (w_n rfl) ?_
  refine TL_q (.pointer (some ⟨B, 0, none⟩)) (fun _ _ hρ _ => r_nilCheck (hρ _ _ rfl) rfl) rfl rfl rfl (w_n rfl) ?_
  refine TL_q (.pointer (some ⟨B, 0, none⟩)) (fun _ _ hρ _ => r_fieldAddr fl65_1 sz24 (hρ _ _ rfl)) rfl rfl rfl (w_n rfl) ?_
  refine TL_q (.int .u32 1) (fun _ _ hρ hm => r_callE (args := [.pointer (some ⟨B, 0, none⟩)]) (hρ _ _ rfl) ((cons2 (hρ _ _ rfl) rfl)) rfl (run_call_load Try.func46 (by kernel_rfl) (by kernel_rfl) (by kernel_rfl) .u32 (by kernel_rfl) (cell_of (hm.at 900 rfl) rfl))) rfl rfl rfl (w_n rfl) ?_
  refine TL_q (.bool true) (fun _ _ hρ _ => r_as (r_neq (hρ _ _ rfl) (hρ _ _ rfl)) (by rfl)) rfl rfl rfl (w_n rfl) ?_
  refine TL_q (.bool true) (fun _ _ hρ _ => r_assign (hρ _ _ rfl)) rfl rfl rfl (w_n rfl) ?_
  refine TL_seq ?_
  refine T_ret' ?_
  refine ret_of rfl (.bool true) (fun tmps w hk hm => res1 rfl (res_tmp (hk 2 _ rfl))) (fun w hm => ?_)
  exact ⟨(), trivial, rfl, hm.of (lk_into hi)⟩
end Go.Proofs.Ytnjcffhpfmnbfaa
