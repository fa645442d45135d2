/- canvas: wakes. Printed by a program of this seat's prover. -/
import Derived.Test.YtbiapeaghbndoaaRefC
namespace Go.Proofs.Ytbiapeaghbndoaa
open Go Go.RowKit
set_option maxRecDepth 10000
theorem with_nil (a : Option Addr) (n cap : Nat) (w : World) : Calls Try.prog 17 #[.pointer none, .slice a n cap] w fun e w' => e = .returned (.pointer none) ∧ Below w.heap.size w w' := by
  refine calls_of_T (l := [.pointer none, .slice a n cap]) 124 Try.func17 rfl rfl rfl ?_
  show T _ _ _ [(0, .pointer none), (1, .slice a n cap)] []
  refine T_seq (T_region ?_)
  refine TL_q (.pointer none) (fun _ _ hρ _ => r_assign (hρ _ _ rfl)) rfl rfl rfl (w_n rfl) ?_
  refine TL_seq ?_
  refine T_seq ?_
  refine T_seq (T_region ?_)
  refine TL_q (.pointer none) (fun _ _ hρ _ => r_move (hρ _ _ rfl)) rfl rfl rfl (w_n rfl) ?_
  refine TL_q (.bool true) (fun _ _ hρ _ => r_as (r_eqlPn po28 (hρ _ _ rfl) (hρ _ _ rfl)) (by rfl)) rfl rfl rfl (w_n rfl) ?_
  refine TL_seq ?_
  refine T_cond_t rfl ?_
  refine T_seq (T_region ?_)
  refine TL_q (.pointer none) (fun _ _ hρ _ => r_assign (hρ _ _ rfl)) rfl rfl rfl (w_n rfl) ?_
  refine TL_seq ?_
  refine T_ret' ?_
  refine p_then_r ?_
  refine ret_of rfl (.pointer none) (fun tmps w hk hm => res1 rfl (res_tmp (hk 4 _ rfl))) (fun w hm => ?_)
  exact ⟨rfl, hm.ext⟩

theorem MemOk.cvUnder {w₀ w : World} {L : Heap} (h : MemOk w₀ L w) (k : Nat) {l : List Cv} (hk : lk L k = some (.cvs l)) : ∀ x ∈ l, ∀ q ∈ x.ps, q < w.heap.size := fun _ hx _ hq => (h.cv k hk hx).low (.inr (.inr hq))
abbrev redC : C4 := ⟨255, 0, 0, 255⟩
def wkA : List T64 := List.replicate (2 * 1) zeroT
def wkD : List Dt := [⟨9, 1, redC⟩, ⟨99, 0, redC⟩]
theorem wk1 : colAt 2 (putDs 2 1 wkA wkD) 9 1 = redC := by decide +kernel
theorem wk2 : shN wkA (putDs 2 1 wkA wkD) 2 = 1 := by decide +kernel
theorem wk3 : difC 2 1 wkA (putDs 2 1 wkA wkD) = [(9, 1)] := by decide +kernel
theorem wk4 : ¬ wkA = putDs 2 1 wkA wkD := by decide +kernel
/-- Tiles shared are those that show the same. -/
theorem shares_sh {n : Nat} {c d : Cv} (h : Shares n c d) (hl : c.ts.length = c.ps.length) : ∀ k, k ≤ c.ps.length → shN c.ps d.ps k = shN c.ts d.ts k
  | 0, _ => rfl
  | k + 1, hk => by
    have ih := shares_sh h hl k (by omega)
    obtain ⟨q, hq⟩ : ∃ q, c.ps[k]? = some q := ⟨_, List.getElem?_eq_getElem (by omega)⟩
    obtain ⟨r, h1, h2, _⟩ := h k q hq
    unfold shN
    rw [ih, hq, h1]
    by_cases e : r = q
    · rw [if_pos (by rw [e]), if_pos (h2.1 e)]
    · rw [if_neg (fun e2 => e (Option.some.inj e2).symm), if_neg (fun e2 => e (h2.2 e2))]

set_option maxHeartbeats 1000000 in
theorem wakes_c (w : World) : Calls Try.prog 13 #[] w fun e w' => e = .returned (.bool true) ∧ Below w.heap.size w w' := by
  refine calls_of_T (l := []) 91 Try.func13 rfl rfl rfl ?_
  show T _ _ _ [] []
  refine T_seq (T_region ?_)
  refine TL_q (.bool false) (fun _ _ hρ _ => r_assign (hρ _ _ rfl)) rfl rfl rfl (w_n rfl) ?_
  refine TL_seq ?_
  refine T_mem (_ :: _) (fun _ hm => hm.cvs0 960) ?_
  refine T_seq (T_region ?_)
  refine TL_callX (ι := Cv) (fun (c1 : Cv) e w w' => e = .returned (.tuple #[.pointer (some ⟨c1.p, 0, none⟩), .int .i64 0]) ∧ CvNew w w' [] c1 ∧ (∀ x ∈ ([] : List Cv), ∀ q ∈ x.ps, q < w.heap.size) ∧ c1.wd = 2 ∧ c1.hg = 1 ∧ c1.ts = List.replicate (2 * 1) zeroT) (fun c1 => .tuple #[.pointer (some ⟨c1.p, 0, none⟩), .int .i64 0]) _ (fun _ _ hρ _ => r_call (args := [.int .i64 2, .int .i64 1]) (enters_of Try.func29 (by kernel_rfl) rfl) (hρ _ _ rfl) ((cons2 (hρ _ _ rfl) (cons2 (hρ _ _ rfl) rfl))) rfl) (fun w hm => (new_c 2 1 w (by decide) (by decide)).mono fun e w' ⟨d, he, hn, hf⟩ => ⟨d, he, hn, hm.cvUnder 960 rfl, hf⟩) (fun _ e w w' hm h => ⟨h.1, hm.cvGet 960 rfl h.2.1 (fun _ hx => nomatch hx)⟩) rfl rfl rfl (w_n rfl) ?_
  rintro c1 ⟨_, w1_c1, w2_c1, _, hn_c1, hu_c1, hwd_c1, hhg_c1, hts_c1⟩
  refine TL_q (.tuple #[.pointer (some ⟨c1.p, 0, none⟩), .int .i64 0]) (fun _ _ hρ _ => r_move (hρ _ _ rfl)) rfl rfl rfl (w_n rfl) ?_
  refine TL_q (.pointer (some ⟨c1.p, 0, none⟩)) (fun _ _ hρ _ => r_extract (hρ _ _ rfl) rfl) rfl rfl rfl (w_n rfl) ?_
  refine TL_q (.int .i64 0) (fun _ _ hρ _ => r_extract (hρ _ _ rfl) rfl) rfl rfl rfl (w_n rfl) ?_
  refine TL_q (.pointer (some ⟨c1.p, 0, none⟩)) (fun _ _ hρ _ => r_assign (hρ _ _ rfl)) rfl rfl rfl (w_n rfl) ?_
  refine TL_q (.int .i64 0) (fun _ _ hρ _ => r_assign (hρ _ _ rfl)) rfl rfl rfl (w_n rfl) ?_
  refine TL_seq ?_
  refine T_seq (T_region ?_)
  refine TL_q (.agg #[.int .u8 255, .int .u8 0, .int .u8 0, .int .u8 255]) (fun _ _ hρ _ => r_build (vs := [(0, .int .u8 255), (3, .int .u8 255)]) (by kernel_rfl) (cons2 (pair2 (hρ _ _ rfl)) (cons2 (pair2 (hρ _ _ rfl)) rfl))) rfl rfl rfl (w_n rfl) ?_
  refine TL_new 1 (.cells #[.int .u8 0, .int .u8 0, .int .u8 0, .int .u8 0] 37) (fun B => .pointer (some ⟨B, 0, none⟩)) (fun _ _ _ _ => r_alloc (v := .agg #[.int .u8 0, .int .u8 0, .int .u8 0, .int .u8 0]) (by kernel_rfl) rfl) rfl rfl rfl (w_n rfl) ?_
  intro B1
  refine TL_store 1 (.cells #[.int .u8 255, .int .u8 0, .int .u8 0, .int .u8 255] 37) rfl (fun _ _ hρ hm => r_store sz37 (hρ _ _ rfl) (hρ _ _ rfl) (hm.at 1 rfl) rfl rfl rfl rfl) rfl rfl (w_n rfl) ?_
  refine TL_seq ?_
  refine T_seq (T_region ?_)
  refine TL_q (.pointer (some ⟨c1.p, 0, none⟩)) (fun _ _ hρ _ => r_move (hρ _ _ rfl)) rfl rfl rfl (w_n rfl) ?_
  refine TL_q (.agg #[.int .u8 255, .int .u8 0, .int .u8 0, .int .u8 255]) (fun _ _ hρ hm => r_loadA ag37 sz37 (hρ _ _ rfl) (hm.at 1 rfl) rfl rfl) rfl rfl rfl (w_n rfl) ?_
  refine TL_q (.agg #[.int .i64 9, .int .i64 1, .int .u8 255, .int .u8 0, .int .u8 0, .int .u8 255]) (fun _ _ hρ _ => r_build (vs := [(0, .int .i64 9), (1, .int .i64 1), (2, .agg #[.int .u8 255, .int .u8 0, .int .u8 0, .int .u8 255])]) (by kernel_rfl) (cons2 (pair2 (hρ _ _ rfl)) (cons2 (pair2 (hρ _ _ rfl)) (cons2 (pair2 (hρ _ _ rfl)) rfl)))) rfl rfl rfl (w_n rfl) ?_
  refine TL_q (.agg #[.int .u8 255, .int .u8 0, .int .u8 0, .int .u8 255]) (fun _ _ hρ hm => r_loadA ag37 sz37 (hρ _ _ rfl) (hm.at 1 rfl) rfl rfl) rfl rfl rfl (w_n rfl) ?_
  refine TL_q (.agg #[.int .i64 99, .int .i64 0, .int .u8 255, .int .u8 0, .int .u8 0, .int .u8 255]) (fun _ _ hρ _ => r_build (vs := [(0, .int .i64 99), (2, .agg #[.int .u8 255, .int .u8 0, .int .u8 0, .int .u8 255])]) (by kernel_rfl) (cons2 (pair2 (hρ _ _ rfl)) (cons2 (pair2 (hρ _ _ rfl)) rfl))) rfl rfl rfl (w_n rfl) ?_
  refine TL_new 2 (.cells #[.int .i64 9, .int .i64 1, .int .u8 255, .int .u8 0, .int .u8 0, .int .u8 255, .int .i64 99, .int .i64 0, .int .u8 255, .int .u8 0, .int .u8 0, .int .u8 255] 51) (fun B => .slice (some ⟨B, 0, none⟩) 2 2) (fun _ _ hρ _ => r_buildSlice (vs := [(0, .agg #[.int .i64 9, .int .i64 1, .int .u8 255, .int .u8 0, .int .u8 0, .int .u8 255]), (1, .agg #[.int .i64 99, .int .i64 0, .int .u8 255, .int .u8 0, .int .u8 0, .int .u8 255])]) (by kernel_rfl) (cons2 (pair2 (hρ _ _ rfl)) (cons2 (pair2 (hρ _ _ rfl)) rfl))) rfl rfl rfl (w_n rfl) ?_
  intro B2
  refine TL_callX (ι := Cv) (fun (d1 : Cv) e w w' => e = .returned (.pointer (some ⟨d1.p, 0, none⟩)) ∧ CvNew w w' [c1] d1 ∧ (∀ x ∈ [c1], ∀ q ∈ x.ps, q < w.heap.size) ∧ d1.wd = c1.wd ∧ d1.hg = c1.hg ∧ d1.ts = putDs c1.wd c1.hg c1.ts [(⟨9, 1, (⟨255, 0, 0, 255⟩ : C4)⟩ : Dt), (⟨99, 0, (⟨255, 0, 0, 255⟩ : C4)⟩ : Dt)] ∧ Shares w.heap.size c1 d1) (fun d1 => .pointer (some ⟨d1.p, 0, none⟩)) _ (fun _ _ hρ _ => r_call (args := [.pointer (some ⟨c1.p, 0, none⟩), .slice (some ⟨B2, 0, none⟩) 2 2]) (enters_of Try.func17 (by kernel_rfl) rfl) (hρ _ _ rfl) ((cons2 (hρ _ _ rfl) (cons2 (hρ _ _ rfl) rfl))) rfl) (fun w hm => (with_canvas c1 [(⟨9, 1, (⟨255, 0, 0, 255⟩ : C4)⟩ : Dt), (⟨99, 0, (⟨255, 0, 0, 255⟩ : C4)⟩ : Dt)] (some ⟨B2, 0, none⟩) 2 w (hm.cv 960 rfl (List.Mem.head _)) ⟨Nat.le_of_ble_eq_true rfl, (fun e => by cases e), .inr ⟨_, 0, _, _, _, rfl, (hm.at 2 rfl), row_of_take (fun _ => rfl) rfl⟩⟩ (Nat.le_of_ble_eq_true rfl)).mono fun e w' ⟨d, he, hn, hf⟩ => ⟨d, he, hn, hm.cvUnder 960 rfl, hf⟩) (fun _ e w w' hm h => ⟨h.1, hm.cvGet 960 rfl h.2.1 (fun x hx => by rw [List.mem_singleton.1 hx]; exact (List.Mem.head _))⟩) rfl rfl rfl (w_n rfl) ?_
  rintro d1 ⟨_, w1_d1, w2_d1, _, hn_d1, hu_d1, hwd_d1, hhg_d1, hts_d1, hsh_d1⟩
  refine TL_q (.pointer (some ⟨d1.p, 0, none⟩)) (fun _ _ hρ _ => r_assign (hρ _ _ rfl)) rfl rfl rfl (w_n rfl) ?_
  refine TL_seq ?_
  refine T_seq (T_region ?_)
  refine TL_q (.pointer (some ⟨d1.p, 0, none⟩)) (fun _ _ hρ _ => r_move (hρ _ _ rfl)) rfl rfl rfl (w_n rfl) ?_
  refine TL_call (.tuple #[.agg #[.int .u8 ((colAt d1.wd d1.ts 9 1).r), .int .u8 ((colAt d1.wd d1.ts 9 1).g), .int .u8 ((colAt d1.wd d1.ts 9 1).b), .int .u8 ((colAt d1.wd d1.ts 9 1).a)], .bool true]) (fun _ _ hρ _ => r_call (args := [.pointer (some ⟨d1.p, 0, none⟩), .int .i64 9, .int .i64 1]) (enters_of Try.func23 (by kernel_rfl) rfl) (hρ _ _ rfl) ((cons2 (hρ _ _ rfl) (cons2 (hρ _ _ rfl) (cons2 (hρ _ _ rfl) rfl)))) rfl) (fun w hm => cat_in d1 9 1 w (hm.cv 960 rfl (List.Mem.head _)) (by rw [hwd_d1, hwd_c1]; decide) (by rw [hhg_d1, hhg_c1]; decide)) rfl rfl rfl (w_n rfl) ?_
  refine TL_q (.tuple #[.agg #[.int .u8 ((colAt d1.wd d1.ts 9 1).r), .int .u8 ((colAt d1.wd d1.ts 9 1).g), .int .u8 ((colAt d1.wd d1.ts 9 1).b), .int .u8 ((colAt d1.wd d1.ts 9 1).a)], .bool true]) (fun _ _ hρ _ => r_move (hρ _ _ rfl)) rfl rfl rfl (w_n rfl) ?_
  refine TL_q (.agg #[.int .u8 ((colAt d1.wd d1.ts 9 1).r), .int .u8 ((colAt d1.wd d1.ts 9 1).g), .int .u8 ((colAt d1.wd d1.ts 9 1).b), .int .u8 ((colAt d1.wd d1.ts 9 1).a)]) (fun _ _ hρ _ => r_extract (hρ _ _ rfl) rfl) rfl rfl rfl (w_n rfl) ?_
  refine TL_q (.bool true) (fun _ _ hρ _ => r_extract (hρ _ _ rfl) rfl) rfl rfl rfl (w_n rfl) ?_
  refine TL_new 3 (.cells #[.int .u8 0, .int .u8 0, .int .u8 0, .int .u8 0] 37) (fun B => .pointer (some ⟨B, 0, none⟩)) (fun _ _ _ _ => r_alloc (v := .agg #[.int .u8 0, .int .u8 0, .int .u8 0, .int .u8 0]) (by kernel_rfl) rfl) rfl rfl rfl (w_n rfl) ?_
  intro B3
  refine TL_store 3 (.cells #[.int .u8 ((colAt d1.wd d1.ts 9 1).r), .int .u8 ((colAt d1.wd d1.ts 9 1).g), .int .u8 ((colAt d1.wd d1.ts 9 1).b), .int .u8 ((colAt d1.wd d1.ts 9 1).a)] 37) rfl (fun _ _ hρ hm => r_store sz37 (hρ _ _ rfl) (hρ _ _ rfl) (hm.at 3 rfl) rfl rfl rfl rfl) rfl rfl (w_n rfl) ?_
  refine TL_q (.bool true) (fun _ _ hρ _ => r_assign (hρ _ _ rfl)) rfl rfl rfl (w_n rfl) ?_
  refine TL_seq ?_
  refine T_seq (T_region ?_)
  refine TL_q (.pointer (some ⟨c1.p, 0, none⟩)) (fun _ _ hρ _ => r_move (hρ _ _ rfl)) rfl rfl rfl (w_n rfl) ?_
  refine TL_call (.tuple #[.agg #[.int .u8 zeroC.r, .int .u8 zeroC.g, .int .u8 zeroC.b, .int .u8 zeroC.a], .bool false]) (fun _ _ hρ _ => r_call (args := [.pointer (some ⟨c1.p, 0, none⟩), .int .i64 16, .int .i64 0]) (enters_of Try.func23 (by kernel_rfl) rfl) (hρ _ _ rfl) ((cons2 (hρ _ _ rfl) (cons2 (hρ _ _ rfl) (cons2 (hρ _ _ rfl) rfl)))) rfl) (fun w hm => cat_out c1 16 0 w (hm.cv 960 rfl (List.Mem.tail _ (List.Mem.head _))) (by rw [hwd_c1, hhg_c1]; decide)) rfl rfl rfl (w_n rfl) ?_
  refine TL_q (.tuple #[.agg #[.int .u8 zeroC.r, .int .u8 zeroC.g, .int .u8 zeroC.b, .int .u8 zeroC.a], .bool false]) (fun _ _ hρ _ => r_move (hρ _ _ rfl)) rfl rfl rfl (w_n rfl) ?_
  refine TL_q (.agg #[.int .u8 zeroC.r, .int .u8 zeroC.g, .int .u8 zeroC.b, .int .u8 zeroC.a]) (fun _ _ hρ _ => r_extract (hρ _ _ rfl) rfl) rfl rfl rfl (w_n rfl) ?_
  refine TL_q (.bool false) (fun _ _ hρ _ => r_extract (hρ _ _ rfl) rfl) rfl rfl rfl (w_n rfl) ?_
  refine TL_new 4 (.cells #[.int .u8 0, .int .u8 0, .int .u8 0, .int .u8 0] 37) (fun B => .pointer (some ⟨B, 0, none⟩)) (fun _ _ _ _ => r_alloc (v := .agg #[.int .u8 0, .int .u8 0, .int .u8 0, .int .u8 0]) (by kernel_rfl) rfl) rfl rfl rfl (w_n rfl) ?_
  intro B4
  refine TL_store 4 (.cells #[.int .u8 zeroC.r, .int .u8 zeroC.g, .int .u8 zeroC.b, .int .u8 zeroC.a] 37) rfl (fun _ _ hρ hm => r_store sz37 (hρ _ _ rfl) (hρ _ _ rfl) (hm.at 4 rfl) rfl rfl rfl rfl) rfl rfl (w_n rfl) ?_
  refine TL_q (.bool false) (fun _ _ hρ _ => r_assign (hρ _ _ rfl)) rfl rfl rfl (w_n rfl) ?_
  refine TL_seq ?_
  refine T_sub [(0, .bool false), (1, .pointer (some ⟨c1.p, 0, none⟩)), (2, .int .i64 0), (3, .pointer (some ⟨B1, 0, none⟩)), (4, .pointer (some ⟨d1.p, 0, none⟩)), (5, .pointer (some ⟨B3, 0, none⟩)), (6, .bool true), (8, .bool false)] [(960, .cvs [d1, c1]), (1, .blk B1 (.cells #[.int .u8 255, .int .u8 0, .int .u8 0, .int .u8 255] 37)), (2, .blk B2 (.cells #[.int .i64 9, .int .i64 1, .int .u8 255, .int .u8 0, .int .u8 0, .int .u8 255, .int .i64 99, .int .i64 0, .int .u8 255, .int .u8 0, .int .u8 0, .int .u8 255] 51)), (3, .blk B3 (.cells #[.int .u8 ((colAt d1.wd d1.ts 9 1).r), .int .u8 ((colAt d1.wd d1.ts 9 1).g), .int .u8 ((colAt d1.wd d1.ts 9 1).b), .int .u8 ((colAt d1.wd d1.ts 9 1).a)] 37)), (4, .blk B4 (.cells #[.int .u8 zeroC.r, .int .u8 zeroC.g, .int .u8 zeroC.b, .int .u8 zeroC.a] 37))] (sub_cons rfl (sub_cons rfl (sub_cons rfl (sub_cons rfl (sub_cons rfl (sub_cons rfl (sub_cons rfl (sub_cons rfl sub_nil)))))))) (sub_cons rfl (sub_cons rfl (sub_cons rfl (sub_cons rfl (sub_cons rfl sub_nil))))) ?_
  refine T_seq (T_region ?_)
  refine TL_q (.pointer (some ⟨c1.p, 0, none⟩)) (fun _ _ hρ _ => r_move (hρ _ _ rfl)) rfl rfl rfl (w_n rfl) ?_
  refine TL_call (.tuple #[.int .i64 ((8 * c1.wd : Nat) : Int), .int .i64 ((8 * c1.hg : Nat) : Int)]) (fun _ _ hρ _ => r_call (args := [.pointer (some ⟨c1.p, 0, none⟩)]) (enters_of Try.func32 (by kernel_rfl) rfl) (hρ _ _ rfl) ((cons2 (hρ _ _ rfl) rfl)) rfl) (fun w hm => size_c c1 w (hm.cv 960 rfl (List.Mem.tail _ (List.Mem.head _)))) rfl rfl rfl (w_n rfl) ?_
  refine TL_q (.tuple #[.int .i64 ((8 * c1.wd : Nat) : Int), .int .i64 ((8 * c1.hg : Nat) : Int)]) (fun _ _ hρ _ => r_move (hρ _ _ rfl)) rfl rfl rfl (w_n rfl) ?_
  refine TL_q (.int .i64 ((8 * c1.wd : Nat) : Int)) (fun _ _ hρ _ => r_extract (hρ _ _ rfl) rfl) rfl rfl rfl (w_n rfl) ?_
  refine TL_q (.int .i64 ((8 * c1.hg : Nat) : Int)) (fun _ _ hρ _ => r_extract (hρ _ _ rfl) rfl) rfl rfl rfl (w_n rfl) ?_
  refine TL_q (.int .i64 ((8 * c1.wd : Nat) : Int)) (fun _ _ hρ _ => r_assign (hρ _ _ rfl)) rfl rfl rfl (w_n rfl) ?_
  refine TL_q (.int .i64 ((8 * c1.hg : Nat) : Int)) (fun _ _ hρ _ => r_assign (hρ _ _ rfl)) rfl rfl rfl (w_n rfl) ?_
  refine TL_seq ?_
  refine T_seq (T_region ?_)
  refine TL_q (.agg #[.int .i64 1, .int .i64 1, .slice none 0 0]) (fun _ _ hρ _ => r_build (vs := [(0, .int .i64 1), (1, .int .i64 1)]) (by kernel_rfl) (cons2 (pair2 (hρ _ _ rfl)) (cons2 (pair2 (hρ _ _ rfl)) rfl))) rfl rfl rfl (w_n rfl) ?_
  refine TL_call (.tuple #[.pointer none, .int .i64 150]) (fun _ _ hρ _ => r_call (args := [.agg #[.int .i64 1, .int .i64 1, .slice none 0 0]]) (enters_of Try.func15 (by kernel_rfl) rfl) (hρ _ _ rfl) ((cons2 (hρ _ _ rfl) rfl)) rfl) (fun w _ => of_no 1 1 none 0 0 w (by decide)) rfl rfl rfl (w_n rfl) ?_
  refine TL_q (.tuple #[.pointer none, .int .i64 150]) (fun _ _ hρ _ => r_move (hρ _ _ rfl)) rfl rfl rfl (w_n rfl) ?_
  refine TL_q (.pointer none) (fun _ _ hρ _ => r_extract (hρ _ _ rfl) rfl) rfl rfl rfl (w_n rfl) ?_
  refine TL_q (.int .i64 150) (fun _ _ hρ _ => r_extract (hρ _ _ rfl) rfl) rfl rfl rfl (w_n rfl) ?_
  refine TL_q (.pointer none) (fun _ _ hρ _ => r_assign (hρ _ _ rfl)) rfl rfl rfl (w_n rfl) ?_
  refine TL_q (.int .i64 150) (fun _ _ hρ _ => r_assign (hρ _ _ rfl)) rfl rfl rfl (w_n rfl) ?_
  refine TL_seq ?_
  have fd : d1.ts = putDs 2 1 wkA wkD := by rw [hts_d1, hwd_c1, hhg_c1, hts_c1]; rfl
  have f1 : (colAt d1.wd d1.ts 9 1) = (⟨255, 0, 0, 255⟩ : C4) := by rw [hwd_d1, hwd_c1, fd]; exact wk1
  have f2 : ((shN c1.ps d1.ps c1.ps.length : Nat) : Int) = 1 := by rw [shares_sh hsh_d1 hn_c1.at'.len2 _ (Nat.le_refl _), hn_c1.at'.len, hwd_c1, hhg_c1, hts_c1, fd]; exact congrArg Int.ofNat wk2
  have f3 : (difC c1.wd c1.hg c1.ts d1.ts) = [((9, 1) : NP)] := by rw [hwd_c1, hhg_c1, hts_c1, fd]; exact wk3
  have f7 : (difC c1.wd c1.hg c1.ts d1.ts).length = 1 := by rw [f3]; rfl
  have f4 : ¬ c1.ts = d1.ts := by rw [hts_c1, fd]; exact wk4
  have f5 : ((8 * c1.wd : Nat) : Int) = 16 := by omega
  have f6 : ((8 * c1.hg : Nat) : Int) = 8 := by omega
  refine T_seq (T_region ?_)
  refine TL_q (.int .i64 0) (fun _ _ hρ _ => r_move (hρ _ _ rfl)) rfl rfl rfl (w_n rfl) ?_
  refine TL_q (.bool true) (fun _ _ hρ _ => r_as (r_eql (hρ _ _ rfl) (hρ _ _ rfl)) (by rfl)) rfl rfl rfl (w_n rfl) ?_
  refine TL_q (.bool true) (fun _ _ hρ _ => r_move (hρ _ _ rfl)) rfl rfl rfl (w_n rfl) ?_
  refine TL_q (.int .i64 150) (fun _ _ hρ _ => r_move (hρ _ _ rfl)) rfl rfl rfl (want_y 47 rfl rfl rfl) ?_
  refine TL_q (.bool true) (fun _ _ hρ _ => r_as (r_eql (hρ _ _ rfl) (hρ _ _ rfl)) (by rfl)) rfl rfl rfl (want_y 47 rfl rfl rfl) ?_
  refine TL_q (.bool true) (fun _ _ hρ _ => r_pick_t (hρ _ _ rfl) (hρ _ _ rfl)) rfl rfl rfl (w_n rfl) ?_
  refine TL_q (.bool true) (fun _ _ hρ _ => r_move (hρ _ _ rfl)) rfl rfl rfl (w_n rfl) ?_
  refine TL_q (.agg #[.int .u8 ((colAt d1.wd d1.ts 9 1).r), .int .u8 ((colAt d1.wd d1.ts 9 1).g), .int .u8 ((colAt d1.wd d1.ts 9 1).b), .int .u8 ((colAt d1.wd d1.ts 9 1).a)]) (fun _ _ hρ hm => r_loadA ag37 sz37 (hρ _ _ rfl) (hm.at 3 rfl) rfl rfl) rfl rfl rfl (want_y 51 rfl rfl rfl) ?_
  refine TL_q (.agg #[.int .u8 255, .int .u8 0, .int .u8 0, .int .u8 255]) (fun _ _ hρ hm => r_loadA ag37 sz37 (hρ _ _ rfl) (hm.at 1 rfl) rfl rfl) rfl rfl rfl (want_y 51 rfl rfl rfl) ?_
  refine TL_q (.bool true) (fun _ _ hρ _ => r_as (r_as (r_eqlA (by kernel_rfl) (hρ _ _ rfl) (hρ _ _ rfl) (run_equalI (l := [(0, .u8), (1, .u8), (2, .u8), (3, .u8)]) (by kernel_rfl) rfl rfl)) (bool_as (eqC (colAt d1.wd d1.ts 9 1) (⟨255, 0, 0, 255⟩ : C4)))) (bool_as (decide_eq_true f1))) rfl rfl rfl (want_y 51 rfl rfl rfl) ?_
  refine TL_q (.bool true) (fun _ _ hρ _ => r_pick_t (hρ _ _ rfl) (hρ _ _ rfl)) rfl rfl rfl (w_n rfl) ?_
  refine TL_q (.bool true) (fun _ _ hρ _ => r_move (hρ _ _ rfl)) rfl rfl rfl (w_n rfl) ?_
  refine TL_q (.bool true) (fun _ _ hρ _ => r_move (hρ _ _ rfl)) rfl rfl rfl (want_y 56 rfl rfl rfl) ?_
  refine TL_q (.bool true) (fun _ _ hρ _ => r_pick_t (hρ _ _ rfl) (hρ _ _ rfl)) rfl rfl rfl (w_n rfl) ?_
  refine TL_q (.bool true) (fun _ _ hρ _ => r_move (hρ _ _ rfl)) rfl rfl rfl (w_n rfl) ?_
  refine TL_q (.bool false) (fun _ _ hρ _ => r_move (hρ _ _ rfl)) rfl rfl rfl (want_y 59 rfl rfl rfl) ?_
  refine TL_q (.bool true) (fun _ _ hρ _ => r_not (b := false) (hρ _ _ rfl)) rfl rfl rfl (want_y 59 rfl rfl rfl) ?_
  refine TL_q (.bool true) (fun _ _ hρ _ => r_pick_t (hρ _ _ rfl) (hρ _ _ rfl)) rfl rfl rfl (w_n rfl) ?_
  refine TL_q (.bool true) (fun _ _ hρ _ => r_move (hρ _ _ rfl)) rfl rfl rfl (w_n rfl) ?_
  refine TL_q (.int .i64 ((8 * c1.wd : Nat) : Int)) (fun _ _ hρ _ => r_move (hρ _ _ rfl)) rfl rfl rfl (want_y 63 rfl rfl rfl) ?_
  refine TL_q (.bool true) (fun _ _ hρ _ => r_as (r_eql (hρ _ _ rfl) (hρ _ _ rfl)) (bool_as (decide_eq_true f5))) rfl rfl rfl (want_y 63 rfl rfl rfl) ?_
  refine TL_q (.bool true) (fun _ _ hρ _ => r_pick_t (hρ _ _ rfl) (hρ _ _ rfl)) rfl rfl rfl (w_n rfl) ?_
  refine TL_q (.bool true) (fun _ _ hρ _ => r_move (hρ _ _ rfl)) rfl rfl rfl (w_n rfl) ?_
  refine TL_q (.int .i64 ((8 * c1.hg : Nat) : Int)) (fun _ _ hρ _ => r_move (hρ _ _ rfl)) rfl rfl rfl (want_y 67 rfl rfl rfl) ?_
  refine TL_q (.bool true) (fun _ _ hρ _ => r_as (r_eql (hρ _ _ rfl) (hρ _ _ rfl)) (bool_as (decide_eq_true f6))) rfl rfl rfl (want_y 67 rfl rfl rfl) ?_
  refine TL_q (.bool true) (fun _ _ hρ _ => r_pick_t (hρ _ _ rfl) (hρ _ _ rfl)) rfl rfl rfl (w_n rfl) ?_
  refine TL_q (.bool true) (fun _ _ hρ _ => r_move (hρ _ _ rfl)) rfl rfl rfl (w_n rfl) ?_
  refine TL_q (.pointer (some ⟨c1.p, 0, none⟩)) (fun _ _ hρ _ => r_move (hρ _ _ rfl)) rfl rfl rfl (want_y 71 rfl rfl rfl) ?_
  refine TL_q (.pointer (some ⟨d1.p, 0, none⟩)) (fun _ _ hρ _ => r_move (hρ _ _ rfl)) rfl rfl rfl (want_y 71 rfl rfl rfl) ?_
  refine TL_call (.int .i64 ((shN c1.ps d1.ps c1.ps.length : Nat) : Int)) (fun _ _ hρ _ => r_call (args := [.pointer (some ⟨c1.p, 0, none⟩), .pointer (some ⟨d1.p, 0, none⟩)]) (enters_of Try.func20 (by kernel_rfl) rfl) (hρ _ _ rfl) ((cons2 (hρ _ _ rfl) (cons2 (hρ _ _ rfl) rfl))) rfl) (fun w hm => shared_eq c1 d1 w (hm.cv 960 rfl (List.Mem.tail _ (List.Mem.head _))) (hm.cv 960 rfl (List.Mem.head _)) hwd_d1.symm hhg_d1.symm) rfl rfl rfl (want_y 71 rfl rfl rfl) ?_
  refine TL_q (.bool true) (fun _ _ hρ _ => r_as (r_eql (hρ _ _ rfl) (hρ _ _ rfl)) (bool_as (decide_eq_true f2))) rfl rfl rfl (want_y 71 rfl rfl rfl) ?_
  refine TL_q (.bool true) (fun _ _ hρ _ => r_pick_t (hρ _ _ rfl) (hρ _ _ rfl)) rfl rfl rfl (w_n rfl) ?_
  refine TL_q (.bool true) (fun _ _ hρ _ => r_move (hρ _ _ rfl)) rfl rfl rfl (w_n rfl) ?_
  refine TL_q (.pointer (some ⟨c1.p, 0, none⟩)) (fun _ _ hρ _ => r_move (hρ _ _ rfl)) rfl rfl rfl (want_y 77 rfl rfl rfl) ?_
  refine TL_q (.pointer (some ⟨d1.p, 0, none⟩)) (fun _ _ hρ _ => r_move (hρ _ _ rfl)) rfl rfl rfl (want_y 77 rfl rfl rfl) ?_
  refine TL_callN (fun (_ : Option Addr × Nat) => True) (fun (ar5, cr5) => .slice ar5 ((difC c1.wd c1.hg c1.ts d1.ts).length) cr5) (fun (ar5, cr5) => [(5, .row (.slice ar5 ((difC c1.wd c1.hg c1.ts d1.ts).length) cr5) 47 2 ((difC c1.wd c1.hg c1.ts d1.ts).length) ((difC c1.wd c1.hg c1.ts d1.ts).flatMap ptn))]) (fun _ _ hρ _ => r_call (args := [.pointer (some ⟨c1.p, 0, none⟩), .pointer (some ⟨d1.p, 0, none⟩)]) (enters_of Try.func22 (by kernel_rfl) rfl) (hρ _ _ rfl) ((cons2 (hρ _ _ rfl) (cons2 (hρ _ _ rfl) rfl))) rfl) (fun w hm => (differ_eq c1 d1 w (hm.cv 960 rfl (List.Mem.tail _ (List.Mem.head _))) (hm.cv 960 rfl (List.Mem.head _)) hwd_d1.symm hhg_d1.symm).mono fun e w' ⟨a', cap', he, hb, hr⟩ => ⟨(a', cap'), trivial, he, hb, newOk1 5 hr⟩) rfl rfl rfl (want_y 77 rfl rfl rfl) ?_
  rintro ⟨ar5, cr5⟩ -
  refine TL_q (.agg #[.int .i64 9, .int .i64 1]) (fun _ _ hρ _ => r_build (vs := [(0, .int .i64 9), (1, .int .i64 1)]) (by kernel_rfl) (cons2 (pair2 (hρ _ _ rfl)) (cons2 (pair2 (hρ _ _ rfl)) rfl))) rfl rfl rfl (want_y 77 rfl rfl rfl) ?_
  refine TL_new 6 (.cells #[.int .i64 9, .int .i64 1] 47) (fun B => .slice (some ⟨B, 0, none⟩) 1 1) (fun _ _ hρ _ => r_buildSlice (vs := [(0, .agg #[.int .i64 9, .int .i64 1])]) (by kernel_rfl) (cons2 (pair2 (hρ _ _ rfl)) rfl)) rfl rfl rfl (want_y 77 rfl rfl rfl) ?_
  intro B6
  refine TL_call (.bool true) (fun _ _ hρ _ => r_call (args := [.slice ar5 ((difC c1.wd c1.hg c1.ts d1.ts).length) cr5, .slice (some ⟨B6, 0, none⟩) 1 1]) (enters_of Try.func34 (by kernel_rfl) rfl) (hρ _ _ rfl) ((cons2 (hρ _ _ rfl) (cons2 (hρ _ _ rfl) rfl))) rfl) (fun w hm => (equal_np (difC c1.wd c1.hg c1.ts d1.ts) [((9, 1) : NP)] ar5 (some ⟨B6, 0, none⟩) cr5 1 w (SliceAt.own ptn_len (hm.row 5 rfl) rfl rfl) ⟨Nat.le_of_ble_eq_true rfl, (fun e => by cases e), .inr ⟨_, 0, _, _, _, rfl, (hm.at 6 rfl), row_of_take (fun _ => rfl) rfl⟩⟩ (by omega) (Nat.le_of_ble_eq_true rfl)).mono fun _ _ h => ⟨h.1.trans (congrArg Ending.returned (bool_as (decide_eq_true f3))), h.2⟩) rfl rfl rfl (want_y 77 rfl rfl rfl) ?_
  refine TL_q (.bool true) (fun _ _ hρ _ => r_pick_t (hρ _ _ rfl) (hρ _ _ rfl)) rfl rfl rfl (w_n rfl) ?_
  refine TL_q (.bool true) (fun _ _ hρ _ => r_move (hρ _ _ rfl)) rfl rfl rfl (w_n rfl) ?_
  refine TL_q (.pointer (some ⟨c1.p, 0, none⟩)) (fun _ _ hρ _ => r_move (hρ _ _ rfl)) rfl rfl rfl (want_y 85 rfl rfl rfl) ?_
  refine TL_q (.pointer (some ⟨d1.p, 0, none⟩)) (fun _ _ hρ _ => r_move (hρ _ _ rfl)) rfl rfl rfl (want_y 85 rfl rfl rfl) ?_
  refine TL_call (.bool false) (fun _ _ hρ _ => r_call (args := [.pointer (some ⟨c1.p, 0, none⟩), .pointer (some ⟨d1.p, 0, none⟩)]) (enters_of Try.func25 (by kernel_rfl) rfl) (hρ _ _ rfl) ((cons2 (hρ _ _ rfl) (cons2 (hρ _ _ rfl) rfl))) rfl) (fun w hm => (same_eq c1 d1 w (hm.cv 960 rfl (List.Mem.tail _ (List.Mem.head _))) (hm.cv 960 rfl (List.Mem.head _)) hwd_d1.symm hhg_d1.symm).mono fun _ _ h => ⟨h.1.trans (congrArg Ending.returned (bool_as (decide_eq_false f4))), h.2⟩) rfl rfl rfl (want_y 85 rfl rfl rfl) ?_
  refine TL_q (.bool true) (fun _ _ hρ _ => r_not (b := false) (hρ _ _ rfl)) rfl rfl rfl (want_y 85 rfl rfl rfl) ?_
  refine TL_q (.bool true) (fun _ _ hρ _ => r_pick_t (hρ _ _ rfl) (hρ _ _ rfl)) rfl rfl rfl (w_n rfl) ?_
  refine TL_q (.bool true) (fun _ _ hρ _ => r_assign (hρ _ _ rfl)) rfl rfl rfl (w_n rfl) ?_
  refine TL_seq ?_
  refine T_sub [(0, .bool true)] [(5, .row (.slice ar5 ((difC c1.wd c1.hg c1.ts d1.ts).length) cr5) 47 2 ((difC c1.wd c1.hg c1.ts d1.ts).length) ((difC c1.wd c1.hg c1.ts d1.ts).flatMap ptn)), (960, .cvs [d1, c1]), (1, .blk B1 (.cells #[.int .u8 255, .int .u8 0, .int .u8 0, .int .u8 255] 37)), (2, .blk B2 (.cells #[.int .i64 9, .int .i64 1, .int .u8 255, .int .u8 0, .int .u8 0, .int .u8 255, .int .i64 99, .int .i64 0, .int .u8 255, .int .u8 0, .int .u8 0, .int .u8 255] 51)), (3, .blk B3 (.cells #[.int .u8 ((colAt d1.wd d1.ts 9 1).r), .int .u8 ((colAt d1.wd d1.ts 9 1).g), .int .u8 ((colAt d1.wd d1.ts 9 1).b), .int .u8 ((colAt d1.wd d1.ts 9 1).a)] 37)), (4, .blk B4 (.cells #[.int .u8 zeroC.r, .int .u8 zeroC.g, .int .u8 zeroC.b, .int .u8 zeroC.a] 37)), (6, .blk B6 (.cells #[.int .i64 9, .int .i64 1] 47))] (sub_cons rfl sub_nil) (sub_cons rfl (sub_cons rfl (sub_cons rfl (sub_cons rfl (sub_cons rfl (sub_cons rfl (sub_cons rfl sub_nil))))))) ?_
  refine T_ret' ?_
  refine ret_of rfl (.bool true) (fun tmps w hk hm => res1 rfl (res_tmp (hk 0 _ rfl))) (fun w hm => ?_)
  exact ⟨rfl, hm.ext⟩
end Go.Proofs.Ytbiapeaghbndoaa
