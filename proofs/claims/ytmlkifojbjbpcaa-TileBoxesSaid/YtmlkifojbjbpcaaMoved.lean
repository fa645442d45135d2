/- tile: moved. Printed by a program of this seat's prover. -/
import Derived.Test.YtmlkifojbjbpcaaNew
import Derived.Test.YtmlkifojbjbpcaaBuildW
namespace Go.Proofs.Ytmlkifojbjbpcaa
open Go Go.RowKit
set_option maxRecDepth 10000
theorem pts_nat {k : Nat} {x : Int × Int} (hx : pts[k]? = some x) : ∃ px py : Nat, x = (((px : Nat) : Int), ((py : Nat) : Int)) ∧ px < 8 ∧ py < 8 ∧ k = 8 * py + px := by
  have hk : k < 64 := by have := (List.getElem?_eq_some_iff.1 hx).1; simpa [pts] using this
  have h := pts_at (x := k % 8) (y := k / 8) (by omega) (by omega)
  rw [show 8 * (k / 8) + k % 8 = k by omega, hx] at h
  cases h
  exact ⟨k % 8, k / 8, rfl, by omega, by omega, by omega⟩
theorem moved_put {F : Int → Int → Int × Int} {l z : List C4} {px py : Nat} (hx : px < 8) : putL (gridN (movedG F l) z (8 * py + px)) (F px py).1 (F px py).2 (get l (py * 8 + px)) = gridN (movedG F l) z (8 * py + px + 1) := by
  rw [← grid_step hx, Nat.mul_comm py 8]; rfl

theorem moved_c (l : List C4) (c : C4) (fid : Nat) (cap : Array Value) (F : Int → Int → Int × Int) (w : World) (hl : l.length = 64) (hE : Enters Try.prog fid)
    (hcl : ∀ w', Below w.heap.size w w' → ∀ px py : Nat, px < 8 → py < 8 → Calls Try.prog fid (#[] ++ [.int .i64 px, .int .i64 py].toArray ++ cap) w' fun e w'' => e = .returned (.tuple #[.int .i64 (F px py).1, .int .i64 (F px py).2]) ∧ Below w'.heap.size w' w'') :
    Calls Try.prog 41 #[til l, c.v, .func (.func fid) #[] cap] w fun e w' => e = .returned (til (movedL F l c)) ∧ Below w.heap.size w w' := by
  refine calls_of_T (l := [.agg (lst C4.cells l), .agg #[.int .u8 c.r, .int .u8 c.g, .int .u8 c.b, .int .u8 c.a], .func (.func fid) #[] cap]) 40 Try.func41 rfl rfl rfl ?_
  show T _ _ _ [(0, .agg (lst C4.cells l)), (1, .agg #[.int .u8 c.r, .int .u8 c.g, .int .u8 c.b, .int .u8 c.a]), (2, .func (.func fid) #[] cap)] []
  refine T_seq (T_region ?_)
  refine TL_new 1 (.cells (lst C4.cells l) 25) (fun B => .pointer (some ⟨B, 0, none⟩)) (fun _ _ hρ _ => r_box (hρ _ _ rfl) rfl) rfl rfl rfl (w_n rfl) ?_
  intro B1
  refine TL_new 2 (.cells #[.int .u8 c.r, .int .u8 c.g, .int .u8 c.b, .int .u8 c.a] 23) (fun B => .pointer (some ⟨B, 0, none⟩)) (fun _ _ hρ _ => r_box (hρ _ _ rfl) rfl) rfl rfl rfl (w_n rfl) ?_
  intro B2
  refine TL_new 3 (.cells #[.func (.func fid) #[] cap] 72) (fun B => .pointer (some ⟨B, 0, none⟩)) (fun _ _ hρ _ => r_box (hρ _ _ rfl) rfl) rfl rfl rfl (w_n rfl) ?_
  intro B3
  refine TL_new 4 (.cells (lst C4.cells zero64) 25) (fun B => .pointer (some ⟨B, 0, none⟩)) (fun _ _ _ _ => r_alloc (v := .agg (lst C4.cells zero64)) (by kernel_rfl) rfl) rfl rfl rfl (w_n rfl) ?_
  intro B4
  refine TL_seq ?_
  refine T_seq (T_region ?_)
  refine TL_q (.agg #[.int .u8 c.r, .int .u8 c.g, .int .u8 c.b, .int .u8 c.a]) (fun _ _ hρ hm => r_loadA ag23 sz23 (hρ _ _ rfl) (hm.at 2 rfl) rfl rfl) rfl rfl rfl (w_n rfl) ?_
  refine TL_call (.agg (lst C4.cells (newL c))) (fun _ _ hρ _ => r_call (args := [.agg #[.int .u8 c.r, .int .u8 c.g, .int .u8 c.b, .int .u8 c.a]]) (enters_of Try.func31 (by kernel_rfl) rfl) (hρ _ _ rfl) ((cons2 (hρ _ _ rfl) rfl)) rfl) (fun w _ => new_c c w) rfl rfl rfl (w_n rfl) ?_
  refine TL_q (.agg (lst C4.cells (newL c))) (fun _ _ hρ _ => r_build (vs := [(0, .agg (lst C4.cells (newL c)))]) (build_work (tsz (newL_len _)) _) (cons2 (pair2 (hρ _ _ rfl)) rfl)) rfl rfl rfl (w_n rfl) ?_
  refine TL_new 900 (.cells (lst C4.cells (newL c)) 69) (fun B => .pointer (some ⟨B, 0, none⟩)) (fun _ _ hρ _ => r_box (hρ _ _ rfl) rfl) rfl rfl rfl (w_n rfl) ?_
  intro B5
  refine TL_new 5 (.cells #[.pointer none] 67) (fun B => .pointer (some ⟨B, 0, none⟩)) (fun _ _ _ _ => r_alloc (v := .pointer none) (by kernel_rfl) rfl) rfl rfl rfl (w_n rfl) ?_
  intro B6
  refine TL_store 5 (.cells #[.pointer (some ⟨B5, 0, none⟩)] 67) rfl (fun _ _ hρ hm => r_store sz67 (hρ _ _ rfl) (hρ _ _ rfl) (hm.at 5 rfl) rfl rfl rfl rfl) rfl rfl (w_n rfl) ?_
  refine TL_seq ?_
  refine T_seq ?_
  refine T_seq (T_region ?_)
  refine TL_call (.func (.func 47) #[] #[]) (fun _ _ hρ _ => r_call (args := []) (enters_of Try.func38 (by kernel_rfl) rfl) (hρ _ _ rfl) (by rfl) rfl) (fun w _ => each_c w) rfl rfl rfl (w_n rfl) ?_
  refine TL_seq ?_
  refine T_block ?_
  refine T_sub [(3, .pointer (some ⟨B1, 0, none⟩)), (5, .pointer (some ⟨B3, 0, none⟩)), (6, .pointer (some ⟨B4, 0, none⟩)), (7, .pointer (some ⟨B6, 0, none⟩)), (16, .func (.func 47) #[] #[])] [(1, .blk B1 (.cells (lst C4.cells l) 25)), (2, .blk B2 (.cells #[.int .u8 c.r, .int .u8 c.g, .int .u8 c.b, .int .u8 c.a] 23)), (3, .blk B3 (.cells #[.func (.func fid) #[] cap] 72)), (4, .blk B4 (.cells (lst C4.cells zero64) 25)), (900, .blk B5 (.cells (lst C4.cells (newL c)) 69)), (5, .blk B6 (.cells #[.pointer (some ⟨B5, 0, none⟩)] 67))] (sub_cons rfl (sub_cons rfl (sub_cons rfl (sub_cons rfl (sub_cons rfl sub_nil))))) (sub_cons rfl (sub_cons rfl (sub_cons rfl (sub_cons rfl (sub_cons rfl (sub_cons rfl sub_nil)))))) ?_
  refine T_range (ι := Unit) (encs := encP) (xs := pts) rfl rfl (enters_of Try.func47 (by kernel_rfl) rfl) (fun _ => rfl) rfl 801 802 rfl (fun (k : Nat) (_u : Unit) => True) (fun (k : Nat) (_u : Unit) => [(1, .blk B1 (.cells (lst C4.cells l) 25)), (2, .blk B2 (.cells #[.int .u8 c.r, .int .u8 c.g, .int .u8 c.b, .int .u8 c.a] 23)), (3, .blk B3 (.cells #[.func (.func fid) #[] cap] 72)), (4, .blk B4 (.cells (lst C4.cells zero64) 25)), (5, .blk B6 (.cells #[.pointer (some ⟨B5, 0, none⟩)] 67)), (900, .blk B5 (.cells (lst C4.cells (gridN (movedG F l) (newL c) k)) 69))]) (fun _ _ => False) (fun _ => []) (fun x => [(3, .pointer (some ⟨B1, 0, none⟩)), (5, .pointer (some ⟨B3, 0, none⟩)), (6, .pointer (some ⟨B4, 0, none⟩)), (7, .pointer (some ⟨B6, 0, none⟩)), (16, .func (.func 47) #[] #[]), (8, .int .i64 x.1), (9, .int .i64 x.2)]) (fun D l rec => each_iter _ _ _) (fun _ _ => ⟨rfl, rfl⟩) (fun _ => ⟨rfl, rfl⟩) () trivial (sub_cons rfl (sub_cons rfl (sub_cons rfl (sub_cons rfl (sub_cons rfl (sub_cons rfl sub_nil)))))) ?_ ?_ ?_ (fun _ _ _ h => h.elim)
  · intro D1 l1 rec1 k x _u hx1 hp1
    refine T_sub [(3, .pointer (some ⟨B1, 0, none⟩)), (5, .pointer (some ⟨B3, 0, none⟩)), (6, .pointer (some ⟨B4, 0, none⟩)), (7, .pointer (some ⟨B6, 0, none⟩)), (16, .func (.func 47) #[] #[]), (17, .int .i64 x.1), (18, .int .i64 x.2)] [(801, .blk D1 (.deferred (some []))), (802, .blk l1 (.loop rec1)), (1, .blk B1 (.cells (lst C4.cells l) 25)), (2, .blk B2 (.cells #[.int .u8 c.r, .int .u8 c.g, .int .u8 c.b, .int .u8 c.a] 23)), (3, .blk B3 (.cells #[.func (.func fid) #[] cap] 72)), (4, .blk B4 (.cells (lst C4.cells zero64) 25)), (5, .blk B6 (.cells #[.pointer (some ⟨B5, 0, none⟩)] 67)), (900, .blk B5 (.cells (lst C4.cells (gridN (movedG F l) (newL c) k)) 69))] (sub_cons rfl (sub_cons rfl (sub_cons rfl (sub_cons rfl (sub_cons rfl (sub_cons rfl (sub_cons rfl sub_nil))))))) (sub_cons rfl (sub_cons rfl (sub_cons rfl (sub_cons rfl (sub_cons rfl (sub_cons rfl (sub_cons rfl (sub_cons rfl sub_nil)))))))) ?_
    refine T_seq (T_region ?_)
    refine TL_q (.int .i64 x.1) (fun _ _ hρ _ => r_assign (hρ _ _ rfl)) rfl rfl rfl (w_n rfl) ?_
    refine TL_seq ?_
    refine T_region ?_
    refine TL_q (.int .i64 x.2) (fun _ _ hρ _ => r_assign (hρ _ _ rfl)) rfl rfl rfl (w_n rfl) ?_
    refine TL_nil ?_
    exact p_at () trivial (sub_cons rfl (sub_cons rfl (sub_cons rfl (sub_cons rfl (sub_cons rfl (sub_cons rfl (sub_cons rfl sub_nil))))))) (sub_cons rfl (sub_cons rfl (sub_cons rfl (sub_cons rfl (sub_cons rfl (sub_cons rfl (sub_cons rfl (sub_cons rfl sub_nil))))))))
  · intro D1 l1 rec1 k x _u hx1 hp1
    show T _ _ _ [(3, .pointer (some ⟨B1, 0, none⟩)), (5, .pointer (some ⟨B3, 0, none⟩)), (6, .pointer (some ⟨B4, 0, none⟩)), (7, .pointer (some ⟨B6, 0, none⟩)), (16, .func (.func 47) #[] #[]), (8, .int .i64 x.1), (9, .int .i64 x.2)] [(801, .blk D1 (.deferred (some []))), (802, .blk l1 (.loop { rec1 with state := .busy })), (1, .blk B1 (.cells (lst C4.cells l) 25)), (2, .blk B2 (.cells #[.int .u8 c.r, .int .u8 c.g, .int .u8 c.b, .int .u8 c.a] 23)), (3, .blk B3 (.cells #[.func (.func fid) #[] cap] 72)), (4, .blk B4 (.cells (lst C4.cells zero64) 25)), (5, .blk B6 (.cells #[.pointer (some ⟨B5, 0, none⟩)] 67)), (900, .blk B5 (.cells (lst C4.cells (gridN (movedG F l) (newL c) k)) 69))]
    obtain ⟨px, py, rfl, hpx, hpy, rfl⟩ := pts_nat hx1
    show T _ _ _ [(3, .pointer (some ⟨B1, 0, none⟩)), (5, .pointer (some ⟨B3, 0, none⟩)), (6, .pointer (some ⟨B4, 0, none⟩)), (7, .pointer (some ⟨B6, 0, none⟩)), (16, .func (.func 47) #[] #[]), (8, .int .i64 ((px : Nat) : Int)), (9, .int .i64 ((py : Nat) : Int))] [(801, .blk D1 (.deferred (some []))), (802, .blk l1 (.loop { rec1 with state := .busy })), (1, .blk B1 (.cells (lst C4.cells l) 25)), (2, .blk B2 (.cells #[.int .u8 c.r, .int .u8 c.g, .int .u8 c.b, .int .u8 c.a] 23)), (3, .blk B3 (.cells #[.func (.func fid) #[] cap] 72)), (4, .blk B4 (.cells (lst C4.cells zero64) 25)), (5, .blk B6 (.cells #[.pointer (some ⟨B5, 0, none⟩)] 67)), (900, .blk B5 (.cells (lst C4.cells (gridN (movedG F l) (newL c) (8 * py + px))) 69))]
    refine T_block ?_
    refine T_seq (T_region ?_)
    refine TL_q (.func (.func fid) #[] cap) (fun _ _ hρ hm => r_load ag72 (hρ _ _ rfl) (hm.at 3 rfl) rfl) rfl rfl rfl (w_n rfl) ?_
    refine TL_q (.int .i64 ((px : Nat) : Int)) (fun _ _ hρ _ => r_move (hρ _ _ rfl)) rfl rfl rfl (w_n rfl) ?_
    refine TL_q (.int .i64 ((py : Nat) : Int)) (fun _ _ hρ _ => r_move (hρ _ _ rfl)) rfl rfl rfl (w_n rfl) ?_
    refine TL_call (.tuple #[.int .i64 ((F ((px : Nat) : Int) ((py : Nat) : Int)).1), .int .i64 ((F ((px : Nat) : Int) ((py : Nat) : Int)).2)]) (fun _ _ hρ _ => r_call (args := [.int .i64 ((px : Nat) : Int), .int .i64 ((py : Nat) : Int)]) hE (hρ _ _ rfl) ((cons2 (hρ _ _ rfl) (cons2 (hρ _ _ rfl) rfl))) rfl) (fun w hm => hcl w hm.ext px py hpx hpy) rfl rfl rfl (w_n rfl) ?_
    refine TL_q (.tuple #[.int .i64 ((F ((px : Nat) : Int) ((py : Nat) : Int)).1), .int .i64 ((F ((px : Nat) : Int) ((py : Nat) : Int)).2)]) (fun _ _ hρ _ => r_move (hρ _ _ rfl)) rfl rfl rfl (w_n rfl) ?_
    refine TL_q (.int .i64 ((F ((px : Nat) : Int) ((py : Nat) : Int)).1)) (fun _ _ hρ _ => r_extract (hρ _ _ rfl) rfl) rfl rfl rfl (w_n rfl) ?_
    refine TL_q (.int .i64 ((F ((px : Nat) : Int) ((py : Nat) : Int)).2)) (fun _ _ hρ _ => r_extract (hρ _ _ rfl) rfl) rfl rfl rfl (w_n rfl) ?_
    refine TL_q (.int .i64 ((F ((px : Nat) : Int) ((py : Nat) : Int)).1)) (fun _ _ hρ _ => r_assign (hρ _ _ rfl)) rfl rfl rfl (w_n rfl) ?_
    refine TL_q (.int .i64 ((F ((px : Nat) : Int) ((py : Nat) : Int)).2)) (fun _ _ hρ _ => r_assign (hρ _ _ rfl)) rfl rfl rfl (w_n rfl) ?_
    refine TL_seq ?_
    refine T_draw (V := [(0, .pointer (some ⟨B5, 0, none⟩)), (1, .int .i64 ((F ((px : Nat) : Int) ((py : Nat) : Int)).1)), (2, .int .i64 ((F ((px : Nat) : Int) ((py : Nat) : Int)).2)), (3, .int .i64 ((py : Nat) : Int)), (4, .int .i64 ((py * 8 : Nat) : Int)), (5, .int .i64 ((px : Nat) : Int)), (6, .int .i64 ((py * 8 + px : Nat) : Int)), (7, .pointer (some ⟨B1, 0 + (py * 8 + px) * 4, none⟩)), (8, .agg #[.int .u8 ((get l (py * 8 + px)).r), .int .u8 ((get l (py * 8 + px)).g), .int .u8 ((get l (py * 8 + px)).b), .int .u8 ((get l (py * 8 + px)).a)])]) [0, 0, 0, 0, 8, 0, 56, 120, 248, 511] [[(7, none)], [(10, none)], [(11, none)], [(9, none)], [(29, some 3)], [(8, none)], [(30, some 4), (31, some 5)], [(3, none), (32, some 6)], [(33, some 7)], [(26, some 0), (27, some 1), (28, some 2), (34, some 8)]] 512 mixed (by kernel_rfl) ?_
    refine G_step [0, 1, 2, 3, 4, 5, 6, 7, 8] 9 [] (by kernel_rfl) (allM (all_cons (q_run (.pointer (some ⟨B5, 0, none⟩)) rfl rfl (wv_n rfl) rfl (fun _ _ hρ hm => r_load ag67 (hρ _ _ rfl) (hm.at 5 rfl) rfl)) (all_cons (q_run (.int .i64 ((F ((px : Nat) : Int) ((py : Nat) : Int)).1)) rfl rfl (wv_n rfl) rfl (fun _ _ hρ _ => r_move (hρ _ _ rfl))) (all_cons (q_run (.int .i64 ((F ((px : Nat) : Int) ((py : Nat) : Int)).2)) rfl rfl (wv_n rfl) rfl (fun _ _ hρ _ => r_move (hρ _ _ rfl))) (all_cons (q_run (.int .i64 ((py : Nat) : Int)) rfl rfl (wv_n rfl) rfl (fun _ _ hρ _ => r_move (hρ _ _ rfl))) (all_cons (q_run (.int .i64 ((py * 8 : Nat) : Int)) rfl rfl (wv_n rfl) rfl (fun _ _ hρ _ => r_as (r_mul (hρ _ _ rfl) (hρ _ _ rfl)) (int_as ((wrap64 (by omega) (by omega)).trans (by omega))))) (all_cons (q_run (.int .i64 ((px : Nat) : Int)) rfl rfl (wv_n rfl) rfl (fun _ _ hρ _ => r_move (hρ _ _ rfl))) (all_cons (q_run (.int .i64 ((py * 8 + px : Nat) : Int)) rfl rfl (wv_n rfl) rfl (fun _ _ hρ _ => r_as (r_add (hρ _ _ rfl) (hρ _ _ rfl)) (int_as ((wrap64 (by omega) (by omega)).trans (by omega))))) (all_cons (q_run (.pointer (some ⟨B1, 0 + (py * 8 + px) * 4, none⟩)) rfl rfl (wv_n rfl) rfl (fun _ _ hρ _ => r_indexAddrA (i := py * 8 + px) ar25 sz23 (hρ _ _ rfl) (hρ _ _ rfl) (by omega))) (all_cons (q_run (.agg #[.int .u8 ((get l (py * 8 + px)).r), .int .u8 ((get l (py * 8 + px)).g), .int .u8 ((get l (py * 8 + px)).b), .int .u8 ((get l (py * 8 + px)).a)]) rfl rfl (wv_n rfl) rfl (fun _ _ hρ hm => r_loadRow (f := C4.cells) (u := (get l (py * 8 + px))) ag23 sz23 (hρ _ _ rfl) (hm.at 1 rfl) (row_lst C4.cells_len _) (get_some hl (by omega)))) all_nil)))))))))) (allM (all_cons ?_ all_nil))
    refine LOb_callH _ _ _ (fun _ => []) rfl (wv_n rfl) rfl rfl (fun _ _ hρ _ => r_call (args := [.pointer (some ⟨B5, 0, none⟩), .int .i64 ((F ((px : Nat) : Int) ((py : Nat) : Int)).1), .int .i64 ((F ((px : Nat) : Int) ((py : Nat) : Int)).2), .agg #[.int .u8 ((get l (py * 8 + px)).r), .int .u8 ((get l (py * 8 + px)).g), .int .u8 ((get l (py * 8 + px)).b), .int .u8 ((get l (py * 8 + px)).a)]]) (enters_of Try.func40 (by kernel_rfl) rfl) (hρ _ _ rfl) ((cons2 (hρ _ _ rfl) (cons2 (hρ _ _ rfl) (cons2 (hρ _ _ rfl) (cons2 (hρ _ _ rfl) rfl))))) rfl) (fun w hm => put_ht _ _ B5 (gridN (movedG F l) (newL c) (8 * py + px)) ((F ((px : Nat) : Int) ((py : Nat) : Int)).1) ((F ((px : Nat) : Int) ((py : Nat) : Int)).2) (get l (py * 8 + px)) (grid_len (movedG_len _ _) (newL_len _) _) rfl rfl w hm) (fun _ => by kernel_rfl) ?_
    intro _ _
    refine G_lastQ [] [(6, .pointer (some ⟨B4, 0, none⟩))] (by kernel_rfl) (allM all_nil) (end_old rfl rfl end_nil) ?_
    refine p_blk_n ?_
    rw [show putL (gridN (movedG F l) (newL c) (8 * py + px)) (F ((px : Nat) : Int) ((py : Nat) : Int)).1 (F ((px : Nat) : Int) ((py : Nat) : Int)).2 (get l (py * 8 + px)) = gridN (movedG F l) (newL c) (8 * py + px + 1) from moved_put hpx]
    exact p_round_n () trivial (sub_cons rfl (sub_cons rfl (sub_cons rfl (sub_cons rfl (sub_cons rfl (sub_cons rfl (sub_cons rfl (sub_cons rfl sub_nil))))))))
  · intro D1 _u hp1
    refine p_sub [(3, .pointer (some ⟨B1, 0, none⟩)), (5, .pointer (some ⟨B3, 0, none⟩)), (6, .pointer (some ⟨B4, 0, none⟩)), (7, .pointer (some ⟨B6, 0, none⟩)), (16, .func (.func 47) #[] #[])] [(801, .blk D1 (.deferred (some []))), (1, .blk B1 (.cells (lst C4.cells l) 25)), (2, .blk B2 (.cells #[.int .u8 c.r, .int .u8 c.g, .int .u8 c.b, .int .u8 c.a] 23)), (3, .blk B3 (.cells #[.func (.func fid) #[] cap] 72)), (4, .blk B4 (.cells (lst C4.cells zero64) 25)), (5, .blk B6 (.cells #[.pointer (some ⟨B5, 0, none⟩)] 67)), (900, .blk B5 (.cells (lst C4.cells (gridN (movedG F l) (newL c) 64)) 69))] (sub_cons rfl (sub_cons rfl (sub_cons rfl (sub_cons rfl (sub_cons rfl sub_nil))))) (sub_cons rfl (sub_cons rfl (sub_cons rfl (sub_cons rfl (sub_cons rfl (sub_cons rfl (sub_cons rfl sub_nil))))))) ?_
    refine p_blk_n ?_
    refine p_seq ?_
    refine T_seq (T_region ?_)
    refine TL_q (.pointer (some ⟨B5, 0, none⟩)) (fun _ _ hρ hm => r_load ag67 (hρ _ _ rfl) (hm.at 5 rfl) rfl) rfl rfl rfl (w_n rfl) ?_
    refine TL_q (.pointer (some ⟨B5, 0, none⟩)) (fun _ _ hρ _ => r_nilCheck (hρ _ _ rfl) rfl) rfl rfl rfl (w_n rfl) ?_
    refine TL_q (.pointer (some ⟨B5, 0, none⟩)) (fun _ _ hρ _ => r_fieldAddr fl69_0 sz25 (hρ _ _ rfl)) rfl rfl rfl (w_n rfl) ?_
    refine TL_q (.agg (lst C4.cells (gridN (movedG F l) (newL c) 64))) (fun _ _ hρ hm => r_loadW ag25 sz25 (hρ _ _ rfl) (hm.at 900 rfl) (tsz (grid_len (movedG_len _ _) (newL_len _) _))) rfl rfl rfl (w_n rfl) ?_
    refine TL_store 4 (.cells (lst C4.cells (gridN (movedG F l) (newL c) 64)) 25) rfl (fun _ _ hρ hm => r_storeAll sz25 (hρ _ _ rfl) (hρ _ _ rfl) (hm.at 4 rfl) (tsz zero64_len) (tsz (grid_len (movedG_len _ _) (newL_len _) _)) (lst_one C4.cells_all _)) rfl rfl (w_n rfl) ?_
    refine TL_seq ?_
    refine T_ret' ?_
    refine ret_of1 801 D1 rfl rfl (.agg (lst C4.cells (gridN (movedG F l) (newL c) 64))) (fun tmps w hk hm => res1 rfl (res_cell (hk 6 _ rfl) (run_loadVar_agg ag25 sz25 (hm.at 4 rfl) (le64 (grid_len (movedG_len _ _) (newL_len _) _)) (ex64 (grid_len (movedG_len _ _) (newL_len _) _))))) (fun w hm => ?_)
    exact ⟨rfl, hm.ext⟩
end Go.Proofs.Ytmlkifojbjbpcaa
