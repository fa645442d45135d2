/- Texts of this seat, merged: part 2. -/
import Derived.Test.YtcidgbjgeegepaaMg1
import Derived.Maps.RangeRun
import Derived.Lib.AppendZeros
import Derived.ScopeJumps
import Derived.Recover
import Derived.Laws.Build
import Derived.WideLaws
/- crc: slices of bytes, Table, Seal. Printed by a program of this seat's prover. -/
namespace Go.Proofs.Ytcidgbjgeegepaa
open Go Go.RowKit
set_option maxRecDepth 10000
theorem byc_one : ∀ x, ∀ u ∈ byc x, u.oneCell' = true := fun x u hu => by rw [List.mem_singleton.1 hu]; rfl
theorem row_cap {w : World} {base n s cap : Nat} {e : TypeId} {a : Option Addr} {xs : List Value} (h : w.ownsRow base e s (.slice a n cap) n xs) : cap ≤ Go.maxLen := by
  rcases h.2 with ⟨h1, _⟩ | ⟨g, cap', cur, h1, _, _, _, h5, _⟩
  · cases h1; decide
  · cases h1; exact h5

theorem equal_b (l m : List By) (a b : Option Addr) (ca cb : Nat) (w : World) (hv : SliceAt w a ca 1 byc l) (hu : SliceAt w b cb 1 byc m) (hl : l.length ≤ 4611686018427387904) (hl' : m.length ≤ 4611686018427387904) :
    Calls Try.prog 16 #[.slice a l.length ca, .slice b m.length cb] w fun e w' => e = .returned (.bool (decide (l = m))) ∧ Below w.heap.size w w' := by
  refine calls_of_T (l := [.slice a l.length ca, .slice b m.length cb]) 26 Try.func16 rfl rfl rfl ?_
  show T _ _ _ [(0, .slice a l.length ca), (1, .slice b m.length cb)] []
  refine T_seq (T_region ?_)
  refine TL_q (.bool false) (fun _ _ hρ _ => r_assign (hρ _ _ rfl)) rfl rfl rfl (w_n rfl) ?_
  refine TL_seq ?_
  refine T_seq ?_
  by_cases hlm : ((l.length : Nat) : Int) = ((m.length : Nat) : Int)
  · skip
    refine T_seq (T_region ?_)
    refine TL_q (.slice a l.length ca) (fun _ _ hρ _ => r_move (hρ _ _ rfl)) rfl rfl rfl (w_n rfl) ?_
    refine TL_q (.int .i64 ((l.length : Nat) : Int)) (fun _ _ hρ _ => r_len sl34 (hρ _ _ rfl)) rfl rfl rfl (w_n rfl) ?_
    refine TL_q (.slice b m.length cb) (fun _ _ hρ _ => r_move (hρ _ _ rfl)) rfl rfl rfl (w_n rfl) ?_
    refine TL_q (.int .i64 ((m.length : Nat) : Int)) (fun _ _ hρ _ => r_len sl34 (hρ _ _ rfl)) rfl rfl rfl (w_n rfl) ?_
    refine TL_q (.bool false) (fun _ _ hρ _ => r_as (r_neq (hρ _ _ rfl) (hρ _ _ rfl)) (bool_as (by rw [decide_eq_true hlm]; rfl))) rfl rfl rfl (w_n rfl) ?_
    refine TL_seq ?_
    refine T_cond_f rfl ?_
    refine T_skip' ?_
    refine p_seq ?_
    refine T_seq ?_
    refine T_seq (T_region ?_)
    refine TL_q (.slice a l.length ca) (fun _ _ hρ _ => r_move (hρ _ _ rfl)) rfl rfl rfl (w_n rfl) ?_
    refine TL_q (.int .i64 ((l.length : Nat) : Int)) (fun _ _ hρ _ => r_len sl34 (hρ _ _ rfl)) rfl rfl rfl (w_n rfl) ?_
    refine TL_q (.int .i64 0) (fun _ _ hρ _ => r_move (hρ _ _ rfl)) rfl rfl rfl (w_n rfl) ?_
    refine TL_seq ?_
    refine T_block ?_
    refine T_loop (ι := Nat) (fun (k : Nat) => k ≤ l.length ∧ l.take k = m.take k) (fun (k : Nat) => [(0, .slice a l.length ca), (1, .slice b m.length cb), (12, .int .i64 ((l.length : Nat) : Int)), (13, .int .i64 ((k : Nat) : Int))]) (fun (k : Nat) => []) (fun (k : Nat) => l.length - k) 0 ⟨Nat.zero_le _, by simp⟩ (sub_cons rfl (sub_cons rfl (sub_cons rfl (sub_cons rfl sub_nil)))) sub_nil ?_
    rintro k hp
    obtain ⟨hk1, hk2⟩ := hp
    show T _ _ _ [(0, .slice a l.length ca), (1, .slice b m.length cb), (12, .int .i64 ((l.length : Nat) : Int)), (13, .int .i64 ((k : Nat) : Int))] []
    refine T_seq (T_region ?_)
    refine TL_q (.bool (decide (((k : Nat) : Int) < ((l.length : Nat) : Int)))) (fun _ _ hρ _ => r_lss (hρ _ _ rfl) (hρ _ _ rfl)) rfl rfl rfl (w_n rfl) ?_
    refine TL_seq ?_
    refine T_seq ?_
    refine T_cond rfl (fun h1 => ?_) (fun h1 => ?_)
    · replace h1 := of_decide_eq_true h1
      refine T_skip' ?_
      refine p_seq ?_
      refine T_seq ?_
      refine T_block ?_
      obtain ⟨x, hx⟩ : ∃ x, l[k]? = some x := ⟨_, List.getElem?_eq_getElem (by omega)⟩
      obtain ⟨y, hy⟩ : ∃ y, m[k]? = some y := ⟨_, List.getElem?_eq_getElem (by omega)⟩
      obtain ⟨b1, of1, cs1, T1, fz1, ha1, hq1, hr1⟩ := hv.open (i := k) (by omega)
      subst ha1
      obtain ⟨b2, of2, cs2, T2, fz2, ha2, hq2, hr2⟩ := hu.open (i := k) (by omega)
      subst ha2
      refine T_seq (T_region ?_)
      refine TL_q (.int .i64 ((k : Nat) : Int)) (fun _ _ hρ _ => r_move (hρ _ _ rfl)) rfl rfl rfl (w_n rfl) ?_
      refine TL_q (.int .i64 ((k : Nat) : Int)) (fun _ _ hρ _ => r_assign (hρ _ _ rfl)) rfl rfl rfl (w_n rfl) ?_
      refine TL_seq ?_
      refine T_seq (T_draw (V := [(0, .slice (some ⟨b1, of1, none⟩) l.length ca), (1, .int .i64 ((k : Nat) : Int)), (2, .pointer (some ⟨b1, of1 + k * 1, none⟩)), (3, .int .u8 ((x).toNat : Int)), (4, .slice (some ⟨b2, of2, none⟩) m.length cb), (5, .int .i64 ((k : Nat) : Int)), (6, .pointer (some ⟨b2, of2 + k * 1, none⟩)), (7, .int .u8 ((y).toNat : Int)), (8, .bool (!decide (((x).toNat : Int) = ((y).toNat : Int))))]) [0, 0, 3, 7, 0, 0, 48, 112, 255] [[(0, none)], [(5, none)], [(16, some 0), (17, some 1)], [(18, some 2)], [(1, none)], [(5, none)], [(20, some 4), (21, some 5)], [(22, some 6)], [(19, some 3), (23, some 7)]] 0 mixed (by kernel_rfl) ?_)
      refine G_last [0, 1, 2, 3, 4, 5, 6, 7, 8] [(0, .slice (some ⟨b1, of1, none⟩) l.length ca), (1, .slice (some ⟨b2, of2, none⟩) m.length cb), (12, .int .i64 ((l.length : Nat) : Int)), (13, .int .i64 ((k : Nat) : Int)), (14, .bool (decide (((k : Nat) : Int) < ((l.length : Nat) : Int)))), (15, .int .i64 ((k : Nat) : Int)), (5, .int .i64 ((k : Nat) : Int)), (16, .slice (some ⟨b1, of1, none⟩) l.length ca), (17, .int .i64 ((k : Nat) : Int)), (18, .pointer (some ⟨b1, of1 + k * 1, none⟩)), (19, .int .u8 ((x).toNat : Int)), (20, .slice (some ⟨b2, of2, none⟩) m.length cb), (21, .int .i64 ((k : Nat) : Int)), (22, .pointer (some ⟨b2, of2 + k * 1, none⟩)), (23, .int .u8 ((y).toNat : Int)), (24, .bool (!decide (((x).toNat : Int) = ((y).toNat : Int))))] (by kernel_rfl) (allM (all_cons (q_run (.slice (some ⟨b1, of1, none⟩) l.length ca) rfl rfl (wv_n rfl) rfl (fun _ _ hρ _ => r_move (hρ _ _ rfl))) (all_cons (q_run (.int .i64 ((k : Nat) : Int)) rfl rfl (wv_n rfl) rfl (fun _ _ hρ _ => r_move (hρ _ _ rfl))) (all_cons (q_run (.pointer (some ⟨b1, of1 + k * 1, none⟩)) rfl rfl (wv_n rfl) rfl (fun _ _ hρ _ => r_indexAddrS (i := k) sl34 sz5 (hρ _ _ rfl) (hρ _ _ rfl) (by omega))) (all_cons (q_run (.int .u8 ((x).toNat : Int)) rfl rfl (wv_n rfl) rfl (fun _ _ hρ hm => r_loadRow1 (f := byc) (u := x) ag5 (hρ _ _ rfl) (hm.old hq1) hr1 hx rfl)) (all_cons (q_run (.slice (some ⟨b2, of2, none⟩) m.length cb) rfl rfl (wv_n rfl) rfl (fun _ _ hρ _ => r_move (hρ _ _ rfl))) (all_cons (q_run (.int .i64 ((k : Nat) : Int)) rfl rfl (wv_n rfl) rfl (fun _ _ hρ _ => r_move (hρ _ _ rfl))) (all_cons (q_run (.pointer (some ⟨b2, of2 + k * 1, none⟩)) rfl rfl (wv_n rfl) rfl (fun _ _ hρ _ => r_indexAddrS (i := k) sl34 sz5 (hρ _ _ rfl) (hρ _ _ rfl) (by omega))) (all_cons (q_run (.int .u8 ((y).toNat : Int)) rfl rfl (wv_n rfl) rfl (fun _ _ hρ hm => r_loadRow1 (f := byc) (u := y) ag5 (hρ _ _ rfl) (hm.old hq2) hr2 hy rfl)) (all_cons (q_run (.bool (!decide (((x).toNat : Int) = ((y).toNat : Int)))) rfl rfl (wv_n rfl) rfl (fun _ _ hρ _ => r_neq (hρ _ _ rfl) (hρ _ _ rfl))) all_nil)))))))))) (end_old rfl rfl (end_old rfl rfl (end_old rfl rfl (end_old rfl rfl (end_old rfl rfl (end_old rfl rfl (end_old rfl rfl (end_new 0 rfl rfl (end_new 1 rfl rfl (end_new 2 rfl rfl (end_new 3 rfl rfl (end_new 4 rfl rfl (end_new 5 rfl rfl (end_new 6 rfl rfl (end_new 7 rfl rfl (end_new 8 rfl rfl end_nil)))))))))))))))) ?_
      refine T_cond rfl (fun h2 => ?_) (fun h2 => ?_)
      · replace h2 := of_decide_eq_false (bnot_t h2)
        have hxy : ¬ x = y := by intro e; subst e; exact h2 rfl
        refine T_seq (T_region ?_)
        refine TL_q (.bool false) (fun _ _ hρ _ => r_assign (hρ _ _ rfl)) rfl rfl rfl (w_n rfl) ?_
        refine TL_seq ?_
        refine T_ret' ?_
        refine p_blk_r ?_
        refine p_then_r ?_
        refine p_then_r ?_
        refine p_blk_r ?_
        refine p_then_r ?_
        refine ret_of rfl (.bool false) (fun tmps w hk hm => res1 rfl (res_tmp (hk 4 _ rfl))) (fun w hm => ?_)
        exact ⟨congrArg Ending.returned (bool_as (decide_eq_false (fun e => hxy (by subst e; rw [hx] at hy; exact Option.some.inj hy))).symm), hm.ext⟩
      · replace h2 := of_decide_eq_true (bnot_f h2)
        refine T_skip' ?_
        refine p_blk_n ?_
        refine p_seq ?_
        have hxy : x = y := by exact BitVec.eq_of_toNat_eq (by omega)
        refine T_region ?_
        refine TL_q (.int .i64 (((k : Nat) : Int) + 1)) (fun _ _ hρ _ => r_as (r_add (hρ _ _ rfl) (hρ _ _ rfl)) (int_as (wrap64 (by omega) (by omega)))) rfl rfl rfl (w_n rfl) ?_
        refine TL_q (.int .i64 (((k : Nat) : Int) + 1)) (fun _ _ hρ _ => r_move (hρ _ _ rfl)) rfl rfl rfl (w_n rfl) ?_
        refine TL_nil ?_
        exact p_at (k + 1) ⟨⟨by omega, by rw [List.take_add_one, List.take_add_one, hx, hy, hk2, hxy]⟩, by omega⟩ (sub_cons rfl (sub_cons rfl (sub_cons rfl (sub_cons rfl sub_nil)))) sub_nil
    · replace h1 := of_decide_eq_false h1
      refine T_exit' ?_
      refine p_then_x ?_
      refine p_then_x ?_
      refine p_blk_x ?_
      refine p_seq ?_
      refine T_seq (T_region ?_)
      refine TL_q (.bool true) (fun _ _ hρ _ => r_assign (hρ _ _ rfl)) rfl rfl rfl (w_n rfl) ?_
      refine TL_seq ?_
      refine T_ret' ?_
      refine ret_of rfl (.bool true) (fun tmps w hk hm => res1 rfl (res_tmp (hk 4 _ rfl))) (fun w hm => ?_)
      exact ⟨congrArg Ending.returned (bool_as (decide_eq_true (by rw [← List.take_length (l := l), ← List.take_length (l := m), ← show k = l.length by omega, ← show k = m.length by omega]; exact hk2)).symm), hm.ext⟩
  · skip
    refine T_seq (T_region ?_)
    refine TL_q (.slice a l.length ca) (fun _ _ hρ _ => r_move (hρ _ _ rfl)) rfl rfl rfl (w_n rfl) ?_
    refine TL_q (.int .i64 ((l.length : Nat) : Int)) (fun _ _ hρ _ => r_len sl34 (hρ _ _ rfl)) rfl rfl rfl (w_n rfl) ?_
    refine TL_q (.slice b m.length cb) (fun _ _ hρ _ => r_move (hρ _ _ rfl)) rfl rfl rfl (w_n rfl) ?_
    refine TL_q (.int .i64 ((m.length : Nat) : Int)) (fun _ _ hρ _ => r_len sl34 (hρ _ _ rfl)) rfl rfl rfl (w_n rfl) ?_
    refine TL_q (.bool true) (fun _ _ hρ _ => r_as (r_neq (hρ _ _ rfl) (hρ _ _ rfl)) (bool_as (by rw [decide_eq_false hlm]; rfl))) rfl rfl rfl (w_n rfl) ?_
    refine TL_seq ?_
    refine T_cond_t rfl ?_
    refine T_seq (T_region ?_)
    refine TL_q (.bool false) (fun _ _ hρ _ => r_assign (hρ _ _ rfl)) rfl rfl rfl (w_n rfl) ?_
    refine TL_seq ?_
    refine T_ret' ?_
    refine p_then_r ?_
    refine ret_of rfl (.bool false) (fun tmps w hk hm => res1 rfl (res_tmp (hk 4 _ rfl))) (fun w hm => ?_)
    exact ⟨congrArg Ending.returned (bool_as (decide_eq_false (fun e => hlm (by rw [e]))).symm), hm.ext⟩

theorem seal_c (l : List By) (a : Option Addr) (cap : Nat) (w : World) (hv : SliceAt w a cap 1 byc l) (hl : l.length ≤ 1000000) (hcap : cap ≤ Go.maxLen) : Calls Try.prog 55 #[.slice a l.length cap] w fun e w' => ∃ a' cap', e = .returned (.slice a' (sealP l).length cap') ∧ Below w.heap.size w w' ∧ w'.ownsRow w.heap.size 5 1 (.slice a' (sealP l).length cap') (sealP l).length ((sealP l).flatMap byc) := by
  refine calls_of_T (l := [.slice a l.length cap]) 21 Try.func55 rfl rfl rfl ?_
  show T _ _ _ [(0, .slice a l.length cap)] []
  refine T_seq (T_region ?_)
  refine TL_q (.slice none 0 0) (fun _ _ hρ _ => r_assign (hρ _ _ rfl)) rfl rfl rfl (w_n rfl) ?_
  refine TL_seq ?_
  refine T_seq (T_region ?_)
  refine TL_q (.slice a l.length cap) (fun _ _ hρ _ => r_move (hρ _ _ rfl)) rfl rfl rfl (w_n rfl) ?_
  refine TL_new 1 (.cells #[.slice a l.length cap] 34) (fun B => .slice (some ⟨B, 0, none⟩) 1 1) (fun _ _ hρ _ => r_buildSlice (vs := [(0, .slice a l.length cap)]) (by kernel_rfl) (cons2 (pair2 (hρ _ _ rfl)) rfl)) rfl rfl rfl (w_n rfl) ?_
  intro B1
  refine TL_call (.int .u32 ((sumC 0#32 l).toNat : Int)) (fun _ _ hρ _ => r_call (args := [.slice (some ⟨B1, 0, none⟩) 1 1]) (enters_of Try.func96 (by kernel_rfl) rfl) (hρ _ _ rfl) ((cons2 (hρ _ _ rfl) rfl)) rfl) (fun w hm => (sum_c [(⟨a, cap, l⟩ : RowV)] (some ⟨B1, 0, none⟩) 1 w ⟨by simp, (fun e => by cases e), .inr ⟨_, 0, _, _, _, rfl, (hm.at 1 rfl), row_of_take (fun _ => rfl) rfl⟩⟩ (List.forall_mem_cons.2 ⟨(hv.keep hm.ext), (fun _ h => nomatch h)⟩) (List.forall_mem_cons.2 ⟨hcap, (fun _ h => nomatch h)⟩) (by decide)).mono fun _ _ h => ⟨h.1.trans (congrArg (fun x : List By => Ending.returned (.int .u32 ((sumC 0#32 x).toNat : Int))) (by simp only [List.flatMap_cons, List.flatMap_nil, List.append_nil])), h.2⟩) rfl rfl rfl (w_n rfl) ?_
  refine TL_call (.agg #[.int .u8 ((((sumC 0#32 l)).setWidth 8).toNat : Int), .int .u8 ((((sumC 0#32 l) >>> 8).setWidth 8).toNat : Int), .int .u8 ((((sumC 0#32 l) >>> 16).setWidth 8).toNat : Int), .int .u8 ((((sumC 0#32 l) >>> 24).setWidth 8).toNat : Int)]) (fun _ _ hρ _ => r_call (args := [.int .u32 ((sumC 0#32 l).toNat : Int)]) (enters_of Try.func95 (by kernel_rfl) rfl) (hρ _ _ rfl) ((cons2 (hρ _ _ rfl) rfl)) rfl) (fun w _ => four_c (sumC 0#32 l) w) rfl rfl rfl (w_n rfl) ?_
  refine TL_new 2 (.cells #[.int .u8 0, .int .u8 0, .int .u8 0, .int .u8 0] 130) (fun B => .pointer (some ⟨B, 0, none⟩)) (fun _ _ _ _ => r_alloc (v := .agg #[.int .u8 0, .int .u8 0, .int .u8 0, .int .u8 0]) (by kernel_rfl) rfl) rfl rfl rfl (w_n rfl) ?_
  intro B2
  refine TL_store 2 (.cells #[.int .u8 ((((sumC 0#32 l)).setWidth 8).toNat : Int), .int .u8 ((((sumC 0#32 l) >>> 8).setWidth 8).toNat : Int), .int .u8 ((((sumC 0#32 l) >>> 16).setWidth 8).toNat : Int), .int .u8 ((((sumC 0#32 l) >>> 24).setWidth 8).toNat : Int)] 130) rfl (fun _ _ hρ hm => r_store sz130 (hρ _ _ rfl) (hρ _ _ rfl) (hm.at 2 rfl) rfl rfl rfl rfl) rfl rfl (w_n rfl) ?_
  refine TL_seq ?_
  refine T_seq (T_region ?_)
  refine TL_q (.slice a l.length cap) (fun _ _ hρ _ => r_move (hρ _ _ rfl)) rfl rfl rfl (w_n rfl) ?_
  refine TL_q (.int .i64 ((l.length : Nat) : Int)) (fun _ _ hρ _ => r_len sl34 (hρ _ _ rfl)) rfl rfl rfl (w_n rfl) ?_
  refine TL_q (.slice a l.length cap) (fun _ _ hρ _ => r_move (hρ _ _ rfl)) rfl rfl rfl (w_n rfl) ?_
  refine TL_q (.int .i64 ((l.length : Nat) : Int)) (fun _ _ hρ _ => r_len sl34 (hρ _ _ rfl)) rfl rfl rfl (w_n rfl) ?_
  refine TL_q (.int .i64 ((l.length + 4 : Nat) : Int)) (fun _ _ hρ _ => r_as (r_add (hρ _ _ rfl) (hρ _ _ rfl)) (int_as ((wrap64 (by omega) (by omega)).trans (by omega)))) rfl rfl rfl (w_n rfl) ?_
  refine TL_makeSlice (n := l.length) (cap := l.length + 4) (z := .int .u8 0) (f := byc) (u := 0#8) 3 rfl rfl rfl sl34 by5 sz5 (by kernel_rfl) rfl rfl (by omega) (by omega) (by omega) rfl (w_n rfl) ?_
  intro B3
  refine TL_q (.slice (some ⟨B3, 0, none⟩) l.length (l.length + 4)) (fun _ _ hρ _ => r_assign (hρ _ _ rfl)) rfl rfl rfl (w_n rfl) ?_
  refine TL_seq ?_
  refine T_seq (T_region ?_)
  refine TL_q (.slice (some ⟨B3, 0, none⟩) l.length (l.length + 4)) (fun _ _ hρ _ => r_move (hρ _ _ rfl)) rfl rfl rfl (w_n rfl) ?_
  refine TL_q (.slice a l.length cap) (fun _ _ hρ _ => r_move (hρ _ _ rfl)) rfl rfl rfl (w_n rfl) ?_
  refine TL_copy (news := (l.flatMap byc)) 3 rfl rfl rfl rfl sl34 sz5 (fun _ hm => by have := src_of byc_len (hv.keep hm.ext); simpa using this) (by intro u hu; obtain ⟨x, _, hx⟩ := List.mem_flatMap.1 hu; exact byc_one x u hx) rfl (w_n rfl) ?_
  refine TL_seq ?_
  refine T_seq (T_region ?_)
  refine TL_q (.slice (some ⟨B3, 0, none⟩) l.length (l.length + 4)) (fun _ _ hρ _ => r_move (hρ _ _ rfl)) rfl rfl rfl (w_n rfl) ?_
  refine TL_q (.slice (some ⟨B2, 0, none⟩) 4 4) (fun _ _ hρ _ => r_sliceA ar130 sz5 (by decide) (hρ _ _ rfl)) rfl rfl rfl (w_n rfl) ?_
  refine TL_append (n := l.length) (m := 4) (xs := (l.flatMap byc)) (news := [.int .u8 ((((sumC 0#32 l)).setWidth 8).toNat : Int), .int .u8 ((((sumC 0#32 l) >>> 8).setWidth 8).toNat : Int), .int .u8 ((((sumC 0#32 l) >>> 16).setWidth 8).toNat : Int), .int .u8 ((((sumC 0#32 l) >>> 24).setWidth 8).toNat : Int)]) (z := .int .u8 0) 3 rfl rfl rfl sl34 sz5 by5 (by kernel_rfl) rfl rfl (.inl rfl) (fun _ hm => src_blk (news := [.int .u8 ((((sumC 0#32 l)).setWidth 8).toNat : Int), .int .u8 ((((sumC 0#32 l) >>> 8).setWidth 8).toNat : Int), .int .u8 ((((sumC 0#32 l) >>> 16).setWidth 8).toNat : Int), .int .u8 ((((sumC 0#32 l) >>> 24).setWidth 8).toNat : Int)]) (hm.at 2 rfl) rfl) (by simp [Value.oneCell']) (by omega) (by omega) rfl (w_n rfl) ?_
  intro a4 cap4
  refine TL_q (.slice a4 (l.length + 4) cap4) (fun _ _ hρ _ => r_assign (hρ _ _ rfl)) rfl rfl rfl (w_n rfl) ?_
  refine TL_seq ?_
  refine T_ret' ?_
  refine ret_of rfl (.slice a4 (l.length + 4) cap4) (fun tmps w hk hm => res1 rfl (res_tmp (hk 2 _ rfl))) (fun w hm => ?_)
  have hrow := hm.row 3 rfl
  exact ⟨a4, cap4, congrArg (fun n => Ending.returned (Value.slice _ n _)) (by unfold sealP; rw [List.length_append]; rfl), hm.ext, by rw [show (sealP l).length = l.length + 4 from List.length_append, show (sealP l).flatMap byc = _ from List.flatMap_append]; exact hrow⟩
end Go.Proofs.Ytcidgbjgeegepaa
/- crc: Open, Spoil. Printed by a program of this seat's prover. -/
namespace Go.Proofs.Ytcidgbjgeegepaa
open Go Go.RowKit
set_option maxRecDepth 10000
def openL (l : List By) : List By := (openP l).getD []
def openE (l : List By) : Int := match openP l with
  | some _ => 0
  | none => 120
theorem open_t {l p q r : List By} (h4 : 4 ≤ l.length) (hp : p = l.take (l.length - 4)) (hq : q = l.take (l.length - 4)) (hr : r = (l.drop (l.length - 4)).take (l.length - (l.length - 4))) (h : r = four (sumC 0#32 q)) : openP l = some p := by
  subst hp hq
  unfold openP
  rw [List.take_of_length_le (by rw [List.length_drop]; exact Nat.le_refl _)] at hr
  subst hr
  exact if_pos ⟨h4, h⟩
theorem open_f {l q r : List By} (hq : q = l.take (l.length - 4)) (hr : r = (l.drop (l.length - 4)).take (l.length - (l.length - 4))) (h : ¬ r = four (sumC 0#32 q)) : openP l = none := by
  subst hq
  unfold openP
  rw [List.take_of_length_le (by rw [List.length_drop]; exact Nat.le_refl _)] at hr
  subst hr
  exact if_neg fun e => h e.2
theorem open_s {l : List By} (h4 : ¬ 4 ≤ l.length) : openP l = none := if_neg fun e => h4 e.1
theorem isb_t {m : Wd} {k : Nat} (h : m.getLsbD k = true) : decide ((((m >>> k) &&& 1#32).toNat : Int) = 1) = true := by
  have : (m >>> k) &&& 1#32 = 1#32 := by
    have := (and_one (m >>> k)).2 (by rw [BitVec.getLsbD_ushiftRight, Nat.add_zero]; exact h)
    rwa [BitVec.xor_zero] at this
  rw [this]; rfl
theorem isb_f {m : Wd} {k : Nat} (h : ¬ m.getLsbD k = true) : decide ((((m >>> k) &&& 1#32).toNat : Int) = 1) = false := by
  refine decide_eq_false fun e => h ?_
  have e2 : (m >>> k) &&& 1#32 = 1#32 := BitVec.eq_of_toNat_eq (by show _ = 1; omega)
  have := (and_one (m >>> k)).1 (by rw [BitVec.xor_zero]; exact e2)
  rwa [BitVec.getLsbD_ushiftRight, Nat.add_zero] at this
def isS (l : List By) (n : Nat) (mask : Wd) (k : Nat) : Bool := mask.getLsbD k && decide (n + k < 8 * l.length)
theorem isS_t {l : List By} {n : Nat} {mask : Wd} {k : Nat} (h : isS l n mask k = true) : mask.getLsbD k = true ∧ n + k < 8 * l.length := by
  unfold isS at h
  rw [Bool.and_eq_true] at h
  exact ⟨h.1, of_decide_eq_true h.2⟩
theorem isS_f {l : List By} {n : Nat} {mask : Wd} {k : Nat} (h : isS l n mask k = false) : ¬ (mask.getLsbD k = true ∧ n + k < 8 * l.length) := fun e => Bool.noConfusion (h.symm.trans (by unfold isS; rw [e.1, decide_eq_true e.2, Bool.and_true]))
theorem spoil_t {l : List By} {n : Nat} {mask : Wd} {k : Nat} {y : By} (h : mask.getLsbD k = true ∧ n + k < 8 * l.length) (hy : (spoilN l n mask k)[(n + k) / 8]? = some y) : (spoilN l n mask k).set ((n + k) / 8) (y ^^^ (1#8 <<< ((n + k) % 8))) = spoilN l n mask (k + 1) := by
  conv => rhs; unfold spoilN
  rw [if_pos h, hy]; rfl
theorem spoil_f {l : List By} {n : Nat} {mask : Wd} {k : Nat} (h : ¬ (mask.getLsbD k = true ∧ n + k < 8 * l.length)) : spoilN l n mask k = spoilN l n mask (k + 1) := by
  conv => rhs; unfold spoilN
  rw [if_neg h]
theorem some_t {l : List By} {n : Nat} {mask : Wd} {k : Nat} (h : mask.getLsbD k = true ∧ n + k < 8 * l.length) : true = someN l n mask (k + 1) := (if_pos h).symm
theorem some_f {l : List By} {n : Nat} {mask : Wd} {k : Nat} (h : ¬ (mask.getLsbD k = true ∧ n + k < 8 * l.length)) : someN l n mask k = someN l n mask (k + 1) := (if_neg h).symm
def spoilE (o : Option (List By)) : Int := match o with
  | some _ => 0
  | none => 2

theorem open_c (l : List By) (a : Option Addr) (cap : Nat) (w : World) (hv : SliceAt w a cap 1 byc l) (hl : l.length ≤ 1000000) (hcap : cap ≤ Go.maxLen) : Calls Try.prog 56 #[.slice a l.length cap] w fun e w' => ∃ a' cap', e = .returned (.tuple #[.slice a' (openL l).length cap', .int .i64 (openE l)]) ∧ Below w.heap.size w w' ∧ w'.ownsRow w.heap.size 5 1 (.slice a' (openL l).length cap') (openL l).length ((openL l).flatMap byc) := by
  have hvl := hv.1
  refine calls_of_T (l := [.slice a l.length cap]) 31 Try.func56 rfl rfl rfl ?_
  show T _ _ _ [(0, .slice a l.length cap)] []
  refine T_seq (T_region ?_)
  refine TL_q (.slice none 0 0) (fun _ _ hρ _ => r_assign (hρ _ _ rfl)) rfl rfl rfl (w_n rfl) ?_
  refine TL_q (.int .i64 0) (fun _ _ hρ _ => r_assign (hρ _ _ rfl)) rfl rfl rfl (w_n rfl) ?_
  refine TL_seq ?_
  by_cases h4 : 4 ≤ l.length
  · skip
    refine T_seq (T_region ?_)
    refine TL_q (.slice a l.length cap) (fun _ _ hρ _ => r_move (hρ _ _ rfl)) rfl rfl rfl (w_n rfl) ?_
    refine TL_q (.int .i64 ((l.length : Nat) : Int)) (fun _ _ hρ _ => r_len sl34 (hρ _ _ rfl)) rfl rfl rfl (w_n rfl) ?_
    refine TL_q (.int .i64 ((l.length - 4 : Nat) : Int)) (fun _ _ hρ _ => r_as (r_sub (hρ _ _ rfl) (hρ _ _ rfl)) (int_as ((wrap64 (by omega) (by omega)).trans (by omega)))) rfl rfl rfl (w_n rfl) ?_
    refine TL_q (.int .i64 ((l.length - 4 : Nat) : Int)) (fun _ _ hρ _ => r_assign (hρ _ _ rfl)) rfl rfl rfl (w_n rfl) ?_
    refine TL_seq ?_
    refine T_seq ?_
    have hng : ¬ (((l.length - 4 : Nat) : Int) < 0) := by omega
    refine T_seq (T_region ?_)
    refine TL_q (.int .i64 ((l.length - 4 : Nat) : Int)) (fun _ _ hρ _ => r_move (hρ _ _ rfl)) rfl rfl rfl (w_n rfl) ?_
    refine TL_q (.bool false) (fun _ _ hρ _ => r_as (r_lss (hρ _ _ rfl) (hρ _ _ rfl)) (bool_as (decide_eq_false hng))) rfl rfl rfl (w_n rfl) ?_
    refine TL_seq ?_
    refine T_cond_f rfl ?_
    refine T_skip' ?_
    refine p_seq ?_
    obtain ⟨l1, hl1, hn1⟩ : ∃ lz, lz = l.take (l.length - 4) ∧ lz.length = l.length - 4 := ⟨_, rfl, by rw [List.length_take]; omega⟩
    have hs1 := SliceAt.front hv (n := l.length - 4) (m := l.length - 4) (by omega) (by omega) (by omega)
    rw [← hl1] at hs1
    obtain ⟨l2, hl2, hn2⟩ : ∃ lz, lz = l.take (l.length - 4) ∧ lz.length = l.length - 4 := ⟨_, rfl, by rw [List.length_take]; omega⟩
    have hs2 := SliceAt.front hv (n := l.length - 4) (m := cap) (by omega) (by omega) (by omega)
    rw [← hl2] at hs2
    refine T_join (ι := Nat × Nat) (fun _ => True) (fun (z : Nat × Nat) => match z with | (Bx7, Bx10) => [(0, .slice a l.length cap), (2, .slice none 0 0), (3, .int .i64 0), (4, .int .i64 ((l.length - 4 : Nat) : Int)), (6, .pointer (some ⟨Bx10, 0, none⟩)), (5, .slice a l1.length (l.length - 4))]) (fun (z : Nat × Nat) => match z with | (Bx7, Bx10) => [(1, .blk Bx7 (.cells #[.slice a l2.length cap] 34)), (2, .blk Bx10 (.cells #[.int .u8 ((((sumC 0#32 l2)).setWidth 8).toNat : Int), .int .u8 ((((sumC 0#32 l2) >>> 8).setWidth 8).toNat : Int), .int .u8 ((((sumC 0#32 l2) >>> 16).setWidth 8).toNat : Int), .int .u8 ((((sumC 0#32 l2) >>> 24).setWidth 8).toNat : Int)] 130))]) (T_draw (V := [(0, .slice a l.length cap), (1, .int .i64 ((l.length - 4 : Nat) : Int)), (2, .int .i64 ((l.length - 4 : Nat) : Int)), (3, .slice a l1.length (l.length - 4)), (4, .slice a l.length cap), (5, .int .i64 ((l.length - 4 : Nat) : Int)), (6, .slice a l2.length cap)]) [0, 0, 0, 7, 0, 0, 48, 112, 240, 496, 0, 2047, 4095] [[(0, none)], [(4, none)], [(4, none)], [(12, some 0), (13, some 1), (14, some 2)], [(0, none)], [(4, none)], [(16, some 4), (17, some 5)], [(18, some 6)], [(19, some 7)], [(20, some 8)], [], [(15, some 3)], [(6, some 10), (21, some 9)]] 6016 mixed (by kernel_rfl) ?_) (fun z _ => ?_)
    · skip
      refine G_step [0, 1, 2, 3, 4, 5, 6] 7 [10] (by kernel_rfl) (allM (all_cons (q_run (.slice a l.length cap) rfl rfl (wv_n rfl) rfl (fun _ _ hρ _ => r_move (hρ _ _ rfl))) (all_cons (q_run (.int .i64 ((l.length - 4 : Nat) : Int)) rfl rfl (wv_n rfl) rfl (fun _ _ hρ _ => r_move (hρ _ _ rfl))) (all_cons (q_run (.int .i64 ((l.length - 4 : Nat) : Int)) rfl rfl (wv_n rfl) rfl (fun _ _ hρ _ => r_move (hρ _ _ rfl))) (all_cons (q_run (.slice a l1.length (l.length - 4)) rfl rfl (wv_n rfl) rfl (fun ρ _ hρ _ => r_as (r_sliceO sl34 sz5 (hρ _ _ rfl) (bd_some (n := l.length - 4) (hρ _ _ rfl)) (bd_some (n := l.length - 4) (hρ _ _ rfl)) (bd_none ρ _) (by simp) (by omega) (by omega) (by omega)) (by rw [hn1]; exact slo_zero _ _ _ _))) (all_cons (q_run (.slice a l.length cap) rfl rfl (wv_n rfl) rfl (fun _ _ hρ _ => r_move (hρ _ _ rfl))) (all_cons (q_run (.int .i64 ((l.length - 4 : Nat) : Int)) rfl rfl (wv_n rfl) rfl (fun _ _ hρ _ => r_move (hρ _ _ rfl))) (all_cons (q_run (.slice a l2.length cap) rfl rfl (wv_n rfl) rfl (fun ρ _ hρ _ => r_as (r_sliceO sl34 sz5 (hρ _ _ rfl) (bd_none ρ _) (bd_some (n := l.length - 4) (hρ _ _ rfl)) (bd_none ρ _) (by simp) (by omega) (by omega) (by omega)) (by rw [hn2]; exact slo_zero _ _ _ _))) all_nil)))))))) (allM (all_cons ?_ (all_cons ?_ all_nil)))
      · skip
        refine LOb_new 1 (.cells #[.slice a l2.length cap] 34) (fun B => .slice (some ⟨B, 0, none⟩) 1 1) (fun B => []) rfl (wv_n rfl) rfl rfl (fun _ _ hρ _ => r_buildSlice (vs := [(0, .slice a l2.length cap)]) (by kernel_rfl) (cons2 (pair2 (hρ _ _ rfl)) rfl)) (fun B => by kernel_rfl) ?_
        intro B3
        refine G_step [0, 1, 2, 3] 8 [10] (by kernel_rfl) (allM (all_cons (q_run (.slice a l.length cap) rfl rfl (wv_n rfl) rfl (fun _ _ hρ _ => r_move (hρ _ _ rfl))) (all_cons (q_run (.int .i64 ((l.length - 4 : Nat) : Int)) rfl rfl (wv_n rfl) rfl (fun _ _ hρ _ => r_move (hρ _ _ rfl))) (all_cons (q_run (.int .i64 ((l.length - 4 : Nat) : Int)) rfl rfl (wv_n rfl) rfl (fun _ _ hρ _ => r_move (hρ _ _ rfl))) (all_cons (q_run (.slice a l1.length (l.length - 4)) rfl rfl (wv_n rfl) rfl (fun ρ _ hρ _ => r_as (r_sliceO sl34 sz5 (hρ _ _ rfl) (bd_some (n := l.length - 4) (hρ _ _ rfl)) (bd_some (n := l.length - 4) (hρ _ _ rfl)) (bd_none ρ _) (by simp) (by omega) (by omega) (by omega)) (by rw [hn1]; exact slo_zero _ _ _ _))) all_nil))))) (allM (all_cons ?_ (all_cons ?_ all_nil)))
        · skip
          refine LOb_call (.int .u32 ((sumC 0#32 l2).toNat : Int)) [] rfl (wv_n rfl) rfl rfl (fun _ _ hρ _ => r_call (args := [.slice (some ⟨B3, 0, none⟩) 1 1]) (enters_of Try.func96 (by kernel_rfl) rfl) (hρ _ _ rfl) ((cons2 (hρ _ _ rfl) rfl)) rfl) (fun w hm => (sum_c [(⟨a, cap, l2⟩ : RowV)] (some ⟨B3, 0, none⟩) 1 w ⟨by simp, (fun e => by cases e), .inr ⟨_, 0, _, _, _, rfl, (hm.at 1 rfl), row_of_take (fun _ => rfl) rfl⟩⟩ (List.forall_mem_cons.2 ⟨(hs2.keep hm.ext), (fun _ h => nomatch h)⟩) (List.forall_mem_cons.2 ⟨(by omega), (fun _ h => nomatch h)⟩) (by decide)).mono fun _ _ h => ⟨h.1.trans (congrArg (fun x : List By => Ending.returned (.int .u32 ((sumC 0#32 x).toNat : Int))) (by simp only [List.flatMap_cons, List.flatMap_nil, List.append_nil])), h.2⟩) (by kernel_rfl) ?_
          refine G_step [0, 1, 2, 3] 9 [10] (by kernel_rfl) (allM (all_cons (q_run (.slice a l.length cap) rfl rfl (wv_n rfl) rfl (fun _ _ hρ _ => r_move (hρ _ _ rfl))) (all_cons (q_run (.int .i64 ((l.length - 4 : Nat) : Int)) rfl rfl (wv_n rfl) rfl (fun _ _ hρ _ => r_move (hρ _ _ rfl))) (all_cons (q_run (.int .i64 ((l.length - 4 : Nat) : Int)) rfl rfl (wv_n rfl) rfl (fun _ _ hρ _ => r_move (hρ _ _ rfl))) (all_cons (q_run (.slice a l1.length (l.length - 4)) rfl rfl (wv_n rfl) rfl (fun ρ _ hρ _ => r_as (r_sliceO sl34 sz5 (hρ _ _ rfl) (bd_some (n := l.length - 4) (hρ _ _ rfl)) (bd_some (n := l.length - 4) (hρ _ _ rfl)) (bd_none ρ _) (by simp) (by omega) (by omega) (by omega)) (by rw [hn1]; exact slo_zero _ _ _ _))) all_nil))))) (allM (all_cons ?_ (all_cons ?_ all_nil)))
          · skip
            refine LOb_call (.agg #[.int .u8 ((((sumC 0#32 l2)).setWidth 8).toNat : Int), .int .u8 ((((sumC 0#32 l2) >>> 8).setWidth 8).toNat : Int), .int .u8 ((((sumC 0#32 l2) >>> 16).setWidth 8).toNat : Int), .int .u8 ((((sumC 0#32 l2) >>> 24).setWidth 8).toNat : Int)]) [] rfl (wv_n rfl) rfl rfl (fun _ _ hρ _ => r_call (args := [.int .u32 ((sumC 0#32 l2).toNat : Int)]) (enters_of Try.func95 (by kernel_rfl) rfl) (hρ _ _ rfl) ((cons2 (hρ _ _ rfl) rfl)) rfl) (fun w _ => four_c (sumC 0#32 l2) w) (by kernel_rfl) ?_
            refine G_step [0, 1, 2, 3] 10 [] (by kernel_rfl) (allM (all_cons (q_run (.slice a l.length cap) rfl rfl (wv_n rfl) rfl (fun _ _ hρ _ => r_move (hρ _ _ rfl))) (all_cons (q_run (.int .i64 ((l.length - 4 : Nat) : Int)) rfl rfl (wv_n rfl) rfl (fun _ _ hρ _ => r_move (hρ _ _ rfl))) (all_cons (q_run (.int .i64 ((l.length - 4 : Nat) : Int)) rfl rfl (wv_n rfl) rfl (fun _ _ hρ _ => r_move (hρ _ _ rfl))) (all_cons (q_run (.slice a l1.length (l.length - 4)) rfl rfl (wv_n rfl) rfl (fun ρ _ hρ _ => r_as (r_sliceO sl34 sz5 (hρ _ _ rfl) (bd_some (n := l.length - 4) (hρ _ _ rfl)) (bd_some (n := l.length - 4) (hρ _ _ rfl)) (bd_none ρ _) (by simp) (by omega) (by omega) (by omega)) (by rw [hn1]; exact slo_zero _ _ _ _))) all_nil))))) (allM (all_cons ?_ all_nil))
            refine LOb_new 2 (.cells #[.int .u8 0, .int .u8 0, .int .u8 0, .int .u8 0] 130) (fun B => .pointer (some ⟨B, 0, none⟩)) (fun B => [(11, .slice a l1.length (l.length - 4))]) rfl (wv_n rfl) rfl rfl (fun _ _ _ _ => r_alloc (v := .agg #[.int .u8 0, .int .u8 0, .int .u8 0, .int .u8 0]) (by kernel_rfl) rfl) (fun B => by kernel_rfl) ?_
            intro B4
            refine G_step [0, 1, 2, 3, 11] 12 [] (by kernel_rfl) (allM (all_cons (q_run (.slice a l.length cap) rfl rfl (wv_n rfl) rfl (fun _ _ hρ _ => r_move (hρ _ _ rfl))) (all_cons (q_run (.int .i64 ((l.length - 4 : Nat) : Int)) rfl rfl (wv_n rfl) rfl (fun _ _ hρ _ => r_move (hρ _ _ rfl))) (all_cons (q_run (.int .i64 ((l.length - 4 : Nat) : Int)) rfl rfl (wv_n rfl) rfl (fun _ _ hρ _ => r_move (hρ _ _ rfl))) (all_cons (q_run (.slice a l1.length (l.length - 4)) rfl rfl (wv_n rfl) rfl (fun ρ _ hρ _ => r_as (r_sliceO sl34 sz5 (hρ _ _ rfl) (bd_some (n := l.length - 4) (hρ _ _ rfl)) (bd_some (n := l.length - 4) (hρ _ _ rfl)) (bd_none ρ _) (by simp) (by omega) (by omega) (by omega)) (by rw [hn1]; exact slo_zero _ _ _ _))) (all_cons (q_run (.slice a l1.length (l.length - 4)) rfl rfl (wv_n rfl) rfl (fun _ _ hρ _ => r_assign (hρ _ _ rfl))) all_nil)))))) (allM (all_cons ?_ all_nil))
            refine LOb_store 2 (.cells #[.int .u8 ((((sumC 0#32 l2)).setWidth 8).toNat : Int), .int .u8 ((((sumC 0#32 l2) >>> 8).setWidth 8).toNat : Int), .int .u8 ((((sumC 0#32 l2) >>> 16).setWidth 8).toNat : Int), .int .u8 ((((sumC 0#32 l2) >>> 24).setWidth 8).toNat : Int)] 130) [] rfl (wv_n rfl) rfl rfl rfl (fun _ _ hρ hm => r_store sz130 (hρ _ _ rfl) (hρ _ _ rfl) (hm.at 2 rfl) rfl rfl rfl rfl) (by kernel_rfl) ?_
            exact G_lastQ [] [(0, .slice a l.length cap), (2, .slice none 0 0), (3, .int .i64 0), (4, .int .i64 ((l.length - 4 : Nat) : Int)), (6, .pointer (some ⟨B4, 0, none⟩)), (5, .slice a l1.length (l.length - 4))] (by kernel_rfl) (allM all_nil) (end_old rfl rfl (end_old rfl rfl (end_old rfl rfl (end_old rfl rfl (end_new 10 rfl rfl (end_new 11 rfl rfl end_nil)))))) (fun a w hf hm => At_intro (B3, B4) trivial hf hm (sub_cons rfl (sub_cons rfl (sub_cons rfl (sub_cons rfl (sub_cons rfl (sub_cons rfl sub_nil)))))) (sub_cons rfl (sub_cons rfl sub_nil)))
          · skip
            refine LOb_new 2 (.cells #[.int .u8 0, .int .u8 0, .int .u8 0, .int .u8 0] 130) (fun B => .pointer (some ⟨B, 0, none⟩)) (fun B => []) rfl (wv_n rfl) rfl rfl (fun _ _ _ _ => r_alloc (v := .agg #[.int .u8 0, .int .u8 0, .int .u8 0, .int .u8 0]) (by kernel_rfl) rfl) (fun B => by kernel_rfl) ?_
            intro B5
            refine G_step [0, 1, 2, 3] 9 [] (by kernel_rfl) (allM (all_cons (q_run (.slice a l.length cap) rfl rfl (wv_n rfl) rfl (fun _ _ hρ _ => r_move (hρ _ _ rfl))) (all_cons (q_run (.int .i64 ((l.length - 4 : Nat) : Int)) rfl rfl (wv_n rfl) rfl (fun _ _ hρ _ => r_move (hρ _ _ rfl))) (all_cons (q_run (.int .i64 ((l.length - 4 : Nat) : Int)) rfl rfl (wv_n rfl) rfl (fun _ _ hρ _ => r_move (hρ _ _ rfl))) (all_cons (q_run (.slice a l1.length (l.length - 4)) rfl rfl (wv_n rfl) rfl (fun ρ _ hρ _ => r_as (r_sliceO sl34 sz5 (hρ _ _ rfl) (bd_some (n := l.length - 4) (hρ _ _ rfl)) (bd_some (n := l.length - 4) (hρ _ _ rfl)) (bd_none ρ _) (by simp) (by omega) (by omega) (by omega)) (by rw [hn1]; exact slo_zero _ _ _ _))) all_nil))))) (allM (all_cons ?_ all_nil))
            refine LOb_call (.agg #[.int .u8 ((((sumC 0#32 l2)).setWidth 8).toNat : Int), .int .u8 ((((sumC 0#32 l2) >>> 8).setWidth 8).toNat : Int), .int .u8 ((((sumC 0#32 l2) >>> 16).setWidth 8).toNat : Int), .int .u8 ((((sumC 0#32 l2) >>> 24).setWidth 8).toNat : Int)]) [(11, .slice a l1.length (l.length - 4))] rfl (wv_n rfl) rfl rfl (fun _ _ hρ _ => r_call (args := [.int .u32 ((sumC 0#32 l2).toNat : Int)]) (enters_of Try.func95 (by kernel_rfl) rfl) (hρ _ _ rfl) ((cons2 (hρ _ _ rfl) rfl)) rfl) (fun w _ => four_c (sumC 0#32 l2) w) (by kernel_rfl) ?_
            refine G_step [0, 1, 2, 3, 11] 12 [] (by kernel_rfl) (allM (all_cons (q_run (.slice a l.length cap) rfl rfl (wv_n rfl) rfl (fun _ _ hρ _ => r_move (hρ _ _ rfl))) (all_cons (q_run (.int .i64 ((l.length - 4 : Nat) : Int)) rfl rfl (wv_n rfl) rfl (fun _ _ hρ _ => r_move (hρ _ _ rfl))) (all_cons (q_run (.int .i64 ((l.length - 4 : Nat) : Int)) rfl rfl (wv_n rfl) rfl (fun _ _ hρ _ => r_move (hρ _ _ rfl))) (all_cons (q_run (.slice a l1.length (l.length - 4)) rfl rfl (wv_n rfl) rfl (fun ρ _ hρ _ => r_as (r_sliceO sl34 sz5 (hρ _ _ rfl) (bd_some (n := l.length - 4) (hρ _ _ rfl)) (bd_some (n := l.length - 4) (hρ _ _ rfl)) (bd_none ρ _) (by simp) (by omega) (by omega) (by omega)) (by rw [hn1]; exact slo_zero _ _ _ _))) (all_cons (q_run (.slice a l1.length (l.length - 4)) rfl rfl (wv_n rfl) rfl (fun _ _ hρ _ => r_assign (hρ _ _ rfl))) all_nil)))))) (allM (all_cons ?_ all_nil))
            refine LOb_store 2 (.cells #[.int .u8 ((((sumC 0#32 l2)).setWidth 8).toNat : Int), .int .u8 ((((sumC 0#32 l2) >>> 8).setWidth 8).toNat : Int), .int .u8 ((((sumC 0#32 l2) >>> 16).setWidth 8).toNat : Int), .int .u8 ((((sumC 0#32 l2) >>> 24).setWidth 8).toNat : Int)] 130) [] rfl (wv_n rfl) rfl rfl rfl (fun _ _ hρ hm => r_store sz130 (hρ _ _ rfl) (hρ _ _ rfl) (hm.at 2 rfl) rfl rfl rfl rfl) (by kernel_rfl) ?_
            exact G_lastQ [] [(0, .slice a l.length cap), (2, .slice none 0 0), (3, .int .i64 0), (4, .int .i64 ((l.length - 4 : Nat) : Int)), (6, .pointer (some ⟨B5, 0, none⟩)), (5, .slice a l1.length (l.length - 4))] (by kernel_rfl) (allM all_nil) (end_old rfl rfl (end_old rfl rfl (end_old rfl rfl (end_old rfl rfl (end_new 10 rfl rfl (end_new 11 rfl rfl end_nil)))))) (fun a w hf hm => At_intro (B3, B5) trivial hf hm (sub_cons rfl (sub_cons rfl (sub_cons rfl (sub_cons rfl (sub_cons rfl (sub_cons rfl sub_nil)))))) (sub_cons rfl (sub_cons rfl sub_nil)))
        · skip
          refine LOb_new 2 (.cells #[.int .u8 0, .int .u8 0, .int .u8 0, .int .u8 0] 130) (fun B => .pointer (some ⟨B, 0, none⟩)) (fun B => []) rfl (wv_n rfl) rfl rfl (fun _ _ _ _ => r_alloc (v := .agg #[.int .u8 0, .int .u8 0, .int .u8 0, .int .u8 0]) (by kernel_rfl) rfl) (fun B => by kernel_rfl) ?_
          intro B6
          refine G_step [0, 1, 2, 3] 8 [] (by kernel_rfl) (allM (all_cons (q_run (.slice a l.length cap) rfl rfl (wv_n rfl) rfl (fun _ _ hρ _ => r_move (hρ _ _ rfl))) (all_cons (q_run (.int .i64 ((l.length - 4 : Nat) : Int)) rfl rfl (wv_n rfl) rfl (fun _ _ hρ _ => r_move (hρ _ _ rfl))) (all_cons (q_run (.int .i64 ((l.length - 4 : Nat) : Int)) rfl rfl (wv_n rfl) rfl (fun _ _ hρ _ => r_move (hρ _ _ rfl))) (all_cons (q_run (.slice a l1.length (l.length - 4)) rfl rfl (wv_n rfl) rfl (fun ρ _ hρ _ => r_as (r_sliceO sl34 sz5 (hρ _ _ rfl) (bd_some (n := l.length - 4) (hρ _ _ rfl)) (bd_some (n := l.length - 4) (hρ _ _ rfl)) (bd_none ρ _) (by simp) (by omega) (by omega) (by omega)) (by rw [hn1]; exact slo_zero _ _ _ _))) all_nil))))) (allM (all_cons ?_ all_nil))
          refine LOb_call (.int .u32 ((sumC 0#32 l2).toNat : Int)) [] rfl (wv_n rfl) rfl rfl (fun _ _ hρ _ => r_call (args := [.slice (some ⟨B3, 0, none⟩) 1 1]) (enters_of Try.func96 (by kernel_rfl) rfl) (hρ _ _ rfl) ((cons2 (hρ _ _ rfl) rfl)) rfl) (fun w hm => (sum_c [(⟨a, cap, l2⟩ : RowV)] (some ⟨B3, 0, none⟩) 1 w ⟨by simp, (fun e => by cases e), .inr ⟨_, 0, _, _, _, rfl, (hm.at 1 rfl), row_of_take (fun _ => rfl) rfl⟩⟩ (List.forall_mem_cons.2 ⟨(hs2.keep hm.ext), (fun _ h => nomatch h)⟩) (List.forall_mem_cons.2 ⟨(by omega), (fun _ h => nomatch h)⟩) (by decide)).mono fun _ _ h => ⟨h.1.trans (congrArg (fun x : List By => Ending.returned (.int .u32 ((sumC 0#32 x).toNat : Int))) (by simp only [List.flatMap_cons, List.flatMap_nil, List.append_nil])), h.2⟩) (by kernel_rfl) ?_
          refine G_step [0, 1, 2, 3] 9 [] (by kernel_rfl) (allM (all_cons (q_run (.slice a l.length cap) rfl rfl (wv_n rfl) rfl (fun _ _ hρ _ => r_move (hρ _ _ rfl))) (all_cons (q_run (.int .i64 ((l.length - 4 : Nat) : Int)) rfl rfl (wv_n rfl) rfl (fun _ _ hρ _ => r_move (hρ _ _ rfl))) (all_cons (q_run (.int .i64 ((l.length - 4 : Nat) : Int)) rfl rfl (wv_n rfl) rfl (fun _ _ hρ _ => r_move (hρ _ _ rfl))) (all_cons (q_run (.slice a l1.length (l.length - 4)) rfl rfl (wv_n rfl) rfl (fun ρ _ hρ _ => r_as (r_sliceO sl34 sz5 (hρ _ _ rfl) (bd_some (n := l.length - 4) (hρ _ _ rfl)) (bd_some (n := l.length - 4) (hρ _ _ rfl)) (bd_none ρ _) (by simp) (by omega) (by omega) (by omega)) (by rw [hn1]; exact slo_zero _ _ _ _))) all_nil))))) (allM (all_cons ?_ all_nil))
          refine LOb_call (.agg #[.int .u8 ((((sumC 0#32 l2)).setWidth 8).toNat : Int), .int .u8 ((((sumC 0#32 l2) >>> 8).setWidth 8).toNat : Int), .int .u8 ((((sumC 0#32 l2) >>> 16).setWidth 8).toNat : Int), .int .u8 ((((sumC 0#32 l2) >>> 24).setWidth 8).toNat : Int)]) [(11, .slice a l1.length (l.length - 4))] rfl (wv_n rfl) rfl rfl (fun _ _ hρ _ => r_call (args := [.int .u32 ((sumC 0#32 l2).toNat : Int)]) (enters_of Try.func95 (by kernel_rfl) rfl) (hρ _ _ rfl) ((cons2 (hρ _ _ rfl) rfl)) rfl) (fun w _ => four_c (sumC 0#32 l2) w) (by kernel_rfl) ?_
          refine G_step [0, 1, 2, 3, 11] 12 [] (by kernel_rfl) (allM (all_cons (q_run (.slice a l.length cap) rfl rfl (wv_n rfl) rfl (fun _ _ hρ _ => r_move (hρ _ _ rfl))) (all_cons (q_run (.int .i64 ((l.length - 4 : Nat) : Int)) rfl rfl (wv_n rfl) rfl (fun _ _ hρ _ => r_move (hρ _ _ rfl))) (all_cons (q_run (.int .i64 ((l.length - 4 : Nat) : Int)) rfl rfl (wv_n rfl) rfl (fun _ _ hρ _ => r_move (hρ _ _ rfl))) (all_cons (q_run (.slice a l1.length (l.length - 4)) rfl rfl (wv_n rfl) rfl (fun ρ _ hρ _ => r_as (r_sliceO sl34 sz5 (hρ _ _ rfl) (bd_some (n := l.length - 4) (hρ _ _ rfl)) (bd_some (n := l.length - 4) (hρ _ _ rfl)) (bd_none ρ _) (by simp) (by omega) (by omega) (by omega)) (by rw [hn1]; exact slo_zero _ _ _ _))) (all_cons (q_run (.slice a l1.length (l.length - 4)) rfl rfl (wv_n rfl) rfl (fun _ _ hρ _ => r_assign (hρ _ _ rfl))) all_nil)))))) (allM (all_cons ?_ all_nil))
          refine LOb_store 2 (.cells #[.int .u8 ((((sumC 0#32 l2)).setWidth 8).toNat : Int), .int .u8 ((((sumC 0#32 l2) >>> 8).setWidth 8).toNat : Int), .int .u8 ((((sumC 0#32 l2) >>> 16).setWidth 8).toNat : Int), .int .u8 ((((sumC 0#32 l2) >>> 24).setWidth 8).toNat : Int)] 130) [] rfl (wv_n rfl) rfl rfl rfl (fun _ _ hρ hm => r_store sz130 (hρ _ _ rfl) (hρ _ _ rfl) (hm.at 2 rfl) rfl rfl rfl rfl) (by kernel_rfl) ?_
          exact G_lastQ [] [(0, .slice a l.length cap), (2, .slice none 0 0), (3, .int .i64 0), (4, .int .i64 ((l.length - 4 : Nat) : Int)), (6, .pointer (some ⟨B6, 0, none⟩)), (5, .slice a l1.length (l.length - 4))] (by kernel_rfl) (allM all_nil) (end_old rfl rfl (end_old rfl rfl (end_old rfl rfl (end_old rfl rfl (end_new 10 rfl rfl (end_new 11 rfl rfl end_nil)))))) (fun a w hf hm => At_intro (B3, B6) trivial hf hm (sub_cons rfl (sub_cons rfl (sub_cons rfl (sub_cons rfl (sub_cons rfl (sub_cons rfl sub_nil)))))) (sub_cons rfl (sub_cons rfl sub_nil)))
      · skip
        refine LOb_new 2 (.cells #[.int .u8 0, .int .u8 0, .int .u8 0, .int .u8 0] 130) (fun B => .pointer (some ⟨B, 0, none⟩)) (fun B => []) rfl (wv_n rfl) rfl rfl (fun _ _ _ _ => r_alloc (v := .agg #[.int .u8 0, .int .u8 0, .int .u8 0, .int .u8 0]) (by kernel_rfl) rfl) (fun B => by kernel_rfl) ?_
        intro B7
        refine G_step [0, 1, 2, 3, 4, 5, 6] 7 [] (by kernel_rfl) (allM (all_cons (q_run (.slice a l.length cap) rfl rfl (wv_n rfl) rfl (fun _ _ hρ _ => r_move (hρ _ _ rfl))) (all_cons (q_run (.int .i64 ((l.length - 4 : Nat) : Int)) rfl rfl (wv_n rfl) rfl (fun _ _ hρ _ => r_move (hρ _ _ rfl))) (all_cons (q_run (.int .i64 ((l.length - 4 : Nat) : Int)) rfl rfl (wv_n rfl) rfl (fun _ _ hρ _ => r_move (hρ _ _ rfl))) (all_cons (q_run (.slice a l1.length (l.length - 4)) rfl rfl (wv_n rfl) rfl (fun ρ _ hρ _ => r_as (r_sliceO sl34 sz5 (hρ _ _ rfl) (bd_some (n := l.length - 4) (hρ _ _ rfl)) (bd_some (n := l.length - 4) (hρ _ _ rfl)) (bd_none ρ _) (by simp) (by omega) (by omega) (by omega)) (by rw [hn1]; exact slo_zero _ _ _ _))) (all_cons (q_run (.slice a l.length cap) rfl rfl (wv_n rfl) rfl (fun _ _ hρ _ => r_move (hρ _ _ rfl))) (all_cons (q_run (.int .i64 ((l.length - 4 : Nat) : Int)) rfl rfl (wv_n rfl) rfl (fun _ _ hρ _ => r_move (hρ _ _ rfl))) (all_cons (q_run (.slice a l2.length cap) rfl rfl (wv_n rfl) rfl (fun ρ _ hρ _ => r_as (r_sliceO sl34 sz5 (hρ _ _ rfl) (bd_none ρ _) (bd_some (n := l.length - 4) (hρ _ _ rfl)) (bd_none ρ _) (by simp) (by omega) (by omega) (by omega)) (by rw [hn2]; exact slo_zero _ _ _ _))) all_nil)))))))) (allM (all_cons ?_ all_nil))
        refine LOb_new 1 (.cells #[.slice a l2.length cap] 34) (fun B => .slice (some ⟨B, 0, none⟩) 1 1) (fun B => []) rfl (wv_n rfl) rfl rfl (fun _ _ hρ _ => r_buildSlice (vs := [(0, .slice a l2.length cap)]) (by kernel_rfl) (cons2 (pair2 (hρ _ _ rfl)) rfl)) (fun B => by kernel_rfl) ?_
        intro B8
        refine G_step [0, 1, 2, 3] 8 [] (by kernel_rfl) (allM (all_cons (q_run (.slice a l.length cap) rfl rfl (wv_n rfl) rfl (fun _ _ hρ _ => r_move (hρ _ _ rfl))) (all_cons (q_run (.int .i64 ((l.length - 4 : Nat) : Int)) rfl rfl (wv_n rfl) rfl (fun _ _ hρ _ => r_move (hρ _ _ rfl))) (all_cons (q_run (.int .i64 ((l.length - 4 : Nat) : Int)) rfl rfl (wv_n rfl) rfl (fun _ _ hρ _ => r_move (hρ _ _ rfl))) (all_cons (q_run (.slice a l1.length (l.length - 4)) rfl rfl (wv_n rfl) rfl (fun ρ _ hρ _ => r_as (r_sliceO sl34 sz5 (hρ _ _ rfl) (bd_some (n := l.length - 4) (hρ _ _ rfl)) (bd_some (n := l.length - 4) (hρ _ _ rfl)) (bd_none ρ _) (by simp) (by omega) (by omega) (by omega)) (by rw [hn1]; exact slo_zero _ _ _ _))) all_nil))))) (allM (all_cons ?_ all_nil))
        refine LOb_call (.int .u32 ((sumC 0#32 l2).toNat : Int)) [] rfl (wv_n rfl) rfl rfl (fun _ _ hρ _ => r_call (args := [.slice (some ⟨B8, 0, none⟩) 1 1]) (enters_of Try.func96 (by kernel_rfl) rfl) (hρ _ _ rfl) ((cons2 (hρ _ _ rfl) rfl)) rfl) (fun w hm => (sum_c [(⟨a, cap, l2⟩ : RowV)] (some ⟨B8, 0, none⟩) 1 w ⟨by simp, (fun e => by cases e), .inr ⟨_, 0, _, _, _, rfl, (hm.at 1 rfl), row_of_take (fun _ => rfl) rfl⟩⟩ (List.forall_mem_cons.2 ⟨(hs2.keep hm.ext), (fun _ h => nomatch h)⟩) (List.forall_mem_cons.2 ⟨(by omega), (fun _ h => nomatch h)⟩) (by decide)).mono fun _ _ h => ⟨h.1.trans (congrArg (fun x : List By => Ending.returned (.int .u32 ((sumC 0#32 x).toNat : Int))) (by simp only [List.flatMap_cons, List.flatMap_nil, List.append_nil])), h.2⟩) (by kernel_rfl) ?_
        refine G_step [0, 1, 2, 3] 9 [] (by kernel_rfl) (allM (all_cons (q_run (.slice a l.length cap) rfl rfl (wv_n rfl) rfl (fun _ _ hρ _ => r_move (hρ _ _ rfl))) (all_cons (q_run (.int .i64 ((l.length - 4 : Nat) : Int)) rfl rfl (wv_n rfl) rfl (fun _ _ hρ _ => r_move (hρ _ _ rfl))) (all_cons (q_run (.int .i64 ((l.length - 4 : Nat) : Int)) rfl rfl (wv_n rfl) rfl (fun _ _ hρ _ => r_move (hρ _ _ rfl))) (all_cons (q_run (.slice a l1.length (l.length - 4)) rfl rfl (wv_n rfl) rfl (fun ρ _ hρ _ => r_as (r_sliceO sl34 sz5 (hρ _ _ rfl) (bd_some (n := l.length - 4) (hρ _ _ rfl)) (bd_some (n := l.length - 4) (hρ _ _ rfl)) (bd_none ρ _) (by simp) (by omega) (by omega) (by omega)) (by rw [hn1]; exact slo_zero _ _ _ _))) all_nil))))) (allM (all_cons ?_ all_nil))
        refine LOb_call (.agg #[.int .u8 ((((sumC 0#32 l2)).setWidth 8).toNat : Int), .int .u8 ((((sumC 0#32 l2) >>> 8).setWidth 8).toNat : Int), .int .u8 ((((sumC 0#32 l2) >>> 16).setWidth 8).toNat : Int), .int .u8 ((((sumC 0#32 l2) >>> 24).setWidth 8).toNat : Int)]) [(11, .slice a l1.length (l.length - 4))] rfl (wv_n rfl) rfl rfl (fun _ _ hρ _ => r_call (args := [.int .u32 ((sumC 0#32 l2).toNat : Int)]) (enters_of Try.func95 (by kernel_rfl) rfl) (hρ _ _ rfl) ((cons2 (hρ _ _ rfl) rfl)) rfl) (fun w _ => four_c (sumC 0#32 l2) w) (by kernel_rfl) ?_
        refine G_step [0, 1, 2, 3, 11] 12 [] (by kernel_rfl) (allM (all_cons (q_run (.slice a l.length cap) rfl rfl (wv_n rfl) rfl (fun _ _ hρ _ => r_move (hρ _ _ rfl))) (all_cons (q_run (.int .i64 ((l.length - 4 : Nat) : Int)) rfl rfl (wv_n rfl) rfl (fun _ _ hρ _ => r_move (hρ _ _ rfl))) (all_cons (q_run (.int .i64 ((l.length - 4 : Nat) : Int)) rfl rfl (wv_n rfl) rfl (fun _ _ hρ _ => r_move (hρ _ _ rfl))) (all_cons (q_run (.slice a l1.length (l.length - 4)) rfl rfl (wv_n rfl) rfl (fun ρ _ hρ _ => r_as (r_sliceO sl34 sz5 (hρ _ _ rfl) (bd_some (n := l.length - 4) (hρ _ _ rfl)) (bd_some (n := l.length - 4) (hρ _ _ rfl)) (bd_none ρ _) (by simp) (by omega) (by omega) (by omega)) (by rw [hn1]; exact slo_zero _ _ _ _))) (all_cons (q_run (.slice a l1.length (l.length - 4)) rfl rfl (wv_n rfl) rfl (fun _ _ hρ _ => r_assign (hρ _ _ rfl))) all_nil)))))) (allM (all_cons ?_ all_nil))
        refine LOb_store 2 (.cells #[.int .u8 ((((sumC 0#32 l2)).setWidth 8).toNat : Int), .int .u8 ((((sumC 0#32 l2) >>> 8).setWidth 8).toNat : Int), .int .u8 ((((sumC 0#32 l2) >>> 16).setWidth 8).toNat : Int), .int .u8 ((((sumC 0#32 l2) >>> 24).setWidth 8).toNat : Int)] 130) [] rfl (wv_n rfl) rfl rfl rfl (fun _ _ hρ hm => r_store sz130 (hρ _ _ rfl) (hρ _ _ rfl) (hm.at 2 rfl) rfl rfl rfl rfl) (by kernel_rfl) ?_
        exact G_lastQ [] [(0, .slice a l.length cap), (2, .slice none 0 0), (3, .int .i64 0), (4, .int .i64 ((l.length - 4 : Nat) : Int)), (6, .pointer (some ⟨B7, 0, none⟩)), (5, .slice a l1.length (l.length - 4))] (by kernel_rfl) (allM all_nil) (end_old rfl rfl (end_old rfl rfl (end_old rfl rfl (end_old rfl rfl (end_new 10 rfl rfl (end_new 11 rfl rfl end_nil)))))) (fun a w hf hm => At_intro (B8, B7) trivial hf hm (sub_cons rfl (sub_cons rfl (sub_cons rfl (sub_cons rfl (sub_cons rfl (sub_cons rfl sub_nil)))))) (sub_cons rfl (sub_cons rfl sub_nil)))
    · skip
      obtain ⟨Bx7, Bx10⟩ := z
      show T _ _ _ [(0, .slice a l.length cap), (2, .slice none 0 0), (3, .int .i64 0), (4, .int .i64 ((l.length - 4 : Nat) : Int)), (6, .pointer (some ⟨Bx10, 0, none⟩)), (5, .slice a l1.length (l.length - 4))] [(1, .blk Bx7 (.cells #[.slice a l2.length cap] 34)), (2, .blk Bx10 (.cells #[.int .u8 ((((sumC 0#32 l2)).setWidth 8).toNat : Int), .int .u8 ((((sumC 0#32 l2) >>> 8).setWidth 8).toNat : Int), .int .u8 ((((sumC 0#32 l2) >>> 16).setWidth 8).toNat : Int), .int .u8 ((((sumC 0#32 l2) >>> 24).setWidth 8).toNat : Int)] 130))]
      refine T_seq ?_
      obtain ⟨l9, hl9, hn9⟩ : ∃ lz, lz = (l.drop (l.length - 4)).take (l.length - (l.length - 4)) ∧ lz.length = l.length - (l.length - 4) := ⟨_, rfl, by rw [List.length_take, List.length_drop]; omega⟩
      obtain ⟨a9, ha9⟩ : ∃ az : Option Addr, az = (if cap = l.length - 4 then a else Option.map (·.add ((l.length - 4) * 1)) a) := ⟨_, rfl⟩
      have hs9 := SliceAt.part hv (lo := l.length - 4) (hi := l.length) (m := cap) (by omega) (by omega) (by omega) (by omega)
      rw [← hl9, ← ha9] at hs9
      refine T_seq (T_draw (V := [(0, .slice a l.length cap), (1, .int .i64 ((l.length - 4 : Nat) : Int)), (2, .slice a9 l9.length (cap - (l.length - 4))), (3, .slice (some ⟨Bx10, 0, none⟩) 4 4)]) [0, 0, 3, 0, 15, 31] [[(0, none)], [(4, none)], [(22, some 0), (23, some 1)], [(6, none)], [(24, some 2), (25, some 3)], [(26, some 4)]] 16 mixed (by kernel_rfl) ?_)
      refine G_step [0, 1, 2, 3] 4 [] (by kernel_rfl) (allM (all_cons (q_run (.slice a l.length cap) rfl rfl (wv_n rfl) rfl (fun _ _ hρ _ => r_move (hρ _ _ rfl))) (all_cons (q_run (.int .i64 ((l.length - 4 : Nat) : Int)) rfl rfl (wv_n rfl) rfl (fun _ _ hρ _ => r_move (hρ _ _ rfl))) (all_cons (q_run (.slice a9 l9.length (cap - (l.length - 4))) rfl rfl (wv_n rfl) rfl (fun ρ _ hρ _ => r_as (r_sliceO sl34 sz5 (hρ _ _ rfl) (bd_none ρ _) (bd_none ρ _) (bd_some (n := l.length - 4) (hρ _ _ rfl)) (by simp) (by omega) (by omega) (by omega)) (by rw [hn9, ha9]))) (all_cons (q_run (.slice (some ⟨Bx10, 0, none⟩) 4 4) rfl rfl (wv_n rfl) rfl (fun _ _ hρ _ => r_sliceA ar130 sz5 (by decide) (hρ _ _ rfl))) all_nil))))) (allM (all_cons ?_ all_nil))
      refine LOb_call (.bool (decide (l9 = [((sumC 0#32 l2)).setWidth 8, ((sumC 0#32 l2) >>> 8).setWidth 8, ((sumC 0#32 l2) >>> 16).setWidth 8, ((sumC 0#32 l2) >>> 24).setWidth 8]))) [(5, .bool (!(decide (l9 = [((sumC 0#32 l2)).setWidth 8, ((sumC 0#32 l2) >>> 8).setWidth 8, ((sumC 0#32 l2) >>> 16).setWidth 8, ((sumC 0#32 l2) >>> 24).setWidth 8]))))] rfl (wv_n rfl) rfl rfl (fun _ _ hρ _ => r_call (args := [.slice a9 l9.length (cap - (l.length - 4)), .slice (some ⟨Bx10, 0, none⟩) 4 4]) (enters_of Try.func16 (by kernel_rfl) rfl) (hρ _ _ rfl) ((cons2 (hρ _ _ rfl) (cons2 (hρ _ _ rfl) rfl))) rfl) (fun w hm => equal_b l9 [((sumC 0#32 l2)).setWidth 8, ((sumC 0#32 l2) >>> 8).setWidth 8, ((sumC 0#32 l2) >>> 16).setWidth 8, ((sumC 0#32 l2) >>> 24).setWidth 8] a9 (some ⟨Bx10, 0, none⟩) (cap - (l.length - 4)) 4 w (hs9.keep hm.ext) ⟨by simp, (fun e => by cases e), .inr ⟨_, 0, _, _, _, rfl, (hm.at 2 rfl), row_of_take (fun _ => rfl) rfl⟩⟩ (by omega) (Nat.le_of_ble_eq_true rfl)) (by kernel_rfl) ?_
      refine G_last [5] [(2, .slice none 0 0), (3, .int .i64 0), (5, .slice a l1.length (l.length - 4)), (27, .bool (!(decide (l9 = [((sumC 0#32 l2)).setWidth 8, ((sumC 0#32 l2) >>> 8).setWidth 8, ((sumC 0#32 l2) >>> 16).setWidth 8, ((sumC 0#32 l2) >>> 24).setWidth 8]))))] (by kernel_rfl) (allM (all_cons (q_run (.bool (!(decide (l9 = [((sumC 0#32 l2)).setWidth 8, ((sumC 0#32 l2) >>> 8).setWidth 8, ((sumC 0#32 l2) >>> 16).setWidth 8, ((sumC 0#32 l2) >>> 24).setWidth 8])))) rfl rfl (wv_n rfl) rfl (fun _ _ hρ _ => r_not (b := decide (l9 = [((sumC 0#32 l2)).setWidth 8, ((sumC 0#32 l2) >>> 8).setWidth 8, ((sumC 0#32 l2) >>> 16).setWidth 8, ((sumC 0#32 l2) >>> 24).setWidth 8])) (hρ _ _ rfl))) all_nil)) (end_old rfl rfl (end_old rfl rfl (end_old rfl rfl (end_new 5 rfl rfl end_nil)))) ?_
      refine T_cond rfl (fun h1 => ?_) (fun h1 => ?_)
      · replace h1 := of_decide_eq_false (bnot_t h1)
        refine T_seq (T_region ?_)
        refine TL_q (.slice none 0 0) (fun _ _ hρ _ => r_assign (hρ _ _ rfl)) rfl rfl rfl (w_n rfl) ?_
        refine TL_q (.int .i64 120) (fun _ _ hρ _ => r_assign (hρ _ _ rfl)) rfl rfl rfl (w_n rfl) ?_
        refine TL_seq ?_
        refine T_ret' ?_
        refine p_then_r ?_
        refine ret_of rfl (.tuple #[.slice none 0 0, .int .i64 120]) (fun tmps w hk hm => res2 rfl (res_tmp (hk 2 _ rfl)) (res_tmp (hk 3 _ rfl))) (fun w hm => ?_)
        have e0 : openP l = none := open_f hl2 hl9 h1
        have e1 : openL l = [] := by unfold openL; rw [e0]; rfl
        have e2 : openE l = 120 := by unfold openE; rw [e0]; try rfl
        rw [e1, e2]
        exact ⟨none, 0, rfl, hm.ext, World.ownsRow_nil _ _ _ _⟩
      · replace h1 := of_decide_eq_true (bnot_f h1)
        refine T_skip' ?_
        refine p_seq ?_
        refine T_seq (T_region ?_)
        refine TL_new 3 (.cells #[] 5) (fun B => .slice (some ⟨B, 0, none⟩) 0 0) (fun _ _ _ _ => r_buildSlice (vs := []) (by kernel_rfl) rfl) rfl rfl rfl (w_n rfl) ?_
        intro B10
        refine TL_q (.slice a l1.length (l.length - 4)) (fun _ _ hρ _ => r_move (hρ _ _ rfl)) rfl rfl rfl (w_n rfl) ?_
        refine TL_mem ([(3, .row (.slice (some ⟨B10, 0, none⟩) 0 0) 5 1 0 []), (1, .blk Bx7 (.cells #[.slice a l2.length cap] 34)), (2, .blk Bx10 (.cells #[.int .u8 ((((sumC 0#32 l2)).setWidth 8).toNat : Int), .int .u8 ((((sumC 0#32 l2) >>> 8).setWidth 8).toNat : Int), .int .u8 ((((sumC 0#32 l2) >>> 16).setWidth 8).toNat : Int), .int .u8 ((((sumC 0#32 l2) >>> 24).setWidth 8).toNat : Int)] 130))]) (fun _ hm => MemOk.sub (hm.toRow (n := 0) (cap := 0) (s := 1) 3 rfl rfl (by omega) rfl _ rfl) (sub_cons rfl (sub_cons rfl (sub_cons rfl sub_nil)))) ?_
        refine TL_append (n := 0) (m := l1.length) (xs := []) (news := (l1.flatMap byc)) (z := .int .u8 0) 3 rfl rfl rfl sl34 sz5 by5 (by kernel_rfl) rfl rfl (.inl rfl) (fun _ hm => by have := src_of byc_len (hs1.keep hm.ext); simpa using this) (by intro u hu; obtain ⟨x, _, hx⟩ := List.mem_flatMap.1 hu; exact byc_one x u hx) (by omega) (by omega) rfl (w_n rfl) ?_
        intro a11 cap11
        refine TL_q (.slice a11 (0 + l1.length) cap11) (fun _ _ hρ _ => r_assign (hρ _ _ rfl)) rfl rfl rfl (w_n rfl) ?_
        refine TL_q (.int .i64 0) (fun _ _ hρ _ => r_assign (hρ _ _ rfl)) rfl rfl rfl (w_n rfl) ?_
        refine TL_seq ?_
        refine T_ret' ?_
        refine ret_of rfl (.tuple #[.slice a11 (0 + l1.length) cap11, .int .i64 0]) (fun tmps w hk hm => res2 rfl (res_tmp (hk 2 _ rfl)) (res_tmp (hk 3 _ rfl))) (fun w hm => ?_)
        have e0 : openP l = some l1 := open_t h4 hl1 hl2 hl9 h1
        have e1 : openL l = l1 := by unfold openL; rw [e0]; rfl
        have e2 : openE l = 0 := by unfold openE; rw [e0]; try rfl
        rw [e1, e2]
        have hrow := hm.row 3 rfl
        simp only [Nat.zero_add, List.nil_append] at hrow ⊢
        exact ⟨a11, cap11, rfl, hm.ext, hrow⟩
  · skip
    refine T_seq (T_region ?_)
    refine TL_q (.slice a l.length cap) (fun _ _ hρ _ => r_move (hρ _ _ rfl)) rfl rfl rfl (w_n rfl) ?_
    refine TL_q (.int .i64 ((l.length : Nat) : Int)) (fun _ _ hρ _ => r_len sl34 (hρ _ _ rfl)) rfl rfl rfl (w_n rfl) ?_
    refine TL_q (.int .i64 (((l.length : Nat) : Int) - 4)) (fun _ _ hρ _ => r_as (r_sub (hρ _ _ rfl) (hρ _ _ rfl)) (int_as (wrap64 (by omega) (by omega)))) rfl rfl rfl (w_n rfl) ?_
    refine TL_q (.int .i64 (((l.length : Nat) : Int) - 4)) (fun _ _ hρ _ => r_assign (hρ _ _ rfl)) rfl rfl rfl (w_n rfl) ?_
    refine TL_seq ?_
    refine T_seq ?_
    have hng : ((l.length : Nat) : Int) - 4 < 0 := by omega
    refine T_seq (T_region ?_)
    refine TL_q (.int .i64 (((l.length : Nat) : Int) - 4)) (fun _ _ hρ _ => r_move (hρ _ _ rfl)) rfl rfl rfl (w_n rfl) ?_
    refine TL_q (.bool true) (fun _ _ hρ _ => r_as (r_lss (hρ _ _ rfl) (hρ _ _ rfl)) (bool_as (decide_eq_true hng))) rfl rfl rfl (w_n rfl) ?_
    refine TL_seq ?_
    refine T_cond_t rfl ?_
    refine T_seq (T_region ?_)
    refine TL_q (.slice none 0 0) (fun _ _ hρ _ => r_assign (hρ _ _ rfl)) rfl rfl rfl (w_n rfl) ?_
    refine TL_q (.int .i64 120) (fun _ _ hρ _ => r_assign (hρ _ _ rfl)) rfl rfl rfl (w_n rfl) ?_
    refine TL_seq ?_
    refine T_ret' ?_
    refine p_then_r ?_
    refine ret_of rfl (.tuple #[.slice none 0 0, .int .i64 120]) (fun tmps w hk hm => res2 rfl (res_tmp (hk 2 _ rfl)) (res_tmp (hk 3 _ rfl))) (fun w hm => ?_)
    have e0 : openP l = none := open_s h4
    have e1 : openL l = [] := by unfold openL; rw [e0]; rfl
    have e2 : openE l = 120 := by unfold openE; rw [e0]; try rfl
    rw [e1, e2]
    exact ⟨none, 0, rfl, hm.ext, World.ownsRow_nil _ _ _ _⟩

theorem is_c (l : List By) (a : Option Addr) (cap n k : Nat) (mask : Wd) (B5 B4 B3 : Nat) (w : World) (hl : l.length ≤ 1000000) (hn : n < 8 * l.length) (hk : k < 32) (h5 : hp w B5 = some (.cells #[.int .u32 (mask.toNat : Int)] 46)) (h4 : hp w B4 = some (.cells #[.int .i64 (n : Int)] 3)) (h3 : hp w B3 = some (.cells #[.slice a l.length cap] 34)) : Calls Try.prog 93 #[.int .i64 (k : Int), .pointer (some ⟨B5, 0, none⟩), .pointer (some ⟨B4, 0, none⟩), .pointer (some ⟨B3, 0, none⟩)] w fun e w' => e = .returned (.bool (isS l n mask k)) ∧ Below w.heap.size w w' := by
  refine calls_of_T (l := [.int .i64 ((k : Nat) : Int), .pointer (some ⟨B5, 0, none⟩), .pointer (some ⟨B4, 0, none⟩), .pointer (some ⟨B3, 0, none⟩)]) 20 Try.func93 rfl rfl rfl ?_
  show T _ _ _ [(0, .int .i64 ((k : Nat) : Int)), (1, .pointer (some ⟨B5, 0, none⟩)), (2, .pointer (some ⟨B4, 0, none⟩)), (3, .pointer (some ⟨B3, 0, none⟩))] []
  refine T_seq (T_region ?_)
  refine TL_q (.bool false) (fun _ _ hρ _ => r_assign (hρ _ _ rfl)) rfl rfl rfl (w_n rfl) ?_
  refine TL_seq ?_
  by_cases hb : mask.getLsbD k = true
  · skip
    refine T_seq (T_region ?_)
    refine TL_q (.int .u32 ((mask).toNat : Int)) (fun _ _ hρ hm => r_load ag46 (hρ _ _ rfl) (hm.old h5) rfl) rfl rfl rfl (w_n rfl) ?_
    refine TL_q (.int .i64 ((k : Nat) : Int)) (fun _ _ hρ _ => r_move (hρ _ _ rfl)) rfl rfl rfl (w_n rfl) ?_
    refine TL_q (.int .u32 ((mask >>> k).toNat : Int)) (fun _ _ hρ _ => r_shrB (k := .u32) (a := mask) (n := k) (by show _ ≤ 32; omega) (hρ _ _ rfl) (hρ _ _ rfl)) rfl rfl rfl (w_n rfl) ?_
    refine TL_q (.int .u32 (((mask >>> k) &&& (1#32)).toNat : Int)) (fun _ _ hρ _ => r_andB (k := .u32) (a := (mask >>> k)) (b := (1#32)) rfl (hρ _ _ rfl) (hρ _ _ rfl)) rfl rfl rfl (w_n rfl) ?_
    refine TL_q (.bool true) (fun _ _ hρ _ => r_as (r_eql (hρ _ _ rfl) (hρ _ _ rfl)) (bool_as (isb_t hb))) rfl rfl rfl (w_n rfl) ?_
    refine TL_q (.bool true) (fun _ _ hρ _ => r_move (hρ _ _ rfl)) rfl rfl rfl (w_n rfl) ?_
    refine TL_q (.int .i64 ((n : Nat) : Int)) (fun _ _ hρ hm => r_load ag3 (hρ _ _ rfl) (hm.old h4) rfl) rfl rfl rfl (want_y 11 rfl rfl rfl) ?_
    refine TL_q (.int .i64 ((k : Nat) : Int)) (fun _ _ hρ _ => r_move (hρ _ _ rfl)) rfl rfl rfl (want_y 11 rfl rfl rfl) ?_
    refine TL_q (.int .i64 ((n + k : Nat) : Int)) (fun _ _ hρ _ => r_as (r_add (hρ _ _ rfl) (hρ _ _ rfl)) (int_as ((wrap64 (by omega) (by omega)).trans (by omega)))) rfl rfl rfl (want_y 11 rfl rfl rfl) ?_
    refine TL_q (.slice a l.length cap) (fun _ _ hρ hm => r_load ag34 (hρ _ _ rfl) (hm.old h3) rfl) rfl rfl rfl (want_y 11 rfl rfl rfl) ?_
    refine TL_q (.int .i64 ((l.length : Nat) : Int)) (fun _ _ hρ _ => r_len sl34 (hρ _ _ rfl)) rfl rfl rfl (want_y 11 rfl rfl rfl) ?_
    refine TL_q (.int .i64 ((8 * l.length : Nat) : Int)) (fun _ _ hρ _ => r_as (r_mul (hρ _ _ rfl) (hρ _ _ rfl)) (int_as ((wrap64 (by omega) (by omega)).trans (by omega)))) rfl rfl rfl (want_y 11 rfl rfl rfl) ?_
    refine TL_q (.bool (decide (((n + k : Nat) : Int) < ((8 * l.length : Nat) : Int)))) (fun _ _ hρ _ => r_lss (hρ _ _ rfl) (hρ _ _ rfl)) rfl rfl rfl (want_y 11 rfl rfl rfl) ?_
    refine TL_q (.bool (decide (((n + k : Nat) : Int) < ((8 * l.length : Nat) : Int)))) (fun _ _ hρ _ => r_pick_t (hρ _ _ rfl) (hρ _ _ rfl)) rfl rfl rfl (w_n rfl) ?_
    refine TL_q (.bool (decide (((n + k : Nat) : Int) < ((8 * l.length : Nat) : Int)))) (fun _ _ hρ _ => r_assign (hρ _ _ rfl)) rfl rfl rfl (w_n rfl) ?_
    refine TL_seq ?_
    refine T_ret' ?_
    refine ret_of rfl (.bool (decide (((n + k : Nat) : Int) < ((8 * l.length : Nat) : Int)))) (fun tmps w hk hm => res1 rfl (res_tmp (hk 5 _ rfl))) (fun w hm => ?_)
    exact ⟨congrArg (fun b => Ending.returned (.bool b)) (by unfold isS; rw [hb, Bool.true_and]; exact decide_eq_decide.2 (by omega)), hm.ext⟩
  · skip
    refine T_seq (T_region ?_)
    refine TL_q (.int .u32 ((mask).toNat : Int)) (fun _ _ hρ hm => r_load ag46 (hρ _ _ rfl) (hm.old h5) rfl) rfl rfl rfl (w_n rfl) ?_
    refine TL_q (.int .i64 ((k : Nat) : Int)) (fun _ _ hρ _ => r_move (hρ _ _ rfl)) rfl rfl rfl (w_n rfl) ?_
    refine TL_q (.int .u32 ((mask >>> k).toNat : Int)) (fun _ _ hρ _ => r_shrB (k := .u32) (a := mask) (n := k) (by show _ ≤ 32; omega) (hρ _ _ rfl) (hρ _ _ rfl)) rfl rfl rfl (w_n rfl) ?_
    refine TL_q (.int .u32 (((mask >>> k) &&& (1#32)).toNat : Int)) (fun _ _ hρ _ => r_andB (k := .u32) (a := (mask >>> k)) (b := (1#32)) rfl (hρ _ _ rfl) (hρ _ _ rfl)) rfl rfl rfl (w_n rfl) ?_
    refine TL_q (.bool false) (fun _ _ hρ _ => r_as (r_eql (hρ _ _ rfl) (hρ _ _ rfl)) (bool_as (isb_f hb))) rfl rfl rfl (w_n rfl) ?_
    refine TL_q (.bool false) (fun _ _ hρ _ => r_move (hρ _ _ rfl)) rfl rfl rfl (w_n rfl) ?_
    refine TL_no rfl rfl (want_n 11 rfl rfl rfl) ?_
    refine TL_no rfl rfl (want_n 11 rfl rfl rfl) ?_
    refine TL_no rfl rfl (want_n 11 rfl rfl rfl) ?_
    refine TL_no rfl rfl (want_n 11 rfl rfl rfl) ?_
    refine TL_no rfl rfl (want_n 11 rfl rfl rfl) ?_
    refine TL_no rfl rfl (want_n 11 rfl rfl rfl) ?_
    refine TL_no rfl rfl (want_n 11 rfl rfl rfl) ?_
    refine TL_q (.bool false) (fun _ _ hρ _ => r_pick_f (hρ _ _ rfl) (hρ _ _ rfl)) rfl rfl rfl (w_n rfl) ?_
    refine TL_q (.bool false) (fun _ _ hρ _ => r_assign (hρ _ _ rfl)) rfl rfl rfl (w_n rfl) ?_
    refine TL_seq ?_
    refine T_ret' ?_
    refine ret_of rfl (.bool false) (fun tmps w hk hm => res1 rfl (res_tmp (hk 5 _ rfl))) (fun w hm => ?_)
    exact ⟨congrArg (fun b => Ending.returned (.bool b)) (by unfold isS; rw [Bool.eq_false_iff.2 hb]; rfl), hm.ext⟩

theorem spoil_in (n : Nat) (mask : Wd) (l : List By) (a : Option Addr) (cap : Nat) (w : World) (hv : SliceAt w a cap 1 byc l) (hl : l.length ≤ 1000000) (hcap : cap ≤ Go.maxLen) (hn : n < 8 * l.length) : Calls Try.prog 53 #[.slice a l.length cap, .int .i64 (n : Int), .int .u32 (mask.toNat : Int)] w fun e w' => ∃ a' cap', e = .returned (.tuple #[.slice a' ((spoilP l n mask).getD []).length cap', .int .i64 (spoilE (spoilP l n mask))]) ∧ Below w.heap.size w w' ∧ w'.ownsRow w.heap.size 5 1 (.slice a' ((spoilP l n mask).getD []).length cap') ((spoilP l n mask).getD []).length (((spoilP l n mask).getD []).flatMap byc) := by
  have hvl := hv.1
  refine calls_of_T (l := [.slice a l.length cap, .int .i64 ((n : Nat) : Int), .int .u32 ((mask).toNat : Int)]) 52 Try.func53 rfl rfl rfl ?_
  show T _ _ _ [(0, .slice a l.length cap), (1, .int .i64 ((n : Nat) : Int)), (2, .int .u32 ((mask).toNat : Int))] []
  refine T_seq (T_region ?_)
  refine TL_new 1 (.cells #[.slice a l.length cap] 34) (fun B => .pointer (some ⟨B, 0, none⟩)) (fun _ _ hρ _ => r_box (hρ _ _ rfl) rfl) rfl rfl rfl (w_n rfl) ?_
  intro B1
  refine TL_new 2 (.cells #[.int .i64 ((n : Nat) : Int)] 3) (fun B => .pointer (some ⟨B, 0, none⟩)) (fun _ _ hρ _ => r_box (hρ _ _ rfl) rfl) rfl rfl rfl (w_n rfl) ?_
  intro B2
  refine TL_new 3 (.cells #[.int .u32 ((mask).toNat : Int)] 46) (fun B => .pointer (some ⟨B, 0, none⟩)) (fun _ _ hρ _ => r_box (hρ _ _ rfl) rfl) rfl rfl rfl (w_n rfl) ?_
  intro B3
  refine TL_q (.slice none 0 0) (fun _ _ hρ _ => r_assign (hρ _ _ rfl)) rfl rfl rfl (w_n rfl) ?_
  refine TL_q (.int .i64 0) (fun _ _ hρ _ => r_assign (hρ _ _ rfl)) rfl rfl rfl (w_n rfl) ?_
  refine TL_seq ?_
  refine T_seq ?_
  have hp1 : ¬ (((n : Nat) : Int) < 0) := by omega
  have hp2 : ¬ (((8 * l.length : Nat) : Int) ≤ ((n : Nat) : Int)) := by omega
  refine T_seq (T_region ?_)
  refine TL_q (.int .i64 ((n : Nat) : Int)) (fun _ _ hρ hm => r_load ag3 (hρ _ _ rfl) (hm.at 2 rfl) rfl) rfl rfl rfl (w_n rfl) ?_
  refine TL_q (.bool false) (fun _ _ hρ _ => r_as (r_lss (hρ _ _ rfl) (hρ _ _ rfl)) (bool_as (decide_eq_false hp1))) rfl rfl rfl (w_n rfl) ?_
  refine TL_q (.bool false) (fun _ _ hρ _ => r_move (hρ _ _ rfl)) rfl rfl rfl (w_n rfl) ?_
  refine TL_q (.int .i64 ((n : Nat) : Int)) (fun _ _ hρ hm => r_load ag3 (hρ _ _ rfl) (hm.at 2 rfl) rfl) rfl rfl rfl (want_y 14 rfl rfl rfl) ?_
  refine TL_q (.slice a l.length cap) (fun _ _ hρ hm => r_load ag34 (hρ _ _ rfl) (hm.at 1 rfl) rfl) rfl rfl rfl (want_y 14 rfl rfl rfl) ?_
  refine TL_q (.int .i64 ((l.length : Nat) : Int)) (fun _ _ hρ _ => r_len sl34 (hρ _ _ rfl)) rfl rfl rfl (want_y 14 rfl rfl rfl) ?_
  refine TL_q (.int .i64 ((8 * l.length : Nat) : Int)) (fun _ _ hρ _ => r_as (r_mul (hρ _ _ rfl) (hρ _ _ rfl)) (int_as ((wrap64 (by omega) (by omega)).trans (by omega)))) rfl rfl rfl (want_y 14 rfl rfl rfl) ?_
  refine TL_q (.bool false) (fun _ _ hρ _ => r_as (r_geq (hρ _ _ rfl) (hρ _ _ rfl)) (bool_as (decide_eq_false hp2))) rfl rfl rfl (want_y 14 rfl rfl rfl) ?_
  refine TL_q (.bool false) (fun _ _ hρ _ => r_pick_f (hρ _ _ rfl) (hρ _ _ rfl)) rfl rfl rfl (w_n rfl) ?_
  refine TL_seq ?_
  refine T_cond_f rfl ?_
  refine T_skip' ?_
  refine p_seq ?_
  refine T_seq (T_region ?_)
  refine TL_q (.func (.func 93) #[] #[.pointer (some ⟨B3, 0, none⟩), .pointer (some ⟨B2, 0, none⟩), .pointer (some ⟨B1, 0, none⟩)]) (fun _ _ hρ _ => r_makeFunc (by simp) (map_arr (cons2 (hρ _ _ rfl) (cons2 (hρ _ _ rfl) (cons2 (hρ _ _ rfl) rfl))))) rfl rfl rfl (w_n rfl) ?_
  refine TL_q (.func (.func 93) #[] #[.pointer (some ⟨B3, 0, none⟩), .pointer (some ⟨B2, 0, none⟩), .pointer (some ⟨B1, 0, none⟩)]) (fun _ _ hρ _ => r_assign (hρ _ _ rfl)) rfl rfl rfl (w_n rfl) ?_
  refine TL_seq ?_
  refine T_seq (T_region ?_)
  refine TL_q (.slice a l.length cap) (fun _ _ hρ hm => r_load ag34 (hρ _ _ rfl) (hm.at 1 rfl) rfl) rfl rfl rfl (w_n rfl) ?_
  refine TL_q (.int .i64 ((l.length : Nat) : Int)) (fun _ _ hρ _ => r_len sl34 (hρ _ _ rfl)) rfl rfl rfl (w_n rfl) ?_
  refine TL_makeSlice (n := l.length) (cap := l.length) (z := .int .u8 0) (f := byc) (u := 0#8) 4 rfl rfl rfl sl34 by5 sz5 (by kernel_rfl) rfl rfl (by omega) (by omega) (by omega) rfl (w_n rfl) ?_
  intro B4
  refine TL_q (.slice (some ⟨B4, 0, none⟩) l.length l.length) (fun _ _ hρ _ => r_assign (hρ _ _ rfl)) rfl rfl rfl (w_n rfl) ?_
  refine TL_seq ?_
  refine T_seq (T_region ?_)
  refine TL_q (.slice (some ⟨B4, 0, none⟩) l.length l.length) (fun _ _ hρ _ => r_move (hρ _ _ rfl)) rfl rfl rfl (w_n rfl) ?_
  refine TL_q (.slice a l.length cap) (fun _ _ hρ hm => r_load ag34 (hρ _ _ rfl) (hm.at 1 rfl) rfl) rfl rfl rfl (w_n rfl) ?_
  refine TL_copy (news := (l.flatMap byc)) 4 rfl rfl rfl rfl sl34 sz5 (fun _ hm => by have := src_of byc_len (hv.keep hm.ext); simpa using this) (by intro u hu; obtain ⟨x, _, hx⟩ := List.mem_flatMap.1 hu; exact byc_one x u hx) rfl (w_n rfl) ?_
  refine TL_seq ?_
  refine T_seq (T_region ?_)
  refine TL_q (.bool false) (fun _ _ hρ _ => r_assign (hρ _ _ rfl)) rfl rfl rfl (w_n rfl) ?_
  refine TL_seq ?_
  refine T_seq ?_
  refine T_seq (T_region ?_)
  refine TL_q (.int .i64 0) (fun _ _ hρ _ => r_move (hρ _ _ rfl)) rfl rfl rfl (w_n rfl) ?_
  refine TL_seq ?_
  refine T_block ?_
  refine T_loop (ι := Nat) (fun (k : Nat) => k ≤ 32) (fun (k : Nat) => [(4, .pointer (some ⟨B2, 0, none⟩)), (6, .slice none 0 0), (7, .int .i64 0), (8, .func (.func 93) #[] #[.pointer (some ⟨B3, 0, none⟩), .pointer (some ⟨B2, 0, none⟩), .pointer (some ⟨B1, 0, none⟩)]), (9, .slice (some ⟨B4, 0, none⟩) l.length l.length), (28, .int .i64 ((k : Nat) : Int)), (10, .bool (someN l n mask k))]) (fun (k : Nat) => [(1, .blk B1 (.cells #[.slice a l.length cap] 34)), (2, .blk B2 (.cells #[.int .i64 ((n : Nat) : Int)] 3)), (3, .blk B3 (.cells #[.int .u32 ((mask).toNat : Int)] 46)), (4, .row (.slice (some ⟨B4, 0, none⟩) l.length l.length) 5 1 l.length ((spoilN l n mask k).flatMap byc))]) (fun (k : Nat) => 32 - k) 0 (Nat.zero_le _) (sub_cons rfl (sub_cons rfl (sub_cons rfl (sub_cons rfl (sub_cons rfl (sub_cons rfl (sub_cons rfl sub_nil))))))) (sub_cons rfl (sub_cons rfl (sub_cons rfl (sub_cons rfl sub_nil)))) ?_
  rintro k hp
  show T _ _ _ [(4, .pointer (some ⟨B2, 0, none⟩)), (6, .slice none 0 0), (7, .int .i64 0), (8, .func (.func 93) #[] #[.pointer (some ⟨B3, 0, none⟩), .pointer (some ⟨B2, 0, none⟩), .pointer (some ⟨B1, 0, none⟩)]), (9, .slice (some ⟨B4, 0, none⟩) l.length l.length), (28, .int .i64 ((k : Nat) : Int)), (10, .bool (someN l n mask k))] [(1, .blk B1 (.cells #[.slice a l.length cap] 34)), (2, .blk B2 (.cells #[.int .i64 ((n : Nat) : Int)] 3)), (3, .blk B3 (.cells #[.int .u32 ((mask).toNat : Int)] 46)), (4, .row (.slice (some ⟨B4, 0, none⟩) l.length l.length) 5 1 l.length ((spoilN l n mask k).flatMap byc))]
  refine T_seq (T_region ?_)
  refine TL_q (.bool (decide (((k : Nat) : Int) < 32))) (fun _ _ hρ _ => r_lss (hρ _ _ rfl) (hρ _ _ rfl)) rfl rfl rfl (w_n rfl) ?_
  refine TL_seq ?_
  refine T_seq ?_
  refine T_cond rfl (fun h1 => ?_) (fun h1 => ?_)
  · replace h1 := of_decide_eq_true h1
    refine T_skip' ?_
    refine p_seq ?_
    refine T_seq ?_
    refine T_block ?_
    refine T_seq (T_region ?_)
    refine TL_q (.int .i64 ((k : Nat) : Int)) (fun _ _ hρ _ => r_move (hρ _ _ rfl)) rfl rfl rfl (w_n rfl) ?_
    refine TL_q (.int .i64 ((k : Nat) : Int)) (fun _ _ hρ _ => r_assign (hρ _ _ rfl)) rfl rfl rfl (w_n rfl) ?_
    refine TL_seq ?_
    refine T_seq (T_region ?_)
    refine TL_q (.func (.func 93) #[] #[.pointer (some ⟨B3, 0, none⟩), .pointer (some ⟨B2, 0, none⟩), .pointer (some ⟨B1, 0, none⟩)]) (fun _ _ hρ _ => r_move (hρ _ _ rfl)) rfl rfl rfl (w_n rfl) ?_
    refine TL_q (.int .i64 ((k : Nat) : Int)) (fun _ _ hρ _ => r_move (hρ _ _ rfl)) rfl rfl rfl (w_n rfl) ?_
    refine TL_call (.bool (isS l n mask k)) (fun _ _ hρ _ => r_call (args := [.int .i64 ((k : Nat) : Int)]) (enters_of Try.func93 (by kernel_rfl) rfl) (hρ _ _ rfl) ((cons2 (hρ _ _ rfl) rfl)) rfl) (fun w hm => is_c l a cap n k mask B3 B2 B1 w hl hn (by omega) (hm.at 3 rfl) (hm.at 2 rfl) (hm.at 1 rfl)) rfl rfl rfl (w_n rfl) ?_
    refine TL_seq ?_
    refine T_cond rfl (fun h2 => ?_) (fun h2 => ?_)
    · skip
      have hsl := spoilN_len l n mask k
      have hsi := isS_t h2
      obtain ⟨y, hy⟩ : ∃ y, (spoilN l n mask k)[(n + k) / 8]? = some y := ⟨_, List.getElem?_eq_getElem (by omega)⟩
      refine T_seq (T_draw (V := [(0, .slice (some ⟨B4, 0, none⟩) l.length l.length), (1, .int .i64 ((n : Nat) : Int)), (2, .int .i64 ((k : Nat) : Int)), (3, .int .i64 ((n + k : Nat) : Int)), (4, .int .i64 (((n + k) / 8 : Nat) : Int)), (5, .pointer (some ⟨B4, 0 + ((n + k) / 8) * 1, none⟩)), (6, .int .u8 ((y).toNat : Int)), (7, .int .i64 ((n : Nat) : Int)), (8, .int .i64 ((k : Nat) : Int)), (9, .int .i64 ((n + k : Nat) : Int)), (10, .int .i64 (((n + k) % 8 : Nat) : Int)), (11, .int .u8 (((1#8) <<< ((n + k) % 8)).toNat : Int)), (12, .int .u8 ((y ^^^ ((1#8) <<< ((n + k) % 8))).toNat : Int)), (13, .pointer (some ⟨B4, 0 + ((n + k) / 8) * 1, none⟩))]) [0, 0, 0, 6, 14, 31, 63, 0, 0, 384, 896, 1920, 4095, 8191, 16383] [[(9, none)], [(4, none)], [(11, none)], [(35, some 1), (36, some 2)], [(37, some 3)], [(34, some 0), (38, some 4)], [(39, some 5)], [(4, none)], [(11, none)], [(41, some 7), (42, some 8)], [(43, some 9)], [(44, some 10)], [(40, some 6), (45, some 11)], [(34, some 0), (38, some 4)], [(47, some 13), (46, some 12)]] 16384 mixed (by kernel_rfl) ?_)
      refine G_step [0, 1, 2, 3, 4, 5, 6, 7, 8, 9, 10, 11, 12, 13] 14 [] (by kernel_rfl) (allM (all_cons (q_run (.slice (some ⟨B4, 0, none⟩) l.length l.length) rfl rfl (wv_n rfl) rfl (fun _ _ hρ _ => r_move (hρ _ _ rfl))) (all_cons (q_run (.int .i64 ((n : Nat) : Int)) rfl rfl (wv_n rfl) rfl (fun _ _ hρ hm => r_load ag3 (hρ _ _ rfl) (hm.at 2 rfl) rfl)) (all_cons (q_run (.int .i64 ((k : Nat) : Int)) rfl rfl (wv_n rfl) rfl (fun _ _ hρ _ => r_move (hρ _ _ rfl))) (all_cons (q_run (.int .i64 ((n + k : Nat) : Int)) rfl rfl (wv_n rfl) rfl (fun _ _ hρ _ => r_as (r_add (hρ _ _ rfl) (hρ _ _ rfl)) (int_as ((wrap64 (by omega) (by omega)).trans (by omega))))) (all_cons (q_run (.int .i64 (((n + k) / 8 : Nat) : Int)) rfl rfl (wv_n rfl) rfl (fun _ _ hρ _ => r_as (r_quo (hρ _ _ rfl) (hρ _ _ rfl) (by omega)) (int_as ((quo_i64 (by omega) (by omega) (by omega)).trans (by omega))))) (all_cons (q_run (.pointer (some ⟨B4, 0 + ((n + k) / 8) * 1, none⟩)) rfl rfl (wv_n rfl) rfl (fun _ _ hρ _ => r_indexAddrS (i := (n + k) / 8) sl34 sz5 (hρ _ _ rfl) (hρ _ _ rfl) (by omega))) (all_cons (q_run (.int .u8 ((y).toNat : Int)) rfl rfl (wv_n rfl) rfl (fun _ _ hρ hm => r_loadOwn1 (f := byc) (u := y) (l := (spoilN l n mask k)) ag5 (hρ _ _ rfl) (hm.row 4 rfl) (spoilN_len l n mask k).symm rfl byc_len hy rfl)) (all_cons (q_run (.int .i64 ((n : Nat) : Int)) rfl rfl (wv_n rfl) rfl (fun _ _ hρ hm => r_load ag3 (hρ _ _ rfl) (hm.at 2 rfl) rfl)) (all_cons (q_run (.int .i64 ((k : Nat) : Int)) rfl rfl (wv_n rfl) rfl (fun _ _ hρ _ => r_move (hρ _ _ rfl))) (all_cons (q_run (.int .i64 ((n + k : Nat) : Int)) rfl rfl (wv_n rfl) rfl (fun _ _ hρ _ => r_as (r_add (hρ _ _ rfl) (hρ _ _ rfl)) (int_as ((wrap64 (by omega) (by omega)).trans (by omega))))) (all_cons (q_run (.int .i64 (((n + k) % 8 : Nat) : Int)) rfl rfl (wv_n rfl) rfl (fun _ _ hρ _ => r_as (r_rem (hρ _ _ rfl) (hρ _ _ rfl) (by omega)) (int_as ((Int.tmod_eq_emod_of_nonneg (by omega)).trans (by omega))))) (all_cons (q_run (.int .u8 (((1#8) <<< ((n + k) % 8)).toNat : Int)) rfl rfl (wv_n rfl) rfl (fun _ _ hρ _ => r_shlB (k := .u8) (a := (1#8)) (n := (n + k) % 8) rfl (by show _ ≤ 8; omega) (hρ _ _ rfl) (hρ _ _ rfl))) (all_cons (q_run (.int .u8 ((y ^^^ ((1#8) <<< ((n + k) % 8))).toNat : Int)) rfl rfl (wv_n rfl) rfl (fun _ _ hρ _ => r_xorB (k := .u8) (a := y) (b := ((1#8) <<< ((n + k) % 8))) rfl (hρ _ _ rfl) (hρ _ _ rfl))) (all_cons (q_run (.pointer (some ⟨B4, 0 + ((n + k) / 8) * 1, none⟩)) rfl rfl (wv_n rfl) rfl (fun _ _ hρ _ => r_indexAddrS (i := (n + k) / 8) sl34 sz5 (hρ _ _ rfl) (hρ _ _ rfl) (by omega))) all_nil))))))))))))))) (allM (all_cons ?_ all_nil))
      refine LOb_storeRow (f := byc) (l := (spoilN l n mask k)) (u := y ^^^ ((1#8) <<< ((n + k) % 8))) (k := ((n + k) / 8)) 4 [] rfl (spoilN_len l n mask k).symm rfl (wv_n rfl) rfl rfl sz5 byc_len (by omega) rfl rfl (by kernel_rfl) ?_
      refine G_last [] [(4, .pointer (some ⟨B2, 0, none⟩)), (6, .slice none 0 0), (7, .int .i64 0), (8, .func (.func 93) #[] #[.pointer (some ⟨B3, 0, none⟩), .pointer (some ⟨B2, 0, none⟩), .pointer (some ⟨B1, 0, none⟩)]), (9, .slice (some ⟨B4, 0, none⟩) l.length l.length), (28, .int .i64 ((k : Nat) : Int)), (10, .bool (someN l n mask k)), (29, .bool (decide (((k : Nat) : Int) < 32))), (30, .int .i64 ((k : Nat) : Int)), (11, .int .i64 ((k : Nat) : Int)), (31, .func (.func 93) #[] #[.pointer (some ⟨B3, 0, none⟩), .pointer (some ⟨B2, 0, none⟩), .pointer (some ⟨B1, 0, none⟩)]), (32, .int .i64 ((k : Nat) : Int)), (33, .bool (isS l n mask k)), (34, .slice (some ⟨B4, 0, none⟩) l.length l.length), (35, .int .i64 ((n : Nat) : Int)), (36, .int .i64 ((k : Nat) : Int)), (37, .int .i64 ((n + k : Nat) : Int)), (38, .int .i64 (((n + k) / 8 : Nat) : Int)), (39, .pointer (some ⟨B4, 0 + ((n + k) / 8) * 1, none⟩)), (40, .int .u8 ((y).toNat : Int)), (41, .int .i64 ((n : Nat) : Int)), (42, .int .i64 ((k : Nat) : Int)), (43, .int .i64 ((n + k : Nat) : Int)), (44, .int .i64 (((n + k) % 8 : Nat) : Int)), (45, .int .u8 (((1#8) <<< ((n + k) % 8)).toNat : Int)), (46, .int .u8 ((y ^^^ ((1#8) <<< ((n + k) % 8))).toNat : Int)), (47, .pointer (some ⟨B4, 0 + ((n + k) / 8) * 1, none⟩))] (by kernel_rfl) (allM all_nil) (end_old rfl rfl (end_old rfl rfl (end_old rfl rfl (end_old rfl rfl (end_old rfl rfl (end_old rfl rfl (end_old rfl rfl (end_old rfl rfl (end_old rfl rfl (end_old rfl rfl (end_old rfl rfl (end_old rfl rfl (end_old rfl rfl (end_new 0 rfl rfl (end_new 1 rfl rfl (end_new 2 rfl rfl (end_new 3 rfl rfl (end_new 4 rfl rfl (end_new 5 rfl rfl (end_new 6 rfl rfl (end_new 7 rfl rfl (end_new 8 rfl rfl (end_new 9 rfl rfl (end_new 10 rfl rfl (end_new 11 rfl rfl (end_new 12 rfl rfl (end_new 13 rfl rfl end_nil))))))))))))))))))))))))))) ?_
      refine T_region ?_
      refine TL_q (.bool true) (fun _ _ hρ _ => r_assign (hρ _ _ rfl)) rfl rfl rfl (w_n rfl) ?_
      refine TL_nil ?_
      refine p_blk_n ?_
      refine p_seq ?_
      refine T_region ?_
      refine TL_q (.int .i64 ((k + 1 : Nat) : Int)) (fun _ _ hρ _ => r_as (r_add (hρ _ _ rfl) (hρ _ _ rfl)) (int_as ((wrap64 (by omega) (by omega)).trans (by omega)))) rfl rfl rfl (w_n rfl) ?_
      refine TL_q (.int .i64 ((k + 1 : Nat) : Int)) (fun _ _ hρ _ => r_move (hρ _ _ rfl)) rfl rfl rfl (w_n rfl) ?_
      refine TL_nil ?_
      exact p_at (k + 1) ⟨by omega, by omega⟩ (sub_cons rfl (sub_cons rfl (sub_cons rfl (sub_cons rfl (sub_cons rfl (sub_cons rfl (sub_cons (by exact congrArg (fun z : Bool => some (Value.bool z)) (some_t (isS_t h2))) sub_nil))))))) (sub_cons rfl (sub_cons rfl (sub_cons rfl (sub_cons (by exact congrArg (fun z : List By => some (Res.row _ 5 1 _ (z.flatMap byc))) (spoil_t (isS_t h2) hy)) sub_nil))))
    · skip
      refine T_skip' ?_
      refine p_blk_n ?_
      refine p_seq ?_
      refine T_region ?_
      refine TL_q (.int .i64 ((k + 1 : Nat) : Int)) (fun _ _ hρ _ => r_as (r_add (hρ _ _ rfl) (hρ _ _ rfl)) (int_as ((wrap64 (by omega) (by omega)).trans (by omega)))) rfl rfl rfl (w_n rfl) ?_
      refine TL_q (.int .i64 ((k + 1 : Nat) : Int)) (fun _ _ hρ _ => r_move (hρ _ _ rfl)) rfl rfl rfl (w_n rfl) ?_
      refine TL_nil ?_
      exact p_at (k + 1) ⟨by omega, by omega⟩ (sub_cons rfl (sub_cons rfl (sub_cons rfl (sub_cons rfl (sub_cons rfl (sub_cons rfl (sub_cons (by exact congrArg (fun z : Bool => some (Value.bool z)) (some_f (isS_f h2))) sub_nil))))))) (sub_cons rfl (sub_cons rfl (sub_cons rfl (sub_cons (by exact congrArg (fun z : List By => some (Res.row _ 5 1 _ (z.flatMap byc))) (spoil_f (isS_f h2))) sub_nil))))
  · replace h1 := of_decide_eq_false h1
    refine T_exit' ?_
    refine p_then_x ?_
    refine p_then_x ?_
    refine p_blk_x ?_
    refine p_seq ?_
    refine T_seq ?_
    refine T_seq (T_region ?_)
    refine TL_q (.bool (someN l n mask k)) (fun _ _ hρ _ => r_move (hρ _ _ rfl)) rfl rfl rfl (w_n rfl) ?_
    refine TL_q (.bool (!(someN l n mask k))) (fun _ _ hρ _ => r_not (b := someN l n mask k) (hρ _ _ rfl)) rfl rfl rfl (w_n rfl) ?_
    refine TL_seq ?_
    refine T_cond rfl (fun h3 => ?_) (fun h3 => ?_)
    · replace h3 := bnot_t h3
      refine T_seq (T_region ?_)
      refine TL_q (.slice none 0 0) (fun _ _ hρ _ => r_assign (hρ _ _ rfl)) rfl rfl rfl (w_n rfl) ?_
      refine TL_q (.int .i64 2) (fun _ _ hρ _ => r_assign (hρ _ _ rfl)) rfl rfl rfl (w_n rfl) ?_
      refine TL_seq ?_
      refine T_ret' ?_
      refine p_then_r ?_
      refine ret_of rfl (.tuple #[.slice none 0 0, .int .i64 2]) (fun tmps w hk hm => res2 rfl (res_tmp (hk 6 _ rfl)) (res_tmp (hk 7 _ rfl))) (fun w hm => ?_)
      have e0 : spoilP l n mask = none := if_neg (fun e => by have hk32 : k = 32 := (by omega); subst hk32; rw [h3] at e; exact absurd e.2 (by decide))
      rw [e0]
      exact ⟨none, 0, rfl, hm.ext, World.ownsRow_nil _ _ _ _⟩
    · replace h3 := bnot_f h3
      refine T_skip' ?_
      refine p_seq ?_
      refine T_seq (T_region ?_)
      refine TL_q (.slice (some ⟨B4, 0, none⟩) l.length l.length) (fun _ _ hρ _ => r_move (hρ _ _ rfl)) rfl rfl rfl (w_n rfl) ?_
      refine TL_q (.slice (some ⟨B4, 0, none⟩) l.length l.length) (fun _ _ hρ _ => r_assign (hρ _ _ rfl)) rfl rfl rfl (w_n rfl) ?_
      refine TL_q (.int .i64 0) (fun _ _ hρ _ => r_assign (hρ _ _ rfl)) rfl rfl rfl (w_n rfl) ?_
      refine TL_seq ?_
      refine T_ret' ?_
      refine ret_of rfl (.tuple #[.slice (some ⟨B4, 0, none⟩) l.length l.length, .int .i64 0]) (fun tmps w hk hm => res2 rfl (res_tmp (hk 6 _ rfl)) (res_tmp (hk 7 _ rfl))) (fun w hm => ?_)
      have hk32 : k = 32 := by omega
      subst hk32
      have e0 : spoilP l n mask = some (spoilN l n mask 32) := if_pos ⟨hn, h3⟩
      rw [e0]
      have hq : ((some (spoilN l n mask 32)).getD []).length = l.length := spoilN_len l n mask 32
      rw [hq]
      exact ⟨_, _, rfl, hm.ext, hm.row 4 rfl⟩

theorem spoil_out (bit : Int) (mask : Wd) (l : List By) (a : Option Addr) (cap : Nat) (w : World) (hv : SliceAt w a cap 1 byc l) (hl : l.length ≤ 1000000) (hcap : cap ≤ Go.maxLen) (hn : bit < 0 ∨ 8 * (l.length : Int) ≤ bit) : Calls Try.prog 53 #[.slice a l.length cap, .int .i64 bit, .int .u32 (mask.toNat : Int)] w fun e w' => e = .returned (.tuple #[.slice none 0 0, .int .i64 2]) ∧ Below w.heap.size w w' := by
  have hvl := hv.1
  refine calls_of_T (l := [.slice a l.length cap, .int .i64 bit, .int .u32 ((mask).toNat : Int)]) 52 Try.func53 rfl rfl rfl ?_
  show T _ _ _ [(0, .slice a l.length cap), (1, .int .i64 bit), (2, .int .u32 ((mask).toNat : Int))] []
  refine T_seq (T_region ?_)
  refine TL_new 1 (.cells #[.slice a l.length cap] 34) (fun B => .pointer (some ⟨B, 0, none⟩)) (fun _ _ hρ _ => r_box (hρ _ _ rfl) rfl) rfl rfl rfl (w_n rfl) ?_
  intro B1
  refine TL_new 2 (.cells #[.int .i64 bit] 3) (fun B => .pointer (some ⟨B, 0, none⟩)) (fun _ _ hρ _ => r_box (hρ _ _ rfl) rfl) rfl rfl rfl (w_n rfl) ?_
  intro B2
  refine TL_new 3 (.cells #[.int .u32 ((mask).toNat : Int)] 46) (fun B => .pointer (some ⟨B, 0, none⟩)) (fun _ _ hρ _ => r_box (hρ _ _ rfl) rfl) rfl rfl rfl (w_n rfl) ?_
  intro B3
  refine TL_q (.slice none 0 0) (fun _ _ hρ _ => r_assign (hρ _ _ rfl)) rfl rfl rfl (w_n rfl) ?_
  refine TL_q (.int .i64 0) (fun _ _ hρ _ => r_assign (hρ _ _ rfl)) rfl rfl rfl (w_n rfl) ?_
  refine TL_seq ?_
  refine T_seq ?_
  by_cases hb : bit < 0
  · skip
    refine T_seq (T_region ?_)
    refine TL_q (.int .i64 bit) (fun _ _ hρ hm => r_load ag3 (hρ _ _ rfl) (hm.at 2 rfl) rfl) rfl rfl rfl (w_n rfl) ?_
    refine TL_q (.bool true) (fun _ _ hρ _ => r_as (r_lss (hρ _ _ rfl) (hρ _ _ rfl)) (bool_as (decide_eq_true hb))) rfl rfl rfl (w_n rfl) ?_
    refine TL_q (.bool true) (fun _ _ hρ _ => r_move (hρ _ _ rfl)) rfl rfl rfl (w_n rfl) ?_
    refine TL_no rfl rfl (want_n 14 rfl rfl rfl) ?_
    refine TL_no rfl rfl (want_n 14 rfl rfl rfl) ?_
    refine TL_no rfl rfl (want_n 14 rfl rfl rfl) ?_
    refine TL_no rfl rfl (want_n 14 rfl rfl rfl) ?_
    refine TL_no rfl rfl (want_n 14 rfl rfl rfl) ?_
    refine TL_q (.bool true) (fun _ _ hρ _ => r_pick_t (hρ _ _ rfl) (hρ _ _ rfl)) rfl rfl rfl (w_n rfl) ?_
    refine TL_seq ?_
    refine T_cond_t rfl ?_
    refine T_seq (T_region ?_)
    refine TL_q (.slice none 0 0) (fun _ _ hρ _ => r_assign (hρ _ _ rfl)) rfl rfl rfl (w_n rfl) ?_
    refine TL_q (.int .i64 2) (fun _ _ hρ _ => r_assign (hρ _ _ rfl)) rfl rfl rfl (w_n rfl) ?_
    refine TL_seq ?_
    refine T_ret' ?_
    refine p_then_r ?_
    refine ret_of rfl (.tuple #[.slice none 0 0, .int .i64 2]) (fun tmps w hk hm => res2 rfl (res_tmp (hk 6 _ rfl)) (res_tmp (hk 7 _ rfl))) (fun w hm => ?_)
    exact ⟨rfl, hm.ext⟩
  · skip
    have hp2 : (((8 * l.length : Nat) : Int) ≤ bit) := by omega
    refine T_seq (T_region ?_)
    refine TL_q (.int .i64 bit) (fun _ _ hρ hm => r_load ag3 (hρ _ _ rfl) (hm.at 2 rfl) rfl) rfl rfl rfl (w_n rfl) ?_
    refine TL_q (.bool false) (fun _ _ hρ _ => r_as (r_lss (hρ _ _ rfl) (hρ _ _ rfl)) (bool_as (decide_eq_false hb))) rfl rfl rfl (w_n rfl) ?_
    refine TL_q (.bool false) (fun _ _ hρ _ => r_move (hρ _ _ rfl)) rfl rfl rfl (w_n rfl) ?_
    refine TL_q (.int .i64 bit) (fun _ _ hρ hm => r_load ag3 (hρ _ _ rfl) (hm.at 2 rfl) rfl) rfl rfl rfl (want_y 14 rfl rfl rfl) ?_
    refine TL_q (.slice a l.length cap) (fun _ _ hρ hm => r_load ag34 (hρ _ _ rfl) (hm.at 1 rfl) rfl) rfl rfl rfl (want_y 14 rfl rfl rfl) ?_
    refine TL_q (.int .i64 ((l.length : Nat) : Int)) (fun _ _ hρ _ => r_len sl34 (hρ _ _ rfl)) rfl rfl rfl (want_y 14 rfl rfl rfl) ?_
    refine TL_q (.int .i64 ((8 * l.length : Nat) : Int)) (fun _ _ hρ _ => r_as (r_mul (hρ _ _ rfl) (hρ _ _ rfl)) (int_as ((wrap64 (by omega) (by omega)).trans (by omega)))) rfl rfl rfl (want_y 14 rfl rfl rfl) ?_
    refine TL_q (.bool true) (fun _ _ hρ _ => r_as (r_geq (hρ _ _ rfl) (hρ _ _ rfl)) (bool_as (decide_eq_true hp2))) rfl rfl rfl (want_y 14 rfl rfl rfl) ?_
    refine TL_q (.bool true) (fun _ _ hρ _ => r_pick_f (hρ _ _ rfl) (hρ _ _ rfl)) rfl rfl rfl (w_n rfl) ?_
    refine TL_seq ?_
    refine T_cond_t rfl ?_
    refine T_seq (T_region ?_)
    refine TL_q (.slice none 0 0) (fun _ _ hρ _ => r_assign (hρ _ _ rfl)) rfl rfl rfl (w_n rfl) ?_
    refine TL_q (.int .i64 2) (fun _ _ hρ _ => r_assign (hρ _ _ rfl)) rfl rfl rfl (w_n rfl) ?_
    refine TL_seq ?_
    refine T_ret' ?_
    refine p_then_r ?_
    refine ret_of rfl (.tuple #[.slice none 0 0, .int .i64 2]) (fun tmps w hk hm => res2 rfl (res_tmp (hk 6 _ rfl)) (res_tmp (hk 7 _ rfl))) (fun w hm => ?_)
    exact ⟨rfl, hm.ext⟩

end Go.Proofs.Ytcidgbjgeegepaa
/- Rows of one's own, many of them at once: none in another's block. Over any program. -/
namespace Go.Proofs.Ytcidgbjgeegepaa
open Go Go.RowKit
/-- A row: where it lies, its room, its elements. -/
structure RowG (α : Type) where
  a : Option Addr
  cap : Nat
  l : List α
section
variable {α : Type} {e : TypeId} {s : Nat} {f : α → List Value}
abbrev RowG.v (r : RowG α) : Value := .slice r.a r.l.length r.cap
abbrev RowG.cells (r : RowG α) : List Value := [r.v]
theorem RowG.cells_len (r : RowG α) : r.cells.length = 1 := rfl
/-- In memory as it is told. -/
abbrev RowG.ok (s : Nat) (f : α → List Value) (w : World) (r : RowG α) : Prop := SliceAt w r.a r.cap s f r.l
def apart (r q : RowG α) : Prop := ∀ b, r.v.ownBlock = some b → q.v.ownBlock ≠ some b
/-- All of them are one's own. -/
def manyH (e : TypeId) (s : Nat) (f : α → List Value) (rs : List (RowG α)) (w : World) : Prop :=
  (∀ r ∈ rs, w.ownsRow 0 e s r.v r.l.length (r.l.flatMap f)) ∧ rs.Pairwise apart
def manyF (rs : List (RowG α)) (b : Nat) : Prop := ∃ r ∈ rs, r.v.ownBlock = some b
abbrev Res.many (e : TypeId) (s : Nat) (f : α → List Value) (rs : List (RowG α)) : Res := .abs (manyF rs) (manyH e s f rs)
theorem many_keep {rs : List (RowG α)} (w1 w2 : World) (h : manyH e s f rs w1) (hb : ∀ b, manyF rs b → hp w2 b = hp w1 b) : manyH e s f rs w2 :=
  ⟨fun r hr => Res.keep (r := .row r.v e s r.l.length (r.l.flatMap f)) (h.1 r hr) fun b hf => hb b ⟨r, hr, hf⟩, h.2⟩
/-- Nothing. -/
abbrev Res.no : Res := .abs (fun _ => False) (fun _ => True)
theorem MemOk.many {w₀ w : World} {L : Heap} (h : MemOk w₀ L w) (k : Nat) {rs : List (RowG α)} (hk : lk L k = some (.many e s f rs)) : manyH e s f rs w := (h.own k _ hk).1
/-- A row of one's own goes to the others. -/
theorem MemOk.push {w₀ w : World} {L : Heap} (h : MemOk w₀ L w) (k j : Nat) {rs : List (RowG α)} {a : Option Addr} {n cap : Nat} {l : List α} (hk : lk L k = some (.many e s f rs)) (hj : lk L j = some (.row (.slice a n cap) e s n (l.flatMap f))) (hn : n = l.length) (hne : Nat.beq k j = false) :
    MemOk w₀ ((k, .many e s f (rs ++ [⟨a, cap, l⟩])) :: (j, .no) :: L) w := by
  subst hn
  have hkj : k ≠ j := fun e => by subst e; rw [Nat.beq_refl] at hne; cases hne
  have ok1 := h.own k _ hk
  have ok2 := h.own j _ hj
  have h0 : MemOk w₀ ((j, .no) :: L) w := h.set j _ h.ext ⟨trivial, (fun _ hb => hb.elim), fun _ _ _ _ => trivial⟩ (fun _ _ _ _ b _ => ⟨rfl, id⟩)
  refine h0.set k _ h0.ext ⟨⟨fun r hr => ?_, ?_⟩, ?_, many_keep⟩ (fun i r hi hne' b hb => ⟨rfl, ?_⟩)
  · rcases List.mem_append.1 hr with h1 | h1
    · exact ok1.1.1 r h1
    · rw [List.mem_singleton.1 h1]; exact Res.lift (r := .row _ _ _ _ _) ok2 (Nat.zero_le _)
  · refine List.pairwise_append.2 ⟨ok1.1.2, List.pairwise_singleton _ _, fun r hr q hq => ?_⟩
    rw [List.mem_singleton.1 hq]
    exact fun b hb hc => h.sep k j _ _ hk hj hkj b ⟨r, hr, hb⟩ hc
  · rintro b ⟨r, hr, hb⟩
    rcases List.mem_append.1 hr with h1 | h1
    · exact ok1.2.1 b ⟨r, h1, hb⟩
    · rw [List.mem_singleton.1 h1] at hb; exact Res.low ok2 hb
  · rintro ⟨q, hq, hqb⟩
    by_cases e2 : j = i
    · subst e2; rw [lk_cons_same] at hi; cases hi; exact hb
    · rw [lk_cons_other _ _ e2] at hi
      rcases List.mem_append.1 hq with h1 | h1
      · exact h.sep k i _ _ hk hi (Ne.symm hne') b ⟨q, h1, hqb⟩ hb
      · rw [List.mem_singleton.1 h1] at hqb
        exact h.sep j i _ _ hj hi e2 b hqb hb
end
end Go.Proofs.Ytcidgbjgeegepaa
/- Operations told by what is known of memory before and behind. Over any program. -/
namespace Go.Proofs.Ytcidgbjgeegepaa
open Go Go.RowKit
section
variable {C : Cx} {ops : Array Oper} {os : List Oper} {Q : Post} {K : List (Nat × Value)} {L : Heap} {o : Oper}
theorem TL_op {ι : Type} {d : Nat} (v : ι → Value) (LN : ι → Heap) (hr : ∀ ρ w, Rd K ρ → MemOk C.w₀ L w → ∃ x w', (execOp ρ o).run C.P w = .ok (.value (v x)) w' ∧ MemOk C.w₀ (LN x) w') (hd : o.dst = some d) (hN : Nat.blt d C.N = true) (hn : isDefer o.op = false) (hw : Want ops K o true)
    (h : ∀ x, TL C ops os Q ((d, v x) :: K) (LN x)) : TL C ops (o :: os) Q K L := by
  intro a w hf hm
  unfold wpListIn
  rw [hw.is hf, if_pos rfl]
  obtain ⟨x, w', h1, h2⟩ := hr _ _ hf.rd hm
  refine step_val hn h1 ?_
  rw [hd]
  exact h x _ _ (hf.put _ hN) h2
theorem TL_op1 {d : Nat} (v : Value) (L' : Heap) (hr : ∀ ρ w, Rd K ρ → MemOk C.w₀ L w → ∃ w', (execOp ρ o).run C.P w = .ok (.value v) w' ∧ MemOk C.w₀ L' w') (hd : o.dst = some d) (hN : Nat.blt d C.N = true) (hn : isDefer o.op = false) (hw : Want ops K o true)
    (h : TL C ops os Q ((d, v) :: K) L') : TL C ops (o :: os) Q K L := TL_op (ι := Unit) (fun _ => v) (fun _ => L') (fun ρ w hρ hm => ⟨(), hr ρ w hρ hm⟩) hd hN hn hw (fun _ => h)
theorem TL_opS (L' : Heap) (hr : ∀ ρ w, Rd K ρ → MemOk C.w₀ L w → ∃ w', (execOp ρ o).run C.P w = .ok .skip w' ∧ MemOk C.w₀ L' w') (hd : o.dst = none) (hn : isDefer o.op = false) (hw : Want ops K o true)
    (h : TL C ops os Q K L') : TL C ops (o :: os) Q K L := by
  intro a w hf hm
  unfold wpListIn
  rw [hw.is hf, if_pos rfl]
  obtain ⟨w', h1, h2⟩ := hr _ _ hf.rd hm
  refine step_skip hn h1 ?_
  rw [hd]
  exact h _ _ hf h2
end
section
variable {C : Cx} {R : Rg} {Q : Post} {K0 V : List (Nat × Value)} {lo : Nat} {L : Heap}
theorem LOb_op {ι : Type} {c d : Nat} {o : Oper} (v : ι → Value) (LN : ι → Heap) (news : ι → List (Nat × Value)) (ho : R.ops[c]? = some o) (hw : WantV V o true) (hd : o.dst = some d) (hn : isDefer o.op = false)
    (hr : ∀ ρ w, Rd (kOf K0 V (R.S.getD c [])) ρ → MemOk C.w₀ L w → ∃ x w', (execOp ρ o).run C.P w = .ok (.value (v x)) w' ∧ MemOk C.w₀ (LN x) w') (hnew : ∀ x, newsOk R c (news x) = true)
    (h : ∀ x, G C R Q K0 (lo ||| 2 ^ c) (news x ++ (c, v x) :: V) (LN x)) : LOb C R Q K0 lo V L c := by
  refine ⟨o, ho, hw, fun a w next hrd hm _ hnext => ?_⟩
  obtain ⟨x, w', h1, h2⟩ := hr _ _ hrd hm
  refine step_val hn h1 ?_
  have hnw := hnew x
  simp only [newsOk, Bool.and_eq_true, Bool.not_eq_true'] at hnw
  exact hnext _ _ _ _ (.inl (lk_app _ _ _ hnw.2)) (extV _ _ _ hnw.1) h2 (h x)
theorem LOb_op1 {c d : Nat} {o : Oper} (v : Value) (L' : Heap) (news : List (Nat × Value)) (ho : R.ops[c]? = some o) (hw : WantV V o true) (hd : o.dst = some d) (hn : isDefer o.op = false)
    (hr : ∀ ρ w, Rd (kOf K0 V (R.S.getD c [])) ρ → MemOk C.w₀ L w → ∃ w', (execOp ρ o).run C.P w = .ok (.value v) w' ∧ MemOk C.w₀ L' w') (hnew : newsOk R c news = true)
    (h : G C R Q K0 (lo ||| 2 ^ c) (news ++ (c, v) :: V) L') : LOb C R Q K0 lo V L c :=
  LOb_op (ι := Unit) (fun _ => v) (fun _ => L') (fun _ => news) ho hw hd hn (fun ρ w hρ hm => ⟨(), hr ρ w hρ hm⟩) (fun _ => hnew) (fun _ => h)
end
section
variable {C : Cx} {Q : Post} {K : List (Nat × Value)} {L : Heap}
theorem p_mem {e : Exit} (L' : Heap) (hL : ∀ w, MemOk C.w₀ L w → MemOk C.w₀ L' w) (h : POk C Q e K L') : POk C Q e K L := fun a w hf hm => h a w hf (hL w hm)
end
/-! ### rows of elements of any size: made, copied into, stored into -/
section
variable {P : Program} {w₀ w : World} {L : Heap} {ρ : Operand → Value} {d : Option Tmp} {ty : TypeId} {ps : String} {af : Array Edge} {g : Option (Nat × Bool)}
theorem made_toList {z : Array Value} {s : Nat} (hz : z.size = s) (hs : 0 < s) : ∀ n, (madeCells z (n * s)).toList = (List.replicate n z.toList).flatten
  | 0 => by simp [madeCells]
  | n + 1 => by
    apply List.ext_getElem?
    intro i
    rw [List.replicate_succ, List.flatten_cons]
    by_cases h : i < s
    · rw [List.getElem?_append_left (by rw [Array.length_toList, hz]; exact h)]
      unfold madeCells
      have h2 : i < (n + 1) * s := by rw [Nat.add_mul, Nat.one_mul]; omega
      simp [h2, hz, Nat.mod_eq_of_lt h, h]
    · rw [List.getElem?_append_right (by rw [Array.length_toList, hz]; omega), Array.length_toList, hz, ← made_toList hz hs n]
      unfold madeCells
      by_cases h2 : i < (n + 1) * s
      · have h3 : i - s < n * s := by rw [Nat.add_mul, Nat.one_mul] at h2; omega
        have h4 : i % s = (i - s) % s := by rw [← Nat.mod_eq_sub_mod (by omega)]
        simp [h2, h3, hz, h4]
      · have h3 : ¬ i - s < n * s := by rw [Nat.add_mul, Nat.one_mul] at h2; omega
        simp [h2, h3]
theorem flat_repl {α : Type} {f : α → List Value} {u : α} {xs : List Value} (hf : f u = xs) (n : Nat) : (List.replicate n u).flatMap f = (List.replicate n xs).flatten := by
  rw [List.flatMap_def, List.map_replicate, hf]
theorem o_make {x y : Operand} {t e : TypeId} {n cap by' s : Nat} {z : Value} {α : Type} {f : α → List Value} {u : α} (i : Nat) (hfr : lk L i = none) (hx : ρ x = .int .i64 (n : Nat)) (hy : ρ y = .int .i64 (cap : Nat)) (ht : sliOf P t = some e) (hby : byOf P e = some by') (hs : szOf P e = some s) (hs0 : Nat.blt 0 s = true)
    (hz : zeroOf P e = some z) (hzc : z.cells.toList = f u) (hfl : ∀ x, (f x).length = s) (hnc : n ≤ cap) (h63 : cap ≤ 4611686018427387904) (hb : by' * cap ≤ 140737488355328) (hm : MemOk w₀ L w) :
    ∃ B w', (execOp ρ (mk d (.makeSlice t x y) ty ps af g)).run P w = .ok (.value (.slice (some ⟨B, 0, none⟩) n cap)) w' ∧ MemOk w₀ ((i, .row (.slice (some ⟨B, 0, none⟩) n cap) e s n ((List.replicate n u).flatMap f)) :: L) w' := by
  obtain ⟨ti, hi, hsz⟩ := Option.map_eq_some_iff.1 hs
  obtain ⟨ti', hi', hbz⟩ := Option.map_eq_some_iff.1 hby
  rw [hi] at hi'; cases hi'
  have hzz : ti.zero = some z := by simpa [zeroOf, hi] using hz
  have hs1 : 0 < s := by rw [Nat.blt_eq] at hs0; exact hs0
  have hb' : (ti.bytes : Int) * (cap : Int) ≤ 281474976710656 := by
    have h : ((ti.bytes * cap : Nat) : Int) ≤ 281474976710656 := by rw [hbz]; omega
    rwa [Int.natCast_mul] at h
  have hr := run_make (P := P) w t e ti z (und_sli ht) hi hzz .i64 .i64 n cap (by omega) (by omega) hb' (by omega)
  simp only [Int.toNat_natCast] at hr
  refine ⟨w.heap.size, _, run_v (by rw [hx, hy]; exact hr), ?_⟩
  have hzs : z.cells.size = s := by rw [← Array.length_toList, hzc, hfl]
  refine hm.grow (n := 0) (xs := []) (.inr ⟨hfr, (rfl : (Value.slice none 0 0).ownBlock = none)⟩) (World.grownBy_alloc w _ none) ⟨?_, .inr ⟨w.heap.size, cap, _, rfl, hm.ext.size, Go.heap_alloc_new w _, hnc, by unfold Go.maxLen; omega, ?_, ?_⟩⟩ (.inr rfl)
  · rw [flat_len hfl, List.length_replicate]
  · rw [hsz]; simp [madeCells]
  · rw [hsz, made_toList hzs hs1, hzc, ← flat_repl rfl]
    have : ((List.replicate cap u).flatMap f).take (n * s) = ((List.replicate cap u).take n).flatMap f := by
      have h1 : List.replicate cap u = List.replicate n u ++ List.replicate (cap - n) u := by rw [List.replicate_append_replicate]; congr 1; omega
      rw [h1, List.flatMap_append, List.take_left' (by rw [flat_len hfl, List.length_replicate]), List.take_left' (by rw [List.length_replicate])]
    rw [this, List.take_replicate, Nat.min_eq_left hnc]
theorem o_copy {x y : Operand} {t t2 e : TypeId} {ats : Array TypeId} {n cap B s : Nat} {v2 : Value} {xs news : List Value} (i : Nat) (hi : lk L i = some (.row (.slice (some ⟨B, 0, none⟩) n cap) e s n xs)) (hx : ρ x = .slice (some ⟨B, 0, none⟩) n cap) (hy : ρ y = v2) (hat : ats = #[t, t2])
    (ht : sliOf P t = some e) (hs : szOf P e = some s) (hsrc : Src w v2 s n news) (hone : ∀ u ∈ news, u.oneCell' = true) (hm : MemOk w₀ L w) :
    ∃ w', (execOp ρ (mk d (.call { callee := .builtin .copy, args := #[x, y], argTypes := ats }) ty ps af g)).run P w = .ok (.value (.int .i64 (n : Nat))) w' ∧ MemOk w₀ ((i, .row (.slice (some ⟨B, 0, none⟩) n cap) e s n news) :: L) w' := by
  subst hat
  have hrow := hm.row i hi
  obtain ⟨ti, hti, hsz⟩ := Option.map_eq_some_iff.1 hs
  suffices hg : ∃ w', (Builtin.copy_ #[t, t2] ty #[.slice (some ⟨B, 0, none⟩) n cap, v2]).run P w = .ok (.int .i64 (n : Nat)) w' ∧ MemOk w₀ ((i, .row (.slice (some ⟨B, 0, none⟩) n cap) e s n news) :: L) w' by
    obtain ⟨w', h1, h2⟩ := hg
    refine ⟨w', ?_, h2⟩
    rw [run_builtin]
    simp only [List.map_toArray, List.map_cons, List.map_nil, hx, hy]
    exact run_v h1
  have same : n = 0 → news = [] → MemOk w₀ ((i, .row (.slice (some ⟨B, 0, none⟩) n cap) e s n news) :: L) w := by
    intro h0 hn
    have hx : xs = [] := List.eq_nil_of_length_eq_zero (by rw [hrow.1, h0, Nat.zero_mul])
    subst hn hx
    exact hm.of (lk_dup hi)
  have hl0 : ∀ (x : Addr), (loadCells x 0).run P w = .ok #[] w := fun x => by simpa using run_loadCells_list (P := P) w x [] (by simp)
  rcases hsrc with ⟨rfl, h0, hn⟩ | ⟨x, c, rfl, h0, hn⟩ | ⟨b, off, c, rfl, hl, hcell⟩
  · refine ⟨w, ?_, same h0 hn⟩
    subst h0
    simp [Builtin.copy_, run_underlying (und_sli ht), Builtin.lenOf, Builtin.firstCells, sizeOf, typeInfo, hti, storeCells, goInt]
  · refine ⟨w, ?_, same h0 hn⟩
    subst h0
    simp [Builtin.copy_, run_underlying (und_sli ht), Builtin.lenOf, Builtin.firstCells, sizeOf, typeInfo, hti, storeCells, goInt, hl0]
  · rcases hrow.2 with ⟨h1, _⟩ | ⟨g, cap', cur, h1, hbg, hg, hnc, hcm, hcs, htk⟩
    · cases h1
    · cases h1
      have hle := Nat.mul_le_mul_right s hnc
      have hld := run_loadCells_list (P := P) w ⟨b, off, none⟩ news (fun j u hu => by rw [addr_add]; exact hcell j u hu)
      have hst := run_storeCells_at P B 0 e news 0 cur w hg (by omega) hone
      have hr : (Builtin.copy_ #[t, t2] ty #[.slice (some ⟨B, 0, none⟩) n cap, .slice (some ⟨b, off, none⟩) n c]).run P w = .ok (.int .i64 (n : Nat)) (w.setRow B (cur.toList.take 0 ++ news ++ cur.toList.drop (0 + news.length)).toArray) := by
        simp only [Nat.add_zero] at hst
        simp [Builtin.copy_, run_underlying (und_sli ht), Builtin.lenOf, Builtin.firstCells, sizeOf, typeInfo, hti, hsz, goInt, ← hl, hld]
        simp at hst
        rw [hst]
        rfl
      refine ⟨_, hr, ?_⟩
      refine hm.grow (.inl hi) ⟨rfl, rfl, rfl, by simp, fun k _ hk => setRow_other w B k _ (fun e => hk (by simp [Value.ownBlock, e]))⟩ ⟨hl, .inr ⟨B, cap, _, rfl, hbg, setRow_heap w B cur _ e _ hg, hnc, hcm, ?_, ?_⟩⟩ (.inl rfl)
      · simp only [List.size_toArray, List.length_append, List.length_take, List.length_drop, Array.length_toList]
        omega
      · rw [List.take_zero, List.nil_append, ← hl]
        exact List.take_left
end
/-! ### maps: an entry laid, an entry that has come -/
section
variable {κ μ : Type} {fk : κ → Value} {fv : μ → Value} [DecidableEq κ] {P : Program} {w : World} {kt : TypeId} {ρ : Operand → Value} {d : Option Tmp} {ty : TypeId} {ps : String} {af : Array Edge} {g : Option (Nat × Bool)} {x y v : Operand} {t e : TypeId}
omit [DecidableEq κ] in
omit [DecidableEq κ] in
end
end Go.Proofs.Ytcidgbjgeegepaa
/- Things that are only read: many of them, each in some blocks; new ones may share blocks with those that there are. Rows that may be written over. Over any program. -/
namespace Go.Proofs.Ytcidgbjgeegepaa
open Go Go.RowKit
/-- What a thing is, and in which blocks. -/
structure ShK (α : Type) where
  foot : α → Nat → Prop
  At : World → α → Prop
  keep : ∀ {w1 w2 : World} {x : α}, At w1 x → (∀ b, foot x b → hp w2 b = hp w1 b) → At w2 x
  low : ∀ {w : World} {x : α} {b : Nat}, At w x → foot x b → b < w.heap.size
section
variable {α : Type} (K : ShK α)
def ShK.F (l : List α) (b : Nat) : Prop := ∃ x ∈ l, K.foot x b
abbrev Res.shelf (l : List α) : Res := .abs (K.F l) (fun w => ∀ x ∈ l, K.At w x)
theorem ShK.below {w w' : World} {x : α} (h : K.At w x) (hb : Below w.heap.size w w') : K.At w' x := K.keep h fun b hf => hb.block b (K.low h hf)
/-- A new thing, but for what it shares with others. -/
structure ShNew (w w' : World) (l : List α) (d : α) : Prop where
  below : Below w.heap.size w w'
  at' : K.At w' d
  foot : ∀ b, K.foot d b → w.heap.size ≤ b ∨ K.F l b
variable {K}
theorem ShNew.before {w w1 w2 : World} {l : List α} {d : α} (h : ShNew K w1 w2 l d) (hb : Below w.heap.size w w1) : ShNew K w w2 l d :=
  ⟨below_call hb (Nat.le_refl _) h.below, h.at', fun b hf => (h.foot b hf).imp (fun h1 => Nat.le_trans hb.size h1) id⟩
end
/-! ### slices as a thing to be read -/
section
variable {α : Type} {s : Nat} {f : α → List Value} {l : List α} {w : World} {a : Option Addr} {cap : Nat}
/-- The block in which a slice's elements lie. -/
def slF (a : Option Addr) (l : List α) (b : Nat) : Prop := l ≠ [] ∧ ∃ x, a = some x ∧ x.block = b
theorem SliceAt.keepF {w2 : World} (h : SliceAt w a cap s f l) (hb : ∀ b, slF a l b → hp w2 b = hp w b) : SliceAt w2 a cap s f l := by
  refine ⟨h.1, h.2.1, ?_⟩
  rcases h.2.2 with h1 | ⟨b, off, cs, T, fz, e1, e2, e3⟩
  · exact .inl h1
  · by_cases hl : l = []
    · exact .inl hl
    · exact .inr ⟨b, off, cs, T, fz, e1, (hb b ⟨hl, _, e1, rfl⟩).trans e2, e3⟩
theorem SliceAt.lowF {b : Nat} (h : SliceAt w a cap s f l) (hb : slF a l b) : b < w.heap.size := by
  obtain ⟨hl, x, hx, rfl⟩ := hb
  rcases h.2.2 with h1 | ⟨b, off, cs, T, fz, e1, e2, e3⟩
  · exact absurd h1 hl
  · rw [e1] at hx; cases hx; exact hp_lt e2
end
/-! ### rows of one's own, many of them: to be read -/
section
variable {α : Type} {e : TypeId} {s : Nat} {f : α → List Value}
/-- All of them are one's own (none need be apart from another one). -/
def poolH (e : TypeId) (s : Nat) (f : α → List Value) (rs : List (RowG α)) (w : World) : Prop := ∀ r ∈ rs, w.ownsRow 0 e s r.v r.l.length (r.l.flatMap f)
abbrev Res.pool (e : TypeId) (s : Nat) (f : α → List Value) (rs : List (RowG α)) : Res := .abs (manyF rs) (poolH e s f rs)
theorem pool_keep {rs : List (RowG α)} (w1 w2 : World) (h : poolH e s f rs w1) (hb : ∀ b, manyF rs b → hp w2 b = hp w1 b) : poolH e s f rs w2 :=
  fun r hr => Res.keep (r := .row r.v e s r.l.length (r.l.flatMap f)) (h r hr) fun b hf => hb b ⟨r, hr, hf⟩
theorem MemOk.pool0 {w₀ w : World} {L : Heap} (h : MemOk w₀ L w) (k : Nat) (e : TypeId) (s : Nat) (f : α → List Value) : MemOk w₀ ((k, .pool e s f []) :: L) w :=
  h.set k _ h.ext ⟨(fun r hr => nomatch hr), (fun b hb => by obtain ⟨r, hr, _⟩ := hb; cases hr), pool_keep⟩ (fun _ _ _ _ b _ => ⟨rfl, fun hb => by obtain ⟨r, hr, _⟩ := hb; cases hr⟩)
theorem MemOk.pool {w₀ w : World} {L : Heap} (h : MemOk w₀ L w) (k : Nat) {rs : List (RowG α)} (hk : lk L k = some (.pool e s f rs)) : poolH e s f rs w := (h.own k _ hk).1
theorem poolAt (hf : ∀ x, (f x).length = s) {w : World} {rs : List (RowG α)} (h : poolH e s f rs w) {r : RowG α} (hr : r ∈ rs) : SliceAt w r.a r.cap s f r.l := SliceAt.own hf (h r hr) rfl rfl
theorem poolCap {w : World} {rs : List (RowG α)} (h : poolH e s f rs w) {r : RowG α} (hr : r ∈ rs) : r.cap ≤ Go.maxLen := row_cap (h r hr)
/-- One more. -/
theorem MemOk.poolPush {w₀ w : World} {L : Heap} (h : MemOk w₀ L w) (k j : Nat) {rs : List (RowG α)} {a : Option Addr} {n cap : Nat} {l : List α} (hk : lk L k = some (.pool e s f rs)) (hj : lk L j = some (.row (.slice a n cap) e s n (l.flatMap f))) (hn : n = l.length) (hne : Nat.beq k j = false) :
    MemOk w₀ ((k, .pool e s f (rs ++ [⟨a, cap, l⟩])) :: (j, .no) :: L) w := by
  subst hn
  have hkj : k ≠ j := fun e => by subst e; rw [Nat.beq_refl] at hne; cases hne
  have ok1 := h.own k _ hk
  have ok2 := h.own j _ hj
  have h0 : MemOk w₀ ((j, .no) :: L) w := h.set j _ h.ext ⟨trivial, (fun _ hb => hb.elim), fun _ _ _ _ => trivial⟩ (fun _ _ _ _ b _ => ⟨rfl, id⟩)
  refine h0.set k _ h0.ext ⟨fun r hr => ?_, ?_, pool_keep⟩ (fun i r hi hne' b hb => ⟨rfl, ?_⟩)
  · rcases List.mem_append.1 hr with h1 | h1
    · exact ok1.1 r h1
    · rw [List.mem_singleton.1 h1]; exact Res.lift (r := .row _ _ _ _ _) ok2 (Nat.zero_le _)
  · rintro b ⟨r, hr, hb⟩
    rcases List.mem_append.1 hr with h1 | h1
    · exact ok1.2.1 b ⟨r, h1, hb⟩
    · rw [List.mem_singleton.1 h1] at hb; exact Res.low ok2 hb
  · rintro ⟨q, hq, hqb⟩
    by_cases e2 : j = i
    · subst e2; rw [lk_cons_same] at hi; cases hi; exact hb
    · rw [lk_cons_other _ _ e2] at hi
      rcases List.mem_append.1 hq with h1 | h1
      · exact h.sep k i _ _ hk hi (Ne.symm hne') b ⟨q, h1, hqb⟩ hb
      · rw [List.mem_singleton.1 h1] at hqb
        exact h.sep j i _ _ hj hi e2 b hqb hb
section
variable {P : Program} {w₀ w : World} {L : Heap} {ρ : Operand → Value} {ty : TypeId} {ps : String} {af : Array Edge} {g : Option (Nat × Bool)}
end
end
end Go.Proofs.Ytcidgbjgeegepaa
/- net: parcels, plainly and in memory. -/
namespace Go.Proofs.Ytcidgbjgeegepaa
open Go Go.RowKit
/-- A parcel, plainly. -/
structure PV where
  to : Int
  l : List By
  sp : Bool
  deriving DecidableEq
/-- A parcel: its bytes lie somewhere. -/
structure Pcl where
  to : Int
  r : RowG By
  sp : Bool
abbrev Pcl.cells (p : Pcl) : List Value := [.int .i64 p.to, .slice p.r.a p.r.l.length p.r.cap, .bool p.sp]
theorem Pcl.cells_len (p : Pcl) : p.cells.length = 3 := rfl
theorem Pcl.cells_one (p : Pcl) : ∀ u ∈ p.cells, u.oneCell' = true := by simp [Pcl.cells, Value.oneCell']
abbrev Pcl.pv (p : Pcl) : PV := ⟨p.to, p.r.l, p.sp⟩
abbrev Pcl.v (p : Pcl) : Value := .agg p.cells.toArray
/-- Its bytes lie in memory, and are not too many. -/
abbrev Pcl.ok (w : World) (p : Pcl) : Prop := SliceAt w p.r.a p.r.cap 1 byc p.r.l ∧ p.r.cap ≤ Go.maxLen ∧ p.r.l.length ≤ 10000
abbrev pvs (l : List Pcl) : List PV := l.map Pcl.pv
def PcsAt (w : World) (l : List Pcl) : Prop := ∀ p ∈ l, p.ok w
theorem PcsAt.keep {w w' : World} {l : List Pcl} (h : PcsAt w l) (hb : Below w.heap.size w w') : PcsAt w' l := fun p hp => ⟨(h p hp).1.keep hb, (h p hp).2⟩
theorem PcsAt.sub {w : World} {l m : List Pcl} (h : PcsAt w l) (hs : ∀ p ∈ m, p ∈ l) : PcsAt w m := fun p hp => h p (hs p hp)
theorem pcsNil (w : World) : PcsAt w [] := fun _ h => nomatch h
theorem pcs_pool {w : World} {bs : List (RowG By)} {l : List Pcl} (h : poolH 5 1 byc bs w) (hl : ∀ p ∈ l, p.r ∈ bs ∧ p.r.l.length ≤ 10000) : PcsAt w l := fun p hp => ⟨poolAt byc_len h (hl p hp).1, poolCap h (hl p hp).1, (hl p hp).2⟩
/-- A row of parcels, to be read. -/
abbrev NetR := RowG Pcl
def NAt (w : World) (n : NetR) : Prop := SliceAt w n.a n.cap 3 Pcl.cells n.l ∧ n.cap ≤ Go.maxLen ∧ PcsAt w n.l
def netF (n : NetR) (b : Nat) : Prop := slF n.a n.l b ∨ ∃ p ∈ n.l, slF p.r.a p.r.l b
def netK : ShK NetR where
  foot := netF
  At := NAt
  keep := fun h hb => ⟨h.1.keepF fun b hf => hb b (.inl hf), h.2.1, fun p hp => ⟨(h.2.2 p hp).1.keepF fun b hf => hb b (.inr ⟨p, hp, hf⟩), (h.2.2 p hp).2⟩⟩
  low := fun h hf => hf.elim (fun h1 => h.1.lowF h1) fun ⟨p, hp, h1⟩ => (h.2.2 p hp).1.lowF h1
abbrev Res.nets (l : List NetR) : Res := .shelf netK l
/-! ### plainly -/
/-- The zero parcel. -/
abbrev zeroP : PV := ⟨0, [], false⟩
def mayV (p : PV) : Bool := decide (0 ≤ p.to ∧ p.to ≤ 8 ∧ p.l.length ≤ 8192)
abbrev MT : Int := 4611686018427387904
def checkV (l : List PV) (lost : Int) : Bool := decide (l.length ≤ 64 ∧ lost ≤ MT) && l.all mayV
/-- A net: its parcels, and how many were lost. -/
abbrev NV := List PV × Int
def putV (n : NV) (p : PV) : NV := if n.1.length < 64 then (n.1 ++ [p], n.2) else if n.2 < MT then (n.1, n.2 + 1) else n
def putsV (n : NV) (l : List PV) : NV := l.foldl putV n
theorem putsV_step {n : NV} {l : List PV} {k : Nat} {p : PV} (h : l[k]? = some p) : putsV n (l.take (k + 1)) = putV (putsV n (l.take k)) p := by
  unfold putsV
  rw [List.take_add_one, h, List.foldl_append]; rfl
/-- A trick. -/
structure Trk where
  kind : Int
  at' : Int
  bit : Int
  mask : Wd
abbrev Trk.cells (t : Trk) : List Value := [.int .i64 t.kind, .int .i64 t.at', .int .i64 t.bit, .int .u32 (t.mask.toNat : Int)]
theorem Trk.cells_len (t : Trk) : t.cells.length = 4 := rfl
theorem Trk.cells_one (t : Trk) : ∀ u ∈ t.cells, u.oneCell' = true := by simp [Trk.cells, Value.oneCell']
abbrev Trk.v (t : Trk) : Value := .agg t.cells.toArray
/-- What comes of bytes whose bits are turned. -/
def spoilI (l : List By) (bit : Int) (mask : Wd) : Option (List By) := if 0 ≤ bit then spoilP l bit.toNat mask else none
/-- What a trick does: the error, the net, what is told. -/
def doV (n : NV) (t : Trk) : Int × NV × List PV :=
  if ¬ (1 ≤ t.kind ∧ t.kind ≤ 4) then (2, n, [])
  else if 0 ≤ t.at' then match n.1[t.at'.toNat]? with
    | none => (4, n, [])
    | some p =>
      if t.kind = 1 then (0, (n.1.eraseIdx t.at'.toNat, n.2), [p])
      else if t.kind = 2 then (0, (n.1.eraseIdx t.at'.toNat, n.2), [])
      else if t.kind = 3 then (0, putV n p, [])
      else if p.sp = true then (5, n, [])
      else match spoilI p.l t.bit t.mask with
        | none => (2, n, [])
        | some b => (0, (n.1.set t.at'.toNat ⟨p.to, b, true⟩, n.2), [])
  else (4, n, [])
theorem checkV_len {l : List PV} {lost : Int} (h : checkV l lost = true) : l.length ≤ 64 ∧ lost ≤ MT ∧ ∀ p ∈ l, mayV p = true := by
  unfold checkV at h
  rw [Bool.and_eq_true] at h
  exact ⟨(of_decide_eq_true h.1).1, (of_decide_eq_true h.1).2, List.all_eq_true.1 h.2⟩
end Go.Proofs.Ytcidgbjgeegepaa
/- net and journal: may, all, Check, same. Printed by a program of this seat's prover. -/
namespace Go.Proofs.Ytcidgbjgeegepaa
open Go Go.RowKit
set_option maxRecDepth 10000
theorem may_c (p : Pcl) (w : World) : Calls Try.prog 65 #[p.v] w fun e w' => e = .returned (.bool (mayV p.pv)) ∧ Below w.heap.size w w' := by
  refine calls_of_T (l := [.agg #[.int .i64 p.to, .slice p.r.a p.r.l.length p.r.cap, .bool p.sp]]) 17 Try.func65 rfl rfl rfl ?_
  show T _ _ _ [(0, .agg #[.int .i64 p.to, .slice p.r.a p.r.l.length p.r.cap, .bool p.sp])] []
  refine T_seq (T_region ?_)
  refine TL_new 1 (.cells #[.int .i64 p.to, .slice p.r.a p.r.l.length p.r.cap, .bool p.sp] 36) (fun B => .pointer (some ⟨B, 0, none⟩)) (fun _ _ hρ _ => r_box (hρ _ _ rfl) rfl) rfl rfl rfl (w_n rfl) ?_
  intro B1
  refine TL_q (.bool false) (fun _ _ hρ _ => r_assign (hρ _ _ rfl)) rfl rfl rfl (w_n rfl) ?_
  refine TL_seq ?_
  by_cases c1 : (0 : Int) ≤ p.to
  · skip
    by_cases c2 : p.to ≤ 8
    · skip
      by_cases c3 : ((p.r.l.length : Nat) : Int) ≤ 8192
      · skip
        refine T_seq (T_region ?_)
        refine TL_q (.pointer (some ⟨B1, 0, none⟩)) (fun _ _ hρ _ => r_fieldAddr fl36_0 sz3 (hρ _ _ rfl)) rfl rfl rfl (w_n rfl) ?_
        refine TL_q (.int .i64 p.to) (fun _ _ hρ hm => r_load ag3 (hρ _ _ rfl) (hm.at 1 rfl) rfl) rfl rfl rfl (w_n rfl) ?_
        refine TL_q (.bool true) (fun _ _ hρ _ => r_as (r_geq (hρ _ _ rfl) (hρ _ _ rfl)) (bool_as (decide_eq_true c1))) rfl rfl rfl (w_n rfl) ?_
        refine TL_q (.bool true) (fun _ _ hρ _ => r_move (hρ _ _ rfl)) rfl rfl rfl (w_n rfl) ?_
        refine TL_q (.pointer (some ⟨B1, 0, none⟩)) (fun _ _ hρ _ => r_fieldAddr fl36_0 sz3 (hρ _ _ rfl)) rfl rfl rfl (want_y 6 rfl rfl rfl) ?_
        refine TL_q (.int .i64 p.to) (fun _ _ hρ hm => r_load ag3 (hρ _ _ rfl) (hm.at 1 rfl) rfl) rfl rfl rfl (want_y 6 rfl rfl rfl) ?_
        refine TL_q (.bool true) (fun _ _ hρ _ => r_as (r_leq (hρ _ _ rfl) (hρ _ _ rfl)) (bool_as (decide_eq_true c2))) rfl rfl rfl (want_y 6 rfl rfl rfl) ?_
        refine TL_q (.bool true) (fun _ _ hρ _ => r_pick_t (hρ _ _ rfl) (hρ _ _ rfl)) rfl rfl rfl (w_n rfl) ?_
        refine TL_q (.bool true) (fun _ _ hρ _ => r_move (hρ _ _ rfl)) rfl rfl rfl (w_n rfl) ?_
        refine TL_q (.pointer (some ⟨B1, 1, none⟩)) (fun _ _ hρ _ => r_fieldAddr fl36_1 sz34 (hρ _ _ rfl)) rfl rfl rfl (want_y 11 rfl rfl rfl) ?_
        refine TL_q (.slice p.r.a p.r.l.length p.r.cap) (fun _ _ hρ hm => r_load ag34 (hρ _ _ rfl) (hm.at 1 rfl) rfl) rfl rfl rfl (want_y 11 rfl rfl rfl) ?_
        refine TL_q (.int .i64 ((p.r.l.length : Nat) : Int)) (fun _ _ hρ _ => r_len sl34 (hρ _ _ rfl)) rfl rfl rfl (want_y 11 rfl rfl rfl) ?_
        refine TL_q (.bool true) (fun _ _ hρ _ => r_as (r_leq (hρ _ _ rfl) (hρ _ _ rfl)) (bool_as (decide_eq_true c3))) rfl rfl rfl (want_y 11 rfl rfl rfl) ?_
        refine TL_q (.bool true) (fun _ _ hρ _ => r_pick_t (hρ _ _ rfl) (hρ _ _ rfl)) rfl rfl rfl (w_n rfl) ?_
        refine TL_q (.bool true) (fun _ _ hρ _ => r_assign (hρ _ _ rfl)) rfl rfl rfl (w_n rfl) ?_
        refine TL_seq ?_
        refine T_ret' ?_
        refine ret_of rfl (.bool true) (fun tmps w hk hm => res1 rfl (res_tmp (hk 2 _ rfl))) (fun w hm => ?_)
        exact ⟨congrArg Ending.returned (bool_as (decide_eq_true (by dsimp only; omega)).symm), hm.ext⟩
      · skip
        refine T_seq (T_region ?_)
        refine TL_q (.pointer (some ⟨B1, 0, none⟩)) (fun _ _ hρ _ => r_fieldAddr fl36_0 sz3 (hρ _ _ rfl)) rfl rfl rfl (w_n rfl) ?_
        refine TL_q (.int .i64 p.to) (fun _ _ hρ hm => r_load ag3 (hρ _ _ rfl) (hm.at 1 rfl) rfl) rfl rfl rfl (w_n rfl) ?_
        refine TL_q (.bool true) (fun _ _ hρ _ => r_as (r_geq (hρ _ _ rfl) (hρ _ _ rfl)) (bool_as (decide_eq_true c1))) rfl rfl rfl (w_n rfl) ?_
        refine TL_q (.bool true) (fun _ _ hρ _ => r_move (hρ _ _ rfl)) rfl rfl rfl (w_n rfl) ?_
        refine TL_q (.pointer (some ⟨B1, 0, none⟩)) (fun _ _ hρ _ => r_fieldAddr fl36_0 sz3 (hρ _ _ rfl)) rfl rfl rfl (want_y 6 rfl rfl rfl) ?_
        refine TL_q (.int .i64 p.to) (fun _ _ hρ hm => r_load ag3 (hρ _ _ rfl) (hm.at 1 rfl) rfl) rfl rfl rfl (want_y 6 rfl rfl rfl) ?_
        refine TL_q (.bool true) (fun _ _ hρ _ => r_as (r_leq (hρ _ _ rfl) (hρ _ _ rfl)) (bool_as (decide_eq_true c2))) rfl rfl rfl (want_y 6 rfl rfl rfl) ?_
        refine TL_q (.bool true) (fun _ _ hρ _ => r_pick_t (hρ _ _ rfl) (hρ _ _ rfl)) rfl rfl rfl (w_n rfl) ?_
        refine TL_q (.bool true) (fun _ _ hρ _ => r_move (hρ _ _ rfl)) rfl rfl rfl (w_n rfl) ?_
        refine TL_q (.pointer (some ⟨B1, 1, none⟩)) (fun _ _ hρ _ => r_fieldAddr fl36_1 sz34 (hρ _ _ rfl)) rfl rfl rfl (want_y 11 rfl rfl rfl) ?_
        refine TL_q (.slice p.r.a p.r.l.length p.r.cap) (fun _ _ hρ hm => r_load ag34 (hρ _ _ rfl) (hm.at 1 rfl) rfl) rfl rfl rfl (want_y 11 rfl rfl rfl) ?_
        refine TL_q (.int .i64 ((p.r.l.length : Nat) : Int)) (fun _ _ hρ _ => r_len sl34 (hρ _ _ rfl)) rfl rfl rfl (want_y 11 rfl rfl rfl) ?_
        refine TL_q (.bool false) (fun _ _ hρ _ => r_as (r_leq (hρ _ _ rfl) (hρ _ _ rfl)) (bool_as (decide_eq_false c3))) rfl rfl rfl (want_y 11 rfl rfl rfl) ?_
        refine TL_q (.bool false) (fun _ _ hρ _ => r_pick_t (hρ _ _ rfl) (hρ _ _ rfl)) rfl rfl rfl (w_n rfl) ?_
        refine TL_q (.bool false) (fun _ _ hρ _ => r_assign (hρ _ _ rfl)) rfl rfl rfl (w_n rfl) ?_
        refine TL_seq ?_
        refine T_ret' ?_
        refine ret_of rfl (.bool false) (fun tmps w hk hm => res1 rfl (res_tmp (hk 2 _ rfl))) (fun w hm => ?_)
        exact ⟨congrArg Ending.returned (bool_as (decide_eq_false (by dsimp only; omega)).symm), hm.ext⟩
    · skip
      refine T_seq (T_region ?_)
      refine TL_q (.pointer (some ⟨B1, 0, none⟩)) (fun _ _ hρ _ => r_fieldAddr fl36_0 sz3 (hρ _ _ rfl)) rfl rfl rfl (w_n rfl) ?_
      refine TL_q (.int .i64 p.to) (fun _ _ hρ hm => r_load ag3 (hρ _ _ rfl) (hm.at 1 rfl) rfl) rfl rfl rfl (w_n rfl) ?_
      refine TL_q (.bool true) (fun _ _ hρ _ => r_as (r_geq (hρ _ _ rfl) (hρ _ _ rfl)) (bool_as (decide_eq_true c1))) rfl rfl rfl (w_n rfl) ?_
      refine TL_q (.bool true) (fun _ _ hρ _ => r_move (hρ _ _ rfl)) rfl rfl rfl (w_n rfl) ?_
      refine TL_q (.pointer (some ⟨B1, 0, none⟩)) (fun _ _ hρ _ => r_fieldAddr fl36_0 sz3 (hρ _ _ rfl)) rfl rfl rfl (want_y 6 rfl rfl rfl) ?_
      refine TL_q (.int .i64 p.to) (fun _ _ hρ hm => r_load ag3 (hρ _ _ rfl) (hm.at 1 rfl) rfl) rfl rfl rfl (want_y 6 rfl rfl rfl) ?_
      refine TL_q (.bool false) (fun _ _ hρ _ => r_as (r_leq (hρ _ _ rfl) (hρ _ _ rfl)) (bool_as (decide_eq_false c2))) rfl rfl rfl (want_y 6 rfl rfl rfl) ?_
      refine TL_q (.bool false) (fun _ _ hρ _ => r_pick_t (hρ _ _ rfl) (hρ _ _ rfl)) rfl rfl rfl (w_n rfl) ?_
      refine TL_q (.bool false) (fun _ _ hρ _ => r_move (hρ _ _ rfl)) rfl rfl rfl (w_n rfl) ?_
      refine TL_no rfl rfl (want_n 11 rfl rfl rfl) ?_
      refine TL_no rfl rfl (want_n 11 rfl rfl rfl) ?_
      refine TL_no rfl rfl (want_n 11 rfl rfl rfl) ?_
      refine TL_no rfl rfl (want_n 11 rfl rfl rfl) ?_
      refine TL_q (.bool false) (fun _ _ hρ _ => r_pick_f (hρ _ _ rfl) (hρ _ _ rfl)) rfl rfl rfl (w_n rfl) ?_
      refine TL_q (.bool false) (fun _ _ hρ _ => r_assign (hρ _ _ rfl)) rfl rfl rfl (w_n rfl) ?_
      refine TL_seq ?_
      refine T_ret' ?_
      refine ret_of rfl (.bool false) (fun tmps w hk hm => res1 rfl (res_tmp (hk 2 _ rfl))) (fun w hm => ?_)
      exact ⟨congrArg Ending.returned (bool_as (decide_eq_false (by dsimp only; omega)).symm), hm.ext⟩
  · skip
    refine T_seq (T_region ?_)
    refine TL_q (.pointer (some ⟨B1, 0, none⟩)) (fun _ _ hρ _ => r_fieldAddr fl36_0 sz3 (hρ _ _ rfl)) rfl rfl rfl (w_n rfl) ?_
    refine TL_q (.int .i64 p.to) (fun _ _ hρ hm => r_load ag3 (hρ _ _ rfl) (hm.at 1 rfl) rfl) rfl rfl rfl (w_n rfl) ?_
    refine TL_q (.bool false) (fun _ _ hρ _ => r_as (r_geq (hρ _ _ rfl) (hρ _ _ rfl)) (bool_as (decide_eq_false c1))) rfl rfl rfl (w_n rfl) ?_
    refine TL_q (.bool false) (fun _ _ hρ _ => r_move (hρ _ _ rfl)) rfl rfl rfl (w_n rfl) ?_
    refine TL_no rfl rfl (want_n 6 rfl rfl rfl) ?_
    refine TL_no rfl rfl (want_n 6 rfl rfl rfl) ?_
    refine TL_no rfl rfl (want_n 6 rfl rfl rfl) ?_
    refine TL_q (.bool false) (fun _ _ hρ _ => r_pick_f (hρ _ _ rfl) (hρ _ _ rfl)) rfl rfl rfl (w_n rfl) ?_
    refine TL_q (.bool false) (fun _ _ hρ _ => r_move (hρ _ _ rfl)) rfl rfl rfl (w_n rfl) ?_
    refine TL_no rfl rfl (want_n 11 rfl rfl rfl) ?_
    refine TL_no rfl rfl (want_n 11 rfl rfl rfl) ?_
    refine TL_no rfl rfl (want_n 11 rfl rfl rfl) ?_
    refine TL_no rfl rfl (want_n 11 rfl rfl rfl) ?_
    refine TL_q (.bool false) (fun _ _ hρ _ => r_pick_f (hρ _ _ rfl) (hρ _ _ rfl)) rfl rfl rfl (w_n rfl) ?_
    refine TL_q (.bool false) (fun _ _ hρ _ => r_assign (hρ _ _ rfl)) rfl rfl rfl (w_n rfl) ?_
    refine TL_seq ?_
    refine T_ret' ?_
    refine ret_of rfl (.bool false) (fun tmps w hk hm => res1 rfl (res_tmp (hk 2 _ rfl))) (fun w hm => ?_)
    exact ⟨congrArg Ending.returned (bool_as (decide_eq_false (by dsimp only; omega)).symm), hm.ext⟩

/-- Where the first of a kind stands; -1: nowhere. -/
def idxI {α : Type} (φ : α → Bool) (l : List α) : Int := match l.findIdx? φ with
  | some i => (i : Int)
  | none => -1
theorem no_step {α : Type} {φ : α → Bool} {l : List α} {k : Nat} {p : α} (h : ∀ x ∈ l.take k, φ x = false) (hp : l[k]? = some p) (hf : φ p = false) : ∀ x ∈ l.take (k + 1), φ x = false := fun x hx => by
  rw [List.take_add_one, hp] at hx
  rcases List.mem_append.1 hx with h1 | h1
  · exact h x h1
  · rw [List.mem_singleton.1 h1]; exact hf
theorem idx_none {α : Type} {φ : α → Bool} {l : List α} (h : ∀ x ∈ l, φ x = false) : idxI φ l = -1 := by
  unfold idxI
  rw [List.findIdx?_eq_none_iff.2 h]
theorem idx_some {α : Type} {φ : α → Bool} {l : List α} {k : Nat} {p : α} (hp : l[k]? = some p) (h : ∀ x ∈ l.take k, φ x = false) (hy : φ p = true) : idxI φ l = k := by
  unfold idxI
  obtain ⟨hk, he⟩ := List.getElem?_eq_some_iff.1 hp
  have : l.findIdx? φ = some k := List.findIdx?_eq_some_iff_getElem.2 ⟨hk, by rw [he]; exact hy, fun j hj => by
    have h1 := h l[j] (List.mem_take_iff_getElem.2 ⟨j, by omega, rfl⟩)
    simp [h1]⟩
  rw [this]
theorem idx_any {α : Type} (φ : α → Bool) (l : List α) : decide (0 ≤ idxI φ l) = l.any φ := by
  cases h : l.any φ with
  | true =>
    obtain ⟨x, hx, hy⟩ := List.any_eq_true.1 h
    unfold idxI
    cases e : l.findIdx? φ with
    | none => rw [List.findIdx?_eq_none_iff.1 e x hx] at hy; cases hy
    | some i => exact decide_eq_true (by show (0 : Int) ≤ (i : Int); omega)
  | false =>
    have : ∀ x ∈ l, φ x = false := fun x hx => by
      cases e : φ x with
      | false => rfl
      | true => rw [List.any_eq_true.2 ⟨x, hx, e⟩] at h; cases h
    rw [idx_none this]; rfl
theorem idx_lt {α : Type} (φ : α → Bool) (l : List α) : idxI φ l < l.length := by
  unfold idxI
  cases e : l.findIdx? φ with
  | none => show (-1 : Int) < _; omega
  | some i =>
    have := (List.findIdx?_eq_some_iff_getElem.1 e).1
    show (i : Int) < _; omega
theorem idx_ge {α : Type} (φ : α → Bool) (l : List α) : -1 ≤ idxI φ l := by
  unfold idxI
  cases e : l.findIdx? φ with
  | none => show (-1 : Int) ≤ -1; omega
  | some i => show (-1 : Int) ≤ (i : Int); omega
theorem all_not {α : Type} (φ : α → Bool) (l : List α) : (!(l.any fun x => !φ x)) = l.all φ := by
  induction l with
  | nil => rfl
  | cons x l ih => rw [List.any_cons, List.all_cons, ← ih]; cases φ x <;> simp

theorem pidx_c (ps : List Pcl) (a : Option Addr) (cap : Nat) (w : World) (hv : SliceAt w a cap 3 Pcl.cells ps) (hcap : cap ≤ Go.maxLen) (hb : PcsAt w ps) (g : Nat) (cp : Array Value) (hE : Enters Try.prog g) (φ : Pcl → Bool) (hto : ∀ w2, Below w.heap.size w w2 → ∀ x ∈ ps, Calls Try.prog g (#[x.v] ++ cp) w2 fun e w3 => e = .returned (.bool (φ x)) ∧ Below w2.heap.size w2 w3) : Calls Try.prog 18 #[.slice a ps.length cap, .func (.func g) #[] cp] w fun e w' => e = .returned (.int .i64 (idxI φ ps)) ∧ Below w.heap.size w w' := by
  have hvl := hv.1
  unfold Go.maxLen at hcap
  refine calls_of_T (l := [.slice a ps.length cap, .func (.func g) #[] cp]) 19 Try.func18 rfl rfl rfl ?_
  show T _ _ _ [(0, .slice a ps.length cap), (1, .func (.func g) #[] cp)] []
  refine T_seq (T_region ?_)
  refine TL_q (.int .i64 0) (fun _ _ hρ _ => r_assign (hρ _ _ rfl)) rfl rfl rfl (w_n rfl) ?_
  refine TL_seq ?_
  refine T_seq ?_
  refine T_seq (T_region ?_)
  refine TL_q (.slice a ps.length cap) (fun _ _ hρ _ => r_move (hρ _ _ rfl)) rfl rfl rfl (w_n rfl) ?_
  refine TL_q (.int .i64 ((ps.length : Nat) : Int)) (fun _ _ hρ _ => r_len sl22 (hρ _ _ rfl)) rfl rfl rfl (w_n rfl) ?_
  refine TL_q (.int .i64 0) (fun _ _ hρ _ => r_move (hρ _ _ rfl)) rfl rfl rfl (w_n rfl) ?_
  refine TL_seq ?_
  refine T_block ?_
  refine T_loop (ι := Nat) (fun (k : Nat) => k ≤ ps.length ∧ ∀ x ∈ ps.take k, φ x = false) (fun (k : Nat) => [(0, .slice a ps.length cap), (1, .func (.func g) #[] cp), (7, .int .i64 ((ps.length : Nat) : Int)), (8, .int .i64 ((k : Nat) : Int))]) (fun (k : Nat) => []) (fun (k : Nat) => ps.length - k) 0 ⟨Nat.zero_le _, fun _ h => nomatch h⟩ (sub_cons rfl (sub_cons rfl (sub_cons rfl (sub_cons rfl sub_nil)))) sub_nil ?_
  rintro k hp
  obtain ⟨hk, hno⟩ := hp
  show T _ _ _ [(0, .slice a ps.length cap), (1, .func (.func g) #[] cp), (7, .int .i64 ((ps.length : Nat) : Int)), (8, .int .i64 ((k : Nat) : Int))] []
  refine T_seq (T_region ?_)
  refine TL_q (.bool (decide (((k : Nat) : Int) < ((ps.length : Nat) : Int)))) (fun _ _ hρ _ => r_lss (hρ _ _ rfl) (hρ _ _ rfl)) rfl rfl rfl (w_n rfl) ?_
  refine TL_seq ?_
  refine T_seq ?_
  refine T_cond rfl (fun h1 => ?_) (fun h1 => ?_)
  · replace h1 := of_decide_eq_true h1
    refine T_skip' ?_
    refine p_seq ?_
    refine T_seq ?_
    refine T_block ?_
    refine T_seq (T_region ?_)
    refine TL_q (.int .i64 ((k : Nat) : Int)) (fun _ _ hρ _ => r_move (hρ _ _ rfl)) rfl rfl rfl (w_n rfl) ?_
    refine TL_q (.int .i64 ((k : Nat) : Int)) (fun _ _ hρ _ => r_assign (hρ _ _ rfl)) rfl rfl rfl (w_n rfl) ?_
    refine TL_seq ?_
    obtain ⟨p, hp⟩ : ∃ x, ps[k]? = some x := ⟨_, List.getElem?_eq_getElem (by omega)⟩
    have hokp := hb p (List.mem_of_getElem? hp)
    obtain ⟨b1, of1, cs1, T1, fz1, ha1, hq1, hr1⟩ := hv.open (i := k) (by omega)
    subst ha1
    refine T_seq (T_region ?_)
    refine TL_q (.func (.func g) #[] cp) (fun _ _ hρ _ => r_move (hρ _ _ rfl)) rfl rfl rfl (w_n rfl) ?_
    refine TL_q (.slice (some ⟨b1, of1, none⟩) ps.length cap) (fun _ _ hρ _ => r_move (hρ _ _ rfl)) rfl rfl rfl (w_n rfl) ?_
    refine TL_q (.int .i64 ((k : Nat) : Int)) (fun _ _ hρ _ => r_move (hρ _ _ rfl)) rfl rfl rfl (w_n rfl) ?_
    refine TL_q (.pointer (some ⟨b1, of1 + k * 3, none⟩)) (fun _ _ hρ _ => r_indexAddrS (i := k) sl22 sz36 (hρ _ _ rfl) (hρ _ _ rfl) (by omega)) rfl rfl rfl (w_n rfl) ?_
    refine TL_q (.agg #[.int .i64 p.to, .slice p.r.a p.r.l.length p.r.cap, .bool p.sp]) (fun _ _ hρ hm => r_loadRow (f := Pcl.cells) (u := p) ag36 sz36 (hρ _ _ rfl) (hm.old hq1) hr1 hp) rfl rfl rfl (w_n rfl) ?_
    refine TL_call (.bool (φ p)) (fun _ _ hρ _ => r_call (args := [.agg #[.int .i64 p.to, .slice p.r.a p.r.l.length p.r.cap, .bool p.sp]]) hE (hρ _ _ rfl) ((cons2 (hρ _ _ rfl) rfl)) (by simp)) (fun w hm => hto w hm.ext p (List.mem_of_getElem? hp)) rfl rfl rfl (w_n rfl) ?_
    refine TL_seq ?_
    refine T_cond rfl (fun h2 => ?_) (fun h2 => ?_)
    · skip
      refine T_seq (T_region ?_)
      refine TL_q (.int .i64 ((k : Nat) : Int)) (fun _ _ hρ _ => r_move (hρ _ _ rfl)) rfl rfl rfl (w_n rfl) ?_
      refine TL_q (.int .i64 ((k : Nat) : Int)) (fun _ _ hρ _ => r_assign (hρ _ _ rfl)) rfl rfl rfl (w_n rfl) ?_
      refine TL_seq ?_
      refine T_ret' ?_
      refine p_blk_r ?_
      refine p_then_r ?_
      refine p_then_r ?_
      refine p_blk_r ?_
      refine p_then_r ?_
      refine ret_of rfl (.int .i64 ((k : Nat) : Int)) (fun tmps w hk hm => res1 rfl (res_tmp (hk 4 _ rfl))) (fun w hm => ?_)
      exact ⟨by rw [idx_some hp hno h2], hm.ext⟩
    · skip
      refine T_skip' ?_
      refine p_blk_n ?_
      refine p_seq ?_
      refine T_region ?_
      refine TL_q (.int .i64 ((k + 1 : Nat) : Int)) (fun _ _ hρ _ => r_as (r_add (hρ _ _ rfl) (hρ _ _ rfl)) (int_as ((wrap64 (by omega) (by omega)).trans (by omega)))) rfl rfl rfl (w_n rfl) ?_
      refine TL_q (.int .i64 ((k + 1 : Nat) : Int)) (fun _ _ hρ _ => r_move (hρ _ _ rfl)) rfl rfl rfl (w_n rfl) ?_
      refine TL_nil ?_
      exact p_at (k + 1) ⟨⟨by omega, no_step hno hp h2⟩, by omega⟩ (sub_cons rfl (sub_cons rfl (sub_cons rfl (sub_cons rfl sub_nil)))) sub_nil
  · replace h1 := of_decide_eq_false h1
    refine T_exit' ?_
    refine p_then_x ?_
    refine p_then_x ?_
    refine p_blk_x ?_
    refine p_seq ?_
    refine T_seq (T_region ?_)
    refine TL_q (.int .i64 (-1)) (fun _ _ hρ _ => r_assign (hρ _ _ rfl)) rfl rfl rfl (w_n rfl) ?_
    refine TL_seq ?_
    refine T_ret' ?_
    refine ret_of rfl (.int .i64 (-1)) (fun tmps w hk hm => res1 rfl (res_tmp (hk 4 _ rfl))) (fun w hm => ?_)
    have hke : k = ps.length := by omega
    subst hke
    rw [List.take_length] at hno
    exact ⟨by rw [idx_none hno], hm.ext⟩

theorem pcon_c (ps : List Pcl) (a : Option Addr) (cap : Nat) (w : World) (hv : SliceAt w a cap 3 Pcl.cells ps) (hcap : cap ≤ Go.maxLen) (hb : PcsAt w ps) (g : Nat) (cp : Array Value) (hE : Enters Try.prog g) (φ : Pcl → Bool) (hto : ∀ w2, Below w.heap.size w w2 → ∀ x ∈ ps, Calls Try.prog g (#[x.v] ++ cp) w2 fun e w3 => e = .returned (.bool (φ x)) ∧ Below w2.heap.size w2 w3) : Calls Try.prog 100 #[.slice a ps.length cap, .func (.func g) #[] cp] w fun e w' => e = .returned (.bool (ps.any φ)) ∧ Below w.heap.size w w' := by
  have hvl := hv.1
  unfold Go.maxLen at hcap
  have hix := idx_lt φ ps
  have hiy := idx_ge φ ps
  refine calls_of_T (l := [.slice a ps.length cap, .func (.func g) #[] cp]) 9 Try.func100 rfl rfl rfl ?_
  show T _ _ _ [(0, .slice a ps.length cap), (1, .func (.func g) #[] cp)] []
  refine T_seq (T_region ?_)
  refine TL_q (.bool false) (fun _ _ hρ _ => r_assign (hρ _ _ rfl)) rfl rfl rfl (w_n rfl) ?_
  refine TL_seq ?_
  refine T_seq (T_region ?_)
  refine TL_q (.slice a ps.length cap) (fun _ _ hρ _ => r_move (hρ _ _ rfl)) rfl rfl rfl (w_n rfl) ?_
  refine TL_q (.func (.func g) #[] cp) (fun _ _ hρ _ => r_move (hρ _ _ rfl)) rfl rfl rfl (w_n rfl) ?_
  refine TL_call (.int .i64 (idxI φ ps)) (fun _ _ hρ _ => r_call (args := [.slice a ps.length cap, .func (.func g) #[] cp]) (enters_of Try.func18 (by kernel_rfl) rfl) (hρ _ _ rfl) ((cons2 (hρ _ _ rfl) (cons2 (hρ _ _ rfl) rfl))) rfl) (fun w hm => pidx_c ps a cap w (hv.keep hm.ext) hcap (hb.keep hm.ext) g cp hE φ (fun w2 hb2 x hx => hto w2 (hm.ext.trans (hb2.mono hm.ext.size)) x hx)) rfl rfl rfl (w_n rfl) ?_
  refine TL_q (.bool (decide ((0 : Int) ≤ (idxI φ ps)))) (fun _ _ hρ _ => r_geq (hρ _ _ rfl) (hρ _ _ rfl)) rfl rfl rfl (w_n rfl) ?_
  refine TL_q (.bool (decide ((0 : Int) ≤ (idxI φ ps)))) (fun _ _ hρ _ => r_assign (hρ _ _ rfl)) rfl rfl rfl (w_n rfl) ?_
  refine TL_seq ?_
  refine T_ret' ?_
  refine ret_of rfl (.bool (decide ((0 : Int) ≤ (idxI φ ps)))) (fun tmps w hk hm => res1 rfl (res_tmp (hk 4 _ rfl))) (fun w hm => ?_)
  exact ⟨congrArg Ending.returned (bool_as (idx_any φ ps)), hm.ext⟩

theorem allf_c (p : Pcl) (C : Nat) (w : World) (g : Nat) (cp : Array Value) (hE : Enters Try.prog g) (φ : Pcl → Bool) (hC : hp w C = some (.cells #[.func (.func g) #[] cp] 41)) (hto : ∀ w2, Below w.heap.size w w2 → Calls Try.prog g (#[p.v] ++ cp) w2 fun e w3 => e = .returned (.bool (φ p)) ∧ Below w2.heap.size w2 w3) : Calls Try.prog 101 #[p.v, .pointer (some ⟨C, 0, none⟩)] w fun e w' => e = .returned (.bool (!φ p)) ∧ Below w.heap.size w w' := by
  refine calls_of_T (l := [.agg #[.int .i64 p.to, .slice p.r.a p.r.l.length p.r.cap, .bool p.sp], .pointer (some ⟨C, 0, none⟩)]) 8 Try.func101 rfl rfl rfl ?_
  show T _ _ _ [(0, .agg #[.int .i64 p.to, .slice p.r.a p.r.l.length p.r.cap, .bool p.sp]), (1, .pointer (some ⟨C, 0, none⟩))] []
  refine T_seq (T_region ?_)
  refine TL_new 1 (.cells #[.int .i64 p.to, .slice p.r.a p.r.l.length p.r.cap, .bool p.sp] 36) (fun B => .pointer (some ⟨B, 0, none⟩)) (fun _ _ hρ _ => r_box (hρ _ _ rfl) rfl) rfl rfl rfl (w_n rfl) ?_
  intro B1
  refine TL_q (.bool false) (fun _ _ hρ _ => r_assign (hρ _ _ rfl)) rfl rfl rfl (w_n rfl) ?_
  refine TL_seq ?_
  refine T_seq (T_region ?_)
  refine TL_q (.func (.func g) #[] cp) (fun _ _ hρ hm => r_load ag41 (hρ _ _ rfl) (hm.old hC) rfl) rfl rfl rfl (w_n rfl) ?_
  refine TL_q (.agg #[.int .i64 p.to, .slice p.r.a p.r.l.length p.r.cap, .bool p.sp]) (fun _ _ hρ hm => r_loadA ag36 sz36 (hρ _ _ rfl) (hm.at 1 rfl) rfl rfl) rfl rfl rfl (w_n rfl) ?_
  refine TL_call (.bool (φ p)) (fun _ _ hρ _ => r_call (args := [.agg #[.int .i64 p.to, .slice p.r.a p.r.l.length p.r.cap, .bool p.sp]]) hE (hρ _ _ rfl) ((cons2 (hρ _ _ rfl) rfl)) (by simp)) (fun w hm => hto w hm.ext) rfl rfl rfl (w_n rfl) ?_
  refine TL_q (.bool (!(φ p))) (fun _ _ hρ _ => r_not (b := φ p) (hρ _ _ rfl)) rfl rfl rfl (w_n rfl) ?_
  refine TL_q (.bool (!(φ p))) (fun _ _ hρ _ => r_assign (hρ _ _ rfl)) rfl rfl rfl (w_n rfl) ?_
  refine TL_seq ?_
  refine T_ret' ?_
  refine ret_of rfl (.bool (!(φ p))) (fun tmps w hk hm => res1 rfl (res_tmp (hk 3 _ rfl))) (fun w hm => ?_)
  exact ⟨rfl, hm.ext⟩

theorem all_c (ps : List Pcl) (a : Option Addr) (cap : Nat) (w : World) (hv : SliceAt w a cap 3 Pcl.cells ps) (hcap : cap ≤ Go.maxLen) (hb : PcsAt w ps) (g : Nat) (cp : Array Value) (hE : Enters Try.prog g) (φ : Pcl → Bool) (hto : ∀ w2, Below w.heap.size w w2 → ∀ x ∈ ps, Calls Try.prog g (#[x.v] ++ cp) w2 fun e w3 => e = .returned (.bool (φ x)) ∧ Below w2.heap.size w2 w3) : Calls Try.prog 63 #[.slice a ps.length cap, .func (.func g) #[] cp] w fun e w' => e = .returned (.bool (ps.all φ)) ∧ Below w.heap.size w w' := by
  have hvl := hv.1
  unfold Go.maxLen at hcap
  refine calls_of_T (l := [.slice a ps.length cap, .func (.func g) #[] cp]) 9 Try.func63 rfl rfl rfl ?_
  show T _ _ _ [(0, .slice a ps.length cap), (1, .func (.func g) #[] cp)] []
  refine T_seq (T_region ?_)
  refine TL_new 1 (.cells #[.func (.func g) #[] cp] 41) (fun B => .pointer (some ⟨B, 0, none⟩)) (fun _ _ hρ _ => r_box (hρ _ _ rfl) rfl) rfl rfl rfl (w_n rfl) ?_
  intro B1
  refine TL_q (.bool false) (fun _ _ hρ _ => r_assign (hρ _ _ rfl)) rfl rfl rfl (w_n rfl) ?_
  refine TL_seq ?_
  refine T_seq (T_region ?_)
  refine TL_q (.slice a ps.length cap) (fun _ _ hρ _ => r_move (hρ _ _ rfl)) rfl rfl rfl (w_n rfl) ?_
  refine TL_q (.func (.func 101) #[] #[.pointer (some ⟨B1, 0, none⟩)]) (fun _ _ hρ _ => r_makeFunc (by simp) (map_arr (cons2 (hρ _ _ rfl) rfl))) rfl rfl rfl (w_n rfl) ?_
  refine TL_call (.bool (ps.any (fun x => !φ x))) (fun _ _ hρ _ => r_call (args := [.slice a ps.length cap, .func (.func 101) #[] #[.pointer (some ⟨B1, 0, none⟩)]]) (enters_of Try.func100 (by kernel_rfl) rfl) (hρ _ _ rfl) ((cons2 (hρ _ _ rfl) (cons2 (hρ _ _ rfl) rfl))) rfl) (fun w hm => pcon_c ps a cap w (hv.keep hm.ext) hcap (hb.keep hm.ext) 101 #[.pointer (some ⟨B1, 0, none⟩)] (enters_of Try.func101 (by kernel_rfl) rfl) (fun x => !φ x) (fun w2 hb2 x hx => allf_c x B1 w2 g cp hE φ (kept hb2 (hm.at 1 rfl)) (fun w3 hb3 => hto w3 (hm.ext.trans ((hb2.mono hm.ext.size).trans (hb3.mono (Nat.le_trans hm.ext.size hb2.size)))) x hx))) rfl rfl rfl (w_n rfl) ?_
  refine TL_q (.bool (!(ps.any (fun x => !φ x)))) (fun _ _ hρ _ => r_not (b := ps.any (fun x => !φ x)) (hρ _ _ rfl)) rfl rfl rfl (w_n rfl) ?_
  refine TL_q (.bool (!(ps.any (fun x => !φ x)))) (fun _ _ hρ _ => r_assign (hρ _ _ rfl)) rfl rfl rfl (w_n rfl) ?_
  refine TL_seq ?_
  refine T_ret' ?_
  refine ret_of rfl (.bool (!(ps.any (fun x => !φ x)))) (fun tmps w hk hm => res1 rfl (res_tmp (hk 4 _ rfl))) (fun w hm => ?_)
  exact ⟨congrArg Ending.returned (bool_as (all_not φ ps)), hm.ext⟩

theorem check_yes {ps : List Pcl} {lost : Int} (h1 : ps.length ≤ 64) (h2 : lost ≤ 4611686018427387904) (h3 : ps.all (fun p => mayV p.pv) = true) : checkV (pvs ps) lost = true := by
  unfold checkV pvs
  rw [List.length_map, decide_eq_true ⟨h1, h2⟩, List.all_map]
  exact h3
theorem check_no {ps : List Pcl} {lost : Int} (h : 64 < ps.length ∨ 4611686018427387904 < lost ∨ ¬ ps.all (fun p => mayV p.pv) = true) : ¬ checkV (pvs ps) lost = true := fun e => by
  unfold checkV pvs at e
  rw [Bool.and_eq_true, List.all_map] at e
  have e1 := of_decide_eq_true e.1
  rw [List.length_map] at e1
  rcases h with h | h | h
  · omega
  · have := e1.2; unfold MT at this; omega
  · exact h e.2
theorem ncheck_c (ps : List Pcl) (a : Option Addr) (cap : Nat) (lost : Int) (w : World) (hv : SliceAt w a cap 3 Pcl.cells ps) (hcap : cap ≤ Go.maxLen) (hb : PcsAt w ps) : Calls Try.prog 31 #[.agg #[.slice a ps.length cap, .int .u64 lost]] w fun e w' => e = .returned (.int .i64 (if checkV (pvs ps) lost = true then 0 else 350)) ∧ Below w.heap.size w w' := by
  have hvl := hv.1
  unfold Go.maxLen at hcap
  refine calls_of_T (l := [.agg #[.slice a ps.length cap, .int .u64 lost]]) 18 Try.func31 rfl rfl rfl ?_
  show T _ _ _ [(0, .agg #[.slice a ps.length cap, .int .u64 lost])] []
  refine T_seq (T_region ?_)
  refine TL_new 1 (.cells #[.slice a ps.length cap, .int .u64 lost] 27) (fun B => .pointer (some ⟨B, 0, none⟩)) (fun _ _ hρ _ => r_box (hρ _ _ rfl) rfl) rfl rfl rfl (w_n rfl) ?_
  intro B1
  refine TL_q (.int .i64 0) (fun _ _ hρ _ => r_assign (hρ _ _ rfl)) rfl rfl rfl (w_n rfl) ?_
  refine TL_seq ?_
  refine T_seq ?_
  by_cases c1 : (64 : Int) < ((ps.length : Nat) : Int)
  · skip
    refine T_seq (T_region ?_)
    refine TL_q (.pointer (some ⟨B1, 0, none⟩)) (fun _ _ hρ _ => r_fieldAddr fl27_0 sz22 (hρ _ _ rfl)) rfl rfl rfl (w_n rfl) ?_
    refine TL_q (.slice a ps.length cap) (fun _ _ hρ hm => r_load ag22 (hρ _ _ rfl) (hm.at 1 rfl) rfl) rfl rfl rfl (w_n rfl) ?_
    refine TL_q (.int .i64 ((ps.length : Nat) : Int)) (fun _ _ hρ _ => r_len sl22 (hρ _ _ rfl)) rfl rfl rfl (w_n rfl) ?_
    refine TL_q (.bool true) (fun _ _ hρ _ => r_as (r_gtr (hρ _ _ rfl) (hρ _ _ rfl)) (bool_as (decide_eq_true c1))) rfl rfl rfl (w_n rfl) ?_
    refine TL_q (.bool true) (fun _ _ hρ _ => r_move (hρ _ _ rfl)) rfl rfl rfl (w_n rfl) ?_
    refine TL_no rfl rfl (want_n 7 rfl rfl rfl) ?_
    refine TL_no rfl rfl (want_n 7 rfl rfl rfl) ?_
    refine TL_no rfl rfl (want_n 7 rfl rfl rfl) ?_
    refine TL_q (.bool true) (fun _ _ hρ _ => r_pick_t (hρ _ _ rfl) (hρ _ _ rfl)) rfl rfl rfl (w_n rfl) ?_
    refine TL_q (.bool true) (fun _ _ hρ _ => r_move (hρ _ _ rfl)) rfl rfl rfl (w_n rfl) ?_
    refine TL_no rfl rfl (want_n 12 rfl rfl rfl) ?_
    refine TL_no rfl rfl (want_n 12 rfl rfl rfl) ?_
    refine TL_no rfl rfl (want_n 12 rfl rfl rfl) ?_
    refine TL_no rfl rfl (want_n 12 rfl rfl rfl) ?_
    refine TL_q (.bool true) (fun _ _ hρ _ => r_pick_t (hρ _ _ rfl) (hρ _ _ rfl)) rfl rfl rfl (w_n rfl) ?_
    refine TL_seq ?_
    refine T_cond_t rfl ?_
    refine T_seq (T_region ?_)
    refine TL_q (.int .i64 350) (fun _ _ hρ _ => r_assign (hρ _ _ rfl)) rfl rfl rfl (w_n rfl) ?_
    refine TL_seq ?_
    refine T_ret' ?_
    refine p_then_r ?_
    refine ret_of rfl (.int .i64 350) (fun tmps w hk hm => res1 rfl (res_tmp (hk 2 _ rfl))) (fun w hm => ?_)
    exact ⟨by rw [if_neg (check_no (.inl (by omega)))], hm.ext⟩
  · skip
    by_cases c2 : (4611686018427387904 : Int) < lost
    · skip
      refine T_seq (T_region ?_)
      refine TL_q (.pointer (some ⟨B1, 0, none⟩)) (fun _ _ hρ _ => r_fieldAddr fl27_0 sz22 (hρ _ _ rfl)) rfl rfl rfl (w_n rfl) ?_
      refine TL_q (.slice a ps.length cap) (fun _ _ hρ hm => r_load ag22 (hρ _ _ rfl) (hm.at 1 rfl) rfl) rfl rfl rfl (w_n rfl) ?_
      refine TL_q (.int .i64 ((ps.length : Nat) : Int)) (fun _ _ hρ _ => r_len sl22 (hρ _ _ rfl)) rfl rfl rfl (w_n rfl) ?_
      refine TL_q (.bool false) (fun _ _ hρ _ => r_as (r_gtr (hρ _ _ rfl) (hρ _ _ rfl)) (bool_as (decide_eq_false c1))) rfl rfl rfl (w_n rfl) ?_
      refine TL_q (.bool false) (fun _ _ hρ _ => r_move (hρ _ _ rfl)) rfl rfl rfl (w_n rfl) ?_
      refine TL_q (.pointer (some ⟨B1, 1, none⟩)) (fun _ _ hρ _ => r_fieldAddr fl27_1 sz25 (hρ _ _ rfl)) rfl rfl rfl (want_y 7 rfl rfl rfl) ?_
      refine TL_q (.int .u64 lost) (fun _ _ hρ hm => r_load ag25 (hρ _ _ rfl) (hm.at 1 rfl) rfl) rfl rfl rfl (want_y 7 rfl rfl rfl) ?_
      refine TL_q (.bool true) (fun _ _ hρ _ => r_as (r_gtr (hρ _ _ rfl) (hρ _ _ rfl)) (bool_as (decide_eq_true c2))) rfl rfl rfl (want_y 7 rfl rfl rfl) ?_
      refine TL_q (.bool true) (fun _ _ hρ _ => r_pick_f (hρ _ _ rfl) (hρ _ _ rfl)) rfl rfl rfl (w_n rfl) ?_
      refine TL_q (.bool true) (fun _ _ hρ _ => r_move (hρ _ _ rfl)) rfl rfl rfl (w_n rfl) ?_
      refine TL_no rfl rfl (want_n 12 rfl rfl rfl) ?_
      refine TL_no rfl rfl (want_n 12 rfl rfl rfl) ?_
      refine TL_no rfl rfl (want_n 12 rfl rfl rfl) ?_
      refine TL_no rfl rfl (want_n 12 rfl rfl rfl) ?_
      refine TL_q (.bool true) (fun _ _ hρ _ => r_pick_t (hρ _ _ rfl) (hρ _ _ rfl)) rfl rfl rfl (w_n rfl) ?_
      refine TL_seq ?_
      refine T_cond_t rfl ?_
      refine T_seq (T_region ?_)
      refine TL_q (.int .i64 350) (fun _ _ hρ _ => r_assign (hρ _ _ rfl)) rfl rfl rfl (w_n rfl) ?_
      refine TL_seq ?_
      refine T_ret' ?_
      refine p_then_r ?_
      refine ret_of rfl (.int .i64 350) (fun tmps w hk hm => res1 rfl (res_tmp (hk 2 _ rfl))) (fun w hm => ?_)
      exact ⟨by rw [if_neg (check_no (.inr (.inl (by omega))))], hm.ext⟩
    · skip
      by_cases c3 : ps.all (fun p => mayV p.pv) = true
      · skip
        refine T_seq (T_region ?_)
        refine TL_q (.pointer (some ⟨B1, 0, none⟩)) (fun _ _ hρ _ => r_fieldAddr fl27_0 sz22 (hρ _ _ rfl)) rfl rfl rfl (w_n rfl) ?_
        refine TL_q (.slice a ps.length cap) (fun _ _ hρ hm => r_load ag22 (hρ _ _ rfl) (hm.at 1 rfl) rfl) rfl rfl rfl (w_n rfl) ?_
        refine TL_q (.int .i64 ((ps.length : Nat) : Int)) (fun _ _ hρ _ => r_len sl22 (hρ _ _ rfl)) rfl rfl rfl (w_n rfl) ?_
        refine TL_q (.bool false) (fun _ _ hρ _ => r_as (r_gtr (hρ _ _ rfl) (hρ _ _ rfl)) (bool_as (decide_eq_false c1))) rfl rfl rfl (w_n rfl) ?_
        refine TL_q (.bool false) (fun _ _ hρ _ => r_move (hρ _ _ rfl)) rfl rfl rfl (w_n rfl) ?_
        refine TL_q (.pointer (some ⟨B1, 1, none⟩)) (fun _ _ hρ _ => r_fieldAddr fl27_1 sz25 (hρ _ _ rfl)) rfl rfl rfl (want_y 7 rfl rfl rfl) ?_
        refine TL_q (.int .u64 lost) (fun _ _ hρ hm => r_load ag25 (hρ _ _ rfl) (hm.at 1 rfl) rfl) rfl rfl rfl (want_y 7 rfl rfl rfl) ?_
        refine TL_q (.bool false) (fun _ _ hρ _ => r_as (r_gtr (hρ _ _ rfl) (hρ _ _ rfl)) (bool_as (decide_eq_false c2))) rfl rfl rfl (want_y 7 rfl rfl rfl) ?_
        refine TL_q (.bool false) (fun _ _ hρ _ => r_pick_f (hρ _ _ rfl) (hρ _ _ rfl)) rfl rfl rfl (w_n rfl) ?_
        refine TL_q (.bool false) (fun _ _ hρ _ => r_move (hρ _ _ rfl)) rfl rfl rfl (w_n rfl) ?_
        refine TL_q (.pointer (some ⟨B1, 0, none⟩)) (fun _ _ hρ _ => r_fieldAddr fl27_0 sz22 (hρ _ _ rfl)) rfl rfl rfl (want_y 12 rfl rfl rfl) ?_
        refine TL_q (.slice a ps.length cap) (fun _ _ hρ hm => r_load ag22 (hρ _ _ rfl) (hm.at 1 rfl) rfl) rfl rfl rfl (want_y 12 rfl rfl rfl) ?_
        refine TL_call (.bool true) (fun _ _ hρ _ => r_call (args := [.slice a ps.length cap, .func (.func 65) #[] #[]]) (enters_of Try.func63 (by kernel_rfl) rfl) (hρ _ _ rfl) ((cons2 (hρ _ _ rfl) (cons2 (hρ _ _ rfl) rfl))) rfl) (fun w hm => (all_c ps a cap w (hv.keep hm.ext) hcap (hb.keep hm.ext) 65 #[] (enters_of Try.func65 (by kernel_rfl) rfl) (fun p => mayV p.pv) (fun w2 _ x _ => may_c x w2)).mono fun _ _ h => ⟨h.1.trans (congrArg Ending.returned (bool_as c3)), h.2⟩) rfl rfl rfl (want_y 12 rfl rfl rfl) ?_
        refine TL_q (.bool false) (fun _ _ hρ _ => r_not (b := true) (hρ _ _ rfl)) rfl rfl rfl (want_y 12 rfl rfl rfl) ?_
        refine TL_q (.bool false) (fun _ _ hρ _ => r_pick_f (hρ _ _ rfl) (hρ _ _ rfl)) rfl rfl rfl (w_n rfl) ?_
        refine TL_seq ?_
        refine T_cond_f rfl ?_
        refine T_skip' ?_
        refine p_seq ?_
        refine T_seq (T_region ?_)
        refine TL_q (.int .i64 0) (fun _ _ hρ _ => r_assign (hρ _ _ rfl)) rfl rfl rfl (w_n rfl) ?_
        refine TL_seq ?_
        refine T_ret' ?_
        refine ret_of rfl (.int .i64 0) (fun tmps w hk hm => res1 rfl (res_tmp (hk 2 _ rfl))) (fun w hm => ?_)
        exact ⟨by rw [if_pos (check_yes (by omega) (by omega) c3)], hm.ext⟩
      · skip
        refine T_seq (T_region ?_)
        refine TL_q (.pointer (some ⟨B1, 0, none⟩)) (fun _ _ hρ _ => r_fieldAddr fl27_0 sz22 (hρ _ _ rfl)) rfl rfl rfl (w_n rfl) ?_
        refine TL_q (.slice a ps.length cap) (fun _ _ hρ hm => r_load ag22 (hρ _ _ rfl) (hm.at 1 rfl) rfl) rfl rfl rfl (w_n rfl) ?_
        refine TL_q (.int .i64 ((ps.length : Nat) : Int)) (fun _ _ hρ _ => r_len sl22 (hρ _ _ rfl)) rfl rfl rfl (w_n rfl) ?_
        refine TL_q (.bool false) (fun _ _ hρ _ => r_as (r_gtr (hρ _ _ rfl) (hρ _ _ rfl)) (bool_as (decide_eq_false c1))) rfl rfl rfl (w_n rfl) ?_
        refine TL_q (.bool false) (fun _ _ hρ _ => r_move (hρ _ _ rfl)) rfl rfl rfl (w_n rfl) ?_
        refine TL_q (.pointer (some ⟨B1, 1, none⟩)) (fun _ _ hρ _ => r_fieldAddr fl27_1 sz25 (hρ _ _ rfl)) rfl rfl rfl (want_y 7 rfl rfl rfl) ?_
        refine TL_q (.int .u64 lost) (fun _ _ hρ hm => r_load ag25 (hρ _ _ rfl) (hm.at 1 rfl) rfl) rfl rfl rfl (want_y 7 rfl rfl rfl) ?_
        refine TL_q (.bool false) (fun _ _ hρ _ => r_as (r_gtr (hρ _ _ rfl) (hρ _ _ rfl)) (bool_as (decide_eq_false c2))) rfl rfl rfl (want_y 7 rfl rfl rfl) ?_
        refine TL_q (.bool false) (fun _ _ hρ _ => r_pick_f (hρ _ _ rfl) (hρ _ _ rfl)) rfl rfl rfl (w_n rfl) ?_
        refine TL_q (.bool false) (fun _ _ hρ _ => r_move (hρ _ _ rfl)) rfl rfl rfl (w_n rfl) ?_
        refine TL_q (.pointer (some ⟨B1, 0, none⟩)) (fun _ _ hρ _ => r_fieldAddr fl27_0 sz22 (hρ _ _ rfl)) rfl rfl rfl (want_y 12 rfl rfl rfl) ?_
        refine TL_q (.slice a ps.length cap) (fun _ _ hρ hm => r_load ag22 (hρ _ _ rfl) (hm.at 1 rfl) rfl) rfl rfl rfl (want_y 12 rfl rfl rfl) ?_
        refine TL_call (.bool false) (fun _ _ hρ _ => r_call (args := [.slice a ps.length cap, .func (.func 65) #[] #[]]) (enters_of Try.func63 (by kernel_rfl) rfl) (hρ _ _ rfl) ((cons2 (hρ _ _ rfl) (cons2 (hρ _ _ rfl) rfl))) rfl) (fun w hm => (all_c ps a cap w (hv.keep hm.ext) hcap (hb.keep hm.ext) 65 #[] (enters_of Try.func65 (by kernel_rfl) rfl) (fun p => mayV p.pv) (fun w2 _ x _ => may_c x w2)).mono fun _ _ h => ⟨h.1.trans (congrArg Ending.returned (bool_as (eq_false_of_ne_true c3))), h.2⟩) rfl rfl rfl (want_y 12 rfl rfl rfl) ?_
        refine TL_q (.bool true) (fun _ _ hρ _ => r_not (b := false) (hρ _ _ rfl)) rfl rfl rfl (want_y 12 rfl rfl rfl) ?_
        refine TL_q (.bool true) (fun _ _ hρ _ => r_pick_f (hρ _ _ rfl) (hρ _ _ rfl)) rfl rfl rfl (w_n rfl) ?_
        refine TL_seq ?_
        refine T_cond_t rfl ?_
        refine T_seq (T_region ?_)
        refine TL_q (.int .i64 350) (fun _ _ hρ _ => r_assign (hρ _ _ rfl)) rfl rfl rfl (w_n rfl) ?_
        refine TL_seq ?_
        refine T_ret' ?_
        refine p_then_r ?_
        refine ret_of rfl (.int .i64 350) (fun tmps w hk hm => res1 rfl (res_tmp (hk 2 _ rfl))) (fun w hm => ?_)
        exact ⟨by rw [if_neg (check_no (.inr (.inr c3)))], hm.ext⟩

end Go.Proofs.Ytcidgbjgeegepaa
/- net and journal: nets compared; own. Printed by a program of this seat's prover. -/
namespace Go.Proofs.Ytcidgbjgeegepaa
open Go Go.RowKit
set_option maxRecDepth 10000
theorem byc_one1 : ∀ {l : List By}, ∀ u ∈ l.flatMap byc, u.oneCell' = true := by
  intro l u hu
  obtain ⟨x, _, hx⟩ := List.mem_flatMap.1 hu
  exact byc_one x u hx

theorem nown_c (p : Pcl) (w : World) (hp : p.ok w) : Calls Try.prog 99 #[p.v] w fun e w' => ∃ a' cap', e = .returned (.agg #[.int .i64 p.to, .slice a' p.r.l.length cap', .bool p.sp]) ∧ Below w.heap.size w w' ∧ w'.ownsRow w.heap.size 5 1 (.slice a' (p.r.l).length cap') (p.r.l).length ((p.r.l).flatMap byc) := by
  have hpl := hp.1.1
  have hpc := hp.2.1
  have hpn := hp.2.2
  unfold Go.maxLen at hpc
  refine calls_of_T (l := [.agg #[.int .i64 p.to, .slice p.r.a p.r.l.length p.r.cap, .bool p.sp]]) 15 Try.func99 rfl rfl rfl ?_
  show T _ _ _ [(0, .agg #[.int .i64 p.to, .slice p.r.a p.r.l.length p.r.cap, .bool p.sp])] []
  refine T_seq (T_region ?_)
  refine TL_new 1 (.cells #[.int .i64 p.to, .slice p.r.a p.r.l.length p.r.cap, .bool p.sp] 36) (fun B => .pointer (some ⟨B, 0, none⟩)) (fun _ _ hρ _ => r_box (hρ _ _ rfl) rfl) rfl rfl rfl (w_n rfl) ?_
  intro B1
  refine TL_new 2 (.cells #[.int .i64 0, .slice none 0 0, .bool false] 36) (fun B => .pointer (some ⟨B, 0, none⟩)) (fun _ _ _ _ => r_alloc (v := .agg #[.int .i64 0, .slice none 0 0, .bool false]) (by kernel_rfl) rfl) rfl rfl rfl (w_n rfl) ?_
  intro B2
  refine TL_seq ?_
  refine T_seq (T_region ?_)
  refine TL_q (.pointer (some ⟨B1, 1, none⟩)) (fun _ _ hρ _ => r_fieldAddr fl36_1 sz34 (hρ _ _ rfl)) rfl rfl rfl (w_n rfl) ?_
  refine TL_q (.slice p.r.a p.r.l.length p.r.cap) (fun _ _ hρ hm => r_load ag34 (hρ _ _ rfl) (hm.at 1 rfl) rfl) rfl rfl rfl (w_n rfl) ?_
  refine TL_q (.int .i64 ((p.r.l.length : Nat) : Int)) (fun _ _ hρ _ => r_len sl34 (hρ _ _ rfl)) rfl rfl rfl (w_n rfl) ?_
  refine TL_op (ι := Nat) (fun B => .slice (some ⟨B, 0, none⟩) p.r.l.length p.r.l.length) _ (fun _ _ hρ hm => o_make (n := p.r.l.length) (cap := p.r.l.length) (z := .int .u8 0) (f := byc) (u := 0#8) 940 rfl (hρ _ _ rfl) (hρ _ _ rfl) sl34 by5 sz5 rfl (by kernel_rfl) rfl byc_len (by omega) (by omega) (by omega) hm) rfl rfl rfl (w_n rfl) ?_
  intro B3
  refine TL_q (.slice (some ⟨B3, 0, none⟩) p.r.l.length p.r.l.length) (fun _ _ hρ _ => r_assign (hρ _ _ rfl)) rfl rfl rfl (w_n rfl) ?_
  refine TL_seq ?_
  refine T_seq (T_region ?_)
  refine TL_q (.slice (some ⟨B3, 0, none⟩) p.r.l.length p.r.l.length) (fun _ _ hρ _ => r_move (hρ _ _ rfl)) rfl rfl rfl (w_n rfl) ?_
  refine TL_q (.pointer (some ⟨B1, 1, none⟩)) (fun _ _ hρ _ => r_fieldAddr fl36_1 sz34 (hρ _ _ rfl)) rfl rfl rfl (w_n rfl) ?_
  refine TL_q (.slice p.r.a p.r.l.length p.r.cap) (fun _ _ hρ hm => r_load ag34 (hρ _ _ rfl) (hm.at 1 rfl) rfl) rfl rfl rfl (w_n rfl) ?_
  refine TL_op1 (.int .i64 ((p.r.l.length : Nat) : Int)) _ (fun _ _ hρ hm => o_copy (s := 1) (news := (p.r.l.flatMap byc)) 940 rfl (hρ _ _ rfl) (hρ _ _ rfl) rfl sl34 sz5 (src_of byc_len (hp.1.keep hm.ext)) byc_one1 hm) rfl rfl rfl (w_n rfl) ?_
  refine TL_seq ?_
  refine T_seq (T_region ?_)
  refine TL_q (.slice (some ⟨B3, 0, none⟩) p.r.l.length p.r.l.length) (fun _ _ hρ _ => r_move (hρ _ _ rfl)) rfl rfl rfl (w_n rfl) ?_
  refine TL_q (.pointer (some ⟨B1, 1, none⟩)) (fun _ _ hρ _ => r_fieldAddr fl36_1 sz34 (hρ _ _ rfl)) rfl rfl rfl (w_n rfl) ?_
  refine TL_store 1 (.cells #[.int .i64 p.to, .slice (some ⟨B3, 0, none⟩) p.r.l.length p.r.l.length, .bool p.sp] 36) rfl (fun _ _ hρ hm => r_store sz34 (hρ _ _ rfl) (hρ _ _ rfl) (hm.at 1 rfl) rfl rfl rfl rfl) rfl rfl (w_n rfl) ?_
  refine TL_seq ?_
  refine T_seq (T_region ?_)
  refine TL_q (.agg #[.int .i64 p.to, .slice (some ⟨B3, 0, none⟩) p.r.l.length p.r.l.length, .bool p.sp]) (fun _ _ hρ hm => r_loadA ag36 sz36 (hρ _ _ rfl) (hm.at 1 rfl) rfl rfl) rfl rfl rfl (w_n rfl) ?_
  refine TL_store 2 (.cells #[.int .i64 p.to, .slice (some ⟨B3, 0, none⟩) p.r.l.length p.r.l.length, .bool p.sp] 36) rfl (fun _ _ hρ hm => r_store sz36 (hρ _ _ rfl) (hρ _ _ rfl) (hm.at 2 rfl) rfl rfl rfl rfl) rfl rfl (w_n rfl) ?_
  refine TL_seq ?_
  refine T_ret' ?_
  refine ret_of rfl (.agg #[.int .i64 p.to, .slice (some ⟨B3, 0, none⟩) p.r.l.length p.r.l.length, .bool p.sp]) (fun tmps w hk hm => res1 rfl (res_cell (hk 2 _ rfl) (run_loadVar_agg ag36 sz36 (hm.at 2 rfl) (Nat.le_of_ble_eq_true rfl) rfl))) (fun w hm => ?_)
  exact ⟨(some ⟨B3, 0, none⟩), p.r.l.length, rfl, hm.ext, hm.row 940 rfl⟩

theorem nnew_c (w : World) : Calls Try.prog 14 #[] w fun e w' => e = .returned (.agg #[.slice none 0 0, .int .u64 0]) ∧ Below w.heap.size w w' := by
  refine calls_of_T (l := []) 2 Try.func14 rfl rfl rfl ?_
  show T _ _ _ [] []
  refine T_seq (T_region ?_)
  refine TL_new 1 (.cells #[.slice none 0 0, .int .u64 0] 27) (fun B => .pointer (some ⟨B, 0, none⟩)) (fun _ _ _ _ => r_alloc (v := .agg #[.slice none 0 0, .int .u64 0]) (by kernel_rfl) rfl) rfl rfl rfl (w_n rfl) ?_
  intro B1
  refine TL_seq ?_
  refine T_seq (T_region ?_)
  refine TL_q (.agg #[.slice none 0 0, .int .u64 0]) (fun _ _ _ _ => r_build (vs := []) (by kernel_rfl) rfl) rfl rfl rfl (w_n rfl) ?_
  refine TL_store 1 (.cells #[.slice none 0 0, .int .u64 0] 27) rfl (fun _ _ hρ hm => r_store sz27 (hρ _ _ rfl) (hρ _ _ rfl) (hm.at 1 rfl) rfl rfl rfl rfl) rfl rfl (w_n rfl) ?_
  refine TL_seq ?_
  refine T_ret' ?_
  refine ret_of rfl (.agg #[.slice none 0 0, .int .u64 0]) (fun tmps w hk hm => res1 rfl (res_cell (hk 0 _ rfl) (run_loadVar_agg ag27 sz27 (hm.at 1 rfl) (Nat.le_of_ble_eq_true rfl) rfl))) (fun w hm => ?_)
  exact ⟨rfl, hm.ext⟩
end Go.Proofs.Ytcidgbjgeegepaa
/- append of so many zeros onto nil. Over any program. -/
namespace Go.Proofs.Ytcidgbjgeegepaa
open Go Go.RowKit
section
variable {P : Program} {w₀ w : World} {L : Heap} {ρ : Operand → Value} {d : Option Tmp} {ty : TypeId} {ps : String} {af : Array Edge} {g : Option (Nat × Bool)}
theorem o_growZ {x y : Operand} {ats : Array TypeId} {t tn e : TypeId} {kn : IntKind} {n s by' : Nat} {z : Value} (i : Nat) (hfr : lk L i = none) (hat : ats = #[t, tn]) (hx : ρ x = .slice none 0 0) (hy : ρ y = .int .i64 (n : Nat)) (ht : sliOf P t = some e) (htn : intOf? P tn = some kn)
    (hs : szOf P e = some s) (hs0 : Nat.blt 0 s = true) (hby : byOf P e = some by') (hz : zeroOf P e = some z) (hzs : z.cells.size = s) (h0 : 0 < n) (h63 : n ≤ 4611686018427387904) (hb : n * by' ≤ 140737488355328) (hm : MemOk w₀ L w) :
    ∃ (c : Nat × Nat) (w' : World), (execOp ρ (mk d (.call { callee := .builtin .append, args := #[x, y], argTypes := ats }) ty ps af g)).run P w = .ok (.value (.slice (some ⟨c.1, 0, none⟩) n c.2)) w' ∧ MemOk w₀ ((i, .row (.slice (some ⟨c.1, 0, none⟩) 0 c.2) e s 0 []) :: L) w' := by
  subst hat
  obtain ⟨ti, hi, hsz⟩ := Option.map_eq_some_iff.1 hs
  obtain ⟨ti', hi', hbz⟩ := Option.map_eq_some_iff.1 hby
  rw [hi] at hi'; cases hi'
  have hzz : ti.zero = some z := by simpa [zeroOf, hi] using hz
  have hs1 : 0 < s := by rw [Nat.blt_eq] at hs0; exact hs0
  have hr := Go.Lib.run_append_nil_zeros (P := P) w t tn ty e ti z .i64 kn (und_sli ht) (und_int htn) hi hzz n h0 (by rw [hsz]; exact hs1) (by omega) (by rw [hbz]; omega)
  refine ⟨(w.heap.size, grownCap w n 0 e), _, by rw [run_builtin]; simp only [List.map_toArray, List.map_cons, List.map_nil, hx, hy]; exact run_v hr, ?_⟩
  · have hcm : grownCap w n 0 e ≤ Go.maxLen := grownCap_le_maxLen w n 0 e (by unfold Go.maxLen; omega)
    have hge := grownCap_ge w n 0 e
    refine hm.grow (n := 0) (xs := []) (.inr ⟨hfr, (rfl : (Value.slice none 0 0).ownBlock = none)⟩) ⟨rfl, rfl, rfl, by simp, fun k hk _ => Go.heap_alloc_old w.drew _ k hk⟩ ⟨by simp, .inr ⟨w.heap.size, _, _, rfl, hm.ext.size, Go.heap_alloc_new w.drew _, Nat.zero_le _, hcm, ?_, by simp⟩⟩ (.inr rfl)
    simp only [Array.size_append, size_zeroCells, hzs, ← Nat.add_mul]
    congr 1
    omega
end
end Go.Proofs.Ytcidgbjgeegepaa
/- net and journal: slices.Grow, slices.Concat. Printed by a program of this seat's prover. -/
namespace Go.Proofs.Ytcidgbjgeegepaa
open Go Go.RowKit
set_option maxRecDepth 10000
theorem flat_stepR {α : Type} {rs : List (RowG α)} {k : Nat} {r : RowG α} (h : rs[k]? = some r) : (rs.take (k + 1)).flatMap RowG.l = (rs.take k).flatMap RowG.l ++ r.l := by
  rw [List.take_add_one, h, List.flatMap_append]
  simp
theorem con_as {α : Type} {f : α → List Value} {g e s : Nat} {args : Array Value} {w : World} {l l' : List α} (h : Calls Try.prog g args w fun en w' => ∃ a' cap', en = .returned (.slice a' l.length cap') ∧ Below w.heap.size w w' ∧ w'.ownsRow w.heap.size e s (.slice a' l.length cap') l.length (l.flatMap f)) (hl : l = l') :
    Calls Try.prog g args w fun en w' => ∃ a' cap', en = .returned (.slice a' l'.length cap') ∧ Below w.heap.size w w' ∧ w'.ownsRow w.heap.size e s (.slice a' l'.length cap') l'.length (l'.flatMap f) := hl ▸ h
theorem flat_leR {α : Type} (rs : List (RowG α)) (k : Nat) : ((rs.take k).flatMap RowG.l).length ≤ (rs.flatMap RowG.l).length := by
  have e : rs.flatMap RowG.l = (rs.take k).flatMap RowG.l ++ (rs.drop k).flatMap RowG.l := by rw [← List.flatMap_append, List.take_append_drop]
  rw [e, List.length_append]; omega
theorem rows_oneG {α : Type} {f : α → List Value} (ho : ∀ x, ∀ u ∈ f x, u.oneCell' = true) {l : List α} : ∀ u ∈ l.flatMap f, u.oneCell' = true := fun u hu => by
  obtain ⟨x, _, hx⟩ := List.mem_flatMap.1 hu
  exact ho x u hx

theorem gro_p (n : Nat) (w : World) (hn : n ≤ 1000000) : Calls Try.prog 143 #[.slice none 0 0, .int .i64 (n : Int)] w fun e w' => ∃ a' cap', e = .returned (.slice a' 0 cap') ∧ Below w.heap.size w w' ∧ w'.ownsRow w.heap.size 36 3 (.slice a' 0 cap') 0 [] := by
  refine calls_of_T (l := [.slice none 0 0, .int .i64 ((n : Nat) : Int)]) 27 Try.func143 rfl rfl rfl ?_
  show T _ _ _ [(0, .slice none 0 0), (1, .int .i64 ((n : Nat) : Int))] []
  refine T_seq (T_region ?_)
  refine TL_q (.slice none 0 0) (fun _ _ hρ _ => r_assign (hρ _ _ rfl)) rfl rfl rfl (w_n rfl) ?_
  refine TL_seq ?_
  refine T_seq ?_
  refine T_seq (T_region ?_)
  refine TL_q (.int .i64 ((n : Nat) : Int)) (fun _ _ hρ _ => r_move (hρ _ _ rfl)) rfl rfl rfl (w_n rfl) ?_
  refine TL_q (.bool false) (fun _ _ hρ _ => r_as (r_lss (hρ _ _ rfl) (hρ _ _ rfl)) (bool_as (decide_eq_false (by omega)))) rfl rfl rfl (w_n rfl) ?_
  refine TL_seq ?_
  refine T_cond_f rfl ?_
  refine T_skip' ?_
  refine p_seq ?_
  refine T_seq ?_
  refine T_seq (T_region ?_)
  refine TL_q (.int .i64 ((n : Nat) : Int)) (fun _ _ hρ _ => r_move (hρ _ _ rfl)) rfl rfl rfl (w_n rfl) ?_
  refine TL_q (.slice none 0 0) (fun _ _ hρ _ => r_move (hρ _ _ rfl)) rfl rfl rfl (w_n rfl) ?_
  refine TL_q (.int .i64 0) (fun _ _ hρ _ => r_cap sl22 (hρ _ _ rfl)) rfl rfl rfl (w_n rfl) ?_
  refine TL_q (.slice none 0 0) (fun _ _ hρ _ => r_move (hρ _ _ rfl)) rfl rfl rfl (w_n rfl) ?_
  refine TL_q (.int .i64 0) (fun _ _ hρ _ => r_len sl22 (hρ _ _ rfl)) rfl rfl rfl (w_n rfl) ?_
  refine TL_q (.int .i64 0) (fun _ _ hρ _ => r_as (r_sub (hρ _ _ rfl) (hρ _ _ rfl)) (by rfl)) rfl rfl rfl (w_n rfl) ?_
  refine TL_q (.int .i64 ((n - 0 : Nat) : Int)) (fun _ _ hρ _ => r_as (r_sub (hρ _ _ rfl) (hρ _ _ rfl)) (int_as ((wrap64 (by omega) (by omega)).trans (by omega)))) rfl rfl rfl (w_n rfl) ?_
  refine TL_q (.int .i64 ((n - 0 : Nat) : Int)) (fun _ _ hρ _ => r_assign (hρ _ _ rfl)) rfl rfl rfl (w_n rfl) ?_
  refine TL_seq ?_
  by_cases h0 : 0 < n
  · skip
    refine T_seq (T_region ?_)
    refine TL_q (.int .i64 ((n - 0 : Nat) : Int)) (fun _ _ hρ _ => r_move (hρ _ _ rfl)) rfl rfl rfl (w_n rfl) ?_
    refine TL_q (.bool (decide ((0 : Int) < ((n - 0 : Nat) : Int)))) (fun _ _ hρ _ => r_gtr (hρ _ _ rfl) (hρ _ _ rfl)) rfl rfl rfl (w_n rfl) ?_
    refine TL_seq ?_
    refine T_cond rfl (fun h1 => ?_) (fun h1 => ?_)
    · replace h1 := of_decide_eq_true h1
      refine T_region ?_
      refine TL_q (.slice none 0 0) (fun _ _ hρ _ => r_move (hρ _ _ rfl)) rfl rfl rfl (w_n rfl) ?_
      refine TL_q (.slice none 0 0) (fun _ _ hρ _ => r_move (hρ _ _ rfl)) rfl rfl rfl (w_n rfl) ?_
      refine TL_q (.int .i64 0) (fun _ _ hρ _ => r_cap sl22 (hρ _ _ rfl)) rfl rfl rfl (w_n rfl) ?_
      refine TL_q (.slice none 0 0) (fun ρ _ hρ _ => r_sliceN sl22 sz36 (hρ _ _ rfl) (bd_none ρ _) (bd_some (n := 0) (hρ _ _ rfl)) (bd_none ρ _) (by simp)) rfl rfl rfl (w_n rfl) ?_
      refine TL_q (.int .i64 ((n - 0 : Nat) : Int)) (fun _ _ hρ _ => r_move (hρ _ _ rfl)) rfl rfl rfl (w_n rfl) ?_
      refine TL_op (ι := Nat × Nat) (fun B => .slice (some ⟨B.1, 0, none⟩) n B.2) _ (fun _ _ hρ hm => o_growZ (n := n) (z := .agg #[.int .i64 0, .slice none 0 0, .bool false]) 940 rfl rfl (hρ _ _ rfl) (hρ _ _ rfl) sl22 io3 sz36 rfl by36 (by kernel_rfl) rfl (by omega) (by omega) (by omega) hm) rfl rfl rfl (w_n rfl) ?_
      intro B1
      refine TL_q (.slice none 0 0) (fun _ _ hρ _ => r_move (hρ _ _ rfl)) rfl rfl rfl (w_n rfl) ?_
      refine TL_q (.int .i64 0) (fun _ _ hρ _ => r_len sl22 (hρ _ _ rfl)) rfl rfl rfl (w_n rfl) ?_
      refine TL_q (.slice (some ⟨B1.1, 0, none⟩) 0 B1.2) (fun ρ _ hρ _ => r_as (r_sliceS sl22 sz36 (hρ _ _ rfl) (bd_none ρ _) (bd_some (n := 0) (hρ _ _ rfl)) (bd_none ρ _) (by simp) (by omega) (by omega) (by omega)) (by simp)) rfl rfl rfl (w_n rfl) ?_
      refine TL_q (.slice (some ⟨B1.1, 0, none⟩) 0 B1.2) (fun _ _ hρ _ => r_assign (hρ _ _ rfl)) rfl rfl rfl (w_n rfl) ?_
      refine TL_nil ?_
      refine p_seq ?_
      refine T_seq (T_region ?_)
      refine TL_q (.slice (some ⟨B1.1, 0, none⟩) 0 B1.2) (fun _ _ hρ _ => r_move (hρ _ _ rfl)) rfl rfl rfl (w_n rfl) ?_
      refine TL_q (.slice (some ⟨B1.1, 0, none⟩) 0 B1.2) (fun _ _ hρ _ => r_assign (hρ _ _ rfl)) rfl rfl rfl (w_n rfl) ?_
      refine TL_seq ?_
      refine T_ret' ?_
      refine ret_of rfl (.slice (some ⟨B1.1, 0, none⟩) 0 B1.2) (fun tmps w hk hm => res1 rfl (res_tmp (hk 4 _ rfl))) (fun w hm => ?_)
      exact ⟨some ⟨B1.1, 0, none⟩, B1.2, rfl, hm.ext, hm.row 940 rfl⟩
    · replace h1 := of_decide_eq_false h1
      refine T_skip' ?_
      refine p_seq ?_
      refine T_seq (T_region ?_)
      refine TL_q (.slice none 0 0) (fun _ _ hρ _ => r_move (hρ _ _ rfl)) rfl rfl rfl (w_n rfl) ?_
      refine TL_q (.slice none 0 0) (fun _ _ hρ _ => r_assign (hρ _ _ rfl)) rfl rfl rfl (w_n rfl) ?_
      refine TL_seq ?_
      refine T_ret' ?_
      refine ret_of rfl (.slice none 0 0) (fun tmps w hk hm => res1 rfl (res_tmp (hk 4 _ rfl))) (fun w hm => ?_)
      exact ⟨none, 0, rfl, hm.ext, World.ownsRow_nil _ _ _ _⟩
  · skip
    refine T_seq (T_region ?_)
    refine TL_q (.int .i64 ((n - 0 : Nat) : Int)) (fun _ _ hρ _ => r_move (hρ _ _ rfl)) rfl rfl rfl (w_n rfl) ?_
    refine TL_q (.bool (decide ((0 : Int) < ((n - 0 : Nat) : Int)))) (fun _ _ hρ _ => r_gtr (hρ _ _ rfl) (hρ _ _ rfl)) rfl rfl rfl (w_n rfl) ?_
    refine TL_seq ?_
    refine T_cond rfl (fun h2 => ?_) (fun h2 => ?_)
    · replace h2 := of_decide_eq_true h2
      refine T_region ?_
      refine TL_q (.slice none 0 0) (fun _ _ hρ _ => r_move (hρ _ _ rfl)) rfl rfl rfl (w_n rfl) ?_
      refine TL_q (.slice none 0 0) (fun _ _ hρ _ => r_move (hρ _ _ rfl)) rfl rfl rfl (w_n rfl) ?_
      refine TL_q (.int .i64 0) (fun _ _ hρ _ => r_cap sl22 (hρ _ _ rfl)) rfl rfl rfl (w_n rfl) ?_
      refine TL_q (.slice none 0 0) (fun ρ _ hρ _ => r_sliceN sl22 sz36 (hρ _ _ rfl) (bd_none ρ _) (bd_some (n := 0) (hρ _ _ rfl)) (bd_none ρ _) (by simp)) rfl rfl rfl (w_n rfl) ?_
      refine TL_q (.int .i64 ((n - 0 : Nat) : Int)) (fun _ _ hρ _ => r_move (hρ _ _ rfl)) rfl rfl rfl (w_n rfl) ?_
      refine TL_op (ι := Nat × Nat) (fun B => .slice (some ⟨B.1, 0, none⟩) n B.2) _ (fun _ _ hρ hm => o_growZ (n := n) (z := .agg #[.int .i64 0, .slice none 0 0, .bool false]) 940 rfl rfl (hρ _ _ rfl) (hρ _ _ rfl) sl22 io3 sz36 rfl by36 (by kernel_rfl) rfl (by omega) (by omega) (by omega) hm) rfl rfl rfl (w_n rfl) ?_
      intro B2
      refine TL_q (.slice none 0 0) (fun _ _ hρ _ => r_move (hρ _ _ rfl)) rfl rfl rfl (w_n rfl) ?_
      refine TL_q (.int .i64 0) (fun _ _ hρ _ => r_len sl22 (hρ _ _ rfl)) rfl rfl rfl (w_n rfl) ?_
      refine TL_q (.slice (some ⟨B2.1, 0, none⟩) 0 B2.2) (fun ρ _ hρ _ => r_as (r_sliceS sl22 sz36 (hρ _ _ rfl) (bd_none ρ _) (bd_some (n := 0) (hρ _ _ rfl)) (bd_none ρ _) (by simp) (by omega) (by omega) (by omega)) (by simp)) rfl rfl rfl (w_n rfl) ?_
      refine TL_q (.slice (some ⟨B2.1, 0, none⟩) 0 B2.2) (fun _ _ hρ _ => r_assign (hρ _ _ rfl)) rfl rfl rfl (w_n rfl) ?_
      refine TL_nil ?_
      refine p_seq ?_
      refine T_seq (T_region ?_)
      refine TL_q (.slice (some ⟨B2.1, 0, none⟩) 0 B2.2) (fun _ _ hρ _ => r_move (hρ _ _ rfl)) rfl rfl rfl (w_n rfl) ?_
      refine TL_q (.slice (some ⟨B2.1, 0, none⟩) 0 B2.2) (fun _ _ hρ _ => r_assign (hρ _ _ rfl)) rfl rfl rfl (w_n rfl) ?_
      refine TL_seq ?_
      refine T_ret' ?_
      refine ret_of rfl (.slice (some ⟨B2.1, 0, none⟩) 0 B2.2) (fun tmps w hk hm => res1 rfl (res_tmp (hk 4 _ rfl))) (fun w hm => ?_)
      exact ⟨some ⟨B2.1, 0, none⟩, B2.2, rfl, hm.ext, hm.row 940 rfl⟩
    · replace h2 := of_decide_eq_false h2
      refine T_skip' ?_
      refine p_seq ?_
      refine T_seq (T_region ?_)
      refine TL_q (.slice none 0 0) (fun _ _ hρ _ => r_move (hρ _ _ rfl)) rfl rfl rfl (w_n rfl) ?_
      refine TL_q (.slice none 0 0) (fun _ _ hρ _ => r_assign (hρ _ _ rfl)) rfl rfl rfl (w_n rfl) ?_
      refine TL_seq ?_
      refine T_ret' ?_
      refine ret_of rfl (.slice none 0 0) (fun tmps w hk hm => res1 rfl (res_tmp (hk 4 _ rfl))) (fun w hm => ?_)
      exact ⟨none, 0, rfl, hm.ext, World.ownsRow_nil _ _ _ _⟩

set_option maxHeartbeats 1000000 in
theorem con_p (rs : List (RowG Pcl)) (a : Option Addr) (cap : Nat) (w : World) (hv : SliceAt w a cap 1 RowG.cells rs) (hcap : cap ≤ Go.maxLen) (hrs : ∀ r ∈ rs, SliceAt w r.a r.cap 3 Pcl.cells r.l ∧ r.cap ≤ Go.maxLen) (hn : (rs.flatMap RowG.l).length ≤ 1000000) (hk2 : rs.length ≤ 1000) : Calls Try.prog 136 #[.slice a rs.length cap] w fun e w' => ∃ a' cap', e = .returned (.slice a' (rs.flatMap RowG.l).length cap') ∧ Below w.heap.size w w' ∧ w'.ownsRow w.heap.size 36 3 (.slice a' (rs.flatMap RowG.l).length cap') (rs.flatMap RowG.l).length ((rs.flatMap RowG.l).flatMap Pcl.cells) := by
  have hvl := hv.1
  have hle9 := flat_leR rs rs.length
  rw [List.take_length] at hle9
  unfold Go.maxLen at hcap
  refine calls_of_T (l := [.slice a rs.length cap]) 36 Try.func136 rfl rfl rfl ?_
  show T _ _ _ [(0, .slice a rs.length cap)] []
  refine T_seq (T_region ?_)
  refine TL_q (.slice none 0 0) (fun _ _ hρ _ => r_assign (hρ _ _ rfl)) rfl rfl rfl (w_n rfl) ?_
  refine TL_seq ?_
  refine T_seq (T_region ?_)
  refine TL_q (.int .i64 0) (fun _ _ hρ _ => r_assign (hρ _ _ rfl)) rfl rfl rfl (w_n rfl) ?_
  refine TL_seq ?_
  refine T_seq ?_
  refine T_seq (T_region ?_)
  refine TL_q (.slice a rs.length cap) (fun _ _ hρ _ => r_move (hρ _ _ rfl)) rfl rfl rfl (w_n rfl) ?_
  refine TL_q (.int .i64 ((rs.length : Nat) : Int)) (fun _ _ hρ _ => r_len sl192 (hρ _ _ rfl)) rfl rfl rfl (w_n rfl) ?_
  refine TL_q (.int .i64 0) (fun _ _ hρ _ => r_move (hρ _ _ rfl)) rfl rfl rfl (w_n rfl) ?_
  refine TL_seq ?_
  refine T_block ?_
  refine T_loop (ι := Nat) (fun (k : Nat) => k ≤ rs.length) (fun (k : Nat) => [(0, .slice a rs.length cap), (2, .slice none 0 0), (9, .slice a rs.length cap), (10, .int .i64 ((rs.length : Nat) : Int)), (11, .int .i64 ((k : Nat) : Int)), (3, .int .i64 ((((rs.take k).flatMap RowG.l).length : Nat) : Int))]) (fun (k : Nat) => []) (fun (k : Nat) => rs.length - k) 0 (Nat.zero_le _) (sub_cons rfl (sub_cons rfl (sub_cons rfl (sub_cons rfl (sub_cons rfl (sub_cons rfl sub_nil)))))) sub_nil ?_
  rintro k hp
  have hk := hp
  show T _ _ _ [(0, .slice a rs.length cap), (2, .slice none 0 0), (9, .slice a rs.length cap), (10, .int .i64 ((rs.length : Nat) : Int)), (11, .int .i64 ((k : Nat) : Int)), (3, .int .i64 ((((rs.take k).flatMap RowG.l).length : Nat) : Int))] []
  refine T_seq (T_region ?_)
  refine TL_q (.bool (decide (((k : Nat) : Int) < ((rs.length : Nat) : Int)))) (fun _ _ hρ _ => r_lss (hρ _ _ rfl) (hρ _ _ rfl)) rfl rfl rfl (w_n rfl) ?_
  refine TL_seq ?_
  refine T_seq ?_
  refine T_cond rfl (fun h1 => ?_) (fun h1 => ?_)
  · replace h1 := of_decide_eq_true h1
    refine T_skip' ?_
    refine p_seq ?_
    refine T_seq ?_
    refine T_block ?_
    obtain ⟨r, hr⟩ : ∃ x, rs[k]? = some x := ⟨_, List.getElem?_eq_getElem (by omega)⟩
    have hro := hrs r (List.mem_of_getElem? hr)
    have hst := flat_stepR hr
    have hsl := congrArg List.length hst
    rw [List.length_append] at hsl
    have hrl := hro.1.1
    have hrc := hro.2
    unfold Go.maxLen at hrc
    have hle := flat_leR rs (k + 1)
    obtain ⟨b1, of1, cs1, T1, fz1, ha1, hq1, hr1⟩ := hv.open (i := k) (by omega)
    subst ha1
    refine T_seq (T_region ?_)
    refine TL_q (.pointer (some ⟨b1, of1 + k * 1, none⟩)) (fun _ _ hρ _ => r_indexAddrS (i := k) sl192 sz22 (hρ _ _ rfl) (hρ _ _ rfl) (by omega)) rfl rfl rfl (w_n rfl) ?_
    refine TL_q (.slice r.a r.l.length r.cap) (fun _ _ hρ hm => r_loadRow1 (f := RowG.cells) (u := r) ag22 (hρ _ _ rfl) (hm.old hq1) hr1 hr rfl) rfl rfl rfl (w_n rfl) ?_
    refine TL_q (.slice r.a r.l.length r.cap) (fun _ _ hρ _ => r_assign (hρ _ _ rfl)) rfl rfl rfl (w_n rfl) ?_
    refine TL_seq ?_
    refine T_seq (T_region ?_)
    refine TL_q (.int .i64 ((((rs.take k).flatMap RowG.l).length : Nat) : Int)) (fun _ _ hρ _ => r_move (hρ _ _ rfl)) rfl rfl rfl (w_n rfl) ?_
    refine TL_q (.slice r.a r.l.length r.cap) (fun _ _ hρ _ => r_move (hρ _ _ rfl)) rfl rfl rfl (w_n rfl) ?_
    refine TL_q (.int .i64 ((r.l.length : Nat) : Int)) (fun _ _ hρ _ => r_len sl22 (hρ _ _ rfl)) rfl rfl rfl (w_n rfl) ?_
    refine TL_q (.int .i64 (((((rs.take k).flatMap RowG.l).length) + r.l.length : Nat) : Int)) (fun _ _ hρ _ => r_as (r_add (hρ _ _ rfl) (hρ _ _ rfl)) (int_as ((wrap64 (by omega) (by omega)).trans (by omega)))) rfl rfl rfl (w_n rfl) ?_
    refine TL_q (.int .i64 (((((rs.take k).flatMap RowG.l).length) + r.l.length : Nat) : Int)) (fun _ _ hρ _ => r_assign (hρ _ _ rfl)) rfl rfl rfl (w_n rfl) ?_
    refine TL_seq ?_
    refine T_seq (T_region ?_)
    refine TL_q (.int .i64 (((((rs.take k).flatMap RowG.l).length) + r.l.length : Nat) : Int)) (fun _ _ hρ _ => r_move (hρ _ _ rfl)) rfl rfl rfl (w_n rfl) ?_
    refine TL_q (.bool false) (fun _ _ hρ _ => r_as (r_lss (hρ _ _ rfl) (hρ _ _ rfl)) (bool_as (decide_eq_false (by omega)))) rfl rfl rfl (w_n rfl) ?_
    refine TL_seq ?_
    refine T_cond_f rfl ?_
    refine T_skip' ?_
    refine p_blk_n ?_
    refine p_seq ?_
    refine T_region ?_
    refine TL_q (.int .i64 ((k + 1 : Nat) : Int)) (fun _ _ hρ _ => r_as (r_add (hρ _ _ rfl) (hρ _ _ rfl)) (int_as ((wrap64 (by omega) (by omega)).trans (by omega)))) rfl rfl rfl (w_n rfl) ?_
    refine TL_q (.int .i64 ((k + 1 : Nat) : Int)) (fun _ _ hρ _ => r_move (hρ _ _ rfl)) rfl rfl rfl (w_n rfl) ?_
    refine TL_nil ?_
    exact p_at (k + 1) ⟨by omega, by omega⟩ (sub_cons rfl (sub_cons rfl (sub_cons rfl (sub_cons rfl (sub_cons rfl (sub_cons (by rw [hst, List.length_append]; rfl) sub_nil)))))) sub_nil
  · replace h1 := of_decide_eq_false h1
    refine T_exit' ?_
    refine p_then_x ?_
    refine p_then_x ?_
    refine p_blk_x ?_
    refine p_seq ?_
    have hke : k = rs.length := by omega
    subst hke
    have hlz := flat_leR rs rs.length
    refine T_seq (T_region ?_)
    refine TL_q (.int .i64 ((((rs.take rs.length).flatMap RowG.l).length : Nat) : Int)) (fun _ _ hρ _ => r_move (hρ _ _ rfl)) rfl rfl rfl (w_n rfl) ?_
    refine TL_callN (fun (_ : Option Addr × Nat) => True) (fun (ag2, cg2) => .slice ag2 0 cg2) (fun (ag2, cg2) => [(941, .row (.slice ag2 0 cg2) 36 3 0 [])]) (fun _ _ hρ _ => r_call (args := [.slice none 0 0, .int .i64 ((((rs.take rs.length).flatMap RowG.l).length : Nat) : Int)]) (enters_of Try.func143 (by kernel_rfl) rfl) (hρ _ _ rfl) ((cons2 (hρ _ _ rfl) (cons2 (hρ _ _ rfl) rfl))) rfl) (fun w _ => (gro_p (((rs.take rs.length).flatMap RowG.l).length) w (by omega)).mono fun e w' ⟨a', cap', he, hb, hr⟩ => ⟨(a', cap'), trivial, he, hb, newOk1 941 hr⟩) rfl rfl rfl (w_n rfl) ?_
    rintro ⟨ag2, cg2⟩ -
    refine TL_q (.slice ag2 0 cg2) (fun _ _ hρ _ => r_assign (hρ _ _ rfl)) rfl rfl rfl (w_n rfl) ?_
    refine TL_seq ?_
    refine T_seq ?_
    refine T_seq (T_region ?_)
    refine TL_q (.slice a rs.length cap) (fun _ _ hρ _ => r_move (hρ _ _ rfl)) rfl rfl rfl (w_n rfl) ?_
    refine TL_q (.int .i64 ((rs.length : Nat) : Int)) (fun _ _ hρ _ => r_len sl192 (hρ _ _ rfl)) rfl rfl rfl (w_n rfl) ?_
    refine TL_q (.int .i64 0) (fun _ _ hρ _ => r_move (hρ _ _ rfl)) rfl rfl rfl (w_n rfl) ?_
    refine TL_seq ?_
    refine T_block ?_
    refine T_loop (ι := Nat × Option Addr × Nat) (fun (z : Nat × Option Addr × Nat) => match z with | (k, a2, cap2) => k ≤ rs.length) (fun (z : Nat × Option Addr × Nat) => match z with | (k, a2, cap2) => [(2, .slice none 0 0), (25, .slice a rs.length cap), (26, .int .i64 ((rs.length : Nat) : Int)), (27, .int .i64 ((k : Nat) : Int)), (6, .slice a2 (((rs.take k).flatMap RowG.l).length) cap2)]) (fun (z : Nat × Option Addr × Nat) => match z with | (k, a2, cap2) => [(941, .row (.slice a2 (((rs.take k).flatMap RowG.l).length) cap2) 36 3 (((rs.take k).flatMap RowG.l).length) (((rs.take k).flatMap RowG.l).flatMap Pcl.cells))]) (fun (z : Nat × Option Addr × Nat) => match z with | (k, a2, cap2) => rs.length - k) (0, ag2, cg2) (Nat.zero_le _) (sub_cons rfl (sub_cons rfl (sub_cons rfl (sub_cons rfl (sub_cons rfl sub_nil))))) (sub_cons rfl sub_nil) ?_
    rintro ⟨k, a2, cap2⟩ hp
    have hk := hp
    have hle0 := flat_leR rs k
    show T _ _ _ [(2, .slice none 0 0), (25, .slice a rs.length cap), (26, .int .i64 ((rs.length : Nat) : Int)), (27, .int .i64 ((k : Nat) : Int)), (6, .slice a2 (((rs.take k).flatMap RowG.l).length) cap2)] [(941, .row (.slice a2 (((rs.take k).flatMap RowG.l).length) cap2) 36 3 (((rs.take k).flatMap RowG.l).length) (((rs.take k).flatMap RowG.l).flatMap Pcl.cells))]
    refine T_seq (T_region ?_)
    refine TL_q (.bool (decide (((k : Nat) : Int) < ((rs.length : Nat) : Int)))) (fun _ _ hρ _ => r_lss (hρ _ _ rfl) (hρ _ _ rfl)) rfl rfl rfl (w_n rfl) ?_
    refine TL_seq ?_
    refine T_seq ?_
    refine T_cond rfl (fun h2 => ?_) (fun h2 => ?_)
    · replace h2 := of_decide_eq_true h2
      refine T_skip' ?_
      refine p_seq ?_
      refine T_seq ?_
      refine T_block ?_
      obtain ⟨r, hr⟩ : ∃ x, rs[k]? = some x := ⟨_, List.getElem?_eq_getElem (by omega)⟩
      have hro := hrs r (List.mem_of_getElem? hr)
      have hst := flat_stepR hr
      have hsl := congrArg List.length hst
      rw [List.length_append] at hsl
      have hrl := hro.1.1
      have hrc := hro.2
      unfold Go.maxLen at hrc
      have hle := flat_leR rs (k + 1)
      obtain ⟨b3, of3, cs3, T3, fz3, ha3, hq3, hr3⟩ := hv.open (i := k) (by omega)
      subst ha3
      refine T_seq (T_region ?_)
      refine TL_q (.pointer (some ⟨b3, of3 + k * 1, none⟩)) (fun _ _ hρ _ => r_indexAddrS (i := k) sl192 sz22 (hρ _ _ rfl) (hρ _ _ rfl) (by omega)) rfl rfl rfl (w_n rfl) ?_
      refine TL_q (.slice r.a r.l.length r.cap) (fun _ _ hρ hm => r_loadRow1 (f := RowG.cells) (u := r) ag22 (hρ _ _ rfl) (hm.old hq3) hr3 hr rfl) rfl rfl rfl (w_n rfl) ?_
      refine TL_q (.slice r.a r.l.length r.cap) (fun _ _ hρ _ => r_assign (hρ _ _ rfl)) rfl rfl rfl (w_n rfl) ?_
      refine TL_seq ?_
      refine T_region ?_
      refine TL_q (.slice a2 (((rs.take k).flatMap RowG.l).length) cap2) (fun _ _ hρ _ => r_move (hρ _ _ rfl)) rfl rfl rfl (w_n rfl) ?_
      refine TL_q (.slice r.a r.l.length r.cap) (fun _ _ hρ _ => r_move (hρ _ _ rfl)) rfl rfl rfl (w_n rfl) ?_
      refine TL_append (n := ((rs.take k).flatMap RowG.l).length) (m := r.l.length) (xs := (((rs.take k).flatMap RowG.l).flatMap Pcl.cells)) (news := (r.l.flatMap Pcl.cells)) (z := .agg #[.int .i64 0, .slice none 0 0, .bool false]) 941 rfl rfl rfl sl22 sz36 by36 (by kernel_rfl) rfl rfl (.inl rfl) (fun _ hm => by have := src_of Pcl.cells_len (hro.1.keep hm.ext); simpa using this) (rows_oneG Pcl.cells_one) (by omega) (by omega) rfl (w_n rfl) ?_
      intro a4 cap4
      refine TL_q (.slice a4 (((rs.take k).flatMap RowG.l).length + r.l.length) cap4) (fun _ _ hρ _ => r_assign (hρ _ _ rfl)) rfl rfl rfl (w_n rfl) ?_
      refine TL_nil ?_
      refine p_blk_n ?_
      refine p_seq ?_
      refine T_region ?_
      refine TL_q (.int .i64 ((k + 1 : Nat) : Int)) (fun _ _ hρ _ => r_as (r_add (hρ _ _ rfl) (hρ _ _ rfl)) (int_as ((wrap64 (by omega) (by omega)).trans (by omega)))) rfl rfl rfl (w_n rfl) ?_
      refine TL_q (.int .i64 ((k + 1 : Nat) : Int)) (fun _ _ hρ _ => r_move (hρ _ _ rfl)) rfl rfl rfl (w_n rfl) ?_
      refine TL_nil ?_
      have e1 : (((rs.take k).flatMap RowG.l).length + r.l.length) = ((rs.take (k + 1)).flatMap RowG.l).length := by rw [hst, List.length_append]
      have e2 : ((((rs.take k).flatMap RowG.l).flatMap Pcl.cells) ++ (r.l.flatMap Pcl.cells)) = ((rs.take (k + 1)).flatMap RowG.l).flatMap Pcl.cells := by rw [hst, List.flatMap_append]
      rw [e1, e2]
      exact p_at (k + 1, a4, cap4) ⟨by omega, by dsimp only; omega⟩ (sub_cons rfl (sub_cons rfl (sub_cons rfl (sub_cons rfl (sub_cons rfl sub_nil))))) (sub_cons rfl sub_nil)
    · replace h2 := of_decide_eq_false h2
      refine T_exit' ?_
      refine p_then_x ?_
      refine p_then_x ?_
      refine p_blk_x ?_
      refine p_seq ?_
      refine T_seq (T_region ?_)
      refine TL_q (.slice a2 (((rs.take k).flatMap RowG.l).length) cap2) (fun _ _ hρ _ => r_move (hρ _ _ rfl)) rfl rfl rfl (w_n rfl) ?_
      refine TL_q (.slice a2 (((rs.take k).flatMap RowG.l).length) cap2) (fun _ _ hρ _ => r_assign (hρ _ _ rfl)) rfl rfl rfl (w_n rfl) ?_
      refine TL_seq ?_
      refine T_ret' ?_
      refine ret_of rfl (.slice a2 (((rs.take k).flatMap RowG.l).length) cap2) (fun tmps w hk hm => res1 rfl (res_tmp (hk 2 _ rfl))) (fun w hm => ?_)
      have hke : k = rs.length := by omega
      subst hke
      rw [List.take_length]
      have hrow := hm.row 941 rfl
      rw [List.take_length] at hrow
      exact ⟨a2, cap2, rfl, hm.ext, hrow⟩
end Go.Proofs.Ytcidgbjgeegepaa
/- Panics, and what recovers of them. Over any program. -/
namespace Go.Proofs.Ytcidgbjgeegepaa
open Go Go.RowKit

section
variable {P : Program} {w : World} {ρ : Operand → Value} {d : Option Tmp} {ty : TypeId} {ps : String} {af : Array Edge} {g : Option (Nat × Bool)} {x : Operand}
theorem r_panic {t : TypeId} {v : Value} (h : ρ x = .iface t v) : (execOp ρ (mk d (.panic x) ty ps af g)).run P w = .halt (.panic (.iface t v)) w := by
  show (do pure (Next.value (← Instr.panic (ρ x))) : Sem Next).run P w = _
  rw [h]; rfl
theorem r_makeIface {t : TypeId} {v : Value} (ht : P.concrete t = true) (h : ρ x = v) : (execOp ρ (mk d (.makeInterface t x) ty ps af g)).run P w = .ok (.value (.iface t v)) w := by
  refine run_v ?_
  rw [h]; exact run_makeInterface _ _ _ ht
theorem r_typeAssert {t u : TypeId} {v r : Value} {ok : Bool} (h : ρ x = v) (hr : (Instr.typeAssert v t u ok).run P w = .ok r w) : (execOp ρ (mk d (.typeAssert x t u ok) ty ps af g)).run P w = .ok (.value r) w := by
  refine run_v ?_
  rw [h]; exact hr
variable {y : Operand}
/-- An interface value, against nil. -/
theorem r_eqI {op : BinOp} {t t' : TypeId} {a : Value} {r : Bool} (hg : (eqGuard op t x y a .nilIface).run P w = .ok () w) (hx : ρ x = a) (hy : ρ y = .nilIface) (h : (binOp op t a .nilIface).run P w = .ok (.bool r) w) :
    (execOp ρ (mk d (.binOp op t x y t') ty ps af g)).run P w = .ok (.value (.bool r)) w := run_eqv hg hx hy h
end
/-- A function's contract: it panics with a value. -/
def PAns (w₀ : World) {κ : Type} (q : κ → Prop) (x : κ → Value) (LX : κ → Heap) (e : Ending) (w' : World) : Prop := ∃ k, q k ∧ e = .panicked [{ v := x k, recovered := false }] ∧ MemOk w₀ (LX k) w'
section
variable {C : Cx} {ops : Array Oper} {os : List Oper} {Q : Post} {K : List (Nat × Value)} {L : Heap} {o : Oper} {ch : List PanicEntry}
theorem p_then_p {next : Act → World → Prop} (h : POk C Q (.panic ch) K L) : POk C (Exit.then next Q) (.panic ch) K L := h
theorem TL_panic {v : Value} (hr : ∀ ρ w, Rd K ρ → MemOk C.w₀ L w → (execOp ρ o).run C.P w = .halt (.panic v) w) (hn : isDefer o.op = false) (hw : Want ops K o true) (h : POk C Q (.panic [{ v, recovered := false }]) K L) : TL C ops (o :: os) Q K L := by
  intro a w hf hm
  unfold wpListIn
  rw [hw.is hf, if_pos rfl]
  exact step_panic hn (hr _ _ hf.rd hm) (h a w hf hm)
/-- A call that panics. -/
theorem TL_callP {κ : Type} {f : Nat} {args : Array Value} (q : κ → Prop) (x : κ → Value) (LX : κ → Heap) (hr : ∀ ρ w, Rd K ρ → MemOk C.w₀ L w → (execOp ρ o).run C.P w = .ok (.enter f args) w)
    (hc : ∀ w, MemOk C.w₀ L w → Calls C.P f args w (PAns C.w₀ q x LX)) (hn : isDefer o.op = false) (hw : Want ops K o true)
    (h : ∀ k, q k → POk C Q (.panic [{ v := x k, recovered := false }]) K (LX k)) : TL C ops (o :: os) Q K L := by
  intro a w hf hm
  unfold wpListIn
  rw [hw.is hf, if_pos rfl]
  refine step_enter hn (hr _ _ hf.rd hm) (hc w hm) ?_
  rintro e w' ⟨k, hk, rfl, hm'⟩
  exact h k hk _ _ hf hm'
/-- The same, of a callee that leaves memory as it was. -/
theorem TL_callQ {f : Nat} {args : Array Value} {v : Value} (hr : ∀ ρ w, Rd K ρ → MemOk C.w₀ L w → (execOp ρ o).run C.P w = .ok (.enter f args) w)
    (hc : ∀ w, MemOk C.w₀ L w → Calls C.P f args w fun e w' => e = .panicked [{ v, recovered := false }] ∧ Below w.heap.size w w') (hn : isDefer o.op = false) (hw : Want ops K o true)
    (h : POk C Q (.panic [{ v, recovered := false }]) K L) : TL C ops (o :: os) Q K L :=
  TL_callP (κ := Unit) (fun _ => True) (fun _ => v) (fun _ => L) hr (fun w hm => (hc w hm).mono fun e w' ⟨he, hb⟩ => ⟨(), trivial, he, hm.below hb⟩) hn hw fun _ _ => h
theorem p_pan {fn : Func} {R : Ending → World → Prop} (hD : C.D = []) (hR : ∀ w, MemOk C.w₀ L w → R (.panicked ch) w) : POk C (bodyM C.P fn R) (.panic ch) K L := fun a w hf hm => by
  show LeavesInM _ _ _ _ _ _ _ _ _
  rw [hf.defers.trans hD]
  exact hR w hm
theorem p_panD {fn : Func} {R : Ending → World → Prop} (ds : List Deferred) (hD : C.D = ds)
    (h : ∀ tmps, (∀ t u, lk K t = some u → tmps.getD t undef = u) → ∀ w, MemOk C.w₀ L w → Leaves C.P fn tmps R ds (.panicking ch) w) : POk C (bodyPostD C.P fn R) (.panic ch) K L := fun a w hf hm => by
  show Leaves _ _ _ _ a.defers _ _
  rw [hf.defers.trans hD]
  exact h _ hf.knows w hm
end
/-- Behind a panic: the deferred call recovers of it. -/
theorem leavesP_cons {P : Program} {w₀ : World} {fn : Func} {tmps : Array Value} {R : Ending → World → Prop} {f : Nat} {cap args : Array Value} {ds : List Deferred} {L L' : Heap} {v x : Value} (hE : Enters P f)
    (hc : ∀ w, MemOk w₀ L w → CallsD P f (args ++ cap) (.panicking [{ v := x, recovered := false }]) w fun e u' w' => u' = .panicking [{ v := x, recovered := true }] ∧ (e = .returned v ∧ MemOk w₀ L' w')) (h : ∀ w, MemOk w₀ L' w → Leaves P fn tmps R ds .returning w) :
    ∀ w, MemOk w₀ L w → Leaves P fn tmps R ({ target := .fn (.func f) cap, args := args } :: ds) (.panicking [{ v := x, recovered := false }]) w := fun w hm => by
  refine ⟨by simp, .func f, cap, f, args ++ cap, rfl, hE _ w, (hc w hm).mono ?_⟩
  rintro e u' w' ⟨rfl, rfl, hm'⟩
  exact h w' hm'
/-- The modes of the frame that put off a call: ahead of 'recover', behind it, and what it gives. -/
def RecM (u u' : FrameMode) (v : Value) : Prop := (u = .returning ∧ u' = .returning ∧ v = .nilIface) ∨ (u = .panicking [{ v, recovered := false }] ∧ u' = .panicking [{ v, recovered := true }])
/-- The contract of a deferred call that begins with 'x := recover()'. -/
theorem dS_of_T {P : Program} {f : FuncId} {fn : Func} {c : Code} {id : Nat} {oR oA : Oper} {dR dA : Nat} {l : List Value} {w₀ : World} {L : Heap} {R : Ending → World → Prop} (N : Nat) {u u' : FrameMode} {v : Value} (hu : RecM u u' v)
    (hf : P.funcs[f]? = some fn) (hN : fn.ntmps = N) (hn : Nat.ble l.length N = true) (hb : fn.body = some (.seq (.region id #[oR, oA] false) c))
    (hgR : oR.guard = none) (hdR : oR.dst = some dR) (hrR : ∀ ρ w, (execOp ρ oR).run P w = .ok .recover w) (hgA : oA.guard = none) (hdA : oA.dst = some dA) (hrA : ∀ ρ w, (execOp ρ oA).run P w = .ok (.value (ρ (.tmp dR))) w)
    (hlR : Nat.blt dR N = true) (hlA : Nat.blt dA N = true)
    (h : T ⟨P, w₀, N, [], none⟩ c (bodyPost P fn R) ((dA, v) :: (dR, v) :: argsK 0 l) L) : ∀ w, MemOk w₀ L w → CallsD P f l.toArray u w fun e m w' => m = u' ∧ R e w' := by
  intro w hm
  subst hN
  replace hn := Nat.le_of_ble_eq_true hn
  refine callsD_of_wpS hf hb fun c₀ cs hmode => ?_
  apply wpS_seq
  apply wpS_region
  have hfr : FrOk fn.ntmps [] (argsK 0 l) { tmps := l.toArray ++ Array.replicate (fn.ntmps - l.toArray.size) undef, defers := [] } := by
    refine lk_args (by simpa using hn) _ (fun t v ht => ?_)
    obtain ⟨_, h2⟩ := argsK_lk l 0 t v ht
    simpa using h2
  obtain ⟨a, ha⟩ : ∃ a : Act, { tmps := l.toArray ++ Array.replicate (fn.ntmps - l.toArray.size) undef, defers := [] } = a := ⟨_, rfl⟩
  rw [ha] at hfr ⊢
  have hf1 := hfr.put v hlR
  have hev : (a.put (some dR) v).eval (.tmp dR) = v := hf1.knows _ _ (lk_cons_same _ _ _)
  have hf2 := hf1.put v hlA
  have key := wpIn_wide.1 (h _ w hf2 hm)
  have fin : ∀ u'', u'' = u' → (Code.wpS P c (bodyPostS P fn c₀ cs fun e m w' => m = u' ∧ R e w') ((a.put (some dR) v).put (some dA) v) ({ c₀ with mode := u'' } :: cs) w) := by
    rintro _ rfl
    refine wpS_of_wp (Code.wp_mono ?_ key)
    intro e a' w' he
    cases e with
    | normal => obtain ⟨h1, x, h2, h3⟩ := he; exact ⟨h1, _, rfl, x, h2, rfl, h3⟩
    | ret => obtain ⟨h1, x, h2, h3⟩ := he; exact ⟨h1, _, rfl, x, h2, rfl, h3⟩
    | exit id => exact he.elim
    | goto l => exact he.elim
    | panic ch => exact ⟨he.1, _, rfl, rfl, he.2⟩
    | outgrown => exact ⟨_, rfl, he⟩
  show wpOpsS P #[oR, oA] _ [0, 1] a (c₀ :: cs) w
  have hwR : ∀ j, Region.wanted oR j = true := fun j => by unfold Region.wanted; rw [hgR]
  have hwA : ∀ j, Region.wanted oA j = true := fun j => by unfold Region.wanted; rw [hgA]
  simp only [wpOpsS, List.getElem?_toArray, List.getElem?_cons_zero, List.getElem?_cons_succ, hwR, hwA, if_true, hrR, hrA, hdR, hdA, Oper.upon]
  rcases hu with ⟨rfl, rfl, rfl⟩ | ⟨rfl, rfl⟩
  · simp only [recoverD, hmode]
    rw [hev]
    have := fin _ rfl
    rwa [show ({ c₀ with mode := FrameMode.returning } : Frame) = c₀ by rw [← hmode]] at this
  · simp only [recoverD, hmode]
    rw [hev]
    exact fin _ rfl
/-! ### lists of what is known, told otherwise -/
theorem lk_none_of {A : Heap} {k : Nat} (h : ∀ p ∈ A, p.1 ≠ k) : lk A k = none := by
  induction A with
  | nil => rfl
  | cons a A ih =>
    rw [show a :: A = (a.1, a.2) :: A from rfl, lk_cons_other _ _ (h a (by simp))]
    exact ih fun p hp => h p (by simp [hp])
theorem lk_key {A : Heap} {k : Nat} {q : Res} (h : lk A k = some q) : ∃ p ∈ A, p.1 = k := by
  by_cases e : ∃ p ∈ A, p.1 = k
  · exact e
  · rw [lk_none_of (fun p hp e2 => e ⟨p, hp, e2⟩)] at h; cases h
/-- What is ahead, put behind. -/
theorem lk_front {N L : Heap} (A : Heap) (h : ∀ p ∈ A, lk N p.1 = none) : ∀ k q, lk (A ++ (N ++ L)) k = some q → lk (N ++ (A ++ L)) k = some q := fun k q hk => by
  rw [lk_append] at hk
  rw [lk_append]
  cases hA : lk A k with
  | some r =>
    rw [hA] at hk
    obtain ⟨p, hp, rfl⟩ := lk_key hA
    rw [h p hp]
    show lk (A ++ L) p.1 = _
    rw [lk_append, hA]; exact hk
  | none =>
    rw [hA] at hk
    replace hk : lk (N ++ L) k = some q := hk
    rw [lk_append] at hk
    cases hN : lk N k with
    | some r => rw [hN] at hk; exact hk
    | none => rw [hN] at hk; show lk (A ++ L) k = _; rw [lk_append, hA]; exact hk
/-- What is of no more use. -/
theorem lk_drop {L : Heap} (A : Heap) (h : ∀ p ∈ A, lk L p.1 = none) : ∀ k q, lk L k = some q → lk (A ++ L) k = some q := fun k q hk => by
  rw [lk_append]
  cases hA : lk A k with
  | some r => obtain ⟨p, hp, rfl⟩ := lk_key hA; rw [h p hp] at hk; cases hk
  | none => exact hk
/-- What is told anew ahead. -/
theorem lk_mid {L : Heap} (A M : Heap) (h : (M.map (·.1)).all (fun i => (A.map (·.1)).contains i) = true) : ∀ k q, lk (A ++ L) k = some q → lk (A ++ (M ++ L)) k = some q := fun k q hk => by
  rw [lk_append] at hk ⊢
  cases hA : lk A k with
  | some r => rw [hA] at hk; exact hk
  | none =>
    rw [hA] at hk
    show lk (M ++ L) k = _
    rw [lk_append]
    cases hM : lk M k with
    | none => exact hk
    | some r =>
      exfalso
      obtain ⟨p, hp, rfl⟩ := lk_key hM
      have := List.all_eq_true.1 h p.1 (List.mem_map_of_mem hp)
      rw [List.contains_iff_mem, List.mem_map] at this
      obtain ⟨z, hz, hzp⟩ := this
      rcases List.append_of_mem hz with ⟨s, t, rfl⟩
      have key : ∀ (s : Heap), lk (s ++ z :: t) p.1 ≠ none := fun s => by
        induction s with
        | nil => rw [List.nil_append, show z :: t = (z.1, z.2) :: t from rfl, hzp, lk_cons_same]; exact fun e => by cases e
        | cons a s ih =>
          rw [List.cons_append, show a :: (s ++ z :: t) = (a.1, a.2) :: (s ++ z :: t) from rfl]
          by_cases e : a.1 = p.1
          · rw [e, lk_cons_same]; exact fun e => by cases e
          · rw [lk_cons_other _ _ e]; exact ih
      exact key s hA
theorem lk_app_none {N L : Heap} {i : Nat} (h1 : lk N i = none) (h2 : lk L i = none) : lk (N ++ L) i = none := by rw [lk_append, h1]; exact h2
end Go.Proofs.Ytcidgbjgeegepaa
/- Contracts over an open list of what is known of memory: numbers that are free, entries told again. Over any program. -/
namespace Go.Proofs.Ytcidgbjgeegepaa
open Go Go.RowKit
/-- No entry bears a number from a on, below b. -/
def NoIds (L : Heap) (a b : Nat) : Prop := ∀ k, a ≤ k → k < b → lk L k = none
theorem NoIds.sub {L : Heap} {a b c d : Nat} (h : NoIds L a b) (h1 : Nat.ble a c = true) (h2 : Nat.ble d b = true) : NoIds L c d := fun k hk hk2 => h k (Nat.le_trans (Nat.le_of_ble_eq_true h1) hk) (Nat.lt_of_lt_of_le hk2 (Nat.le_of_ble_eq_true h2))
theorem noIds_app {F L : Heap} {a b : Nat} (h : (F.map (·.1)).all (fun i => Nat.blt i a || Nat.ble b i) = true) (hL : NoIds L a b) : NoIds (F ++ L) a b := fun k h1 h2 => by
  refine lk_app_none (lk_none_of fun p hp e => ?_) (hL k h1 h2)
  have := List.all_eq_true.1 h p.1 (List.mem_map.2 ⟨p, hp, rfl⟩)
  rw [Bool.or_eq_true, Nat.blt_eq] at this
  rcases this with h3 | h3
  · omega
  · have := Nat.le_of_ble_eq_true h3; omega
theorem noIds_cons {p : Nat × Res} {L : Heap} {a b : Nat} (h : (Nat.blt p.1 a || Nat.ble b p.1) = true) (hL : NoIds L a b) : NoIds (p :: L) a b := noIds_app (F := [p]) (by simp only [List.map_cons, List.map_nil, List.all_cons, List.all_nil, Bool.and_true]; exact h) hL
theorem lk_ids {L : Heap} {i : Nat} (h : NoIds L i (i + 1)) : lk L i = none := h i (Nat.le_refl _) (Nat.lt_succ_self _)
theorem noIds_nil (a b : Nat) : NoIds [] a b := fun _ _ _ => rfl
theorem lk_dups {A L : Heap} (h : SubK L A) : ∀ k q, lk (A ++ L) k = some q → lk L k = some q := fun k q hk => by
  rw [lk_append] at hk
  cases e : lk A k with
  | some r => rw [e] at hk; cases hk; exact h.get k q e
  | none => rw [e] at hk; exact hk
theorem lk_fin {F T L : Heap} {a b : Nat} (hT : SubK F T) (hk : (F.map (·.1)).all (fun i => (T.map (·.1)).contains i || (Nat.ble a i && Nat.blt i b)) = true) (hL : NoIds L a b) : ∀ k q, lk (T ++ L) k = some q → lk (F ++ L) k = some q := fun k q h => by
  rw [lk_append] at h ⊢
  cases e : lk T k with
  | some r => rw [e] at h; cases h; rw [hT.get k q e]
  | none =>
    rw [e] at h
    cases e2 : lk F k with
    | none => exact h
    | some r =>
      obtain ⟨p, hp, rfl⟩ := lk_key e2
      have := List.all_eq_true.1 hk p.1 (List.mem_map.2 ⟨p, hp, rfl⟩)
      rw [Bool.or_eq_true] at this
      rcases this with h1 | h1
      · exfalso
        obtain ⟨t, ht, e3⟩ := List.mem_map.1 (List.contains_iff_mem.1 h1)
        have : ∀ (A : Heap), t ∈ A → ∃ r, lk A t.1 = some r := fun A => by
          induction A with
          | nil => intro h; cases h
          | cons x A ih =>
            intro h
            by_cases e4 : x.1 = t.1
            · exact ⟨x.2, by rw [← e4]; exact lk_cons_same _ _ _⟩
            · rw [lk_cons_other _ _ e4]
              rcases List.mem_cons.1 h with rfl | h
              · exact absurd rfl e4
              · exact ih h
        obtain ⟨r', hr'⟩ := this T ht
        rw [e3] at hr'
        rw [hr'] at e; cases e
      · rw [Bool.and_eq_true, Nat.blt_eq] at h1
        have h2 := hL p.1 (Nat.le_of_ble_eq_true h1.1) h1.2
        rw [h2] at h; cases h
/-- A thing under another number. -/
theorem MemOk.move {w₀ w : World} {L : Heap} (h : MemOk w₀ L w) (i j : Nat) {r : Res} (hj : lk L j = some r) (hne : Nat.beq i j = false) : MemOk w₀ ((i, r) :: (j, .no) :: L) w := by
  have hij : i ≠ j := fun e => by subst e; rw [Nat.beq_refl] at hne; cases hne
  have h0 : MemOk w₀ ((j, .no) :: L) w := h.set j _ h.ext ⟨trivial, (fun _ hb => hb.elim), fun _ _ _ _ => trivial⟩ (fun _ _ _ _ b _ => ⟨rfl, id⟩)
  refine h0.set i r h0.ext (h.own j r hj) (fun k q hk hne' b hb => ⟨rfl, fun hr => ?_⟩)
  by_cases e2 : j = k
  · subst e2; rw [lk_cons_same] at hk; cases hk; exact hb
  · rw [lk_cons_other _ _ e2] at hk
    exact h.sep j k r q hj hk e2 b hr hb
section
variable {C : Cx} {Q : Post} {K : List (Nat × Value)} {L : Heap}
theorem T_loopT {ι : Type} (p : ι → Prop) (KI : ι → List (Nat × Value)) (LI : ι → Heap) (μ : ι → Nat) (i₀ : ι) (hp : p i₀) (hK : SubK K (KI i₀)) (hL : ∀ k q, lk (LI i₀) k = some q → lk L k = some q) {c : Code}
    (hround : ∀ i, p i → T C c (Exit.then (At C (fun j => p j ∧ μ j < μ i) KI LI) Q) (KI i) (LI i)) : T C (.loop c) Q K L := fun a w hf hm => T_loopE (L := LI i₀) p KI LI μ i₀ hp hK rfl hround a w hf (hm.of hL)
theorem p_atT {ι : Type} {p : ι → Prop} {KI : ι → List (Nat × Value)} {LI : ι → Heap} (i : ι) (hp : p i) (hK : SubK K (KI i)) (hL : ∀ k q, lk (LI i) k = some q → lk L k = some q) : POk C (Exit.then (At C p KI LI) Q) .normal K L := fun a w hf hm => p_atE (L := LI i) i hp hK rfl a w hf (hm.of hL)
end
end Go.Proofs.Ytcidgbjgeegepaa
/- net: a hand in memory. -/
namespace Go.Proofs.Ytcidgbjgeegepaa
open Go Go.RowKit
/-- A net that is worked on, and what was told. -/
structure Hd where
  n : NetR
  lost : Int
  t : NetR
abbrev handO (h : Hd) : Obj := .cells #[.slice h.n.a h.n.l.length h.n.cap, .int .u64 h.lost, .slice h.t.a h.t.l.length h.t.cap] 104
abbrev rowP (n : NetR) : Res := .row (.slice n.a n.l.length n.cap) 36 3 n.l.length (n.l.flatMap Pcl.cells)
abbrev hdL (H : Nat) (h : Hd) (bs : List (RowG By)) : Heap := [(900, .blk H (handO h)), (901, rowP h.n), (902, rowP h.t), (903, .pool 5 1 byc bs)]
/-- Its parcels' bytes are one's own. -/
def InB (bs : List (RowG By)) (l : List Pcl) : Prop := ∀ p ∈ l, p.r ∈ bs ∧ p.r.l.length ≤ 10000
structure HdOk (h : Hd) (bs : List (RowG By)) : Prop where
  len : h.n.l.length ≤ 64
  lost0 : 0 ≤ h.lost
  lost1 : h.lost ≤ MT
  inN : InB bs h.n.l
  inT : InB bs h.t.l
abbrev Hd.nv (h : Hd) : NV := (pvs h.n.l, h.lost)
theorem InB.mono {bs cs : List (RowG By)} {l : List Pcl} (h : InB bs l) (hs : ∀ b ∈ bs, b ∈ cs) : InB cs l := fun p hp => ⟨hs _ (h p hp).1, (h p hp).2⟩
theorem InB.push {bs : List (RowG By)} {l : List Pcl} {b : RowG By} (h : InB bs l) : InB (bs ++ [b]) l := h.mono fun _ hb => List.mem_append_left _ hb
theorem InB.snoc {bs : List (RowG By)} {l : List Pcl} {p : Pcl} (h : InB bs l) (hp : p.r ∈ bs) (hl : p.r.l.length ≤ 10000) : InB bs (l ++ [p]) := fun q hq => by
  rcases List.mem_append.1 hq with h1 | h1
  · exact h q h1
  · rw [List.mem_singleton.1 h1]; exact ⟨hp, hl⟩
theorem InB.sub {bs : List (RowG By)} {l m : List Pcl} (h : InB bs l) (hs : ∀ p ∈ m, p ∈ l) : InB bs m := fun p hp => h p (hs p hp)
theorem InB.nil (bs : List (RowG By)) : InB bs [] := fun _ h => nomatch h
theorem mem_last {α : Type} (l : List α) (x : α) : x ∈ l ++ [x] := List.mem_append_right _ (List.mem_singleton.2 rfl)
theorem pvs_snoc (l : List Pcl) (p : Pcl) : pvs (l ++ [p]) = pvs l ++ [p.pv] := by unfold pvs; rw [List.map_append]; rfl
theorem pvs_len (l : List Pcl) : (pvs l).length = l.length := List.length_map _
theorem putV_room {l : List Pcl} {lost : Int} {p q : Pcl} (h : l.length < 64) (e : q.pv = p.pv) : (pvs (l ++ [q]), lost) = putV (pvs l, lost) p.pv := by
  unfold putV
  rw [if_pos (show (pvs l).length < 64 by rw [pvs_len]; exact h), pvs_snoc, e]
theorem putV_full {l : List Pcl} {lost : Int} {p : Pcl} (h : l.length = 64) (h1 : lost ≤ MT) : (pvs l, if 4611686018427387904 < lost + 1 then 4611686018427387904 else lost + 1) = putV (pvs l, lost) p.pv := by
  unfold putV
  rw [if_neg (show ¬ (pvs l).length < 64 by rw [pvs_len]; omega)]
  unfold MT at h1 ⊢
  by_cases e : lost < 4611686018427387904
  · rw [if_pos e, if_neg (by omega)]
  · rw [if_neg e, if_pos (by omega), show lost = 4611686018427387904 by omega]
theorem erase_td {α : Type} (l : List α) (i : Nat) : l.take i ++ l.drop (i + 1) = l.eraseIdx i := (List.eraseIdx_eq_take_drop_succ l i).symm
theorem pvs_erase (l : List Pcl) (i : Nat) : pvs (l.eraseIdx i) = (pvs l).eraseIdx i := by unfold pvs; rw [List.eraseIdx_eq_take_drop_succ, List.eraseIdx_eq_take_drop_succ, List.map_append, List.map_take, List.map_drop]
theorem pvs_set (l : List Pcl) (i : Nat) (p : Pcl) : pvs (l.set i p) = (pvs l).set i p.pv := by unfold pvs; exact List.map_set
theorem pvs_get {l : List Pcl} {i : Nat} {p : Pcl} (h : l[i]? = some p) : (pvs l)[i]? = some p.pv := by unfold pvs; rw [List.getElem?_map, h]; rfl
theorem HdOk.told {h : Hd} {bs : List (RowG By)} {i : Nat} {p : Pcl} {a : Option Addr} {c : Nat} (hh : HdOk h bs) (hp : h.n.l[i]? = some p) : HdOk { h with t := ⟨a, c, h.t.l ++ [p]⟩ } bs :=
  ⟨hh.len, hh.lost0, hh.lost1, hh.inN, hh.inT.snoc (hh.inN p (List.mem_of_getElem? hp)).1 (hh.inN p (List.mem_of_getElem? hp)).2⟩
theorem HdOk.cut {h : Hd} {bs : List (RowG By)} {i : Nat} {a : Option Addr} {c : Nat} (hh : HdOk h bs) : HdOk { h with n := ⟨a, c, h.n.l.eraseIdx i⟩ } bs :=
  ⟨Nat.le_trans (List.length_eraseIdx_le _ _) hh.len, hh.lost0, hh.lost1, hh.inN.sub fun _ hq => List.mem_of_mem_eraseIdx hq, hh.inT⟩
theorem HdOk.set {h : Hd} {bs cs : List (RowG By)} {i : Nat} {p : Pcl} {a : Option Addr} {c : Nat} (hh : HdOk h bs) (hs : ∀ b ∈ bs, b ∈ cs) (hp : p.r ∈ cs) (hl : p.r.l.length ≤ 10000) : HdOk { h with n := ⟨a, c, h.n.l.set i p⟩ } cs :=
  ⟨(by dsimp only; rw [List.length_set]; exact hh.len), hh.lost0, hh.lost1, fun q hq => (List.mem_or_eq_of_mem_set hq).elim (hh.inN.mono hs q) (fun e => e ▸ ⟨hp, hl⟩), hh.inT.mono hs⟩
/-- What a trick has done. -/
structure Done (h : Hd) (bs : List (RowG By)) (t : Trk) (x : Hd × List (RowG By)) : Prop where
  nv : x.1.nv = (doV h.nv t).2.1
  told : pvs x.1.t.l = pvs h.t.l ++ (doV h.nv t).2.2
  ok : HdOk x.1 x.2
  bs : ∀ b ∈ bs, b ∈ x.2
  len : x.1.t.l.length ≤ h.t.l.length + 1
theorem doV_get {h : Hd} {k tb : Int} {i : Nat} {tm : Wd} {p : Pcl} (hk : 1 ≤ k ∧ k ≤ 4) (hp : h.n.l[i]? = some p) : doV h.nv ⟨k, i, tb, tm⟩ =
    if k = 1 then ((0 : Int), ((pvs h.n.l).eraseIdx i, h.lost), [p.pv]) else if k = 2 then (0, ((pvs h.n.l).eraseIdx i, h.lost), []) else if k = 3 then (0, putV h.nv p.pv, []) else if p.sp = true then (5, h.nv, [])
    else match spoilI p.r.l tb tm with | none => (2, h.nv, []) | some b => (0, ((pvs h.n.l).set i ⟨p.to, b, true⟩, h.lost), []) := by
  unfold doV
  have e : h.nv.1[(i : Int).toNat]? = some p.pv := pvs_get hp
  rw [if_neg (fun e => e hk), if_pos (Int.natCast_nonneg i)]
  dsimp only
  rw [e]
  rfl
theorem done_take {h : Hd} {bs : List (RowG By)} {tb : Int} {i : Nat} {tm : Wd} {p : Pcl} {a b : Option Addr} {c d : Nat} (hh : HdOk h bs) (hp : h.n.l[i]? = some p) : Done h bs ⟨1, i, tb, tm⟩ ({ h with n := ⟨a, c, h.n.l.eraseIdx i⟩, t := ⟨b, d, h.t.l ++ [p]⟩ }, bs) := by
  refine ⟨?_, ?_, (hh.told hp).cut, fun _ h => h, by simp⟩
  · rw [doV_get ⟨by decide, by decide⟩ hp, if_pos rfl]; unfold Hd.nv; rw [pvs_erase]
  · rw [doV_get ⟨by decide, by decide⟩ hp, if_pos rfl]; exact pvs_snoc _ _
theorem done_drop {h : Hd} {bs : List (RowG By)} {tb : Int} {i : Nat} {tm : Wd} {p : Pcl} {a : Option Addr} {c : Nat} (hh : HdOk h bs) (hp : h.n.l[i]? = some p) : Done h bs ⟨2, i, tb, tm⟩ ({ h with n := ⟨a, c, h.n.l.eraseIdx i⟩ }, bs) := by
  refine ⟨?_, ?_, hh.cut, fun _ h => h, Nat.le_succ _⟩
  · rw [doV_get ⟨by decide, by decide⟩ hp, if_neg (by decide), if_pos rfl]; unfold Hd.nv; rw [pvs_erase]
  · rw [doV_get ⟨by decide, by decide⟩ hp, if_neg (by decide), if_pos rfl]; exact (List.append_nil _).symm
theorem done_twice {h : Hd} {bs : List (RowG By)} {tb : Int} {i : Nat} {tm : Wd} {p : Pcl} {x : Hd × List (RowG By)} (hp : h.n.l[i]? = some p) (hx : x.1.nv = putV h.nv p.pv) (hk : HdOk x.1 x.2) (ht : x.1.t = h.t) (hs : ∀ b ∈ bs, b ∈ x.2) : Done h bs ⟨3, i, tb, tm⟩ x := by
  refine ⟨?_, ?_, hk, hs, by rw [ht]; exact Nat.le_succ _⟩
  · rw [doV_get ⟨by decide, by decide⟩ hp, if_neg (by decide), if_neg (by decide), if_pos rfl]; exact hx
  · rw [doV_get ⟨by decide, by decide⟩ hp, if_neg (by decide), if_neg (by decide), if_pos rfl, ht]; exact (List.append_nil _).symm
theorem done_spoil {h : Hd} {bs : List (RowG By)} {tb : Int} {i : Nat} {tm : Wd} {p : Pcl} {b : List By} {a a2 : Option Addr} {c c2 : Nat} (hh : HdOk h bs) (hp : h.n.l[i]? = some p) (h0 : p.sp = false) (hb : spoilI p.r.l tb tm = some b) (hl : b.length = p.r.l.length) :
    Done h bs ⟨4, i, tb, tm⟩ ({ h with n := ⟨a, c, h.n.l.set i ⟨p.to, ⟨a2, c2, b⟩, true⟩⟩ }, bs ++ [⟨a2, c2, b⟩]) := by
  have e : doV h.nv ⟨4, i, tb, tm⟩ = (0, ((pvs h.n.l).set i ⟨p.to, b, true⟩, h.lost), []) := by
    rw [doV_get ⟨by decide, by decide⟩ hp, if_neg (by decide), if_neg (by decide), if_neg (by decide), if_neg (by rw [h0]; decide), hb]
  refine ⟨?_, ?_, hh.set (fun _ h => List.mem_append_left _ h) (mem_last _ _) (by dsimp only; rw [hl]; exact (hh.inN p (List.mem_of_getElem? hp)).2), fun _ h => List.mem_append_left _ h, Nat.le_succ _⟩
  · rw [e]; unfold Hd.nv; rw [pvs_set]
  · rw [e]; exact (List.append_nil _).symm
/-- A trick that comes to nothing. -/
theorem done_no {h : Hd} {bs : List (RowG By)} {t : Trk} {e : Int} (hh : HdOk h bs) (he : doV h.nv t = (e, h.nv, [])) : Done h bs t (h, bs) := ⟨by rw [he], by rw [he]; exact (List.append_nil _).symm, hh, fun _ h => h, Nat.le_succ _⟩
end Go.Proofs.Ytcidgbjgeegepaa
