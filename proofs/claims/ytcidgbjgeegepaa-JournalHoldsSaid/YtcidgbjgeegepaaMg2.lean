/- Texts of this seat, merged: part 2. -/
import Derived.Test.YtcidgbjgeegepaaMg1
import Derived.Maps.RangeRun
import Derived.ScopeJumps
import Derived.Recover
import Derived.Laws.Build
import Derived.WideLaws
/- crc: slices of bytes, Table, Seal. Printed by a program of this seat's prover. -/
namespace Go.Proofs.Ytcidgbjgeegepaa
open Go Go.RowKit
set_option maxRecDepth 10000
theorem byc_one : ∀ x, ∀ u ∈ byc x, u.oneCell' = true := fun x u hu => by rw [List.mem_singleton.1 hu]; rfl
theorem row_cap {w : World} {base n s cap : Nat} {e : TypeId} {a : Option Addr} {xs : List Value} (h : w.ownsRow base e s (.slice a n cap) n xs) : cap ≤ Go.maxLen := by
  rcases h.2 with ⟨h1, _⟩ | ⟨g, cap', cur, h1, _, _, _, h5, _⟩
  · cases h1; decide
  · cases h1; exact h5

theorem clone_b {α : Type} (f : α → List Value) (hf : ∀ x, (f x).length = 1) (ho : ∀ x, ∀ u ∈ f x, u.oneCell' = true) (l : List α) (a : Option Addr) (cap : Nat) (w : World) (hv : SliceAt w a cap 1 f l) (hlen : l.length * 1 ≤ 140737488355328) :
    Calls Try.prog 37 #[.slice a l.length cap] w fun e w' => ∃ a' cap', e = .returned (.slice a' l.length cap') ∧ Below w.heap.size w w' ∧ w'.ownsRow w.heap.size 5 1 (.slice a' l.length cap') l.length (l.flatMap f) := by
  refine calls_of_T (l := [.slice a l.length cap]) 8 Try.func37 rfl rfl rfl ?_
  show T _ _ _ [(0, .slice a l.length cap)] []
  refine T_seq (T_region ?_)
  refine TL_q (.slice none 0 0) (fun _ _ hρ _ => r_assign (hρ _ _ rfl)) rfl rfl rfl (w_n rfl) ?_
  refine TL_seq ?_
  refine T_seq ?_
  refine T_seq (T_region ?_)
  refine TL_q (.slice a l.length cap) (fun _ _ hρ _ => r_move (hρ _ _ rfl)) rfl rfl rfl (w_n rfl) ?_
  refine TL_q (.bool a.isNone) (fun _ _ hρ _ => r_eqlSn sl34 (hρ _ _ rfl) (hρ _ _ rfl)) rfl rfl rfl (w_n rfl) ?_
  refine TL_seq ?_
  refine T_cond rfl (fun h1 => ?_) (fun h1 => ?_)
  · skip
    refine T_seq (T_region ?_)
    refine TL_q (.slice none 0 0) (fun _ _ hρ _ => r_assign (hρ _ _ rfl)) rfl rfl rfl (w_n rfl) ?_
    refine TL_seq ?_
    refine T_ret' ?_
    refine p_then_r ?_
    refine ret_of rfl (.slice none 0 0) (fun tmps w hk hm => res1 rfl (res_tmp (hk 2 _ rfl))) (fun w hm => ?_)
    have e0 : a = none := Option.isNone_iff_eq_none.1 h1
    subst e0
    have e1 : l = [] := by have := hv.2.1 rfl; have := hv.1; exact List.eq_nil_of_length_eq_zero (by omega)
    subst e1
    exact ⟨none, 0, rfl, hm.ext, World.ownsRow_nil _ _ _ _⟩
  · skip
    refine T_skip' ?_
    refine p_seq ?_
    refine T_seq (T_region ?_)
    refine TL_new 1 (.cells #[] 5) (fun B => .slice (some ⟨B, 0, none⟩) 0 0) (fun _ _ _ _ => r_buildSlice (vs := []) (by kernel_rfl) rfl) rfl rfl rfl (w_n rfl) ?_
    intro B1
    refine TL_q (.slice a l.length cap) (fun _ _ hρ _ => r_move (hρ _ _ rfl)) rfl rfl rfl (w_n rfl) ?_
    refine TL_mem ([(1, .row (.slice (some ⟨B1, 0, none⟩) 0 0) 5 1 0 [])]) (fun _ hm => MemOk.sub (hm.toRow (n := 0) (cap := 0) (s := 1) 1 rfl rfl (by omega) rfl _ rfl) (sub_cons rfl sub_nil)) ?_
    refine TL_append (n := 0) (m := l.length) (xs := []) (news := (l.flatMap f)) (z := .int .u8 0) 1 rfl rfl rfl sl34 sz5 by5 (by kernel_rfl) rfl rfl (.inl rfl) (fun _ hm => by have := src_of hf (hv.keep hm.ext); simpa using this) (by intro u hu; obtain ⟨x, _, hx⟩ := List.mem_flatMap.1 hu; exact ho x u hx) (by omega) (by omega) rfl (w_n rfl) ?_
    intro a2 cap2
    refine TL_q (.slice a2 (0 + l.length) cap2) (fun _ _ hρ _ => r_assign (hρ _ _ rfl)) rfl rfl rfl (w_n rfl) ?_
    refine TL_seq ?_
    refine T_ret' ?_
    refine ret_of rfl (.slice a2 (0 + l.length) cap2) (fun tmps w hk hm => res1 rfl (res_tmp (hk 2 _ rfl))) (fun w hm => ?_)
    have hrow := hm.row 1 rfl
    simp only [Nat.zero_add, List.nil_append] at hrow ⊢
    exact ⟨a2, cap2, rfl, hm.ext, hrow⟩

theorem equal_b (l m : List By) (a b : Option Addr) (ca cb : Nat) (w : World) (hv : SliceAt w a ca 1 byc l) (hu : SliceAt w b cb 1 byc m) (hl : l.length ≤ 4611686018427387904) (hl' : m.length ≤ 4611686018427387904) :
    Calls Try.prog 16 #[.slice a l.length ca, .slice b m.length cb] w fun e w' => e = .returned (.bool (decide (l = m))) ∧ Below w.heap.size w w' := by
  refine calls_of_T (l := [.slice a l.length ca, .slice b m.length cb]) 26 Try.func16 rfl rfl rfl ?_
  show T _ _ _ [(0, .slice a l.length ca), (1, .slice b m.length cb)] []
  refine T_seq (T_region ?_)
  refine TL_q (.bool false) (fun _ _ hρ _ => r_assign (hρ _ _ rfl)) rfl rfl rfl (w_n rfl) ?_
  refine TL_seq ?_
  refine T_seq ?_
  by_cases hlm : ((l.length : Nat) : Int) = ((m.length : Nat) : Int)
  · skip
    refine T_seq (T_region ?_)
    refine TL_q (.slice a l.length ca) (fun _ _ hρ _ => r_move (hρ _ _ rfl)) rfl rfl rfl (w_n rfl) ?_
    refine TL_q (.int .i64 ((l.length : Nat) : Int)) (fun _ _ hρ _ => r_len sl34 (hρ _ _ rfl)) rfl rfl rfl (w_n rfl) ?_
    refine TL_q (.slice b m.length cb) (fun _ _ hρ _ => r_move (hρ _ _ rfl)) rfl rfl rfl (w_n rfl) ?_
    refine TL_q (.int .i64 ((m.length : Nat) : Int)) (fun _ _ hρ _ => r_len sl34 (hρ _ _ rfl)) rfl rfl rfl (w_n rfl) ?_
    refine TL_q (.bool false) (fun _ _ hρ _ => r_as (r_neq (hρ _ _ rfl) (hρ _ _ rfl)) (bool_as (by rw [decide_eq_true hlm]; rfl))) rfl rfl rfl (w_n rfl) ?_
    refine TL_seq ?_
    refine T_cond_f rfl ?_
    refine T_skip' ?_
    refine p_seq ?_
    refine T_seq ?_
    refine T_seq (T_region ?_)
    refine TL_q (.slice a l.length ca) (fun _ _ hρ _ => r_move (hρ _ _ rfl)) rfl rfl rfl (w_n rfl) ?_
    refine TL_q (.int .i64 ((l.length : Nat) : Int)) (fun _ _ hρ _ => r_len sl34 (hρ _ _ rfl)) rfl rfl rfl (w_n rfl) ?_
    refine TL_q (.int .i64 0) (fun _ _ hρ _ => r_move (hρ _ _ rfl)) rfl rfl rfl (w_n rfl) ?_
    refine TL_seq ?_
    refine T_block ?_
    refine T_loop (ι := Nat) (fun (k : Nat) => k ≤ l.length ∧ l.take k = m.take k) (fun (k : Nat) => [(0, .slice a l.length ca), (1, .slice b m.length cb), (12, .int .i64 ((l.length : Nat) : Int)), (13, .int .i64 ((k : Nat) : Int))]) (fun (k : Nat) => []) (fun (k : Nat) => l.length - k) 0 ⟨Nat.zero_le _, by simp⟩ (sub_cons rfl (sub_cons rfl (sub_cons rfl (sub_cons rfl sub_nil)))) sub_nil ?_
    rintro k hp
    obtain ⟨hk1, hk2⟩ := hp
    show T _ _ _ [(0, .slice a l.length ca), (1, .slice b m.length cb), (12, .int .i64 ((l.length : Nat) : Int)), (13, .int .i64 ((k : Nat) : Int))] []
    refine T_seq (T_region ?_)
    refine TL_q (.bool (decide (((k : Nat) : Int) < ((l.length : Nat) : Int)))) (fun _ _ hρ _ => r_lss (hρ _ _ rfl) (hρ _ _ rfl)) rfl rfl rfl (w_n rfl) ?_
    refine TL_seq ?_
    refine T_seq ?_
    refine T_cond rfl (fun h1 => ?_) (fun h1 => ?_)
    · replace h1 := of_decide_eq_true h1
      refine T_skip' ?_
      refine p_seq ?_
      refine T_seq ?_
      refine T_block ?_
      obtain ⟨x, hx⟩ : ∃ x, l[k]? = some x := ⟨_, List.getElem?_eq_getElem (by omega)⟩
      obtain ⟨y, hy⟩ : ∃ y, m[k]? = some y := ⟨_, List.getElem?_eq_getElem (by omega)⟩
      obtain ⟨b1, of1, cs1, T1, fz1, ha1, hq1, hr1⟩ := hv.open (i := k) (by omega)
      subst ha1
      obtain ⟨b2, of2, cs2, T2, fz2, ha2, hq2, hr2⟩ := hu.open (i := k) (by omega)
      subst ha2
      refine T_seq (T_region ?_)
      refine TL_q (.int .i64 ((k : Nat) : Int)) (fun _ _ hρ _ => r_move (hρ _ _ rfl)) rfl rfl rfl (w_n rfl) ?_
      refine TL_q (.int .i64 ((k : Nat) : Int)) (fun _ _ hρ _ => r_assign (hρ _ _ rfl)) rfl rfl rfl (w_n rfl) ?_
      refine TL_seq ?_
      refine T_seq (T_draw (V := [(0, .slice (some ⟨b1, of1, none⟩) l.length ca), (1, .int .i64 ((k : Nat) : Int)), (2, .pointer (some ⟨b1, of1 + k * 1, none⟩)), (3, .int .u8 ((x).toNat : Int)), (4, .slice (some ⟨b2, of2, none⟩) m.length cb), (5, .int .i64 ((k : Nat) : Int)), (6, .pointer (some ⟨b2, of2 + k * 1, none⟩)), (7, .int .u8 ((y).toNat : Int)), (8, .bool (!decide (((x).toNat : Int) = ((y).toNat : Int))))]) [0, 0, 3, 7, 0, 0, 48, 112, 255] [[(0, none)], [(5, none)], [(16, some 0), (17, some 1)], [(18, some 2)], [(1, none)], [(5, none)], [(20, some 4), (21, some 5)], [(22, some 6)], [(19, some 3), (23, some 7)]] 0 mixed (by kernel_rfl) ?_)
      refine G_last [0, 1, 2, 3, 4, 5, 6, 7, 8] [(0, .slice (some ⟨b1, of1, none⟩) l.length ca), (1, .slice (some ⟨b2, of2, none⟩) m.length cb), (12, .int .i64 ((l.length : Nat) : Int)), (13, .int .i64 ((k : Nat) : Int)), (14, .bool (decide (((k : Nat) : Int) < ((l.length : Nat) : Int)))), (15, .int .i64 ((k : Nat) : Int)), (5, .int .i64 ((k : Nat) : Int)), (16, .slice (some ⟨b1, of1, none⟩) l.length ca), (17, .int .i64 ((k : Nat) : Int)), (18, .pointer (some ⟨b1, of1 + k * 1, none⟩)), (19, .int .u8 ((x).toNat : Int)), (20, .slice (some ⟨b2, of2, none⟩) m.length cb), (21, .int .i64 ((k : Nat) : Int)), (22, .pointer (some ⟨b2, of2 + k * 1, none⟩)), (23, .int .u8 ((y).toNat : Int)), (24, .bool (!decide (((x).toNat : Int) = ((y).toNat : Int))))] (by kernel_rfl) (allM (all_cons (q_run (.slice (some ⟨b1, of1, none⟩) l.length ca) rfl rfl (wv_n rfl) rfl (fun _ _ hρ _ => r_move (hρ _ _ rfl))) (all_cons (q_run (.int .i64 ((k : Nat) : Int)) rfl rfl (wv_n rfl) rfl (fun _ _ hρ _ => r_move (hρ _ _ rfl))) (all_cons (q_run (.pointer (some ⟨b1, of1 + k * 1, none⟩)) rfl rfl (wv_n rfl) rfl (fun _ _ hρ _ => r_indexAddrS (i := k) sl34 sz5 (hρ _ _ rfl) (hρ _ _ rfl) (by omega))) (all_cons (q_run (.int .u8 ((x).toNat : Int)) rfl rfl (wv_n rfl) rfl (fun _ _ hρ hm => r_loadRow1 (f := byc) (u := x) ag5 (hρ _ _ rfl) (hm.old hq1) hr1 hx rfl)) (all_cons (q_run (.slice (some ⟨b2, of2, none⟩) m.length cb) rfl rfl (wv_n rfl) rfl (fun _ _ hρ _ => r_move (hρ _ _ rfl))) (all_cons (q_run (.int .i64 ((k : Nat) : Int)) rfl rfl (wv_n rfl) rfl (fun _ _ hρ _ => r_move (hρ _ _ rfl))) (all_cons (q_run (.pointer (some ⟨b2, of2 + k * 1, none⟩)) rfl rfl (wv_n rfl) rfl (fun _ _ hρ _ => r_indexAddrS (i := k) sl34 sz5 (hρ _ _ rfl) (hρ _ _ rfl) (by omega))) (all_cons (q_run (.int .u8 ((y).toNat : Int)) rfl rfl (wv_n rfl) rfl (fun _ _ hρ hm => r_loadRow1 (f := byc) (u := y) ag5 (hρ _ _ rfl) (hm.old hq2) hr2 hy rfl)) (all_cons (q_run (.bool (!decide (((x).toNat : Int) = ((y).toNat : Int)))) rfl rfl (wv_n rfl) rfl (fun _ _ hρ _ => r_neq (hρ _ _ rfl) (hρ _ _ rfl))) all_nil)))))))))) (end_old rfl rfl (end_old rfl rfl (end_old rfl rfl (end_old rfl rfl (end_old rfl rfl (end_old rfl rfl (end_old rfl rfl (end_new 0 rfl rfl (end_new 1 rfl rfl (end_new 2 rfl rfl (end_new 3 rfl rfl (end_new 4 rfl rfl (end_new 5 rfl rfl (end_new 6 rfl rfl (end_new 7 rfl rfl (end_new 8 rfl rfl end_nil)))))))))))))))) ?_
      refine T_cond rfl (fun h2 => ?_) (fun h2 => ?_)
      · replace h2 := of_decide_eq_false (bnot_t h2)
        have hxy : ¬ x = y := by intro e; subst e; exact h2 rfl
        refine T_seq (T_region ?_)
        refine TL_q (.bool false) (fun _ _ hρ _ => r_assign (hρ _ _ rfl)) rfl rfl rfl (w_n rfl) ?_
        refine TL_seq ?_
        refine T_ret' ?_
        refine p_blk_r ?_
        refine p_then_r ?_
        refine p_then_r ?_
        refine p_blk_r ?_
        refine p_then_r ?_
        refine ret_of rfl (.bool false) (fun tmps w hk hm => res1 rfl (res_tmp (hk 4 _ rfl))) (fun w hm => ?_)
        exact ⟨congrArg Ending.returned (bool_as (decide_eq_false (fun e => hxy (by subst e; rw [hx] at hy; exact Option.some.inj hy))).symm), hm.ext⟩
      · replace h2 := of_decide_eq_true (bnot_f h2)
        refine T_skip' ?_
        refine p_blk_n ?_
        refine p_seq ?_
        have hxy : x = y := by exact BitVec.eq_of_toNat_eq (by omega)
        refine T_region ?_
        refine TL_q (.int .i64 (((k : Nat) : Int) + 1)) (fun _ _ hρ _ => r_as (r_add (hρ _ _ rfl) (hρ _ _ rfl)) (int_as (wrap64 (by omega) (by omega)))) rfl rfl rfl (w_n rfl) ?_
        refine TL_q (.int .i64 (((k : Nat) : Int) + 1)) (fun _ _ hρ _ => r_move (hρ _ _ rfl)) rfl rfl rfl (w_n rfl) ?_
        refine TL_nil ?_
        exact p_at (k + 1) ⟨⟨by omega, by rw [List.take_add_one, List.take_add_one, hx, hy, hk2, hxy]⟩, by omega⟩ (sub_cons rfl (sub_cons rfl (sub_cons rfl (sub_cons rfl sub_nil)))) sub_nil
    · replace h1 := of_decide_eq_false h1
      refine T_exit' ?_
      refine p_then_x ?_
      refine p_then_x ?_
      refine p_blk_x ?_
      refine p_seq ?_
      refine T_seq (T_region ?_)
      refine TL_q (.bool true) (fun _ _ hρ _ => r_assign (hρ _ _ rfl)) rfl rfl rfl (w_n rfl) ?_
      refine TL_seq ?_
      refine T_ret' ?_
      refine ret_of rfl (.bool true) (fun tmps w hk hm => res1 rfl (res_tmp (hk 4 _ rfl))) (fun w hm => ?_)
      exact ⟨congrArg Ending.returned (bool_as (decide_eq_true (by rw [← List.take_length (l := l), ← List.take_length (l := m), ← show k = l.length by omega, ← show k = m.length by omega]; exact hk2)).symm), hm.ext⟩
  · skip
    refine T_seq (T_region ?_)
    refine TL_q (.slice a l.length ca) (fun _ _ hρ _ => r_move (hρ _ _ rfl)) rfl rfl rfl (w_n rfl) ?_
    refine TL_q (.int .i64 ((l.length : Nat) : Int)) (fun _ _ hρ _ => r_len sl34 (hρ _ _ rfl)) rfl rfl rfl (w_n rfl) ?_
    refine TL_q (.slice b m.length cb) (fun _ _ hρ _ => r_move (hρ _ _ rfl)) rfl rfl rfl (w_n rfl) ?_
    refine TL_q (.int .i64 ((m.length : Nat) : Int)) (fun _ _ hρ _ => r_len sl34 (hρ _ _ rfl)) rfl rfl rfl (w_n rfl) ?_
    refine TL_q (.bool true) (fun _ _ hρ _ => r_as (r_neq (hρ _ _ rfl) (hρ _ _ rfl)) (bool_as (by rw [decide_eq_false hlm]; rfl))) rfl rfl rfl (w_n rfl) ?_
    refine TL_seq ?_
    refine T_cond_t rfl ?_
    refine T_seq (T_region ?_)
    refine TL_q (.bool false) (fun _ _ hρ _ => r_assign (hρ _ _ rfl)) rfl rfl rfl (w_n rfl) ?_
    refine TL_seq ?_
    refine T_ret' ?_
    refine p_then_r ?_
    refine ret_of rfl (.bool false) (fun tmps w hk hm => res1 rfl (res_tmp (hk 4 _ rfl))) (fun w hm => ?_)
    exact ⟨congrArg Ending.returned (bool_as (decide_eq_false (fun e => hlm (by rw [e]))).symm), hm.ext⟩

theorem take_min (l : List By) (k : Nat) : l.take (min l.length k) = l.take k := by
  by_cases h : l.length ≤ k
  · rw [Nat.min_eq_left h, List.take_length, List.take_of_length_le h]
  · rw [Nat.min_eq_right (by omega)]

theorem seal_c (l : List By) (a : Option Addr) (cap : Nat) (w : World) (hv : SliceAt w a cap 1 byc l) (hl : l.length ≤ 1000000) (hcap : cap ≤ Go.maxLen) : Calls Try.prog 55 #[.slice a l.length cap] w fun e w' => ∃ a' cap', e = .returned (.slice a' (sealP l).length cap') ∧ Below w.heap.size w w' ∧ w'.ownsRow w.heap.size 5 1 (.slice a' (sealP l).length cap') (sealP l).length ((sealP l).flatMap byc) := by
  refine calls_of_T (l := [.slice a l.length cap]) 21 Try.func55 rfl rfl rfl ?_
  show T _ _ _ [(0, .slice a l.length cap)] []
  refine T_seq (T_region ?_)
  refine TL_q (.slice none 0 0) (fun _ _ hρ _ => r_assign (hρ _ _ rfl)) rfl rfl rfl (w_n rfl) ?_
  refine TL_seq ?_
  refine T_seq (T_region ?_)
  refine TL_q (.slice a l.length cap) (fun _ _ hρ _ => r_move (hρ _ _ rfl)) rfl rfl rfl (w_n rfl) ?_
  refine TL_new 1 (.cells #[.slice a l.length cap] 34) (fun B => .slice (some ⟨B, 0, none⟩) 1 1) (fun _ _ hρ _ => r_buildSlice (vs := [(0, .slice a l.length cap)]) (by kernel_rfl) (cons2 (pair2 (hρ _ _ rfl)) rfl)) rfl rfl rfl (w_n rfl) ?_
  intro B1
  refine TL_call (.int .u32 ((sumC 0#32 l).toNat : Int)) (fun _ _ hρ _ => r_call (args := [.slice (some ⟨B1, 0, none⟩) 1 1]) (enters_of Try.func96 (by kernel_rfl) rfl) (hρ _ _ rfl) ((cons2 (hρ _ _ rfl) rfl)) rfl) (fun w hm => (sum_c [(⟨a, cap, l⟩ : RowV)] (some ⟨B1, 0, none⟩) 1 w ⟨by simp, (fun e => by cases e), .inr ⟨_, 0, _, _, _, rfl, (hm.at 1 rfl), row_of_take (fun _ => rfl) rfl⟩⟩ (List.forall_mem_cons.2 ⟨(hv.keep hm.ext), (fun _ h => nomatch h)⟩) (List.forall_mem_cons.2 ⟨hcap, (fun _ h => nomatch h)⟩) (by decide)).mono fun _ _ h => ⟨h.1.trans (congrArg (fun x : List By => Ending.returned (.int .u32 ((sumC 0#32 x).toNat : Int))) (by simp only [List.flatMap_cons, List.flatMap_nil, List.append_nil])), h.2⟩) rfl rfl rfl (w_n rfl) ?_
  refine TL_call (.agg #[.int .u8 ((((sumC 0#32 l)).setWidth 8).toNat : Int), .int .u8 ((((sumC 0#32 l) >>> 8).setWidth 8).toNat : Int), .int .u8 ((((sumC 0#32 l) >>> 16).setWidth 8).toNat : Int), .int .u8 ((((sumC 0#32 l) >>> 24).setWidth 8).toNat : Int)]) (fun _ _ hρ _ => r_call (args := [.int .u32 ((sumC 0#32 l).toNat : Int)]) (enters_of Try.func95 (by kernel_rfl) rfl) (hρ _ _ rfl) ((cons2 (hρ _ _ rfl) rfl)) rfl) (fun w _ => four_c (sumC 0#32 l) w) rfl rfl rfl (w_n rfl) ?_
  refine TL_new 2 (.cells #[.int .u8 0, .int .u8 0, .int .u8 0, .int .u8 0] 130) (fun B => .pointer (some ⟨B, 0, none⟩)) (fun _ _ _ _ => r_alloc (v := .agg #[.int .u8 0, .int .u8 0, .int .u8 0, .int .u8 0]) (by kernel_rfl) rfl) rfl rfl rfl (w_n rfl) ?_
  intro B2
  refine TL_store 2 (.cells #[.int .u8 ((((sumC 0#32 l)).setWidth 8).toNat : Int), .int .u8 ((((sumC 0#32 l) >>> 8).setWidth 8).toNat : Int), .int .u8 ((((sumC 0#32 l) >>> 16).setWidth 8).toNat : Int), .int .u8 ((((sumC 0#32 l) >>> 24).setWidth 8).toNat : Int)] 130) rfl (fun _ _ hρ hm => r_store sz130 (hρ _ _ rfl) (hρ _ _ rfl) (hm.at 2 rfl) rfl rfl rfl rfl) rfl rfl (w_n rfl) ?_
  refine TL_seq ?_
  refine T_seq (T_region ?_)
  refine TL_q (.slice a l.length cap) (fun _ _ hρ _ => r_move (hρ _ _ rfl)) rfl rfl rfl (w_n rfl) ?_
  refine TL_q (.int .i64 ((l.length : Nat) : Int)) (fun _ _ hρ _ => r_len sl34 (hρ _ _ rfl)) rfl rfl rfl (w_n rfl) ?_
  refine TL_q (.slice a l.length cap) (fun _ _ hρ _ => r_move (hρ _ _ rfl)) rfl rfl rfl (w_n rfl) ?_
  refine TL_q (.int .i64 ((l.length : Nat) : Int)) (fun _ _ hρ _ => r_len sl34 (hρ _ _ rfl)) rfl rfl rfl (w_n rfl) ?_
  refine TL_q (.int .i64 ((l.length + 4 : Nat) : Int)) (fun _ _ hρ _ => r_as (r_add (hρ _ _ rfl) (hρ _ _ rfl)) (int_as ((wrap64 (by omega) (by omega)).trans (by omega)))) rfl rfl rfl (w_n rfl) ?_
  refine TL_makeSlice (n := l.length) (cap := l.length + 4) (z := .int .u8 0) (f := byc) (u := 0#8) 3 rfl rfl rfl sl34 by5 sz5 (by kernel_rfl) rfl rfl (by omega) (by omega) (by omega) rfl (w_n rfl) ?_
  intro B3
  refine TL_q (.slice (some ⟨B3, 0, none⟩) l.length (l.length + 4)) (fun _ _ hρ _ => r_assign (hρ _ _ rfl)) rfl rfl rfl (w_n rfl) ?_
  refine TL_seq ?_
  refine T_seq (T_region ?_)
  refine TL_q (.slice (some ⟨B3, 0, none⟩) l.length (l.length + 4)) (fun _ _ hρ _ => r_move (hρ _ _ rfl)) rfl rfl rfl (w_n rfl) ?_
  refine TL_q (.slice a l.length cap) (fun _ _ hρ _ => r_move (hρ _ _ rfl)) rfl rfl rfl (w_n rfl) ?_
  refine TL_copy (news := (l.flatMap byc)) 3 rfl rfl rfl rfl sl34 sz5 (fun _ hm => by have := src_of byc_len (hv.keep hm.ext); simpa using this) (by intro u hu; obtain ⟨x, _, hx⟩ := List.mem_flatMap.1 hu; exact byc_one x u hx) rfl (w_n rfl) ?_
  refine TL_seq ?_
  refine T_seq (T_region ?_)
  refine TL_q (.slice (some ⟨B3, 0, none⟩) l.length (l.length + 4)) (fun _ _ hρ _ => r_move (hρ _ _ rfl)) rfl rfl rfl (w_n rfl) ?_
  refine TL_q (.slice (some ⟨B2, 0, none⟩) 4 4) (fun _ _ hρ _ => r_sliceA ar130 sz5 (by decide) (hρ _ _ rfl)) rfl rfl rfl (w_n rfl) ?_
  refine TL_append (n := l.length) (m := 4) (xs := (l.flatMap byc)) (news := [.int .u8 ((((sumC 0#32 l)).setWidth 8).toNat : Int), .int .u8 ((((sumC 0#32 l) >>> 8).setWidth 8).toNat : Int), .int .u8 ((((sumC 0#32 l) >>> 16).setWidth 8).toNat : Int), .int .u8 ((((sumC 0#32 l) >>> 24).setWidth 8).toNat : Int)]) (z := .int .u8 0) 3 rfl rfl rfl sl34 sz5 by5 (by kernel_rfl) rfl rfl (.inl rfl) (fun _ hm => src_blk (news := [.int .u8 ((((sumC 0#32 l)).setWidth 8).toNat : Int), .int .u8 ((((sumC 0#32 l) >>> 8).setWidth 8).toNat : Int), .int .u8 ((((sumC 0#32 l) >>> 16).setWidth 8).toNat : Int), .int .u8 ((((sumC 0#32 l) >>> 24).setWidth 8).toNat : Int)]) (hm.at 2 rfl) rfl) (by simp [Value.oneCell']) (by omega) (by omega) rfl (w_n rfl) ?_
  intro a4 cap4
  refine TL_q (.slice a4 (l.length + 4) cap4) (fun _ _ hρ _ => r_assign (hρ _ _ rfl)) rfl rfl rfl (w_n rfl) ?_
  refine TL_seq ?_
  refine T_ret' ?_
  refine ret_of rfl (.slice a4 (l.length + 4) cap4) (fun tmps w hk hm => res1 rfl (res_tmp (hk 2 _ rfl))) (fun w hm => ?_)
  have hrow := hm.row 3 rfl
  exact ⟨a4, cap4, congrArg (fun n => Ending.returned (Value.slice _ n _)) (by unfold sealP; rw [List.length_append]; rfl), hm.ext, by rw [show (sealP l).length = l.length + 4 from List.length_append, show (sealP l).flatMap byc = _ from List.flatMap_append]; exact hrow⟩
end Go.Proofs.Ytcidgbjgeegepaa
/- crc: Open, Spoil. Printed by a program of this seat's prover. -/
namespace Go.Proofs.Ytcidgbjgeegepaa
open Go Go.RowKit
set_option maxRecDepth 10000
def openL (l : List By) : List By := (openP l).getD []
def openE (l : List By) : Int := match openP l with
  | some _ => 0
  | none => 120
theorem open_t {l p q r : List By} (h4 : 4 ≤ l.length) (hp : p = l.take (l.length - 4)) (hq : q = l.take (l.length - 4)) (hr : r = (l.drop (l.length - 4)).take (l.length - (l.length - 4))) (h : r = four (sumC 0#32 q)) : openP l = some p := by
  subst hp hq
  unfold openP
  rw [List.take_of_length_le (by rw [List.length_drop]; exact Nat.le_refl _)] at hr
  subst hr
  exact if_pos ⟨h4, h⟩
theorem open_f {l q r : List By} (hq : q = l.take (l.length - 4)) (hr : r = (l.drop (l.length - 4)).take (l.length - (l.length - 4))) (h : ¬ r = four (sumC 0#32 q)) : openP l = none := by
  subst hq
  unfold openP
  rw [List.take_of_length_le (by rw [List.length_drop]; exact Nat.le_refl _)] at hr
  subst hr
  exact if_neg fun e => h e.2
theorem open_s {l : List By} (h4 : ¬ 4 ≤ l.length) : openP l = none := if_neg fun e => h4 e.1
theorem isb_t {m : Wd} {k : Nat} (h : m.getLsbD k = true) : decide ((((m >>> k) &&& 1#32).toNat : Int) = 1) = true := by
  have : (m >>> k) &&& 1#32 = 1#32 := by
    have := (and_one (m >>> k)).2 (by rw [BitVec.getLsbD_ushiftRight, Nat.add_zero]; exact h)
    rwa [BitVec.xor_zero] at this
  rw [this]; rfl
theorem isb_f {m : Wd} {k : Nat} (h : ¬ m.getLsbD k = true) : decide ((((m >>> k) &&& 1#32).toNat : Int) = 1) = false := by
  refine decide_eq_false fun e => h ?_
  have e2 : (m >>> k) &&& 1#32 = 1#32 := BitVec.eq_of_toNat_eq (by show _ = 1; omega)
  have := (and_one (m >>> k)).1 (by rw [BitVec.xor_zero]; exact e2)
  rwa [BitVec.getLsbD_ushiftRight, Nat.add_zero] at this
def isS (l : List By) (n : Nat) (mask : Wd) (k : Nat) : Bool := mask.getLsbD k && decide (n + k < 8 * l.length)
theorem isS_t {l : List By} {n : Nat} {mask : Wd} {k : Nat} (h : isS l n mask k = true) : mask.getLsbD k = true ∧ n + k < 8 * l.length := by
  unfold isS at h
  rw [Bool.and_eq_true] at h
  exact ⟨h.1, of_decide_eq_true h.2⟩
theorem isS_f {l : List By} {n : Nat} {mask : Wd} {k : Nat} (h : isS l n mask k = false) : ¬ (mask.getLsbD k = true ∧ n + k < 8 * l.length) := fun e => Bool.noConfusion (h.symm.trans (by unfold isS; rw [e.1, decide_eq_true e.2, Bool.and_true]))
theorem spoil_t {l : List By} {n : Nat} {mask : Wd} {k : Nat} {y : By} (h : mask.getLsbD k = true ∧ n + k < 8 * l.length) (hy : (spoilN l n mask k)[(n + k) / 8]? = some y) : (spoilN l n mask k).set ((n + k) / 8) (y ^^^ (1#8 <<< ((n + k) % 8))) = spoilN l n mask (k + 1) := by
  conv => rhs; unfold spoilN
  rw [if_pos h, hy]; rfl
theorem spoil_f {l : List By} {n : Nat} {mask : Wd} {k : Nat} (h : ¬ (mask.getLsbD k = true ∧ n + k < 8 * l.length)) : spoilN l n mask k = spoilN l n mask (k + 1) := by
  conv => rhs; unfold spoilN
  rw [if_neg h]
theorem some_t {l : List By} {n : Nat} {mask : Wd} {k : Nat} (h : mask.getLsbD k = true ∧ n + k < 8 * l.length) : true = someN l n mask (k + 1) := (if_pos h).symm
theorem some_f {l : List By} {n : Nat} {mask : Wd} {k : Nat} (h : ¬ (mask.getLsbD k = true ∧ n + k < 8 * l.length)) : someN l n mask k = someN l n mask (k + 1) := (if_neg h).symm
def spoilE (o : Option (List By)) : Int := match o with
  | some _ => 0
  | none => 2

theorem open_c (l : List By) (a : Option Addr) (cap : Nat) (w : World) (hv : SliceAt w a cap 1 byc l) (hl : l.length ≤ 1000000) (hcap : cap ≤ Go.maxLen) : Calls Try.prog 56 #[.slice a l.length cap] w fun e w' => ∃ a' cap', e = .returned (.tuple #[.slice a' (openL l).length cap', .int .i64 (openE l)]) ∧ Below w.heap.size w w' ∧ w'.ownsRow w.heap.size 5 1 (.slice a' (openL l).length cap') (openL l).length ((openL l).flatMap byc) := by
  have hvl := hv.1
  refine calls_of_T (l := [.slice a l.length cap]) 31 Try.func56 rfl rfl rfl ?_
  show T _ _ _ [(0, .slice a l.length cap)] []
  refine T_seq (T_region ?_)
  refine TL_q (.slice none 0 0) (fun _ _ hρ _ => r_assign (hρ _ _ rfl)) rfl rfl rfl (w_n rfl) ?_
  refine TL_q (.int .i64 0) (fun _ _ hρ _ => r_assign (hρ _ _ rfl)) rfl rfl rfl (w_n rfl) ?_
  refine TL_seq ?_
  by_cases h4 : 4 ≤ l.length
  · skip
    refine T_seq (T_region ?_)
    refine TL_q (.slice a l.length cap) (fun _ _ hρ _ => r_move (hρ _ _ rfl)) rfl rfl rfl (w_n rfl) ?_
    refine TL_q (.int .i64 ((l.length : Nat) : Int)) (fun _ _ hρ _ => r_len sl34 (hρ _ _ rfl)) rfl rfl rfl (w_n rfl) ?_
    refine TL_q (.int .i64 ((l.length - 4 : Nat) : Int)) (fun _ _ hρ _ => r_as (r_sub (hρ _ _ rfl) (hρ _ _ rfl)) (int_as ((wrap64 (by omega) (by omega)).trans (by omega)))) rfl rfl rfl (w_n rfl) ?_
    refine TL_q (.int .i64 ((l.length - 4 : Nat) : Int)) (fun _ _ hρ _ => r_assign (hρ _ _ rfl)) rfl rfl rfl (w_n rfl) ?_
    refine TL_seq ?_
    refine T_seq ?_
    have hng : ¬ (((l.length - 4 : Nat) : Int) < 0) := by omega
    refine T_seq (T_region ?_)
    refine TL_q (.int .i64 ((l.length - 4 : Nat) : Int)) (fun _ _ hρ _ => r_move (hρ _ _ rfl)) rfl rfl rfl (w_n rfl) ?_
    refine TL_q (.bool false) (fun _ _ hρ _ => r_as (r_lss (hρ _ _ rfl) (hρ _ _ rfl)) (bool_as (decide_eq_false hng))) rfl rfl rfl (w_n rfl) ?_
    refine TL_seq ?_
    refine T_cond_f rfl ?_
    refine T_skip' ?_
    refine p_seq ?_
    obtain ⟨l1, hl1, hn1⟩ : ∃ lz, lz = l.take (l.length - 4) ∧ lz.length = l.length - 4 := ⟨_, rfl, by rw [List.length_take]; omega⟩
    have hs1 := SliceAt.front hv (n := l.length - 4) (m := l.length - 4) (by omega) (by omega) (by omega)
    rw [← hl1] at hs1
    obtain ⟨l2, hl2, hn2⟩ : ∃ lz, lz = l.take (l.length - 4) ∧ lz.length = l.length - 4 := ⟨_, rfl, by rw [List.length_take]; omega⟩
    have hs2 := SliceAt.front hv (n := l.length - 4) (m := cap) (by omega) (by omega) (by omega)
    rw [← hl2] at hs2
    refine T_join (ι := Nat × Nat) (fun _ => True) (fun (z : Nat × Nat) => match z with | (Bx7, Bx10) => [(0, .slice a l.length cap), (2, .slice none 0 0), (3, .int .i64 0), (4, .int .i64 ((l.length - 4 : Nat) : Int)), (6, .pointer (some ⟨Bx10, 0, none⟩)), (5, .slice a l1.length (l.length - 4))]) (fun (z : Nat × Nat) => match z with | (Bx7, Bx10) => [(1, .blk Bx7 (.cells #[.slice a l2.length cap] 34)), (2, .blk Bx10 (.cells #[.int .u8 ((((sumC 0#32 l2)).setWidth 8).toNat : Int), .int .u8 ((((sumC 0#32 l2) >>> 8).setWidth 8).toNat : Int), .int .u8 ((((sumC 0#32 l2) >>> 16).setWidth 8).toNat : Int), .int .u8 ((((sumC 0#32 l2) >>> 24).setWidth 8).toNat : Int)] 130))]) (T_draw (V := [(0, .slice a l.length cap), (1, .int .i64 ((l.length - 4 : Nat) : Int)), (2, .int .i64 ((l.length - 4 : Nat) : Int)), (3, .slice a l1.length (l.length - 4)), (4, .slice a l.length cap), (5, .int .i64 ((l.length - 4 : Nat) : Int)), (6, .slice a l2.length cap)]) [0, 0, 0, 7, 0, 0, 48, 112, 240, 496, 0, 2047, 4095] [[(0, none)], [(4, none)], [(4, none)], [(12, some 0), (13, some 1), (14, some 2)], [(0, none)], [(4, none)], [(16, some 4), (17, some 5)], [(18, some 6)], [(19, some 7)], [(20, some 8)], [], [(15, some 3)], [(6, some 10), (21, some 9)]] 6016 mixed (by kernel_rfl) ?_) (fun z _ => ?_)
    · skip
      refine G_step [0, 1, 2, 3, 4, 5, 6] 7 [10] (by kernel_rfl) (allM (all_cons (q_run (.slice a l.length cap) rfl rfl (wv_n rfl) rfl (fun _ _ hρ _ => r_move (hρ _ _ rfl))) (all_cons (q_run (.int .i64 ((l.length - 4 : Nat) : Int)) rfl rfl (wv_n rfl) rfl (fun _ _ hρ _ => r_move (hρ _ _ rfl))) (all_cons (q_run (.int .i64 ((l.length - 4 : Nat) : Int)) rfl rfl (wv_n rfl) rfl (fun _ _ hρ _ => r_move (hρ _ _ rfl))) (all_cons (q_run (.slice a l1.length (l.length - 4)) rfl rfl (wv_n rfl) rfl (fun ρ _ hρ _ => r_as (r_sliceO sl34 sz5 (hρ _ _ rfl) (bd_some (n := l.length - 4) (hρ _ _ rfl)) (bd_some (n := l.length - 4) (hρ _ _ rfl)) (bd_none ρ _) (by simp) (by omega) (by omega) (by omega)) (by rw [hn1]; exact slo_zero _ _ _ _))) (all_cons (q_run (.slice a l.length cap) rfl rfl (wv_n rfl) rfl (fun _ _ hρ _ => r_move (hρ _ _ rfl))) (all_cons (q_run (.int .i64 ((l.length - 4 : Nat) : Int)) rfl rfl (wv_n rfl) rfl (fun _ _ hρ _ => r_move (hρ _ _ rfl))) (all_cons (q_run (.slice a l2.length cap) rfl rfl (wv_n rfl) rfl (fun ρ _ hρ _ => r_as (r_sliceO sl34 sz5 (hρ _ _ rfl) (bd_none ρ _) (bd_some (n := l.length - 4) (hρ _ _ rfl)) (bd_none ρ _) (by simp) (by omega) (by omega) (by omega)) (by rw [hn2]; exact slo_zero _ _ _ _))) all_nil)))))))) (allM (all_cons ?_ (all_cons ?_ all_nil)))
      · skip
        refine LOb_new 1 (.cells #[.slice a l2.length cap] 34) (fun B => .slice (some ⟨B, 0, none⟩) 1 1) (fun B => []) rfl (wv_n rfl) rfl rfl (fun _ _ hρ _ => r_buildSlice (vs := [(0, .slice a l2.length cap)]) (by kernel_rfl) (cons2 (pair2 (hρ _ _ rfl)) rfl)) (fun B => by kernel_rfl) ?_
        intro B3
        refine G_step [0, 1, 2, 3] 8 [10] (by kernel_rfl) (allM (all_cons (q_run (.slice a l.length cap) rfl rfl (wv_n rfl) rfl (fun _ _ hρ _ => r_move (hρ _ _ rfl))) (all_cons (q_run (.int .i64 ((l.length - 4 : Nat) : Int)) rfl rfl (wv_n rfl) rfl (fun _ _ hρ _ => r_move (hρ _ _ rfl))) (all_cons (q_run (.int .i64 ((l.length - 4 : Nat) : Int)) rfl rfl (wv_n rfl) rfl (fun _ _ hρ _ => r_move (hρ _ _ rfl))) (all_cons (q_run (.slice a l1.length (l.length - 4)) rfl rfl (wv_n rfl) rfl (fun ρ _ hρ _ => r_as (r_sliceO sl34 sz5 (hρ _ _ rfl) (bd_some (n := l.length - 4) (hρ _ _ rfl)) (bd_some (n := l.length - 4) (hρ _ _ rfl)) (bd_none ρ _) (by simp) (by omega) (by omega) (by omega)) (by rw [hn1]; exact slo_zero _ _ _ _))) all_nil))))) (allM (all_cons ?_ (all_cons ?_ all_nil)))
        · skip
          refine LOb_call (.int .u32 ((sumC 0#32 l2).toNat : Int)) [] rfl (wv_n rfl) rfl rfl (fun _ _ hρ _ => r_call (args := [.slice (some ⟨B3, 0, none⟩) 1 1]) (enters_of Try.func96 (by kernel_rfl) rfl) (hρ _ _ rfl) ((cons2 (hρ _ _ rfl) rfl)) rfl) (fun w hm => (sum_c [(⟨a, cap, l2⟩ : RowV)] (some ⟨B3, 0, none⟩) 1 w ⟨by simp, (fun e => by cases e), .inr ⟨_, 0, _, _, _, rfl, (hm.at 1 rfl), row_of_take (fun _ => rfl) rfl⟩⟩ (List.forall_mem_cons.2 ⟨(hs2.keep hm.ext), (fun _ h => nomatch h)⟩) (List.forall_mem_cons.2 ⟨(by omega), (fun _ h => nomatch h)⟩) (by decide)).mono fun _ _ h => ⟨h.1.trans (congrArg (fun x : List By => Ending.returned (.int .u32 ((sumC 0#32 x).toNat : Int))) (by simp only [List.flatMap_cons, List.flatMap_nil, List.append_nil])), h.2⟩) (by kernel_rfl) ?_
          refine G_step [0, 1, 2, 3] 9 [10] (by kernel_rfl) (allM (all_cons (q_run (.slice a l.length cap) rfl rfl (wv_n rfl) rfl (fun _ _ hρ _ => r_move (hρ _ _ rfl))) (all_cons (q_run (.int .i64 ((l.length - 4 : Nat) : Int)) rfl rfl (wv_n rfl) rfl (fun _ _ hρ _ => r_move (hρ _ _ rfl))) (all_cons (q_run (.int .i64 ((l.length - 4 : Nat) : Int)) rfl rfl (wv_n rfl) rfl (fun _ _ hρ _ => r_move (hρ _ _ rfl))) (all_cons (q_run (.slice a l1.length (l.length - 4)) rfl rfl (wv_n rfl) rfl (fun ρ _ hρ _ => r_as (r_sliceO sl34 sz5 (hρ _ _ rfl) (bd_some (n := l.length - 4) (hρ _ _ rfl)) (bd_some (n := l.length - 4) (hρ _ _ rfl)) (bd_none ρ _) (by simp) (by omega) (by omega) (by omega)) (by rw [hn1]; exact slo_zero _ _ _ _))) all_nil))))) (allM (all_cons ?_ (all_cons ?_ all_nil)))
          · skip
            refine LOb_call (.agg #[.int .u8 ((((sumC 0#32 l2)).setWidth 8).toNat : Int), .int .u8 ((((sumC 0#32 l2) >>> 8).setWidth 8).toNat : Int), .int .u8 ((((sumC 0#32 l2) >>> 16).setWidth 8).toNat : Int), .int .u8 ((((sumC 0#32 l2) >>> 24).setWidth 8).toNat : Int)]) [] rfl (wv_n rfl) rfl rfl (fun _ _ hρ _ => r_call (args := [.int .u32 ((sumC 0#32 l2).toNat : Int)]) (enters_of Try.func95 (by kernel_rfl) rfl) (hρ _ _ rfl) ((cons2 (hρ _ _ rfl) rfl)) rfl) (fun w _ => four_c (sumC 0#32 l2) w) (by kernel_rfl) ?_
            refine G_step [0, 1, 2, 3] 10 [] (by kernel_rfl) (allM (all_cons (q_run (.slice a l.length cap) rfl rfl (wv_n rfl) rfl (fun _ _ hρ _ => r_move (hρ _ _ rfl))) (all_cons (q_run (.int .i64 ((l.length - 4 : Nat) : Int)) rfl rfl (wv_n rfl) rfl (fun _ _ hρ _ => r_move (hρ _ _ rfl))) (all_cons (q_run (.int .i64 ((l.length - 4 : Nat) : Int)) rfl rfl (wv_n rfl) rfl (fun _ _ hρ _ => r_move (hρ _ _ rfl))) (all_cons (q_run (.slice a l1.length (l.length - 4)) rfl rfl (wv_n rfl) rfl (fun ρ _ hρ _ => r_as (r_sliceO sl34 sz5 (hρ _ _ rfl) (bd_some (n := l.length - 4) (hρ _ _ rfl)) (bd_some (n := l.length - 4) (hρ _ _ rfl)) (bd_none ρ _) (by simp) (by omega) (by omega) (by omega)) (by rw [hn1]; exact slo_zero _ _ _ _))) all_nil))))) (allM (all_cons ?_ all_nil))
            refine LOb_new 2 (.cells #[.int .u8 0, .int .u8 0, .int .u8 0, .int .u8 0] 130) (fun B => .pointer (some ⟨B, 0, none⟩)) (fun B => [(11, .slice a l1.length (l.length - 4))]) rfl (wv_n rfl) rfl rfl (fun _ _ _ _ => r_alloc (v := .agg #[.int .u8 0, .int .u8 0, .int .u8 0, .int .u8 0]) (by kernel_rfl) rfl) (fun B => by kernel_rfl) ?_
            intro B4
            refine G_step [0, 1, 2, 3, 11] 12 [] (by kernel_rfl) (allM (all_cons (q_run (.slice a l.length cap) rfl rfl (wv_n rfl) rfl (fun _ _ hρ _ => r_move (hρ _ _ rfl))) (all_cons (q_run (.int .i64 ((l.length - 4 : Nat) : Int)) rfl rfl (wv_n rfl) rfl (fun _ _ hρ _ => r_move (hρ _ _ rfl))) (all_cons (q_run (.int .i64 ((l.length - 4 : Nat) : Int)) rfl rfl (wv_n rfl) rfl (fun _ _ hρ _ => r_move (hρ _ _ rfl))) (all_cons (q_run (.slice a l1.length (l.length - 4)) rfl rfl (wv_n rfl) rfl (fun ρ _ hρ _ => r_as (r_sliceO sl34 sz5 (hρ _ _ rfl) (bd_some (n := l.length - 4) (hρ _ _ rfl)) (bd_some (n := l.length - 4) (hρ _ _ rfl)) (bd_none ρ _) (by simp) (by omega) (by omega) (by omega)) (by rw [hn1]; exact slo_zero _ _ _ _))) (all_cons (q_run (.slice a l1.length (l.length - 4)) rfl rfl (wv_n rfl) rfl (fun _ _ hρ _ => r_assign (hρ _ _ rfl))) all_nil)))))) (allM (all_cons ?_ all_nil))
            refine LOb_store 2 (.cells #[.int .u8 ((((sumC 0#32 l2)).setWidth 8).toNat : Int), .int .u8 ((((sumC 0#32 l2) >>> 8).setWidth 8).toNat : Int), .int .u8 ((((sumC 0#32 l2) >>> 16).setWidth 8).toNat : Int), .int .u8 ((((sumC 0#32 l2) >>> 24).setWidth 8).toNat : Int)] 130) [] rfl (wv_n rfl) rfl rfl rfl (fun _ _ hρ hm => r_store sz130 (hρ _ _ rfl) (hρ _ _ rfl) (hm.at 2 rfl) rfl rfl rfl rfl) (by kernel_rfl) ?_
            exact G_lastQ [] [(0, .slice a l.length cap), (2, .slice none 0 0), (3, .int .i64 0), (4, .int .i64 ((l.length - 4 : Nat) : Int)), (6, .pointer (some ⟨B4, 0, none⟩)), (5, .slice a l1.length (l.length - 4))] (by kernel_rfl) (allM all_nil) (end_old rfl rfl (end_old rfl rfl (end_old rfl rfl (end_old rfl rfl (end_new 10 rfl rfl (end_new 11 rfl rfl end_nil)))))) (fun a w hf hm => At_intro (B3, B4) trivial hf hm (sub_cons rfl (sub_cons rfl (sub_cons rfl (sub_cons rfl (sub_cons rfl (sub_cons rfl sub_nil)))))) (sub_cons rfl (sub_cons rfl sub_nil)))
          · skip
            refine LOb_new 2 (.cells #[.int .u8 0, .int .u8 0, .int .u8 0, .int .u8 0] 130) (fun B => .pointer (some ⟨B, 0, none⟩)) (fun B => []) rfl (wv_n rfl) rfl rfl (fun _ _ _ _ => r_alloc (v := .agg #[.int .u8 0, .int .u8 0, .int .u8 0, .int .u8 0]) (by kernel_rfl) rfl) (fun B => by kernel_rfl) ?_
            intro B5
            refine G_step [0, 1, 2, 3] 9 [] (by kernel_rfl) (allM (all_cons (q_run (.slice a l.length cap) rfl rfl (wv_n rfl) rfl (fun _ _ hρ _ => r_move (hρ _ _ rfl))) (all_cons (q_run (.int .i64 ((l.length - 4 : Nat) : Int)) rfl rfl (wv_n rfl) rfl (fun _ _ hρ _ => r_move (hρ _ _ rfl))) (all_cons (q_run (.int .i64 ((l.length - 4 : Nat) : Int)) rfl rfl (wv_n rfl) rfl (fun _ _ hρ _ => r_move (hρ _ _ rfl))) (all_cons (q_run (.slice a l1.length (l.length - 4)) rfl rfl (wv_n rfl) rfl (fun ρ _ hρ _ => r_as (r_sliceO sl34 sz5 (hρ _ _ rfl) (bd_some (n := l.length - 4) (hρ _ _ rfl)) (bd_some (n := l.length - 4) (hρ _ _ rfl)) (bd_none ρ _) (by simp) (by omega) (by omega) (by omega)) (by rw [hn1]; exact slo_zero _ _ _ _))) all_nil))))) (allM (all_cons ?_ all_nil))
            refine LOb_call (.agg #[.int .u8 ((((sumC 0#32 l2)).setWidth 8).toNat : Int), .int .u8 ((((sumC 0#32 l2) >>> 8).setWidth 8).toNat : Int), .int .u8 ((((sumC 0#32 l2) >>> 16).setWidth 8).toNat : Int), .int .u8 ((((sumC 0#32 l2) >>> 24).setWidth 8).toNat : Int)]) [(11, .slice a l1.length (l.length - 4))] rfl (wv_n rfl) rfl rfl (fun _ _ hρ _ => r_call (args := [.int .u32 ((sumC 0#32 l2).toNat : Int)]) (enters_of Try.func95 (by kernel_rfl) rfl) (hρ _ _ rfl) ((cons2 (hρ _ _ rfl) rfl)) rfl) (fun w _ => four_c (sumC 0#32 l2) w) (by kernel_rfl) ?_
            refine G_step [0, 1, 2, 3, 11] 12 [] (by kernel_rfl) (allM (all_cons (q_run (.slice a l.length cap) rfl rfl (wv_n rfl) rfl (fun _ _ hρ _ => r_move (hρ _ _ rfl))) (all_cons (q_run (.int .i64 ((l.length - 4 : Nat) : Int)) rfl rfl (wv_n rfl) rfl (fun _ _ hρ _ => r_move (hρ _ _ rfl))) (all_cons (q_run (.int .i64 ((l.length - 4 : Nat) : Int)) rfl rfl (wv_n rfl) rfl (fun _ _ hρ _ => r_move (hρ _ _ rfl))) (all_cons (q_run (.slice a l1.length (l.length - 4)) rfl rfl (wv_n rfl) rfl (fun ρ _ hρ _ => r_as (r_sliceO sl34 sz5 (hρ _ _ rfl) (bd_some (n := l.length - 4) (hρ _ _ rfl)) (bd_some (n := l.length - 4) (hρ _ _ rfl)) (bd_none ρ _) (by simp) (by omega) (by omega) (by omega)) (by rw [hn1]; exact slo_zero _ _ _ _))) (all_cons (q_run (.slice a l1.length (l.length - 4)) rfl rfl (wv_n rfl) rfl (fun _ _ hρ _ => r_assign (hρ _ _ rfl))) all_nil)))))) (allM (all_cons ?_ all_nil))
            refine LOb_store 2 (.cells #[.int .u8 ((((sumC 0#32 l2)).setWidth 8).toNat : Int), .int .u8 ((((sumC 0#32 l2) >>> 8).setWidth 8).toNat : Int), .int .u8 ((((sumC 0#32 l2) >>> 16).setWidth 8).toNat : Int), .int .u8 ((((sumC 0#32 l2) >>> 24).setWidth 8).toNat : Int)] 130) [] rfl (wv_n rfl) rfl rfl rfl (fun _ _ hρ hm => r_store sz130 (hρ _ _ rfl) (hρ _ _ rfl) (hm.at 2 rfl) rfl rfl rfl rfl) (by kernel_rfl) ?_
            exact G_lastQ [] [(0, .slice a l.length cap), (2, .slice none 0 0), (3, .int .i64 0), (4, .int .i64 ((l.length - 4 : Nat) : Int)), (6, .pointer (some ⟨B5, 0, none⟩)), (5, .slice a l1.length (l.length - 4))] (by kernel_rfl) (allM all_nil) (end_old rfl rfl (end_old rfl rfl (end_old rfl rfl (end_old rfl rfl (end_new 10 rfl rfl (end_new 11 rfl rfl end_nil)))))) (fun a w hf hm => At_intro (B3, B5) trivial hf hm (sub_cons rfl (sub_cons rfl (sub_cons rfl (sub_cons rfl (sub_cons rfl (sub_cons rfl sub_nil)))))) (sub_cons rfl (sub_cons rfl sub_nil)))
        · skip
          refine LOb_new 2 (.cells #[.int .u8 0, .int .u8 0, .int .u8 0, .int .u8 0] 130) (fun B => .pointer (some ⟨B, 0, none⟩)) (fun B => []) rfl (wv_n rfl) rfl rfl (fun _ _ _ _ => r_alloc (v := .agg #[.int .u8 0, .int .u8 0, .int .u8 0, .int .u8 0]) (by kernel_rfl) rfl) (fun B => by kernel_rfl) ?_
          intro B6
          refine G_step [0, 1, 2, 3] 8 [] (by kernel_rfl) (allM (all_cons (q_run (.slice a l.length cap) rfl rfl (wv_n rfl) rfl (fun _ _ hρ _ => r_move (hρ _ _ rfl))) (all_cons (q_run (.int .i64 ((l.length - 4 : Nat) : Int)) rfl rfl (wv_n rfl) rfl (fun _ _ hρ _ => r_move (hρ _ _ rfl))) (all_cons (q_run (.int .i64 ((l.length - 4 : Nat) : Int)) rfl rfl (wv_n rfl) rfl (fun _ _ hρ _ => r_move (hρ _ _ rfl))) (all_cons (q_run (.slice a l1.length (l.length - 4)) rfl rfl (wv_n rfl) rfl (fun ρ _ hρ _ => r_as (r_sliceO sl34 sz5 (hρ _ _ rfl) (bd_some (n := l.length - 4) (hρ _ _ rfl)) (bd_some (n := l.length - 4) (hρ _ _ rfl)) (bd_none ρ _) (by simp) (by omega) (by omega) (by omega)) (by rw [hn1]; exact slo_zero _ _ _ _))) all_nil))))) (allM (all_cons ?_ all_nil))
          refine LOb_call (.int .u32 ((sumC 0#32 l2).toNat : Int)) [] rfl (wv_n rfl) rfl rfl (fun _ _ hρ _ => r_call (args := [.slice (some ⟨B3, 0, none⟩) 1 1]) (enters_of Try.func96 (by kernel_rfl) rfl) (hρ _ _ rfl) ((cons2 (hρ _ _ rfl) rfl)) rfl) (fun w hm => (sum_c [(⟨a, cap, l2⟩ : RowV)] (some ⟨B3, 0, none⟩) 1 w ⟨by simp, (fun e => by cases e), .inr ⟨_, 0, _, _, _, rfl, (hm.at 1 rfl), row_of_take (fun _ => rfl) rfl⟩⟩ (List.forall_mem_cons.2 ⟨(hs2.keep hm.ext), (fun _ h => nomatch h)⟩) (List.forall_mem_cons.2 ⟨(by omega), (fun _ h => nomatch h)⟩) (by decide)).mono fun _ _ h => ⟨h.1.trans (congrArg (fun x : List By => Ending.returned (.int .u32 ((sumC 0#32 x).toNat : Int))) (by simp only [List.flatMap_cons, List.flatMap_nil, List.append_nil])), h.2⟩) (by kernel_rfl) ?_
          refine G_step [0, 1, 2, 3] 9 [] (by kernel_rfl) (allM (all_cons (q_run (.slice a l.length cap) rfl rfl (wv_n rfl) rfl (fun _ _ hρ _ => r_move (hρ _ _ rfl))) (all_cons (q_run (.int .i64 ((l.length - 4 : Nat) : Int)) rfl rfl (wv_n rfl) rfl (fun _ _ hρ _ => r_move (hρ _ _ rfl))) (all_cons (q_run (.int .i64 ((l.length - 4 : Nat) : Int)) rfl rfl (wv_n rfl) rfl (fun _ _ hρ _ => r_move (hρ _ _ rfl))) (all_cons (q_run (.slice a l1.length (l.length - 4)) rfl rfl (wv_n rfl) rfl (fun ρ _ hρ _ => r_as (r_sliceO sl34 sz5 (hρ _ _ rfl) (bd_some (n := l.length - 4) (hρ _ _ rfl)) (bd_some (n := l.length - 4) (hρ _ _ rfl)) (bd_none ρ _) (by simp) (by omega) (by omega) (by omega)) (by rw [hn1]; exact slo_zero _ _ _ _))) all_nil))))) (allM (all_cons ?_ all_nil))
          refine LOb_call (.agg #[.int .u8 ((((sumC 0#32 l2)).setWidth 8).toNat : Int), .int .u8 ((((sumC 0#32 l2) >>> 8).setWidth 8).toNat : Int), .int .u8 ((((sumC 0#32 l2) >>> 16).setWidth 8).toNat : Int), .int .u8 ((((sumC 0#32 l2) >>> 24).setWidth 8).toNat : Int)]) [(11, .slice a l1.length (l.length - 4))] rfl (wv_n rfl) rfl rfl (fun _ _ hρ _ => r_call (args := [.int .u32 ((sumC 0#32 l2).toNat : Int)]) (enters_of Try.func95 (by kernel_rfl) rfl) (hρ _ _ rfl) ((cons2 (hρ _ _ rfl) rfl)) rfl) (fun w _ => four_c (sumC 0#32 l2) w) (by kernel_rfl) ?_
          refine G_step [0, 1, 2, 3, 11] 12 [] (by kernel_rfl) (allM (all_cons (q_run (.slice a l.length cap) rfl rfl (wv_n rfl) rfl (fun _ _ hρ _ => r_move (hρ _ _ rfl))) (all_cons (q_run (.int .i64 ((l.length - 4 : Nat) : Int)) rfl rfl (wv_n rfl) rfl (fun _ _ hρ _ => r_move (hρ _ _ rfl))) (all_cons (q_run (.int .i64 ((l.length - 4 : Nat) : Int)) rfl rfl (wv_n rfl) rfl (fun _ _ hρ _ => r_move (hρ _ _ rfl))) (all_cons (q_run (.slice a l1.length (l.length - 4)) rfl rfl (wv_n rfl) rfl (fun ρ _ hρ _ => r_as (r_sliceO sl34 sz5 (hρ _ _ rfl) (bd_some (n := l.length - 4) (hρ _ _ rfl)) (bd_some (n := l.length - 4) (hρ _ _ rfl)) (bd_none ρ _) (by simp) (by omega) (by omega) (by omega)) (by rw [hn1]; exact slo_zero _ _ _ _))) (all_cons (q_run (.slice a l1.length (l.length - 4)) rfl rfl (wv_n rfl) rfl (fun _ _ hρ _ => r_assign (hρ _ _ rfl))) all_nil)))))) (allM (all_cons ?_ all_nil))
          refine LOb_store 2 (.cells #[.int .u8 ((((sumC 0#32 l2)).setWidth 8).toNat : Int), .int .u8 ((((sumC 0#32 l2) >>> 8).setWidth 8).toNat : Int), .int .u8 ((((sumC 0#32 l2) >>> 16).setWidth 8).toNat : Int), .int .u8 ((((sumC 0#32 l2) >>> 24).setWidth 8).toNat : Int)] 130) [] rfl (wv_n rfl) rfl rfl rfl (fun _ _ hρ hm => r_store sz130 (hρ _ _ rfl) (hρ _ _ rfl) (hm.at 2 rfl) rfl rfl rfl rfl) (by kernel_rfl) ?_
          exact G_lastQ [] [(0, .slice a l.length cap), (2, .slice none 0 0), (3, .int .i64 0), (4, .int .i64 ((l.length - 4 : Nat) : Int)), (6, .pointer (some ⟨B6, 0, none⟩)), (5, .slice a l1.length (l.length - 4))] (by kernel_rfl) (allM all_nil) (end_old rfl rfl (end_old rfl rfl (end_old rfl rfl (end_old rfl rfl (end_new 10 rfl rfl (end_new 11 rfl rfl end_nil)))))) (fun a w hf hm => At_intro (B3, B6) trivial hf hm (sub_cons rfl (sub_cons rfl (sub_cons rfl (sub_cons rfl (sub_cons rfl (sub_cons rfl sub_nil)))))) (sub_cons rfl (sub_cons rfl sub_nil)))
      · skip
        refine LOb_new 2 (.cells #[.int .u8 0, .int .u8 0, .int .u8 0, .int .u8 0] 130) (fun B => .pointer (some ⟨B, 0, none⟩)) (fun B => []) rfl (wv_n rfl) rfl rfl (fun _ _ _ _ => r_alloc (v := .agg #[.int .u8 0, .int .u8 0, .int .u8 0, .int .u8 0]) (by kernel_rfl) rfl) (fun B => by kernel_rfl) ?_
        intro B7
        refine G_step [0, 1, 2, 3, 4, 5, 6] 7 [] (by kernel_rfl) (allM (all_cons (q_run (.slice a l.length cap) rfl rfl (wv_n rfl) rfl (fun _ _ hρ _ => r_move (hρ _ _ rfl))) (all_cons (q_run (.int .i64 ((l.length - 4 : Nat) : Int)) rfl rfl (wv_n rfl) rfl (fun _ _ hρ _ => r_move (hρ _ _ rfl))) (all_cons (q_run (.int .i64 ((l.length - 4 : Nat) : Int)) rfl rfl (wv_n rfl) rfl (fun _ _ hρ _ => r_move (hρ _ _ rfl))) (all_cons (q_run (.slice a l1.length (l.length - 4)) rfl rfl (wv_n rfl) rfl (fun ρ _ hρ _ => r_as (r_sliceO sl34 sz5 (hρ _ _ rfl) (bd_some (n := l.length - 4) (hρ _ _ rfl)) (bd_some (n := l.length - 4) (hρ _ _ rfl)) (bd_none ρ _) (by simp) (by omega) (by omega) (by omega)) (by rw [hn1]; exact slo_zero _ _ _ _))) (all_cons (q_run (.slice a l.length cap) rfl rfl (wv_n rfl) rfl (fun _ _ hρ _ => r_move (hρ _ _ rfl))) (all_cons (q_run (.int .i64 ((l.length - 4 : Nat) : Int)) rfl rfl (wv_n rfl) rfl (fun _ _ hρ _ => r_move (hρ _ _ rfl))) (all_cons (q_run (.slice a l2.length cap) rfl rfl (wv_n rfl) rfl (fun ρ _ hρ _ => r_as (r_sliceO sl34 sz5 (hρ _ _ rfl) (bd_none ρ _) (bd_some (n := l.length - 4) (hρ _ _ rfl)) (bd_none ρ _) (by simp) (by omega) (by omega) (by omega)) (by rw [hn2]; exact slo_zero _ _ _ _))) all_nil)))))))) (allM (all_cons ?_ all_nil))
        refine LOb_new 1 (.cells #[.slice a l2.length cap] 34) (fun B => .slice (some ⟨B, 0, none⟩) 1 1) (fun B => []) rfl (wv_n rfl) rfl rfl (fun _ _ hρ _ => r_buildSlice (vs := [(0, .slice a l2.length cap)]) (by kernel_rfl) (cons2 (pair2 (hρ _ _ rfl)) rfl)) (fun B => by kernel_rfl) ?_
        intro B8
        refine G_step [0, 1, 2, 3] 8 [] (by kernel_rfl) (allM (all_cons (q_run (.slice a l.length cap) rfl rfl (wv_n rfl) rfl (fun _ _ hρ _ => r_move (hρ _ _ rfl))) (all_cons (q_run (.int .i64 ((l.length - 4 : Nat) : Int)) rfl rfl (wv_n rfl) rfl (fun _ _ hρ _ => r_move (hρ _ _ rfl))) (all_cons (q_run (.int .i64 ((l.length - 4 : Nat) : Int)) rfl rfl (wv_n rfl) rfl (fun _ _ hρ _ => r_move (hρ _ _ rfl))) (all_cons (q_run (.slice a l1.length (l.length - 4)) rfl rfl (wv_n rfl) rfl (fun ρ _ hρ _ => r_as (r_sliceO sl34 sz5 (hρ _ _ rfl) (bd_some (n := l.length - 4) (hρ _ _ rfl)) (bd_some (n := l.length - 4) (hρ _ _ rfl)) (bd_none ρ _) (by simp) (by omega) (by omega) (by omega)) (by rw [hn1]; exact slo_zero _ _ _ _))) all_nil))))) (allM (all_cons ?_ all_nil))
        refine LOb_call (.int .u32 ((sumC 0#32 l2).toNat : Int)) [] rfl (wv_n rfl) rfl rfl (fun _ _ hρ _ => r_call (args := [.slice (some ⟨B8, 0, none⟩) 1 1]) (enters_of Try.func96 (by kernel_rfl) rfl) (hρ _ _ rfl) ((cons2 (hρ _ _ rfl) rfl)) rfl) (fun w hm => (sum_c [(⟨a, cap, l2⟩ : RowV)] (some ⟨B8, 0, none⟩) 1 w ⟨by simp, (fun e => by cases e), .inr ⟨_, 0, _, _, _, rfl, (hm.at 1 rfl), row_of_take (fun _ => rfl) rfl⟩⟩ (List.forall_mem_cons.2 ⟨(hs2.keep hm.ext), (fun _ h => nomatch h)⟩) (List.forall_mem_cons.2 ⟨(by omega), (fun _ h => nomatch h)⟩) (by decide)).mono fun _ _ h => ⟨h.1.trans (congrArg (fun x : List By => Ending.returned (.int .u32 ((sumC 0#32 x).toNat : Int))) (by simp only [List.flatMap_cons, List.flatMap_nil, List.append_nil])), h.2⟩) (by kernel_rfl) ?_
        refine G_step [0, 1, 2, 3] 9 [] (by kernel_rfl) (allM (all_cons (q_run (.slice a l.length cap) rfl rfl (wv_n rfl) rfl (fun _ _ hρ _ => r_move (hρ _ _ rfl))) (all_cons (q_run (.int .i64 ((l.length - 4 : Nat) : Int)) rfl rfl (wv_n rfl) rfl (fun _ _ hρ _ => r_move (hρ _ _ rfl))) (all_cons (q_run (.int .i64 ((l.length - 4 : Nat) : Int)) rfl rfl (wv_n rfl) rfl (fun _ _ hρ _ => r_move (hρ _ _ rfl))) (all_cons (q_run (.slice a l1.length (l.length - 4)) rfl rfl (wv_n rfl) rfl (fun ρ _ hρ _ => r_as (r_sliceO sl34 sz5 (hρ _ _ rfl) (bd_some (n := l.length - 4) (hρ _ _ rfl)) (bd_some (n := l.length - 4) (hρ _ _ rfl)) (bd_none ρ _) (by simp) (by omega) (by omega) (by omega)) (by rw [hn1]; exact slo_zero _ _ _ _))) all_nil))))) (allM (all_cons ?_ all_nil))
        refine LOb_call (.agg #[.int .u8 ((((sumC 0#32 l2)).setWidth 8).toNat : Int), .int .u8 ((((sumC 0#32 l2) >>> 8).setWidth 8).toNat : Int), .int .u8 ((((sumC 0#32 l2) >>> 16).setWidth 8).toNat : Int), .int .u8 ((((sumC 0#32 l2) >>> 24).setWidth 8).toNat : Int)]) [(11, .slice a l1.length (l.length - 4))] rfl (wv_n rfl) rfl rfl (fun _ _ hρ _ => r_call (args := [.int .u32 ((sumC 0#32 l2).toNat : Int)]) (enters_of Try.func95 (by kernel_rfl) rfl) (hρ _ _ rfl) ((cons2 (hρ _ _ rfl) rfl)) rfl) (fun w _ => four_c (sumC 0#32 l2) w) (by kernel_rfl) ?_
        refine G_step [0, 1, 2, 3, 11] 12 [] (by kernel_rfl) (allM (all_cons (q_run (.slice a l.length cap) rfl rfl (wv_n rfl) rfl (fun _ _ hρ _ => r_move (hρ _ _ rfl))) (all_cons (q_run (.int .i64 ((l.length - 4 : Nat) : Int)) rfl rfl (wv_n rfl) rfl (fun _ _ hρ _ => r_move (hρ _ _ rfl))) (all_cons (q_run (.int .i64 ((l.length - 4 : Nat) : Int)) rfl rfl (wv_n rfl) rfl (fun _ _ hρ _ => r_move (hρ _ _ rfl))) (all_cons (q_run (.slice a l1.length (l.length - 4)) rfl rfl (wv_n rfl) rfl (fun ρ _ hρ _ => r_as (r_sliceO sl34 sz5 (hρ _ _ rfl) (bd_some (n := l.length - 4) (hρ _ _ rfl)) (bd_some (n := l.length - 4) (hρ _ _ rfl)) (bd_none ρ _) (by simp) (by omega) (by omega) (by omega)) (by rw [hn1]; exact slo_zero _ _ _ _))) (all_cons (q_run (.slice a l1.length (l.length - 4)) rfl rfl (wv_n rfl) rfl (fun _ _ hρ _ => r_assign (hρ _ _ rfl))) all_nil)))))) (allM (all_cons ?_ all_nil))
        refine LOb_store 2 (.cells #[.int .u8 ((((sumC 0#32 l2)).setWidth 8).toNat : Int), .int .u8 ((((sumC 0#32 l2) >>> 8).setWidth 8).toNat : Int), .int .u8 ((((sumC 0#32 l2) >>> 16).setWidth 8).toNat : Int), .int .u8 ((((sumC 0#32 l2) >>> 24).setWidth 8).toNat : Int)] 130) [] rfl (wv_n rfl) rfl rfl rfl (fun _ _ hρ hm => r_store sz130 (hρ _ _ rfl) (hρ _ _ rfl) (hm.at 2 rfl) rfl rfl rfl rfl) (by kernel_rfl) ?_
        exact G_lastQ [] [(0, .slice a l.length cap), (2, .slice none 0 0), (3, .int .i64 0), (4, .int .i64 ((l.length - 4 : Nat) : Int)), (6, .pointer (some ⟨B7, 0, none⟩)), (5, .slice a l1.length (l.length - 4))] (by kernel_rfl) (allM all_nil) (end_old rfl rfl (end_old rfl rfl (end_old rfl rfl (end_old rfl rfl (end_new 10 rfl rfl (end_new 11 rfl rfl end_nil)))))) (fun a w hf hm => At_intro (B8, B7) trivial hf hm (sub_cons rfl (sub_cons rfl (sub_cons rfl (sub_cons rfl (sub_cons rfl (sub_cons rfl sub_nil)))))) (sub_cons rfl (sub_cons rfl sub_nil)))
    · skip
      obtain ⟨Bx7, Bx10⟩ := z
      show T _ _ _ [(0, .slice a l.length cap), (2, .slice none 0 0), (3, .int .i64 0), (4, .int .i64 ((l.length - 4 : Nat) : Int)), (6, .pointer (some ⟨Bx10, 0, none⟩)), (5, .slice a l1.length (l.length - 4))] [(1, .blk Bx7 (.cells #[.slice a l2.length cap] 34)), (2, .blk Bx10 (.cells #[.int .u8 ((((sumC 0#32 l2)).setWidth 8).toNat : Int), .int .u8 ((((sumC 0#32 l2) >>> 8).setWidth 8).toNat : Int), .int .u8 ((((sumC 0#32 l2) >>> 16).setWidth 8).toNat : Int), .int .u8 ((((sumC 0#32 l2) >>> 24).setWidth 8).toNat : Int)] 130))]
      refine T_seq ?_
      obtain ⟨l9, hl9, hn9⟩ : ∃ lz, lz = (l.drop (l.length - 4)).take (l.length - (l.length - 4)) ∧ lz.length = l.length - (l.length - 4) := ⟨_, rfl, by rw [List.length_take, List.length_drop]; omega⟩
      obtain ⟨a9, ha9⟩ : ∃ az : Option Addr, az = (if cap = l.length - 4 then a else Option.map (·.add ((l.length - 4) * 1)) a) := ⟨_, rfl⟩
      have hs9 := SliceAt.part hv (lo := l.length - 4) (hi := l.length) (m := cap) (by omega) (by omega) (by omega) (by omega)
      rw [← hl9, ← ha9] at hs9
      refine T_seq (T_draw (V := [(0, .slice a l.length cap), (1, .int .i64 ((l.length - 4 : Nat) : Int)), (2, .slice a9 l9.length (cap - (l.length - 4))), (3, .slice (some ⟨Bx10, 0, none⟩) 4 4)]) [0, 0, 3, 0, 15, 31] [[(0, none)], [(4, none)], [(22, some 0), (23, some 1)], [(6, none)], [(24, some 2), (25, some 3)], [(26, some 4)]] 16 mixed (by kernel_rfl) ?_)
      refine G_step [0, 1, 2, 3] 4 [] (by kernel_rfl) (allM (all_cons (q_run (.slice a l.length cap) rfl rfl (wv_n rfl) rfl (fun _ _ hρ _ => r_move (hρ _ _ rfl))) (all_cons (q_run (.int .i64 ((l.length - 4 : Nat) : Int)) rfl rfl (wv_n rfl) rfl (fun _ _ hρ _ => r_move (hρ _ _ rfl))) (all_cons (q_run (.slice a9 l9.length (cap - (l.length - 4))) rfl rfl (wv_n rfl) rfl (fun ρ _ hρ _ => r_as (r_sliceO sl34 sz5 (hρ _ _ rfl) (bd_none ρ _) (bd_none ρ _) (bd_some (n := l.length - 4) (hρ _ _ rfl)) (by simp) (by omega) (by omega) (by omega)) (by rw [hn9, ha9]))) (all_cons (q_run (.slice (some ⟨Bx10, 0, none⟩) 4 4) rfl rfl (wv_n rfl) rfl (fun _ _ hρ _ => r_sliceA ar130 sz5 (by decide) (hρ _ _ rfl))) all_nil))))) (allM (all_cons ?_ all_nil))
      refine LOb_call (.bool (decide (l9 = [((sumC 0#32 l2)).setWidth 8, ((sumC 0#32 l2) >>> 8).setWidth 8, ((sumC 0#32 l2) >>> 16).setWidth 8, ((sumC 0#32 l2) >>> 24).setWidth 8]))) [(5, .bool (!(decide (l9 = [((sumC 0#32 l2)).setWidth 8, ((sumC 0#32 l2) >>> 8).setWidth 8, ((sumC 0#32 l2) >>> 16).setWidth 8, ((sumC 0#32 l2) >>> 24).setWidth 8]))))] rfl (wv_n rfl) rfl rfl (fun _ _ hρ _ => r_call (args := [.slice a9 l9.length (cap - (l.length - 4)), .slice (some ⟨Bx10, 0, none⟩) 4 4]) (enters_of Try.func16 (by kernel_rfl) rfl) (hρ _ _ rfl) ((cons2 (hρ _ _ rfl) (cons2 (hρ _ _ rfl) rfl))) rfl) (fun w hm => equal_b l9 [((sumC 0#32 l2)).setWidth 8, ((sumC 0#32 l2) >>> 8).setWidth 8, ((sumC 0#32 l2) >>> 16).setWidth 8, ((sumC 0#32 l2) >>> 24).setWidth 8] a9 (some ⟨Bx10, 0, none⟩) (cap - (l.length - 4)) 4 w (hs9.keep hm.ext) ⟨by simp, (fun e => by cases e), .inr ⟨_, 0, _, _, _, rfl, (hm.at 2 rfl), row_of_take (fun _ => rfl) rfl⟩⟩ (by omega) (Nat.le_of_ble_eq_true rfl)) (by kernel_rfl) ?_
      refine G_last [5] [(2, .slice none 0 0), (3, .int .i64 0), (5, .slice a l1.length (l.length - 4)), (27, .bool (!(decide (l9 = [((sumC 0#32 l2)).setWidth 8, ((sumC 0#32 l2) >>> 8).setWidth 8, ((sumC 0#32 l2) >>> 16).setWidth 8, ((sumC 0#32 l2) >>> 24).setWidth 8]))))] (by kernel_rfl) (allM (all_cons (q_run (.bool (!(decide (l9 = [((sumC 0#32 l2)).setWidth 8, ((sumC 0#32 l2) >>> 8).setWidth 8, ((sumC 0#32 l2) >>> 16).setWidth 8, ((sumC 0#32 l2) >>> 24).setWidth 8])))) rfl rfl (wv_n rfl) rfl (fun _ _ hρ _ => r_not (b := decide (l9 = [((sumC 0#32 l2)).setWidth 8, ((sumC 0#32 l2) >>> 8).setWidth 8, ((sumC 0#32 l2) >>> 16).setWidth 8, ((sumC 0#32 l2) >>> 24).setWidth 8])) (hρ _ _ rfl))) all_nil)) (end_old rfl rfl (end_old rfl rfl (end_old rfl rfl (end_new 5 rfl rfl end_nil)))) ?_
      refine T_cond rfl (fun h1 => ?_) (fun h1 => ?_)
      · replace h1 := of_decide_eq_false (bnot_t h1)
        refine T_seq (T_region ?_)
        refine TL_q (.slice none 0 0) (fun _ _ hρ _ => r_assign (hρ _ _ rfl)) rfl rfl rfl (w_n rfl) ?_
        refine TL_q (.int .i64 120) (fun _ _ hρ _ => r_assign (hρ _ _ rfl)) rfl rfl rfl (w_n rfl) ?_
        refine TL_seq ?_
        refine T_ret' ?_
        refine p_then_r ?_
        refine ret_of rfl (.tuple #[.slice none 0 0, .int .i64 120]) (fun tmps w hk hm => res2 rfl (res_tmp (hk 2 _ rfl)) (res_tmp (hk 3 _ rfl))) (fun w hm => ?_)
        have e0 : openP l = none := open_f hl2 hl9 h1
        have e1 : openL l = [] := by unfold openL; rw [e0]; rfl
        have e2 : openE l = 120 := by unfold openE; rw [e0]; try rfl
        rw [e1, e2]
        exact ⟨none, 0, rfl, hm.ext, World.ownsRow_nil _ _ _ _⟩
      · replace h1 := of_decide_eq_true (bnot_f h1)
        refine T_skip' ?_
        refine p_seq ?_
        refine T_seq (T_region ?_)
        refine TL_new 3 (.cells #[] 5) (fun B => .slice (some ⟨B, 0, none⟩) 0 0) (fun _ _ _ _ => r_buildSlice (vs := []) (by kernel_rfl) rfl) rfl rfl rfl (w_n rfl) ?_
        intro B10
        refine TL_q (.slice a l1.length (l.length - 4)) (fun _ _ hρ _ => r_move (hρ _ _ rfl)) rfl rfl rfl (w_n rfl) ?_
        refine TL_mem ([(3, .row (.slice (some ⟨B10, 0, none⟩) 0 0) 5 1 0 []), (1, .blk Bx7 (.cells #[.slice a l2.length cap] 34)), (2, .blk Bx10 (.cells #[.int .u8 ((((sumC 0#32 l2)).setWidth 8).toNat : Int), .int .u8 ((((sumC 0#32 l2) >>> 8).setWidth 8).toNat : Int), .int .u8 ((((sumC 0#32 l2) >>> 16).setWidth 8).toNat : Int), .int .u8 ((((sumC 0#32 l2) >>> 24).setWidth 8).toNat : Int)] 130))]) (fun _ hm => MemOk.sub (hm.toRow (n := 0) (cap := 0) (s := 1) 3 rfl rfl (by omega) rfl _ rfl) (sub_cons rfl (sub_cons rfl (sub_cons rfl sub_nil)))) ?_
        refine TL_append (n := 0) (m := l1.length) (xs := []) (news := (l1.flatMap byc)) (z := .int .u8 0) 3 rfl rfl rfl sl34 sz5 by5 (by kernel_rfl) rfl rfl (.inl rfl) (fun _ hm => by have := src_of byc_len (hs1.keep hm.ext); simpa using this) (by intro u hu; obtain ⟨x, _, hx⟩ := List.mem_flatMap.1 hu; exact byc_one x u hx) (by omega) (by omega) rfl (w_n rfl) ?_
        intro a11 cap11
        refine TL_q (.slice a11 (0 + l1.length) cap11) (fun _ _ hρ _ => r_assign (hρ _ _ rfl)) rfl rfl rfl (w_n rfl) ?_
        refine TL_q (.int .i64 0) (fun _ _ hρ _ => r_assign (hρ _ _ rfl)) rfl rfl rfl (w_n rfl) ?_
        refine TL_seq ?_
        refine T_ret' ?_
        refine ret_of rfl (.tuple #[.slice a11 (0 + l1.length) cap11, .int .i64 0]) (fun tmps w hk hm => res2 rfl (res_tmp (hk 2 _ rfl)) (res_tmp (hk 3 _ rfl))) (fun w hm => ?_)
        have e0 : openP l = some l1 := open_t h4 hl1 hl2 hl9 h1
        have e1 : openL l = l1 := by unfold openL; rw [e0]; rfl
        have e2 : openE l = 0 := by unfold openE; rw [e0]; try rfl
        rw [e1, e2]
        have hrow := hm.row 3 rfl
        simp only [Nat.zero_add, List.nil_append] at hrow ⊢
        exact ⟨a11, cap11, rfl, hm.ext, hrow⟩
  · skip
    refine T_seq (T_region ?_)
    refine TL_q (.slice a l.length cap) (fun _ _ hρ _ => r_move (hρ _ _ rfl)) rfl rfl rfl (w_n rfl) ?_
    refine TL_q (.int .i64 ((l.length : Nat) : Int)) (fun _ _ hρ _ => r_len sl34 (hρ _ _ rfl)) rfl rfl rfl (w_n rfl) ?_
    refine TL_q (.int .i64 (((l.length : Nat) : Int) - 4)) (fun _ _ hρ _ => r_as (r_sub (hρ _ _ rfl) (hρ _ _ rfl)) (int_as (wrap64 (by omega) (by omega)))) rfl rfl rfl (w_n rfl) ?_
    refine TL_q (.int .i64 (((l.length : Nat) : Int) - 4)) (fun _ _ hρ _ => r_assign (hρ _ _ rfl)) rfl rfl rfl (w_n rfl) ?_
    refine TL_seq ?_
    refine T_seq ?_
    have hng : ((l.length : Nat) : Int) - 4 < 0 := by omega
    refine T_seq (T_region ?_)
    refine TL_q (.int .i64 (((l.length : Nat) : Int) - 4)) (fun _ _ hρ _ => r_move (hρ _ _ rfl)) rfl rfl rfl (w_n rfl) ?_
    refine TL_q (.bool true) (fun _ _ hρ _ => r_as (r_lss (hρ _ _ rfl) (hρ _ _ rfl)) (bool_as (decide_eq_true hng))) rfl rfl rfl (w_n rfl) ?_
    refine TL_seq ?_
    refine T_cond_t rfl ?_
    refine T_seq (T_region ?_)
    refine TL_q (.slice none 0 0) (fun _ _ hρ _ => r_assign (hρ _ _ rfl)) rfl rfl rfl (w_n rfl) ?_
    refine TL_q (.int .i64 120) (fun _ _ hρ _ => r_assign (hρ _ _ rfl)) rfl rfl rfl (w_n rfl) ?_
    refine TL_seq ?_
    refine T_ret' ?_
    refine p_then_r ?_
    refine ret_of rfl (.tuple #[.slice none 0 0, .int .i64 120]) (fun tmps w hk hm => res2 rfl (res_tmp (hk 2 _ rfl)) (res_tmp (hk 3 _ rfl))) (fun w hm => ?_)
    have e0 : openP l = none := open_s h4
    have e1 : openL l = [] := by unfold openL; rw [e0]; rfl
    have e2 : openE l = 120 := by unfold openE; rw [e0]; try rfl
    rw [e1, e2]
    exact ⟨none, 0, rfl, hm.ext, World.ownsRow_nil _ _ _ _⟩

theorem is_c (l : List By) (a : Option Addr) (cap n k : Nat) (mask : Wd) (B5 B4 B3 : Nat) (w : World) (hl : l.length ≤ 1000000) (hn : n < 8 * l.length) (hk : k < 32) (h5 : hp w B5 = some (.cells #[.int .u32 (mask.toNat : Int)] 46)) (h4 : hp w B4 = some (.cells #[.int .i64 (n : Int)] 3)) (h3 : hp w B3 = some (.cells #[.slice a l.length cap] 34)) : Calls Try.prog 93 #[.int .i64 (k : Int), .pointer (some ⟨B5, 0, none⟩), .pointer (some ⟨B4, 0, none⟩), .pointer (some ⟨B3, 0, none⟩)] w fun e w' => e = .returned (.bool (isS l n mask k)) ∧ Below w.heap.size w w' := by
  refine calls_of_T (l := [.int .i64 ((k : Nat) : Int), .pointer (some ⟨B5, 0, none⟩), .pointer (some ⟨B4, 0, none⟩), .pointer (some ⟨B3, 0, none⟩)]) 20 Try.func93 rfl rfl rfl ?_
  show T _ _ _ [(0, .int .i64 ((k : Nat) : Int)), (1, .pointer (some ⟨B5, 0, none⟩)), (2, .pointer (some ⟨B4, 0, none⟩)), (3, .pointer (some ⟨B3, 0, none⟩))] []
  refine T_seq (T_region ?_)
  refine TL_q (.bool false) (fun _ _ hρ _ => r_assign (hρ _ _ rfl)) rfl rfl rfl (w_n rfl) ?_
  refine TL_seq ?_
  by_cases hb : mask.getLsbD k = true
  · skip
    refine T_seq (T_region ?_)
    refine TL_q (.int .u32 ((mask).toNat : Int)) (fun _ _ hρ hm => r_load ag46 (hρ _ _ rfl) (hm.old h5) rfl) rfl rfl rfl (w_n rfl) ?_
    refine TL_q (.int .i64 ((k : Nat) : Int)) (fun _ _ hρ _ => r_move (hρ _ _ rfl)) rfl rfl rfl (w_n rfl) ?_
    refine TL_q (.int .u32 ((mask >>> k).toNat : Int)) (fun _ _ hρ _ => r_shrB (k := .u32) (a := mask) (n := k) (by show _ ≤ 32; omega) (hρ _ _ rfl) (hρ _ _ rfl)) rfl rfl rfl (w_n rfl) ?_
    refine TL_q (.int .u32 (((mask >>> k) &&& (1#32)).toNat : Int)) (fun _ _ hρ _ => r_andB (k := .u32) (a := (mask >>> k)) (b := (1#32)) rfl (hρ _ _ rfl) (hρ _ _ rfl)) rfl rfl rfl (w_n rfl) ?_
    refine TL_q (.bool true) (fun _ _ hρ _ => r_as (r_eql (hρ _ _ rfl) (hρ _ _ rfl)) (bool_as (isb_t hb))) rfl rfl rfl (w_n rfl) ?_
    refine TL_q (.bool true) (fun _ _ hρ _ => r_move (hρ _ _ rfl)) rfl rfl rfl (w_n rfl) ?_
    refine TL_q (.int .i64 ((n : Nat) : Int)) (fun _ _ hρ hm => r_load ag3 (hρ _ _ rfl) (hm.old h4) rfl) rfl rfl rfl (want_y 11 rfl rfl rfl) ?_
    refine TL_q (.int .i64 ((k : Nat) : Int)) (fun _ _ hρ _ => r_move (hρ _ _ rfl)) rfl rfl rfl (want_y 11 rfl rfl rfl) ?_
    refine TL_q (.int .i64 ((n + k : Nat) : Int)) (fun _ _ hρ _ => r_as (r_add (hρ _ _ rfl) (hρ _ _ rfl)) (int_as ((wrap64 (by omega) (by omega)).trans (by omega)))) rfl rfl rfl (want_y 11 rfl rfl rfl) ?_
    refine TL_q (.slice a l.length cap) (fun _ _ hρ hm => r_load ag34 (hρ _ _ rfl) (hm.old h3) rfl) rfl rfl rfl (want_y 11 rfl rfl rfl) ?_
    refine TL_q (.int .i64 ((l.length : Nat) : Int)) (fun _ _ hρ _ => r_len sl34 (hρ _ _ rfl)) rfl rfl rfl (want_y 11 rfl rfl rfl) ?_
    refine TL_q (.int .i64 ((8 * l.length : Nat) : Int)) (fun _ _ hρ _ => r_as (r_mul (hρ _ _ rfl) (hρ _ _ rfl)) (int_as ((wrap64 (by omega) (by omega)).trans (by omega)))) rfl rfl rfl (want_y 11 rfl rfl rfl) ?_
    refine TL_q (.bool (decide (((n + k : Nat) : Int) < ((8 * l.length : Nat) : Int)))) (fun _ _ hρ _ => r_lss (hρ _ _ rfl) (hρ _ _ rfl)) rfl rfl rfl (want_y 11 rfl rfl rfl) ?_
    refine TL_q (.bool (decide (((n + k : Nat) : Int) < ((8 * l.length : Nat) : Int)))) (fun _ _ hρ _ => r_pick_t (hρ _ _ rfl) (hρ _ _ rfl)) rfl rfl rfl (w_n rfl) ?_
    refine TL_q (.bool (decide (((n + k : Nat) : Int) < ((8 * l.length : Nat) : Int)))) (fun _ _ hρ _ => r_assign (hρ _ _ rfl)) rfl rfl rfl (w_n rfl) ?_
    refine TL_seq ?_
    refine T_ret' ?_
    refine ret_of rfl (.bool (decide (((n + k : Nat) : Int) < ((8 * l.length : Nat) : Int)))) (fun tmps w hk hm => res1 rfl (res_tmp (hk 5 _ rfl))) (fun w hm => ?_)
    exact ⟨congrArg (fun b => Ending.returned (.bool b)) (by unfold isS; rw [hb, Bool.true_and]; exact decide_eq_decide.2 (by omega)), hm.ext⟩
  · skip
    refine T_seq (T_region ?_)
    refine TL_q (.int .u32 ((mask).toNat : Int)) (fun _ _ hρ hm => r_load ag46 (hρ _ _ rfl) (hm.old h5) rfl) rfl rfl rfl (w_n rfl) ?_
    refine TL_q (.int .i64 ((k : Nat) : Int)) (fun _ _ hρ _ => r_move (hρ _ _ rfl)) rfl rfl rfl (w_n rfl) ?_
    refine TL_q (.int .u32 ((mask >>> k).toNat : Int)) (fun _ _ hρ _ => r_shrB (k := .u32) (a := mask) (n := k) (by show _ ≤ 32; omega) (hρ _ _ rfl) (hρ _ _ rfl)) rfl rfl rfl (w_n rfl) ?_
    refine TL_q (.int .u32 (((mask >>> k) &&& (1#32)).toNat : Int)) (fun _ _ hρ _ => r_andB (k := .u32) (a := (mask >>> k)) (b := (1#32)) rfl (hρ _ _ rfl) (hρ _ _ rfl)) rfl rfl rfl (w_n rfl) ?_
    refine TL_q (.bool false) (fun _ _ hρ _ => r_as (r_eql (hρ _ _ rfl) (hρ _ _ rfl)) (bool_as (isb_f hb))) rfl rfl rfl (w_n rfl) ?_
    refine TL_q (.bool false) (fun _ _ hρ _ => r_move (hρ _ _ rfl)) rfl rfl rfl (w_n rfl) ?_
    refine TL_no rfl rfl (want_n 11 rfl rfl rfl) ?_
    refine TL_no rfl rfl (want_n 11 rfl rfl rfl) ?_
    refine TL_no rfl rfl (want_n 11 rfl rfl rfl) ?_
    refine TL_no rfl rfl (want_n 11 rfl rfl rfl) ?_
    refine TL_no rfl rfl (want_n 11 rfl rfl rfl) ?_
    refine TL_no rfl rfl (want_n 11 rfl rfl rfl) ?_
    refine TL_no rfl rfl (want_n 11 rfl rfl rfl) ?_
    refine TL_q (.bool false) (fun _ _ hρ _ => r_pick_f (hρ _ _ rfl) (hρ _ _ rfl)) rfl rfl rfl (w_n rfl) ?_
    refine TL_q (.bool false) (fun _ _ hρ _ => r_assign (hρ _ _ rfl)) rfl rfl rfl (w_n rfl) ?_
    refine TL_seq ?_
    refine T_ret' ?_
    refine ret_of rfl (.bool false) (fun tmps w hk hm => res1 rfl (res_tmp (hk 5 _ rfl))) (fun w hm => ?_)
    exact ⟨congrArg (fun b => Ending.returned (.bool b)) (by unfold isS; rw [Bool.eq_false_iff.2 hb]; rfl), hm.ext⟩

theorem spoil_in (n : Nat) (mask : Wd) (l : List By) (a : Option Addr) (cap : Nat) (w : World) (hv : SliceAt w a cap 1 byc l) (hl : l.length ≤ 1000000) (hcap : cap ≤ Go.maxLen) (hn : n < 8 * l.length) : Calls Try.prog 53 #[.slice a l.length cap, .int .i64 (n : Int), .int .u32 (mask.toNat : Int)] w fun e w' => ∃ a' cap', e = .returned (.tuple #[.slice a' ((spoilP l n mask).getD []).length cap', .int .i64 (spoilE (spoilP l n mask))]) ∧ Below w.heap.size w w' ∧ w'.ownsRow w.heap.size 5 1 (.slice a' ((spoilP l n mask).getD []).length cap') ((spoilP l n mask).getD []).length (((spoilP l n mask).getD []).flatMap byc) := by
  have hvl := hv.1
  refine calls_of_T (l := [.slice a l.length cap, .int .i64 ((n : Nat) : Int), .int .u32 ((mask).toNat : Int)]) 52 Try.func53 rfl rfl rfl ?_
  show T _ _ _ [(0, .slice a l.length cap), (1, .int .i64 ((n : Nat) : Int)), (2, .int .u32 ((mask).toNat : Int))] []
  refine T_seq (T_region ?_)
  refine TL_new 1 (.cells #[.slice a l.length cap] 34) (fun B => .pointer (some ⟨B, 0, none⟩)) (fun _ _ hρ _ => r_box (hρ _ _ rfl) rfl) rfl rfl rfl (w_n rfl) ?_
  intro B1
  refine TL_new 2 (.cells #[.int .i64 ((n : Nat) : Int)] 3) (fun B => .pointer (some ⟨B, 0, none⟩)) (fun _ _ hρ _ => r_box (hρ _ _ rfl) rfl) rfl rfl rfl (w_n rfl) ?_
  intro B2
  refine TL_new 3 (.cells #[.int .u32 ((mask).toNat : Int)] 46) (fun B => .pointer (some ⟨B, 0, none⟩)) (fun _ _ hρ _ => r_box (hρ _ _ rfl) rfl) rfl rfl rfl (w_n rfl) ?_
  intro B3
  refine TL_q (.slice none 0 0) (fun _ _ hρ _ => r_assign (hρ _ _ rfl)) rfl rfl rfl (w_n rfl) ?_
  refine TL_q (.int .i64 0) (fun _ _ hρ _ => r_assign (hρ _ _ rfl)) rfl rfl rfl (w_n rfl) ?_
  refine TL_seq ?_
  refine T_seq ?_
  have hp1 : ¬ (((n : Nat) : Int) < 0) := by omega
  have hp2 : ¬ (((8 * l.length : Nat) : Int) ≤ ((n : Nat) : Int)) := by omega
  refine T_seq (T_region ?_)
  refine TL_q (.int .i64 ((n : Nat) : Int)) (fun _ _ hρ hm => r_load ag3 (hρ _ _ rfl) (hm.at 2 rfl) rfl) rfl rfl rfl (w_n rfl) ?_
  refine TL_q (.bool false) (fun _ _ hρ _ => r_as (r_lss (hρ _ _ rfl) (hρ _ _ rfl)) (bool_as (decide_eq_false hp1))) rfl rfl rfl (w_n rfl) ?_
  refine TL_q (.bool false) (fun _ _ hρ _ => r_move (hρ _ _ rfl)) rfl rfl rfl (w_n rfl) ?_
  refine TL_q (.int .i64 ((n : Nat) : Int)) (fun _ _ hρ hm => r_load ag3 (hρ _ _ rfl) (hm.at 2 rfl) rfl) rfl rfl rfl (want_y 14 rfl rfl rfl) ?_
  refine TL_q (.slice a l.length cap) (fun _ _ hρ hm => r_load ag34 (hρ _ _ rfl) (hm.at 1 rfl) rfl) rfl rfl rfl (want_y 14 rfl rfl rfl) ?_
  refine TL_q (.int .i64 ((l.length : Nat) : Int)) (fun _ _ hρ _ => r_len sl34 (hρ _ _ rfl)) rfl rfl rfl (want_y 14 rfl rfl rfl) ?_
  refine TL_q (.int .i64 ((8 * l.length : Nat) : Int)) (fun _ _ hρ _ => r_as (r_mul (hρ _ _ rfl) (hρ _ _ rfl)) (int_as ((wrap64 (by omega) (by omega)).trans (by omega)))) rfl rfl rfl (want_y 14 rfl rfl rfl) ?_
  refine TL_q (.bool false) (fun _ _ hρ _ => r_as (r_geq (hρ _ _ rfl) (hρ _ _ rfl)) (bool_as (decide_eq_false hp2))) rfl rfl rfl (want_y 14 rfl rfl rfl) ?_
  refine TL_q (.bool false) (fun _ _ hρ _ => r_pick_f (hρ _ _ rfl) (hρ _ _ rfl)) rfl rfl rfl (w_n rfl) ?_
  refine TL_seq ?_
  refine T_cond_f rfl ?_
  refine T_skip' ?_
  refine p_seq ?_
  refine T_seq (T_region ?_)
  refine TL_q (.func (.func 93) #[] #[.pointer (some ⟨B3, 0, none⟩), .pointer (some ⟨B2, 0, none⟩), .pointer (some ⟨B1, 0, none⟩)]) (fun _ _ hρ _ => r_makeFunc (by simp) (map_arr (cons2 (hρ _ _ rfl) (cons2 (hρ _ _ rfl) (cons2 (hρ _ _ rfl) rfl))))) rfl rfl rfl (w_n rfl) ?_
  refine TL_q (.func (.func 93) #[] #[.pointer (some ⟨B3, 0, none⟩), .pointer (some ⟨B2, 0, none⟩), .pointer (some ⟨B1, 0, none⟩)]) (fun _ _ hρ _ => r_assign (hρ _ _ rfl)) rfl rfl rfl (w_n rfl) ?_
  refine TL_seq ?_
  refine T_seq (T_region ?_)
  refine TL_q (.slice a l.length cap) (fun _ _ hρ hm => r_load ag34 (hρ _ _ rfl) (hm.at 1 rfl) rfl) rfl rfl rfl (w_n rfl) ?_
  refine TL_q (.int .i64 ((l.length : Nat) : Int)) (fun _ _ hρ _ => r_len sl34 (hρ _ _ rfl)) rfl rfl rfl (w_n rfl) ?_
  refine TL_makeSlice (n := l.length) (cap := l.length) (z := .int .u8 0) (f := byc) (u := 0#8) 4 rfl rfl rfl sl34 by5 sz5 (by kernel_rfl) rfl rfl (by omega) (by omega) (by omega) rfl (w_n rfl) ?_
  intro B4
  refine TL_q (.slice (some ⟨B4, 0, none⟩) l.length l.length) (fun _ _ hρ _ => r_assign (hρ _ _ rfl)) rfl rfl rfl (w_n rfl) ?_
  refine TL_seq ?_
  refine T_seq (T_region ?_)
  refine TL_q (.slice (some ⟨B4, 0, none⟩) l.length l.length) (fun _ _ hρ _ => r_move (hρ _ _ rfl)) rfl rfl rfl (w_n rfl) ?_
  refine TL_q (.slice a l.length cap) (fun _ _ hρ hm => r_load ag34 (hρ _ _ rfl) (hm.at 1 rfl) rfl) rfl rfl rfl (w_n rfl) ?_
  refine TL_copy (news := (l.flatMap byc)) 4 rfl rfl rfl rfl sl34 sz5 (fun _ hm => by have := src_of byc_len (hv.keep hm.ext); simpa using this) (by intro u hu; obtain ⟨x, _, hx⟩ := List.mem_flatMap.1 hu; exact byc_one x u hx) rfl (w_n rfl) ?_
  refine TL_seq ?_
  refine T_seq (T_region ?_)
  refine TL_q (.bool false) (fun _ _ hρ _ => r_assign (hρ _ _ rfl)) rfl rfl rfl (w_n rfl) ?_
  refine TL_seq ?_
  refine T_seq ?_
  refine T_seq (T_region ?_)
  refine TL_q (.int .i64 0) (fun _ _ hρ _ => r_move (hρ _ _ rfl)) rfl rfl rfl (w_n rfl) ?_
  refine TL_seq ?_
  refine T_block ?_
  refine T_loop (ι := Nat) (fun (k : Nat) => k ≤ 32) (fun (k : Nat) => [(4, .pointer (some ⟨B2, 0, none⟩)), (6, .slice none 0 0), (7, .int .i64 0), (8, .func (.func 93) #[] #[.pointer (some ⟨B3, 0, none⟩), .pointer (some ⟨B2, 0, none⟩), .pointer (some ⟨B1, 0, none⟩)]), (9, .slice (some ⟨B4, 0, none⟩) l.length l.length), (28, .int .i64 ((k : Nat) : Int)), (10, .bool (someN l n mask k))]) (fun (k : Nat) => [(1, .blk B1 (.cells #[.slice a l.length cap] 34)), (2, .blk B2 (.cells #[.int .i64 ((n : Nat) : Int)] 3)), (3, .blk B3 (.cells #[.int .u32 ((mask).toNat : Int)] 46)), (4, .row (.slice (some ⟨B4, 0, none⟩) l.length l.length) 5 1 l.length ((spoilN l n mask k).flatMap byc))]) (fun (k : Nat) => 32 - k) 0 (Nat.zero_le _) (sub_cons rfl (sub_cons rfl (sub_cons rfl (sub_cons rfl (sub_cons rfl (sub_cons rfl (sub_cons rfl sub_nil))))))) (sub_cons rfl (sub_cons rfl (sub_cons rfl (sub_cons rfl sub_nil)))) ?_
  rintro k hp
  show T _ _ _ [(4, .pointer (some ⟨B2, 0, none⟩)), (6, .slice none 0 0), (7, .int .i64 0), (8, .func (.func 93) #[] #[.pointer (some ⟨B3, 0, none⟩), .pointer (some ⟨B2, 0, none⟩), .pointer (some ⟨B1, 0, none⟩)]), (9, .slice (some ⟨B4, 0, none⟩) l.length l.length), (28, .int .i64 ((k : Nat) : Int)), (10, .bool (someN l n mask k))] [(1, .blk B1 (.cells #[.slice a l.length cap] 34)), (2, .blk B2 (.cells #[.int .i64 ((n : Nat) : Int)] 3)), (3, .blk B3 (.cells #[.int .u32 ((mask).toNat : Int)] 46)), (4, .row (.slice (some ⟨B4, 0, none⟩) l.length l.length) 5 1 l.length ((spoilN l n mask k).flatMap byc))]
  refine T_seq (T_region ?_)
  refine TL_q (.bool (decide (((k : Nat) : Int) < 32))) (fun _ _ hρ _ => r_lss (hρ _ _ rfl) (hρ _ _ rfl)) rfl rfl rfl (w_n rfl) ?_
  refine TL_seq ?_
  refine T_seq ?_
  refine T_cond rfl (fun h1 => ?_) (fun h1 => ?_)
  · replace h1 := of_decide_eq_true h1
    refine T_skip' ?_
    refine p_seq ?_
    refine T_seq ?_
    refine T_block ?_
    refine T_seq (T_region ?_)
    refine TL_q (.int .i64 ((k : Nat) : Int)) (fun _ _ hρ _ => r_move (hρ _ _ rfl)) rfl rfl rfl (w_n rfl) ?_
    refine TL_q (.int .i64 ((k : Nat) : Int)) (fun _ _ hρ _ => r_assign (hρ _ _ rfl)) rfl rfl rfl (w_n rfl) ?_
    refine TL_seq ?_
    refine T_seq (T_region ?_)
    refine TL_q (.func (.func 93) #[] #[.pointer (some ⟨B3, 0, none⟩), .pointer (some ⟨B2, 0, none⟩), .pointer (some ⟨B1, 0, none⟩)]) (fun _ _ hρ _ => r_move (hρ _ _ rfl)) rfl rfl rfl (w_n rfl) ?_
    refine TL_q (.int .i64 ((k : Nat) : Int)) (fun _ _ hρ _ => r_move (hρ _ _ rfl)) rfl rfl rfl (w_n rfl) ?_
    refine TL_call (.bool (isS l n mask k)) (fun _ _ hρ _ => r_call (args := [.int .i64 ((k : Nat) : Int)]) (enters_of Try.func93 (by kernel_rfl) rfl) (hρ _ _ rfl) ((cons2 (hρ _ _ rfl) rfl)) rfl) (fun w hm => is_c l a cap n k mask B3 B2 B1 w hl hn (by omega) (hm.at 3 rfl) (hm.at 2 rfl) (hm.at 1 rfl)) rfl rfl rfl (w_n rfl) ?_
    refine TL_seq ?_
    refine T_cond rfl (fun h2 => ?_) (fun h2 => ?_)
    · skip
      have hsl := spoilN_len l n mask k
      have hsi := isS_t h2
      obtain ⟨y, hy⟩ : ∃ y, (spoilN l n mask k)[(n + k) / 8]? = some y := ⟨_, List.getElem?_eq_getElem (by omega)⟩
      refine T_seq (T_draw (V := [(0, .slice (some ⟨B4, 0, none⟩) l.length l.length), (1, .int .i64 ((n : Nat) : Int)), (2, .int .i64 ((k : Nat) : Int)), (3, .int .i64 ((n + k : Nat) : Int)), (4, .int .i64 (((n + k) / 8 : Nat) : Int)), (5, .pointer (some ⟨B4, 0 + ((n + k) / 8) * 1, none⟩)), (6, .int .u8 ((y).toNat : Int)), (7, .int .i64 ((n : Nat) : Int)), (8, .int .i64 ((k : Nat) : Int)), (9, .int .i64 ((n + k : Nat) : Int)), (10, .int .i64 (((n + k) % 8 : Nat) : Int)), (11, .int .u8 (((1#8) <<< ((n + k) % 8)).toNat : Int)), (12, .int .u8 ((y ^^^ ((1#8) <<< ((n + k) % 8))).toNat : Int)), (13, .pointer (some ⟨B4, 0 + ((n + k) / 8) * 1, none⟩))]) [0, 0, 0, 6, 14, 31, 63, 0, 0, 384, 896, 1920, 4095, 8191, 16383] [[(9, none)], [(4, none)], [(11, none)], [(35, some 1), (36, some 2)], [(37, some 3)], [(34, some 0), (38, some 4)], [(39, some 5)], [(4, none)], [(11, none)], [(41, some 7), (42, some 8)], [(43, some 9)], [(44, some 10)], [(40, some 6), (45, some 11)], [(34, some 0), (38, some 4)], [(47, some 13), (46, some 12)]] 16384 mixed (by kernel_rfl) ?_)
      refine G_step [0, 1, 2, 3, 4, 5, 6, 7, 8, 9, 10, 11, 12, 13] 14 [] (by kernel_rfl) (allM (all_cons (q_run (.slice (some ⟨B4, 0, none⟩) l.length l.length) rfl rfl (wv_n rfl) rfl (fun _ _ hρ _ => r_move (hρ _ _ rfl))) (all_cons (q_run (.int .i64 ((n : Nat) : Int)) rfl rfl (wv_n rfl) rfl (fun _ _ hρ hm => r_load ag3 (hρ _ _ rfl) (hm.at 2 rfl) rfl)) (all_cons (q_run (.int .i64 ((k : Nat) : Int)) rfl rfl (wv_n rfl) rfl (fun _ _ hρ _ => r_move (hρ _ _ rfl))) (all_cons (q_run (.int .i64 ((n + k : Nat) : Int)) rfl rfl (wv_n rfl) rfl (fun _ _ hρ _ => r_as (r_add (hρ _ _ rfl) (hρ _ _ rfl)) (int_as ((wrap64 (by omega) (by omega)).trans (by omega))))) (all_cons (q_run (.int .i64 (((n + k) / 8 : Nat) : Int)) rfl rfl (wv_n rfl) rfl (fun _ _ hρ _ => r_as (r_quo (hρ _ _ rfl) (hρ _ _ rfl) (by omega)) (int_as ((quo_i64 (by omega) (by omega) (by omega)).trans (by omega))))) (all_cons (q_run (.pointer (some ⟨B4, 0 + ((n + k) / 8) * 1, none⟩)) rfl rfl (wv_n rfl) rfl (fun _ _ hρ _ => r_indexAddrS (i := (n + k) / 8) sl34 sz5 (hρ _ _ rfl) (hρ _ _ rfl) (by omega))) (all_cons (q_run (.int .u8 ((y).toNat : Int)) rfl rfl (wv_n rfl) rfl (fun _ _ hρ hm => r_loadOwn1 (f := byc) (u := y) (l := (spoilN l n mask k)) ag5 (hρ _ _ rfl) (hm.row 4 rfl) (spoilN_len l n mask k).symm rfl byc_len hy rfl)) (all_cons (q_run (.int .i64 ((n : Nat) : Int)) rfl rfl (wv_n rfl) rfl (fun _ _ hρ hm => r_load ag3 (hρ _ _ rfl) (hm.at 2 rfl) rfl)) (all_cons (q_run (.int .i64 ((k : Nat) : Int)) rfl rfl (wv_n rfl) rfl (fun _ _ hρ _ => r_move (hρ _ _ rfl))) (all_cons (q_run (.int .i64 ((n + k : Nat) : Int)) rfl rfl (wv_n rfl) rfl (fun _ _ hρ _ => r_as (r_add (hρ _ _ rfl) (hρ _ _ rfl)) (int_as ((wrap64 (by omega) (by omega)).trans (by omega))))) (all_cons (q_run (.int .i64 (((n + k) % 8 : Nat) : Int)) rfl rfl (wv_n rfl) rfl (fun _ _ hρ _ => r_as (r_rem (hρ _ _ rfl) (hρ _ _ rfl) (by omega)) (int_as ((Int.tmod_eq_emod_of_nonneg (by omega)).trans (by omega))))) (all_cons (q_run (.int .u8 (((1#8) <<< ((n + k) % 8)).toNat : Int)) rfl rfl (wv_n rfl) rfl (fun _ _ hρ _ => r_shlB (k := .u8) (a := (1#8)) (n := (n + k) % 8) rfl (by show _ ≤ 8; omega) (hρ _ _ rfl) (hρ _ _ rfl))) (all_cons (q_run (.int .u8 ((y ^^^ ((1#8) <<< ((n + k) % 8))).toNat : Int)) rfl rfl (wv_n rfl) rfl (fun _ _ hρ _ => r_xorB (k := .u8) (a := y) (b := ((1#8) <<< ((n + k) % 8))) rfl (hρ _ _ rfl) (hρ _ _ rfl))) (all_cons (q_run (.pointer (some ⟨B4, 0 + ((n + k) / 8) * 1, none⟩)) rfl rfl (wv_n rfl) rfl (fun _ _ hρ _ => r_indexAddrS (i := (n + k) / 8) sl34 sz5 (hρ _ _ rfl) (hρ _ _ rfl) (by omega))) all_nil))))))))))))))) (allM (all_cons ?_ all_nil))
      refine LOb_storeRow (f := byc) (l := (spoilN l n mask k)) (u := y ^^^ ((1#8) <<< ((n + k) % 8))) (k := ((n + k) / 8)) 4 [] rfl (spoilN_len l n mask k).symm rfl (wv_n rfl) rfl rfl sz5 byc_len (by omega) rfl rfl (by kernel_rfl) ?_
      refine G_last [] [(4, .pointer (some ⟨B2, 0, none⟩)), (6, .slice none 0 0), (7, .int .i64 0), (8, .func (.func 93) #[] #[.pointer (some ⟨B3, 0, none⟩), .pointer (some ⟨B2, 0, none⟩), .pointer (some ⟨B1, 0, none⟩)]), (9, .slice (some ⟨B4, 0, none⟩) l.length l.length), (28, .int .i64 ((k : Nat) : Int)), (10, .bool (someN l n mask k)), (29, .bool (decide (((k : Nat) : Int) < 32))), (30, .int .i64 ((k : Nat) : Int)), (11, .int .i64 ((k : Nat) : Int)), (31, .func (.func 93) #[] #[.pointer (some ⟨B3, 0, none⟩), .pointer (some ⟨B2, 0, none⟩), .pointer (some ⟨B1, 0, none⟩)]), (32, .int .i64 ((k : Nat) : Int)), (33, .bool (isS l n mask k)), (34, .slice (some ⟨B4, 0, none⟩) l.length l.length), (35, .int .i64 ((n : Nat) : Int)), (36, .int .i64 ((k : Nat) : Int)), (37, .int .i64 ((n + k : Nat) : Int)), (38, .int .i64 (((n + k) / 8 : Nat) : Int)), (39, .pointer (some ⟨B4, 0 + ((n + k) / 8) * 1, none⟩)), (40, .int .u8 ((y).toNat : Int)), (41, .int .i64 ((n : Nat) : Int)), (42, .int .i64 ((k : Nat) : Int)), (43, .int .i64 ((n + k : Nat) : Int)), (44, .int .i64 (((n + k) % 8 : Nat) : Int)), (45, .int .u8 (((1#8) <<< ((n + k) % 8)).toNat : Int)), (46, .int .u8 ((y ^^^ ((1#8) <<< ((n + k) % 8))).toNat : Int)), (47, .pointer (some ⟨B4, 0 + ((n + k) / 8) * 1, none⟩))] (by kernel_rfl) (allM all_nil) (end_old rfl rfl (end_old rfl rfl (end_old rfl rfl (end_old rfl rfl (end_old rfl rfl (end_old rfl rfl (end_old rfl rfl (end_old rfl rfl (end_old rfl rfl (end_old rfl rfl (end_old rfl rfl (end_old rfl rfl (end_old rfl rfl (end_new 0 rfl rfl (end_new 1 rfl rfl (end_new 2 rfl rfl (end_new 3 rfl rfl (end_new 4 rfl rfl (end_new 5 rfl rfl (end_new 6 rfl rfl (end_new 7 rfl rfl (end_new 8 rfl rfl (end_new 9 rfl rfl (end_new 10 rfl rfl (end_new 11 rfl rfl (end_new 12 rfl rfl (end_new 13 rfl rfl end_nil))))))))))))))))))))))))))) ?_
      refine T_region ?_
      refine TL_q (.bool true) (fun _ _ hρ _ => r_assign (hρ _ _ rfl)) rfl rfl rfl (w_n rfl) ?_
      refine TL_nil ?_
      refine p_blk_n ?_
      refine p_seq ?_
      refine T_region ?_
      refine TL_q (.int .i64 ((k + 1 : Nat) : Int)) (fun _ _ hρ _ => r_as (r_add (hρ _ _ rfl) (hρ _ _ rfl)) (int_as ((wrap64 (by omega) (by omega)).trans (by omega)))) rfl rfl rfl (w_n rfl) ?_
      refine TL_q (.int .i64 ((k + 1 : Nat) : Int)) (fun _ _ hρ _ => r_move (hρ _ _ rfl)) rfl rfl rfl (w_n rfl) ?_
      refine TL_nil ?_
      exact p_at (k + 1) ⟨by omega, by omega⟩ (sub_cons rfl (sub_cons rfl (sub_cons rfl (sub_cons rfl (sub_cons rfl (sub_cons rfl (sub_cons (by exact congrArg (fun z : Bool => some (Value.bool z)) (some_t (isS_t h2))) sub_nil))))))) (sub_cons rfl (sub_cons rfl (sub_cons rfl (sub_cons (by exact congrArg (fun z : List By => some (Res.row _ 5 1 _ (z.flatMap byc))) (spoil_t (isS_t h2) hy)) sub_nil))))
    · skip
      refine T_skip' ?_
      refine p_blk_n ?_
      refine p_seq ?_
      refine T_region ?_
      refine TL_q (.int .i64 ((k + 1 : Nat) : Int)) (fun _ _ hρ _ => r_as (r_add (hρ _ _ rfl) (hρ _ _ rfl)) (int_as ((wrap64 (by omega) (by omega)).trans (by omega)))) rfl rfl rfl (w_n rfl) ?_
      refine TL_q (.int .i64 ((k + 1 : Nat) : Int)) (fun _ _ hρ _ => r_move (hρ _ _ rfl)) rfl rfl rfl (w_n rfl) ?_
      refine TL_nil ?_
      exact p_at (k + 1) ⟨by omega, by omega⟩ (sub_cons rfl (sub_cons rfl (sub_cons rfl (sub_cons rfl (sub_cons rfl (sub_cons rfl (sub_cons (by exact congrArg (fun z : Bool => some (Value.bool z)) (some_f (isS_f h2))) sub_nil))))))) (sub_cons rfl (sub_cons rfl (sub_cons rfl (sub_cons (by exact congrArg (fun z : List By => some (Res.row _ 5 1 _ (z.flatMap byc))) (spoil_f (isS_f h2))) sub_nil))))
  · replace h1 := of_decide_eq_false h1
    refine T_exit' ?_
    refine p_then_x ?_
    refine p_then_x ?_
    refine p_blk_x ?_
    refine p_seq ?_
    refine T_seq ?_
    refine T_seq (T_region ?_)
    refine TL_q (.bool (someN l n mask k)) (fun _ _ hρ _ => r_move (hρ _ _ rfl)) rfl rfl rfl (w_n rfl) ?_
    refine TL_q (.bool (!(someN l n mask k))) (fun _ _ hρ _ => r_not (b := someN l n mask k) (hρ _ _ rfl)) rfl rfl rfl (w_n rfl) ?_
    refine TL_seq ?_
    refine T_cond rfl (fun h3 => ?_) (fun h3 => ?_)
    · replace h3 := bnot_t h3
      refine T_seq (T_region ?_)
      refine TL_q (.slice none 0 0) (fun _ _ hρ _ => r_assign (hρ _ _ rfl)) rfl rfl rfl (w_n rfl) ?_
      refine TL_q (.int .i64 2) (fun _ _ hρ _ => r_assign (hρ _ _ rfl)) rfl rfl rfl (w_n rfl) ?_
      refine TL_seq ?_
      refine T_ret' ?_
      refine p_then_r ?_
      refine ret_of rfl (.tuple #[.slice none 0 0, .int .i64 2]) (fun tmps w hk hm => res2 rfl (res_tmp (hk 6 _ rfl)) (res_tmp (hk 7 _ rfl))) (fun w hm => ?_)
      have e0 : spoilP l n mask = none := if_neg (fun e => by have hk32 : k = 32 := (by omega); subst hk32; rw [h3] at e; exact absurd e.2 (by decide))
      rw [e0]
      exact ⟨none, 0, rfl, hm.ext, World.ownsRow_nil _ _ _ _⟩
    · replace h3 := bnot_f h3
      refine T_skip' ?_
      refine p_seq ?_
      refine T_seq (T_region ?_)
      refine TL_q (.slice (some ⟨B4, 0, none⟩) l.length l.length) (fun _ _ hρ _ => r_move (hρ _ _ rfl)) rfl rfl rfl (w_n rfl) ?_
      refine TL_q (.slice (some ⟨B4, 0, none⟩) l.length l.length) (fun _ _ hρ _ => r_assign (hρ _ _ rfl)) rfl rfl rfl (w_n rfl) ?_
      refine TL_q (.int .i64 0) (fun _ _ hρ _ => r_assign (hρ _ _ rfl)) rfl rfl rfl (w_n rfl) ?_
      refine TL_seq ?_
      refine T_ret' ?_
      refine ret_of rfl (.tuple #[.slice (some ⟨B4, 0, none⟩) l.length l.length, .int .i64 0]) (fun tmps w hk hm => res2 rfl (res_tmp (hk 6 _ rfl)) (res_tmp (hk 7 _ rfl))) (fun w hm => ?_)
      have hk32 : k = 32 := by omega
      subst hk32
      have e0 : spoilP l n mask = some (spoilN l n mask 32) := if_pos ⟨hn, h3⟩
      rw [e0]
      have hq : ((some (spoilN l n mask 32)).getD []).length = l.length := spoilN_len l n mask 32
      rw [hq]
      exact ⟨_, _, rfl, hm.ext, hm.row 4 rfl⟩

theorem spoil_out (bit : Int) (mask : Wd) (l : List By) (a : Option Addr) (cap : Nat) (w : World) (hv : SliceAt w a cap 1 byc l) (hl : l.length ≤ 1000000) (hcap : cap ≤ Go.maxLen) (hn : bit < 0 ∨ 8 * (l.length : Int) ≤ bit) : Calls Try.prog 53 #[.slice a l.length cap, .int .i64 bit, .int .u32 (mask.toNat : Int)] w fun e w' => e = .returned (.tuple #[.slice none 0 0, .int .i64 2]) ∧ Below w.heap.size w w' := by
  have hvl := hv.1
  refine calls_of_T (l := [.slice a l.length cap, .int .i64 bit, .int .u32 ((mask).toNat : Int)]) 52 Try.func53 rfl rfl rfl ?_
  show T _ _ _ [(0, .slice a l.length cap), (1, .int .i64 bit), (2, .int .u32 ((mask).toNat : Int))] []
  refine T_seq (T_region ?_)
  refine TL_new 1 (.cells #[.slice a l.length cap] 34) (fun B => .pointer (some ⟨B, 0, none⟩)) (fun _ _ hρ _ => r_box (hρ _ _ rfl) rfl) rfl rfl rfl (w_n rfl) ?_
  intro B1
  refine TL_new 2 (.cells #[.int .i64 bit] 3) (fun B => .pointer (some ⟨B, 0, none⟩)) (fun _ _ hρ _ => r_box (hρ _ _ rfl) rfl) rfl rfl rfl (w_n rfl) ?_
  intro B2
  refine TL_new 3 (.cells #[.int .u32 ((mask).toNat : Int)] 46) (fun B => .pointer (some ⟨B, 0, none⟩)) (fun _ _ hρ _ => r_box (hρ _ _ rfl) rfl) rfl rfl rfl (w_n rfl) ?_
  intro B3
  refine TL_q (.slice none 0 0) (fun _ _ hρ _ => r_assign (hρ _ _ rfl)) rfl rfl rfl (w_n rfl) ?_
  refine TL_q (.int .i64 0) (fun _ _ hρ _ => r_assign (hρ _ _ rfl)) rfl rfl rfl (w_n rfl) ?_
  refine TL_seq ?_
  refine T_seq ?_
  by_cases hb : bit < 0
  · skip
    refine T_seq (T_region ?_)
    refine TL_q (.int .i64 bit) (fun _ _ hρ hm => r_load ag3 (hρ _ _ rfl) (hm.at 2 rfl) rfl) rfl rfl rfl (w_n rfl) ?_
    refine TL_q (.bool true) (fun _ _ hρ _ => r_as (r_lss (hρ _ _ rfl) (hρ _ _ rfl)) (bool_as (decide_eq_true hb))) rfl rfl rfl (w_n rfl) ?_
    refine TL_q (.bool true) (fun _ _ hρ _ => r_move (hρ _ _ rfl)) rfl rfl rfl (w_n rfl) ?_
    refine TL_no rfl rfl (want_n 14 rfl rfl rfl) ?_
    refine TL_no rfl rfl (want_n 14 rfl rfl rfl) ?_
    refine TL_no rfl rfl (want_n 14 rfl rfl rfl) ?_
    refine TL_no rfl rfl (want_n 14 rfl rfl rfl) ?_
    refine TL_no rfl rfl (want_n 14 rfl rfl rfl) ?_
    refine TL_q (.bool true) (fun _ _ hρ _ => r_pick_t (hρ _ _ rfl) (hρ _ _ rfl)) rfl rfl rfl (w_n rfl) ?_
    refine TL_seq ?_
    refine T_cond_t rfl ?_
    refine T_seq (T_region ?_)
    refine TL_q (.slice none 0 0) (fun _ _ hρ _ => r_assign (hρ _ _ rfl)) rfl rfl rfl (w_n rfl) ?_
    refine TL_q (.int .i64 2) (fun _ _ hρ _ => r_assign (hρ _ _ rfl)) rfl rfl rfl (w_n rfl) ?_
    refine TL_seq ?_
    refine T_ret' ?_
    refine p_then_r ?_
    refine ret_of rfl (.tuple #[.slice none 0 0, .int .i64 2]) (fun tmps w hk hm => res2 rfl (res_tmp (hk 6 _ rfl)) (res_tmp (hk 7 _ rfl))) (fun w hm => ?_)
    exact ⟨rfl, hm.ext⟩
  · skip
    have hp2 : (((8 * l.length : Nat) : Int) ≤ bit) := by omega
    refine T_seq (T_region ?_)
    refine TL_q (.int .i64 bit) (fun _ _ hρ hm => r_load ag3 (hρ _ _ rfl) (hm.at 2 rfl) rfl) rfl rfl rfl (w_n rfl) ?_
    refine TL_q (.bool false) (fun _ _ hρ _ => r_as (r_lss (hρ _ _ rfl) (hρ _ _ rfl)) (bool_as (decide_eq_false hb))) rfl rfl rfl (w_n rfl) ?_
    refine TL_q (.bool false) (fun _ _ hρ _ => r_move (hρ _ _ rfl)) rfl rfl rfl (w_n rfl) ?_
    refine TL_q (.int .i64 bit) (fun _ _ hρ hm => r_load ag3 (hρ _ _ rfl) (hm.at 2 rfl) rfl) rfl rfl rfl (want_y 14 rfl rfl rfl) ?_
    refine TL_q (.slice a l.length cap) (fun _ _ hρ hm => r_load ag34 (hρ _ _ rfl) (hm.at 1 rfl) rfl) rfl rfl rfl (want_y 14 rfl rfl rfl) ?_
    refine TL_q (.int .i64 ((l.length : Nat) : Int)) (fun _ _ hρ _ => r_len sl34 (hρ _ _ rfl)) rfl rfl rfl (want_y 14 rfl rfl rfl) ?_
    refine TL_q (.int .i64 ((8 * l.length : Nat) : Int)) (fun _ _ hρ _ => r_as (r_mul (hρ _ _ rfl) (hρ _ _ rfl)) (int_as ((wrap64 (by omega) (by omega)).trans (by omega)))) rfl rfl rfl (want_y 14 rfl rfl rfl) ?_
    refine TL_q (.bool true) (fun _ _ hρ _ => r_as (r_geq (hρ _ _ rfl) (hρ _ _ rfl)) (bool_as (decide_eq_true hp2))) rfl rfl rfl (want_y 14 rfl rfl rfl) ?_
    refine TL_q (.bool true) (fun _ _ hρ _ => r_pick_f (hρ _ _ rfl) (hρ _ _ rfl)) rfl rfl rfl (w_n rfl) ?_
    refine TL_seq ?_
    refine T_cond_t rfl ?_
    refine T_seq (T_region ?_)
    refine TL_q (.slice none 0 0) (fun _ _ hρ _ => r_assign (hρ _ _ rfl)) rfl rfl rfl (w_n rfl) ?_
    refine TL_q (.int .i64 2) (fun _ _ hρ _ => r_assign (hρ _ _ rfl)) rfl rfl rfl (w_n rfl) ?_
    refine TL_seq ?_
    refine T_ret' ?_
    refine p_then_r ?_
    refine ret_of rfl (.tuple #[.slice none 0 0, .int .i64 2]) (fun tmps w hk hm => res2 rfl (res_tmp (hk 6 _ rfl)) (res_tmp (hk 7 _ rfl))) (fun w hm => ?_)
    exact ⟨rfl, hm.ext⟩

end Go.Proofs.Ytcidgbjgeegepaa
/- journal: records of bytes, and what holds of bytes (plainly). -/
namespace Go.Proofs.Ytcidgbjgeegepaa
open Go Go.RowKit
/-- The number that bytes tell. -/
def numN (l : List By) : Nat := l.foldl (fun n x => 256 * n + x.toNat) 0
def lenB (n : Nat) : List By := [BitVec.ofNat 8 (n / 16777216), BitVec.ofNat 8 (n / 65536), BitVec.ofNat 8 (n / 256), BitVec.ofNat 8 n]
theorem lenB_len (n : Nat) : (lenB n).length = 4 := rfl
theorem num_lenB {n : Nat} (h : n ≤ 65536) : numN (lenB n) = n := by
  unfold numN lenB
  simp only [List.foldl_cons, List.foldl_nil, BitVec.toNat_ofNat]
  omega
/-- A record of bytes. -/
def recP (l : List By) : List By := sealP (lenB l.length ++ l)
theorem recP_len (l : List By) : (recP l).length = l.length + 8 := by
  unfold recP sealP
  simp only [List.length_append, lenB_len, four_len]; omega
def joinP (rows : List (List By)) : List By := rows.flatMap recP
/-- How many bytes the record says that it holds. -/
def numP (l : List By) : Nat := numN (l.take 4)
/-- Why bytes begin with no record; 0: they do. -/
def firstE (l : List By) : Int := if l.length < 4 then 110 else if 65536 < numP l then 3 else if l.length < numP l + 8 then 110 else if (openP (l.take (numP l + 8))).isNone then 120 else 0
/-- What the first record holds. -/
def heldP (l : List By) : List By := (openL (l.take (numP l + 8))).drop 4
theorem first_ok {l : List By} (h : firstE l = 0) : 4 ≤ l.length ∧ numP l ≤ 65536 ∧ numP l + 8 ≤ l.length ∧ ∃ x, openP (l.take (numP l + 8)) = some x := by
  unfold firstE at h
  split at h
  · cases h
  · split at h
    · cases h
    · split at h
      · cases h
      · split at h
        · cases h
        · rename_i h1 h2 h3 h4
          refine ⟨by omega, by omega, by omega, ?_⟩
          cases e : openP (l.take (numP l + 8)) with
          | none => rw [e] at h4; exact absurd rfl h4
          | some x => exact ⟨x, rfl⟩
theorem openP_len {l x : List By} (h : openP l = some x) : x.length + 4 = l.length := by
  unfold openP at h
  split at h
  · rename_i h1
    cases h
    rw [List.length_take]; omega
  · cases h
theorem heldP_len {l : List By} (h : firstE l = 0) : (heldP l).length = numP l := by
  obtain ⟨h1, h2, h3, x, hx⟩ := first_ok h
  unfold heldP openL
  rw [hx]
  have := openP_len hx
  rw [List.length_take] at this
  show (x.drop 4).length = _
  rw [List.length_drop]; omega
theorem numP_app {l t : List By} (h : 4 ≤ l.length) : numP (l ++ t) = numP l := by
  unfold numP
  rw [List.take_append_of_le_length h]
theorem recP_take4 (r : List By) : (recP r).take 4 = lenB r.length := by
  unfold recP sealP
  rw [List.append_assoc, List.take_append_of_le_length (by rw [lenB_len]; exact Nat.le_refl _)]
  exact List.take_of_length_le (by rw [lenB_len]; exact Nat.le_refl _)
theorem numP_rec {r : List By} (h : r.length ≤ 65536) (t : List By) : numP (recP r ++ t) = r.length := by
  rw [numP_app (by rw [recP_len]; omega)]
  unfold numP
  rw [recP_take4, num_lenB h]
theorem first_rec {r : List By} (h : r.length ≤ 65536) (t : List By) : firstE (recP r ++ t) = 0 ∧ heldP (recP r ++ t) = r := by
  have hn := numP_rec h t
  have ht : (recP r ++ t).take (numP (recP r ++ t) + 8) = recP r := by
    rw [hn, ← recP_len, List.take_append_of_le_length (Nat.le_refl _)]
    exact List.take_of_length_le (Nat.le_refl _)
  have hl : (recP r ++ t).length = r.length + 8 + t.length := by rw [List.length_append, recP_len]
  constructor
  · unfold firstE
    rw [if_neg (by omega), if_neg (by omega), if_neg (by omega), ht]
    unfold recP
    rw [open_seal]; rfl
  · unfold heldP openL
    rw [ht]
    unfold recP
    rw [open_seal]
    rfl
/-- The records that hold: where each begins, and what it holds. -/
def scanF : Nat → Nat → List By → List (Nat × List By)
  | 0, _, _ => []
  | n + 1, at', l => if firstE l = 0 then (at', heldP l) :: scanF n (at' + (numP l + 8)) (l.drop (numP l + 8)) else []
theorem scanF_more : ∀ (n m at' : Nat) (l : List By), l.length ≤ n → l.length ≤ m → scanF n at' l = scanF m at' l
  | 0, m, at', l, h, _ => by
    have e : l = [] := List.eq_nil_of_length_eq_zero (by omega)
    subst e
    cases m with
    | zero => rfl
    | succ m =>
      show [] = if firstE [] = 0 then _ else _
      rw [if_neg (by decide)]
  | n + 1, 0, at', l, _, h => by
    have e : l = [] := List.eq_nil_of_length_eq_zero (by omega)
    subst e
    show (if firstE [] = 0 then _ else _) = []
    rw [if_neg (by decide)]
  | n + 1, m + 1, at', l, h, h2 => by
    unfold scanF
    by_cases e : firstE l = 0
    · rw [if_pos e, if_pos e, scanF_more n m _ _ (by rw [List.length_drop]; omega) (by rw [List.length_drop]; omega)]
    · rw [if_neg e, if_neg e]
def scanA (at' : Nat) (l : List By) : List (Nat × List By) := scanF l.length at' l
theorem scanA_t {l : List By} (at' : Nat) (h : firstE l = 0) : scanA at' l = (at', heldP l) :: scanA (at' + (numP l + 8)) (l.drop (numP l + 8)) := by
  have h3 := (first_ok h).2.2.1
  unfold scanA
  rw [scanF_more l.length (l.length + 1) _ _ (Nat.le_refl _) (Nat.le_succ _)]
  show (if firstE l = 0 then _ else _) = _
  rw [if_pos h, scanF_more l.length (l.drop (numP l + 8)).length _ _ (by rw [List.length_drop]; omega) (Nat.le_refl _)]
theorem scanA_f {l : List By} (at' : Nat) (h : ¬ firstE l = 0) : scanA at' l = [] := by
  unfold scanA
  rw [scanF_more l.length (l.length + 1) _ _ (Nat.le_refl _) (Nat.le_succ _)]
  show (if firstE l = 0 then _ else _) = _
  rw [if_neg h]
/-- The rows that are held; where the records begin; how many bytes they have. -/
abbrev heldsV (l : List By) : List (List By) := (scanA 0 l).map (·.2)
abbrev placesV (l : List By) : List Nat := (scanA 0 l).map (·.1)
def endS (ys : List (Nat × List By)) (z : Nat) : Nat := ys.foldl (fun _ y => y.1 + (y.2.length + 8)) z
theorem endS_snoc (ys : List (Nat × List By)) (y : Nat × List By) (z : Nat) : endS (ys ++ [y]) z = y.1 + (y.2.length + 8) := by unfold endS; rw [List.foldl_append]; rfl
abbrev sizeV (l : List By) : Nat := endS (scanA 0 l) 0
/-- The same, by what is left. -/
theorem scan_end : ∀ (n at' : Nat) (l : List By), l.length ≤ n → ∃ d, endS (scanA at' l) at' = at' + d ∧ d ≤ l.length ∧ firstE (l.drop d) ≠ 0 ∧ ∀ at2, scanA at2 (l.take d) = scanA at2 l ∧ endS (scanA at2 l) at2 = at2 + d := by
  intro n
  induction n with
  | zero =>
    intro at' l h
    have e : l = [] := List.eq_nil_of_length_eq_zero (by omega)
    subst e
    exact ⟨0, rfl, Nat.le_refl _, by decide, fun _ => ⟨rfl, rfl⟩⟩
  | succ n ih =>
    intro at' l h
    by_cases e : firstE l = 0
    · obtain ⟨h1, h2, h3, x, hx⟩ := first_ok e
      obtain ⟨d, hd, hd2, hd3, hd4⟩ := ih (at' + (numP l + 8)) (l.drop (numP l + 8)) (by rw [List.length_drop]; omega)
      have hl := heldP_len e
      rw [List.length_drop] at hd2
      have key : ∀ at2, endS (scanA at2 l) at2 = at2 + (numP l + 8 + d) := fun at2 => by
        rw [scanA_t at2 e]
        show endS (scanA _ _) (at2 + ((heldP l).length + 8)) = _
        rw [hl, (hd4 _).2]; omega
      have hlt : (l.take (numP l + 8 + d)).length = numP l + 8 + d := by rw [List.length_take]; omega
      have htake : ∀ j, j ≤ numP l + 8 → (l.take (numP l + 8 + d)).take j = l.take j := fun j hj => by rw [List.take_take, Nat.min_eq_left (by omega)]
      have hnum : numP (l.take (numP l + 8 + d)) = numP l := by
        show numN ((l.take (numP l + 8 + d)).take 4) = numN (l.take 4)
        rw [htake 4 (by omega)]
      have hopen : (l.take (numP l + 8 + d)).take (numP (l.take (numP l + 8 + d)) + 8) = l.take (numP l + 8) := by rw [hnum, htake _ (Nat.le_refl _)]
      have he : firstE (l.take (numP l + 8 + d)) = 0 := by
        unfold firstE
        rw [if_neg (by omega), if_neg (by omega), if_neg (by omega), hopen, hx]; rfl
      have hh : heldP (l.take (numP l + 8 + d)) = heldP l := by
        show (openL ((l.take (numP l + 8 + d)).take _)).drop 4 = _
        rw [hopen]; rfl
      refine ⟨numP l + 8 + d, key at', by omega, by rw [List.drop_drop] at hd3; exact hd3, fun at2 => ⟨?_, key at2⟩⟩
      rw [scanA_t at2 he, scanA_t at2 e, hh, hnum]
      congr 1
      rw [List.drop_take, show numP l + 8 + d - (numP l + 8) = d by omega]
      exact (hd4 _).1
    · rw [scanA_f at' e]
      refine ⟨0, rfl, Nat.zero_le _, e, fun at2 => ⟨?_, ?_⟩⟩
      · rw [scanA_f at2 e]; exact scanA_f at2 (show ¬ firstE [] = 0 by decide)
      · rw [scanA_f at2 e]; rfl
theorem size_le (l : List By) : sizeV l ≤ l.length := by
  obtain ⟨d, h1, h2, _⟩ := scan_end l.length 0 l (Nat.le_refl _)
  unfold sizeV; omega
theorem size_rest (l : List By) : firstE (l.drop (sizeV l)) ≠ 0 := by
  obtain ⟨d, h1, h2, h3, _⟩ := scan_end l.length 0 l (Nat.le_refl _)
  rw [show sizeV l = d from h1.trans (Nat.zero_add d)]; exact h3
/-- Why no more bytes hold. -/
def whyE (l : List By) : Int := if sizeV l = l.length then 0 else firstE (l.drop (sizeV l))
theorem whyE_ok {l : List By} : whyE l = 0 ↔ sizeV l = l.length := by
  unfold whyE
  split
  · rename_i h; exact ⟨fun _ => h, fun _ => rfl⟩
  · rename_i h; exact ⟨fun e => absurd e (size_rest l), fun e => absurd e h⟩
/-! ### what is joined is scanned -/
theorem join_cons (r : List By) (rs : List (List By)) : joinP (r :: rs) = recP r ++ joinP rs := rfl
theorem join_app (a b : List (List By)) : joinP (a ++ b) = joinP a ++ joinP b := List.flatMap_append
def joinL (rows : List (List By)) : Nat := (joinP rows).length
theorem joinL_cons (r : List By) (rs : List (List By)) : joinL (r :: rs) = r.length + 8 + joinL rs := by unfold joinL; rw [join_cons, List.length_append, recP_len]
theorem scan_join : ∀ (rows : List (List By)) (at' : Nat) (t : List By), (∀ r ∈ rows, r.length ≤ 65536) → firstE t ≠ 0 → (scanA at' (joinP rows ++ t)).map (·.2) = rows ∧ endS (scanA at' (joinP rows ++ t)) at' = at' + joinL rows ∧ (scanA at' (joinP rows ++ t)).map (·.1) = (List.range rows.length).map (fun k => at' + joinL (rows.take k))
  | [], at', t, _, ht => by
    show (scanA at' t).map _ = _ ∧ _
    rw [show joinP [] ++ t = t from rfl, scanA_f at' ht]
    exact ⟨rfl, rfl, rfl⟩
  | r :: rs, at', t, h, ht => by
    have hr := h r (List.mem_cons_self ..)
    have e : joinP (r :: rs) ++ t = recP r ++ (joinP rs ++ t) := by rw [join_cons, List.append_assoc]
    obtain ⟨f1, f2⟩ := first_rec hr (joinP rs ++ t)
    have hn := numP_rec hr (joinP rs ++ t)
    have hd : (recP r ++ (joinP rs ++ t)).drop (r.length + 8) = joinP rs ++ t := by
      rw [← recP_len, List.drop_append_of_le_length (Nat.le_refl _), List.drop_of_length_le (Nat.le_refl _)]; rfl
    obtain ⟨i1, i2, i3⟩ := scan_join rs (at' + (r.length + 8)) t (fun q hq => h q (List.mem_cons_of_mem _ hq)) ht
    rw [e, scanA_t at' f1, f2, hn, hd]
    refine ⟨?_, ?_, ?_⟩
    · rw [List.map_cons, i1]
    · show endS (scanA _ _) (at' + (r.length + 8)) = _
      rw [i2, joinL_cons]; omega
    · rw [List.map_cons, i3, List.length_cons, List.range_succ_eq_map, List.map_cons, List.map_map]
      congr 1
      refine List.map_congr_left fun k _ => ?_
      show _ = at' + joinL ((r :: rs).take (k + 1))
      rw [List.take_succ_cons, joinL_cons]; omega
/-- A front of a record is too short. -/
theorem first_front {r : List By} (hr : r.length ≤ 65536) (t : List By) {c : Nat} (hc : c < r.length + 8) : firstE ((recP r ++ t).take c) = 110 := by
  have hl : ((recP r ++ t).take c).length = c := by rw [List.length_take, List.length_append, recP_len]; omega
  unfold firstE
  rw [hl]
  by_cases h4 : c < 4
  · rw [if_pos h4]
  · have hn : numP ((recP r ++ t).take c) = r.length := by
      rw [← numP_rec hr t]
      unfold numP
      rw [List.take_take, Nat.min_eq_left (by omega)]
    rw [if_neg h4, hn, if_neg (by omega), if_pos hc]
/-- How many of the records are there, of a front so long. -/
def manyJ : List (List By) → Nat → Nat
  | [], _ => 0
  | r :: rs, c => if r.length + 8 ≤ c then manyJ rs (c - (r.length + 8)) + 1 else 0
theorem front_join : ∀ (rows : List (List By)) (c : Nat), (∀ r ∈ rows, r.length ≤ 65536) → c ≤ joinL rows → ∃ t, (joinP rows).take c = joinP (rows.take (manyJ rows c)) ++ t ∧ (t = [] ∨ firstE t = 110) ∧ joinL (rows.take (manyJ rows c)) + t.length = c
  | [], c, _, hc => by
    have : c = 0 := Nat.le_zero.1 hc
    subst this
    exact ⟨[], rfl, .inl rfl, rfl⟩
  | r :: rs, c, h, hc => by
    have hr := h r (List.mem_cons_self ..)
    rw [joinL_cons] at hc
    unfold manyJ
    split
    · rename_i h8
      obtain ⟨t, h1, h2, h3⟩ := front_join rs (c - (r.length + 8)) (fun q hq => h q (List.mem_cons_of_mem _ hq)) (by omega)
      refine ⟨t, ?_, h2, ?_⟩
      · rw [List.take_succ_cons, join_cons, join_cons, List.append_assoc, ← h1, List.take_append, List.take_of_length_le (by rw [recP_len]; omega), recP_len]
      · rw [List.take_succ_cons, joinL_cons]; omega
    · rename_i h8
      refine ⟨(joinP (r :: rs)).take c, rfl, ?_, ?_⟩
      · right
        rw [join_cons]
        exact first_front hr _ (by omega)
      · show joinL [] + _ = c
        rw [List.length_take]
        have : (joinP (r :: rs)).length = r.length + 8 + joinL rs := joinL_cons r rs
        show 0 + _ = c
        omega
theorem first_nil : firstE [] ≠ 0 := by decide
theorem torn {rows : List (List By)} {c : Nat} (h : ∀ r ∈ rows, r.length ≤ 65536) (hc : c ≤ joinL rows) : heldsV ((joinP rows).take c) = rows.take (manyJ rows c) ∧ sizeV ((joinP rows).take c) = joinL (rows.take (manyJ rows c)) ∧ (whyE ((joinP rows).take c) = 0 ↔ joinL (rows.take (manyJ rows c)) = c) ∧ (whyE ((joinP rows).take c) = 0 ∨ whyE ((joinP rows).take c) = 110) := by
  obtain ⟨t, h1, h2, h3⟩ := front_join rows c h hc
  have ht : firstE t ≠ 0 := by
    rcases h2 with rfl | e
    · exact first_nil
    · rw [e]; decide
  obtain ⟨i1, i2, _⟩ := scan_join (rows.take (manyJ rows c)) 0 t (fun q hq => h q (List.mem_of_mem_take hq)) ht
  rw [Nat.zero_add] at i2
  have hlen : ((joinP rows).take c).length = c := by rw [List.length_take]; exact Nat.min_eq_left hc
  have hs : sizeV ((joinP rows).take c) = joinL (rows.take (manyJ rows c)) := by unfold sizeV; rw [h1]; exact i2
  refine ⟨by unfold heldsV; rw [h1]; exact i1, hs, ?_, ?_⟩
  · rw [whyE_ok, hs, hlen]
  · unfold whyE
    rw [hs, hlen]
    by_cases e : joinL (rows.take (manyJ rows c)) = c
    · rw [if_pos e]; exact .inl rfl
    · rw [if_neg e]
      right
      rcases h2 with rfl | e2
      · exact absurd h3 (by rw [List.length_nil]; exact e)
      · rw [h1]
        unfold joinL
        rw [List.drop_append_of_le_length (Nat.le_refl _), List.drop_of_length_le (Nat.le_refl _)]
        exact e2
theorem joined {rows : List (List By)} (h : ∀ r ∈ rows, r.length ≤ 65536) : heldsV (joinP rows) = rows ∧ sizeV (joinP rows) = joinL rows ∧ placesV (joinP rows) = (List.range rows.length).map (fun k => joinL (rows.take k)) := by
  obtain ⟨i1, i2, i3⟩ := scan_join rows 0 [] h first_nil
  rw [List.append_nil] at i1 i2 i3
  refine ⟨i1, by unfold sizeV; rw [i2, Nat.zero_add], i3.trans (List.map_congr_left fun k _ => Nat.zero_add _)⟩
/-- A record that is spoilt, its first four bytes being as they were, does not hold. -/
theorem spoilt {rows : List (List By)} {k : Nat} {r s : List By} {bit : Nat} {mask : Wd} (h : ∀ r ∈ rows, r.length ≤ 65536) (hk : rows[k]? = some r) (hs : spoilP (recP r) bit mask = some s) (h4 : s.take 4 = (recP r).take 4) (t : List By) :
    heldsV (joinP (rows.take k) ++ (s ++ t)) = rows.take k ∧ sizeV (joinP (rows.take k) ++ (s ++ t)) = joinL (rows.take k) := by
  have hr := h r (List.mem_of_getElem? hk)
  have hno := (burst_law (lenB r.length ++ r) hs).1
  have hsl : s.length = r.length + 8 := by
    rw [(spoil_some hs).2.2, spoilN_len, recP_len]
  have hn : numP (s ++ t) = r.length := by
    rw [numP_app (by omega)]
    unfold numP
    rw [h4, recP_take4, num_lenB hr]
  have hf : firstE (s ++ t) = 120 := by
    unfold firstE
    rw [hn, List.length_append, if_neg (by omega), if_neg (by omega), if_neg (by omega), ← hsl, List.take_append_of_le_length (Nat.le_refl _), List.take_of_length_le (Nat.le_refl _), hno]
    rfl
  obtain ⟨i1, i2, _⟩ := scan_join (rows.take k) 0 (s ++ t) (fun q hq => h q (List.mem_of_mem_take hq)) (by rw [hf]; decide)
  exact ⟨i1, by unfold sizeV; rw [i2, Nat.zero_add]⟩
theorem join_split {rows : List (List By)} {k : Nat} {r : List By} (hk : rows[k]? = some r) : joinP rows = joinP (rows.take k) ++ (recP r ++ joinP (rows.drop (k + 1))) := by
  have hlt := (List.getElem?_eq_some_iff.1 hk)
  obtain ⟨h1, h2⟩ := hlt
  conv => lhs; rw [← List.take_append_drop k rows, List.drop_eq_getElem_cons h1, h2]
  rw [join_app, join_cons]
end Go.Proofs.Ytcidgbjgeegepaa
/- Rows of one's own, many of them at once: none in another's block. Over any program. -/
namespace Go.Proofs.Ytcidgbjgeegepaa
open Go Go.RowKit
/-- A row: where it lies, its room, its elements. -/
structure RowG (α : Type) where
  a : Option Addr
  cap : Nat
  l : List α
section
variable {α : Type} {e : TypeId} {s : Nat} {f : α → List Value}
abbrev RowG.v (r : RowG α) : Value := .slice r.a r.l.length r.cap
abbrev RowG.cells (r : RowG α) : List Value := [r.v]
theorem RowG.cells_len (r : RowG α) : r.cells.length = 1 := rfl
/-- In memory as it is told. -/
abbrev RowG.ok (s : Nat) (f : α → List Value) (w : World) (r : RowG α) : Prop := SliceAt w r.a r.cap s f r.l
def apart (r q : RowG α) : Prop := ∀ b, r.v.ownBlock = some b → q.v.ownBlock ≠ some b
/-- All of them are one's own. -/
def manyH (e : TypeId) (s : Nat) (f : α → List Value) (rs : List (RowG α)) (w : World) : Prop :=
  (∀ r ∈ rs, w.ownsRow 0 e s r.v r.l.length (r.l.flatMap f)) ∧ rs.Pairwise apart
def manyF (rs : List (RowG α)) (b : Nat) : Prop := ∃ r ∈ rs, r.v.ownBlock = some b
abbrev Res.many (e : TypeId) (s : Nat) (f : α → List Value) (rs : List (RowG α)) : Res := .abs (manyF rs) (manyH e s f rs)
theorem many_keep {rs : List (RowG α)} (w1 w2 : World) (h : manyH e s f rs w1) (hb : ∀ b, manyF rs b → hp w2 b = hp w1 b) : manyH e s f rs w2 :=
  ⟨fun r hr => Res.keep (r := .row r.v e s r.l.length (r.l.flatMap f)) (h.1 r hr) fun b hf => hb b ⟨r, hr, hf⟩, h.2⟩
/-- Nothing. -/
abbrev Res.no : Res := .abs (fun _ => False) (fun _ => True)
theorem MemOk.many {w₀ w : World} {L : Heap} (h : MemOk w₀ L w) (k : Nat) {rs : List (RowG α)} (hk : lk L k = some (.many e s f rs)) : manyH e s f rs w := (h.own k _ hk).1
/-- A row of one's own goes to the others. -/
theorem MemOk.push {w₀ w : World} {L : Heap} (h : MemOk w₀ L w) (k j : Nat) {rs : List (RowG α)} {a : Option Addr} {n cap : Nat} {l : List α} (hk : lk L k = some (.many e s f rs)) (hj : lk L j = some (.row (.slice a n cap) e s n (l.flatMap f))) (hn : n = l.length) (hne : Nat.beq k j = false) :
    MemOk w₀ ((k, .many e s f (rs ++ [⟨a, cap, l⟩])) :: (j, .no) :: L) w := by
  subst hn
  have hkj : k ≠ j := fun e => by subst e; rw [Nat.beq_refl] at hne; cases hne
  have ok1 := h.own k _ hk
  have ok2 := h.own j _ hj
  have h0 : MemOk w₀ ((j, .no) :: L) w := h.set j _ h.ext ⟨trivial, (fun _ hb => hb.elim), fun _ _ _ _ => trivial⟩ (fun _ _ _ _ b _ => ⟨rfl, id⟩)
  refine h0.set k _ h0.ext ⟨⟨fun r hr => ?_, ?_⟩, ?_, many_keep⟩ (fun i r hi hne' b hb => ⟨rfl, ?_⟩)
  · rcases List.mem_append.1 hr with h1 | h1
    · exact ok1.1.1 r h1
    · rw [List.mem_singleton.1 h1]; exact Res.lift (r := .row _ _ _ _ _) ok2 (Nat.zero_le _)
  · refine List.pairwise_append.2 ⟨ok1.1.2, List.pairwise_singleton _ _, fun r hr q hq => ?_⟩
    rw [List.mem_singleton.1 hq]
    exact fun b hb hc => h.sep k j _ _ hk hj hkj b ⟨r, hr, hb⟩ hc
  · rintro b ⟨r, hr, hb⟩
    rcases List.mem_append.1 hr with h1 | h1
    · exact ok1.2.1 b ⟨r, h1, hb⟩
    · rw [List.mem_singleton.1 h1] at hb; exact Res.low ok2 hb
  · rintro ⟨q, hq, hqb⟩
    by_cases e2 : j = i
    · subst e2; rw [lk_cons_same] at hi; cases hi; exact hb
    · rw [lk_cons_other _ _ e2] at hi
      rcases List.mem_append.1 hq with h1 | h1
      · exact h.sep k i _ _ hk hi (Ne.symm hne') b ⟨q, h1, hqb⟩ hb
      · rw [List.mem_singleton.1 h1] at hqb
        exact h.sep j i _ _ hj hi e2 b hqb hb
end
end Go.Proofs.Ytcidgbjgeegepaa
/- Operations told by what is known of memory before and behind. Over any program. -/
namespace Go.Proofs.Ytcidgbjgeegepaa
open Go Go.RowKit
section
variable {C : Cx} {ops : Array Oper} {os : List Oper} {Q : Post} {K : List (Nat × Value)} {L : Heap} {o : Oper}
theorem TL_op {ι : Type} {d : Nat} (v : ι → Value) (LN : ι → Heap) (hr : ∀ ρ w, Rd K ρ → MemOk C.w₀ L w → ∃ x w', (execOp ρ o).run C.P w = .ok (.value (v x)) w' ∧ MemOk C.w₀ (LN x) w') (hd : o.dst = some d) (hN : Nat.blt d C.N = true) (hn : isDefer o.op = false) (hw : Want ops K o true)
    (h : ∀ x, TL C ops os Q ((d, v x) :: K) (LN x)) : TL C ops (o :: os) Q K L := by
  intro a w hf hm
  unfold wpListIn
  rw [hw.is hf, if_pos rfl]
  obtain ⟨x, w', h1, h2⟩ := hr _ _ hf.rd hm
  refine step_val hn h1 ?_
  rw [hd]
  exact h x _ _ (hf.put _ hN) h2
theorem TL_op1 {d : Nat} (v : Value) (L' : Heap) (hr : ∀ ρ w, Rd K ρ → MemOk C.w₀ L w → ∃ w', (execOp ρ o).run C.P w = .ok (.value v) w' ∧ MemOk C.w₀ L' w') (hd : o.dst = some d) (hN : Nat.blt d C.N = true) (hn : isDefer o.op = false) (hw : Want ops K o true)
    (h : TL C ops os Q ((d, v) :: K) L') : TL C ops (o :: os) Q K L := TL_op (ι := Unit) (fun _ => v) (fun _ => L') (fun ρ w hρ hm => ⟨(), hr ρ w hρ hm⟩) hd hN hn hw (fun _ => h)
end
section
variable {C : Cx} {R : Rg} {Q : Post} {K0 V : List (Nat × Value)} {lo : Nat} {L : Heap}
end
section
variable {C : Cx} {Q : Post} {K : List (Nat × Value)} {L : Heap}
theorem p_mem {e : Exit} (L' : Heap) (hL : ∀ w, MemOk C.w₀ L w → MemOk C.w₀ L' w) (h : POk C Q e K L') : POk C Q e K L := fun a w hf hm => h a w hf (hL w hm)
end
/-! ### rows of elements of any size: made, copied into, stored into -/
section
variable {P : Program} {w₀ w : World} {L : Heap} {ρ : Operand → Value} {d : Option Tmp} {ty : TypeId} {ps : String} {af : Array Edge} {g : Option (Nat × Bool)}
theorem made_toList {z : Array Value} {s : Nat} (hz : z.size = s) (hs : 0 < s) : ∀ n, (madeCells z (n * s)).toList = (List.replicate n z.toList).flatten
  | 0 => by simp [madeCells]
  | n + 1 => by
    apply List.ext_getElem?
    intro i
    rw [List.replicate_succ, List.flatten_cons]
    by_cases h : i < s
    · rw [List.getElem?_append_left (by rw [Array.length_toList, hz]; exact h)]
      unfold madeCells
      have h2 : i < (n + 1) * s := by rw [Nat.add_mul, Nat.one_mul]; omega
      simp [h2, hz, Nat.mod_eq_of_lt h, h]
    · rw [List.getElem?_append_right (by rw [Array.length_toList, hz]; omega), Array.length_toList, hz, ← made_toList hz hs n]
      unfold madeCells
      by_cases h2 : i < (n + 1) * s
      · have h3 : i - s < n * s := by rw [Nat.add_mul, Nat.one_mul] at h2; omega
        have h4 : i % s = (i - s) % s := by rw [← Nat.mod_eq_sub_mod (by omega)]
        simp [h2, h3, hz, h4]
      · have h3 : ¬ i - s < n * s := by rw [Nat.add_mul, Nat.one_mul] at h2; omega
        simp [h2, h3]
theorem flat_repl {α : Type} {f : α → List Value} {u : α} {xs : List Value} (hf : f u = xs) (n : Nat) : (List.replicate n u).flatMap f = (List.replicate n xs).flatten := by
  rw [List.flatMap_def, List.map_replicate, hf]
theorem o_make {x y : Operand} {t e : TypeId} {n cap by' s : Nat} {z : Value} {α : Type} {f : α → List Value} {u : α} (i : Nat) (hfr : lk L i = none) (hx : ρ x = .int .i64 (n : Nat)) (hy : ρ y = .int .i64 (cap : Nat)) (ht : sliOf P t = some e) (hby : byOf P e = some by') (hs : szOf P e = some s) (hs0 : Nat.blt 0 s = true)
    (hz : zeroOf P e = some z) (hzc : z.cells.toList = f u) (hfl : ∀ x, (f x).length = s) (hnc : n ≤ cap) (h63 : cap ≤ 4611686018427387904) (hb : by' * cap ≤ 140737488355328) (hm : MemOk w₀ L w) :
    ∃ B w', (execOp ρ (mk d (.makeSlice t x y) ty ps af g)).run P w = .ok (.value (.slice (some ⟨B, 0, none⟩) n cap)) w' ∧ MemOk w₀ ((i, .row (.slice (some ⟨B, 0, none⟩) n cap) e s n ((List.replicate n u).flatMap f)) :: L) w' := by
  obtain ⟨ti, hi, hsz⟩ := Option.map_eq_some_iff.1 hs
  obtain ⟨ti', hi', hbz⟩ := Option.map_eq_some_iff.1 hby
  rw [hi] at hi'; cases hi'
  have hzz : ti.zero = some z := by simpa [zeroOf, hi] using hz
  have hs1 : 0 < s := by rw [Nat.blt_eq] at hs0; exact hs0
  have hb' : (ti.bytes : Int) * (cap : Int) ≤ 281474976710656 := by
    have h : ((ti.bytes * cap : Nat) : Int) ≤ 281474976710656 := by rw [hbz]; omega
    rwa [Int.natCast_mul] at h
  have hr := run_make (P := P) w t e ti z (und_sli ht) hi hzz .i64 .i64 n cap (by omega) (by omega) hb' (by omega)
  simp only [Int.toNat_natCast] at hr
  refine ⟨w.heap.size, _, run_v (by rw [hx, hy]; exact hr), ?_⟩
  have hzs : z.cells.size = s := by rw [← Array.length_toList, hzc, hfl]
  refine hm.grow (n := 0) (xs := []) (.inr ⟨hfr, (rfl : (Value.slice none 0 0).ownBlock = none)⟩) (World.grownBy_alloc w _ none) ⟨?_, .inr ⟨w.heap.size, cap, _, rfl, hm.ext.size, Go.heap_alloc_new w _, hnc, by unfold Go.maxLen; omega, ?_, ?_⟩⟩ (.inr rfl)
  · rw [flat_len hfl, List.length_replicate]
  · rw [hsz]; simp [madeCells]
  · rw [hsz, made_toList hzs hs1, hzc, ← flat_repl rfl]
    have : ((List.replicate cap u).flatMap f).take (n * s) = ((List.replicate cap u).take n).flatMap f := by
      have h1 : List.replicate cap u = List.replicate n u ++ List.replicate (cap - n) u := by rw [List.replicate_append_replicate]; congr 1; omega
      rw [h1, List.flatMap_append, List.take_left' (by rw [flat_len hfl, List.length_replicate]), List.take_left' (by rw [List.length_replicate])]
    rw [this, List.take_replicate, Nat.min_eq_left hnc]
theorem o_copy {x y : Operand} {t t2 e : TypeId} {ats : Array TypeId} {n cap B s : Nat} {v2 : Value} {xs news : List Value} (i : Nat) (hi : lk L i = some (.row (.slice (some ⟨B, 0, none⟩) n cap) e s n xs)) (hx : ρ x = .slice (some ⟨B, 0, none⟩) n cap) (hy : ρ y = v2) (hat : ats = #[t, t2])
    (ht : sliOf P t = some e) (hs : szOf P e = some s) (hsrc : Src w v2 s n news) (hone : ∀ u ∈ news, u.oneCell' = true) (hm : MemOk w₀ L w) :
    ∃ w', (execOp ρ (mk d (.call { callee := .builtin .copy, args := #[x, y], argTypes := ats }) ty ps af g)).run P w = .ok (.value (.int .i64 (n : Nat))) w' ∧ MemOk w₀ ((i, .row (.slice (some ⟨B, 0, none⟩) n cap) e s n news) :: L) w' := by
  subst hat
  have hrow := hm.row i hi
  obtain ⟨ti, hti, hsz⟩ := Option.map_eq_some_iff.1 hs
  suffices hg : ∃ w', (Builtin.copy_ #[t, t2] ty #[.slice (some ⟨B, 0, none⟩) n cap, v2]).run P w = .ok (.int .i64 (n : Nat)) w' ∧ MemOk w₀ ((i, .row (.slice (some ⟨B, 0, none⟩) n cap) e s n news) :: L) w' by
    obtain ⟨w', h1, h2⟩ := hg
    refine ⟨w', ?_, h2⟩
    rw [run_builtin]
    simp only [List.map_toArray, List.map_cons, List.map_nil, hx, hy]
    exact run_v h1
  have same : n = 0 → news = [] → MemOk w₀ ((i, .row (.slice (some ⟨B, 0, none⟩) n cap) e s n news) :: L) w := by
    intro h0 hn
    have hx : xs = [] := List.eq_nil_of_length_eq_zero (by rw [hrow.1, h0, Nat.zero_mul])
    subst hn hx
    exact hm.of (lk_dup hi)
  have hl0 : ∀ (x : Addr), (loadCells x 0).run P w = .ok #[] w := fun x => by simpa using run_loadCells_list (P := P) w x [] (by simp)
  rcases hsrc with ⟨rfl, h0, hn⟩ | ⟨x, c, rfl, h0, hn⟩ | ⟨b, off, c, rfl, hl, hcell⟩
  · refine ⟨w, ?_, same h0 hn⟩
    subst h0
    simp [Builtin.copy_, run_underlying (und_sli ht), Builtin.lenOf, Builtin.firstCells, sizeOf, typeInfo, hti, storeCells, goInt]
  · refine ⟨w, ?_, same h0 hn⟩
    subst h0
    simp [Builtin.copy_, run_underlying (und_sli ht), Builtin.lenOf, Builtin.firstCells, sizeOf, typeInfo, hti, storeCells, goInt, hl0]
  · rcases hrow.2 with ⟨h1, _⟩ | ⟨g, cap', cur, h1, hbg, hg, hnc, hcm, hcs, htk⟩
    · cases h1
    · cases h1
      have hle := Nat.mul_le_mul_right s hnc
      have hld := run_loadCells_list (P := P) w ⟨b, off, none⟩ news (fun j u hu => by rw [addr_add]; exact hcell j u hu)
      have hst := run_storeCells_at P B 0 e news 0 cur w hg (by omega) hone
      have hr : (Builtin.copy_ #[t, t2] ty #[.slice (some ⟨B, 0, none⟩) n cap, .slice (some ⟨b, off, none⟩) n c]).run P w = .ok (.int .i64 (n : Nat)) (w.setRow B (cur.toList.take 0 ++ news ++ cur.toList.drop (0 + news.length)).toArray) := by
        simp only [Nat.add_zero] at hst
        simp [Builtin.copy_, run_underlying (und_sli ht), Builtin.lenOf, Builtin.firstCells, sizeOf, typeInfo, hti, hsz, goInt, ← hl, hld]
        simp at hst
        rw [hst]
        rfl
      refine ⟨_, hr, ?_⟩
      refine hm.grow (.inl hi) ⟨rfl, rfl, rfl, by simp, fun k _ hk => setRow_other w B k _ (fun e => hk (by simp [Value.ownBlock, e]))⟩ ⟨hl, .inr ⟨B, cap, _, rfl, hbg, setRow_heap w B cur _ e _ hg, hnc, hcm, ?_, ?_⟩⟩ (.inl rfl)
      · simp only [List.size_toArray, List.length_append, List.length_take, List.length_drop, Array.length_toList]
        omega
      · rw [List.take_zero, List.nil_append, ← hl]
        exact List.take_left
end
/-! ### maps: an entry laid, an entry that has come -/
section
variable {κ μ : Type} {fk : κ → Value} {fv : μ → Value} [DecidableEq κ] {P : Program} {w : World} {kt : TypeId} {ρ : Operand → Value} {d : Option Tmp} {ty : TypeId} {ps : String} {af : Array Edge} {g : Option (Nat × Bool)} {x y v : Operand} {t e : TypeId}
omit [DecidableEq κ] in
omit [DecidableEq κ] in
end
end Go.Proofs.Ytcidgbjgeegepaa
/- A scope with jumps back to one label. Over any program. -/
namespace Go.Proofs.Ytcidgbjgeegepaa
open Go Go.RowKit
theorem least {P : Nat → Prop} : ∀ n, P n → ∃ m, P m ∧ ∀ k, P k → m ≤ k := by
  intro n
  induction n using Nat.strongRecOn with
  | _ n ih =>
    intro h
    by_cases hx : ∃ k, k < n ∧ P k
    · obtain ⟨k, h1, h2⟩ := hx; exact ih k h1 h2
    · exact ⟨n, h, fun k hk => Nat.le_of_not_lt fun hlt => hx ⟨k, hlt, hk⟩⟩
section
variable {C : Cx} {Q : Post} {K : List (Nat × Value)} {L : Heap}
theorem T_jumps {ι : Type} (l : Nat) (p : ι → Prop) (KI : ι → List (Nat × Value)) (LI : ι → Heap) (μ : ι → Nat) {c rest : Code} (hro : C.ro = none) (hl : findLabel c l = some rest)
    (first : T C c (Exit.jump l (At C p KI LI) Q) K L) (pass : ∀ i, p i → T C rest (Exit.jump l (At C (fun j => p j ∧ μ j < μ i) KI LI) Q) (KI i) (LI i)) : T C (.scope c) Q K L := by
  obtain ⟨P, w₀, N, CD, ro⟩ := C
  cases hro
  intro a w hf hm
  let good : Act → World → Nat → Prop := fun a w m => ∃ i, p i ∧ μ i = m ∧ FrOk N CD (KI i) a ∧ MemOk w₀ (LI i) w
  have hex : ∀ a w, ∃ m, (∀ n, good a w n → good a w m) ∧ ∀ k, good a w k → m ≤ k := fun a w => by
    by_cases h : ∃ n, good a w n
    · obtain ⟨n, hn⟩ := h
      obtain ⟨m, h1, h2⟩ := least n hn
      exact ⟨m, fun _ _ => h1, h2⟩
    · exact ⟨0, fun n hn => absurd ⟨n, hn⟩ h, fun k _ => Nat.zero_le _⟩
  let M : Act → World → Nat := fun a w => Classical.choose (hex a w)
  have hM : ∀ a w, (∀ n, good a w n → good a w (M a w)) ∧ ∀ k, good a w k → M a w ≤ k := fun a w => Classical.choose_spec (hex a w)
  refine (wpIn_wide (n := 0)).2 (wp_scope_jumps l (At ⟨P, w₀, N, CD, none⟩ p KI LI) M hl (wpIn_wide.1 (first a w hf hm)) ?_)
  rintro a w ⟨i, hi, hF, hMm⟩
  obtain ⟨i, hi, hμ, hF, hMm⟩ := (hM a w).1 (μ i) ⟨i, hi, rfl, hF, hMm⟩
  refine wpIn_wide.1 (wpIn_mono (pass i hi a w hF hMm) ?_)
  intro e a' w' hq
  cases e with
  | normal => exact hq
  | exit id => exact hq
  | goto l' =>
    obtain ⟨rfl, j, ⟨hj, hlt⟩, h1, h2⟩ := hq
    exact ⟨rfl, ⟨j, hj, h1, h2⟩, by have := (hM a' w').2 (μ j) ⟨j, hj, rfl, h1, h2⟩; omega⟩
  | ret => exact hq
  | panic ch => exact hq
  | outgrown => exact hq
theorem T_goto {l : Nat} (h : POk C Q (.goto l) K L) : T C (.goto l) Q K L := fun a w hf hm => wpIn_goto (h a w hf hm)
theorem p_j_n {l : Nat} {J : Act → World → Prop} (h : POk C Q .normal K L) : POk C (Exit.jump l J Q) .normal K L := h
end
end Go.Proofs.Ytcidgbjgeegepaa
/- Panics, and what recovers of them. Over any program. -/
namespace Go.Proofs.Ytcidgbjgeegepaa
open Go Go.RowKit

section
variable {P : Program} {w : World} {ρ : Operand → Value} {d : Option Tmp} {ty : TypeId} {ps : String} {af : Array Edge} {g : Option (Nat × Bool)} {x : Operand}
theorem r_panic {t : TypeId} {v : Value} (h : ρ x = .iface t v) : (execOp ρ (mk d (.panic x) ty ps af g)).run P w = .halt (.panic (.iface t v)) w := by
  show (do pure (Next.value (← Instr.panic (ρ x))) : Sem Next).run P w = _
  rw [h]; rfl
theorem r_makeIface {t : TypeId} {v : Value} (ht : P.concrete t = true) (h : ρ x = v) : (execOp ρ (mk d (.makeInterface t x) ty ps af g)).run P w = .ok (.value (.iface t v)) w := by
  refine run_v ?_
  rw [h]; exact run_makeInterface _ _ _ ht
theorem r_typeAssert {t u : TypeId} {v r : Value} {ok : Bool} (h : ρ x = v) (hr : (Instr.typeAssert v t u ok).run P w = .ok r w) : (execOp ρ (mk d (.typeAssert x t u ok) ty ps af g)).run P w = .ok (.value r) w := by
  refine run_v ?_
  rw [h]; exact hr
variable {y : Operand}
/-- An interface value, against nil. -/
theorem r_eqI {op : BinOp} {t t' : TypeId} {a : Value} {r : Bool} (hg : (eqGuard op t x y a .nilIface).run P w = .ok () w) (hx : ρ x = a) (hy : ρ y = .nilIface) (h : (binOp op t a .nilIface).run P w = .ok (.bool r) w) :
    (execOp ρ (mk d (.binOp op t x y t') ty ps af g)).run P w = .ok (.value (.bool r)) w := run_eqv hg hx hy h
end
/-- A function's contract: it panics with a value. -/
def PAns (w₀ : World) {κ : Type} (q : κ → Prop) (x : κ → Value) (LX : κ → Heap) (e : Ending) (w' : World) : Prop := ∃ k, q k ∧ e = .panicked [{ v := x k, recovered := false }] ∧ MemOk w₀ (LX k) w'
section
variable {C : Cx} {ops : Array Oper} {os : List Oper} {Q : Post} {K : List (Nat × Value)} {L : Heap} {o : Oper} {ch : List PanicEntry}
theorem p_then_p {next : Act → World → Prop} (h : POk C Q (.panic ch) K L) : POk C (Exit.then next Q) (.panic ch) K L := h
theorem TL_panic {v : Value} (hr : ∀ ρ w, Rd K ρ → MemOk C.w₀ L w → (execOp ρ o).run C.P w = .halt (.panic v) w) (hn : isDefer o.op = false) (hw : Want ops K o true) (h : POk C Q (.panic [{ v, recovered := false }]) K L) : TL C ops (o :: os) Q K L := by
  intro a w hf hm
  unfold wpListIn
  rw [hw.is hf, if_pos rfl]
  exact step_panic hn (hr _ _ hf.rd hm) (h a w hf hm)
/-- A call that panics. -/
theorem TL_callP {κ : Type} {f : Nat} {args : Array Value} (q : κ → Prop) (x : κ → Value) (LX : κ → Heap) (hr : ∀ ρ w, Rd K ρ → MemOk C.w₀ L w → (execOp ρ o).run C.P w = .ok (.enter f args) w)
    (hc : ∀ w, MemOk C.w₀ L w → Calls C.P f args w (PAns C.w₀ q x LX)) (hn : isDefer o.op = false) (hw : Want ops K o true)
    (h : ∀ k, q k → POk C Q (.panic [{ v := x k, recovered := false }]) K (LX k)) : TL C ops (o :: os) Q K L := by
  intro a w hf hm
  unfold wpListIn
  rw [hw.is hf, if_pos rfl]
  refine step_enter hn (hr _ _ hf.rd hm) (hc w hm) ?_
  rintro e w' ⟨k, hk, rfl, hm'⟩
  exact h k hk _ _ hf hm'
/-- The same, of a callee that leaves memory as it was. -/
theorem TL_callQ {f : Nat} {args : Array Value} {v : Value} (hr : ∀ ρ w, Rd K ρ → MemOk C.w₀ L w → (execOp ρ o).run C.P w = .ok (.enter f args) w)
    (hc : ∀ w, MemOk C.w₀ L w → Calls C.P f args w fun e w' => e = .panicked [{ v, recovered := false }] ∧ Below w.heap.size w w') (hn : isDefer o.op = false) (hw : Want ops K o true)
    (h : POk C Q (.panic [{ v, recovered := false }]) K L) : TL C ops (o :: os) Q K L :=
  TL_callP (κ := Unit) (fun _ => True) (fun _ => v) (fun _ => L) hr (fun w hm => (hc w hm).mono fun e w' ⟨he, hb⟩ => ⟨(), trivial, he, hm.below hb⟩) hn hw fun _ _ => h
theorem p_pan {fn : Func} {R : Ending → World → Prop} (hD : C.D = []) (hR : ∀ w, MemOk C.w₀ L w → R (.panicked ch) w) : POk C (bodyM C.P fn R) (.panic ch) K L := fun a w hf hm => by
  show LeavesInM _ _ _ _ _ _ _ _ _
  rw [hf.defers.trans hD]
  exact hR w hm
theorem p_panD {fn : Func} {R : Ending → World → Prop} (ds : List Deferred) (hD : C.D = ds)
    (h : ∀ tmps, (∀ t u, lk K t = some u → tmps.getD t undef = u) → ∀ w, MemOk C.w₀ L w → Leaves C.P fn tmps R ds (.panicking ch) w) : POk C (bodyPostD C.P fn R) (.panic ch) K L := fun a w hf hm => by
  show Leaves _ _ _ _ a.defers _ _
  rw [hf.defers.trans hD]
  exact h _ hf.knows w hm
end
/-- Behind a panic: the deferred call recovers of it. -/
theorem leavesP_cons {P : Program} {w₀ : World} {fn : Func} {tmps : Array Value} {R : Ending → World → Prop} {f : Nat} {cap args : Array Value} {ds : List Deferred} {L L' : Heap} {v x : Value} (hE : Enters P f)
    (hc : ∀ w, MemOk w₀ L w → CallsD P f (args ++ cap) (.panicking [{ v := x, recovered := false }]) w fun e u' w' => u' = .panicking [{ v := x, recovered := true }] ∧ (e = .returned v ∧ MemOk w₀ L' w')) (h : ∀ w, MemOk w₀ L' w → Leaves P fn tmps R ds .returning w) :
    ∀ w, MemOk w₀ L w → Leaves P fn tmps R ({ target := .fn (.func f) cap, args := args } :: ds) (.panicking [{ v := x, recovered := false }]) w := fun w hm => by
  refine ⟨by simp, .func f, cap, f, args ++ cap, rfl, hE _ w, (hc w hm).mono ?_⟩
  rintro e u' w' ⟨rfl, rfl, hm'⟩
  exact h w' hm'
/-- The modes of the frame that put off a call: ahead of 'recover', behind it, and what it gives. -/
def RecM (u u' : FrameMode) (v : Value) : Prop := (u = .returning ∧ u' = .returning ∧ v = .nilIface) ∨ (u = .panicking [{ v, recovered := false }] ∧ u' = .panicking [{ v, recovered := true }])
/-- The contract of a deferred call that begins with 'x := recover()'. -/
theorem dS_of_T {P : Program} {f : FuncId} {fn : Func} {c : Code} {id : Nat} {oR oA : Oper} {dR dA : Nat} {l : List Value} {w₀ : World} {L : Heap} {R : Ending → World → Prop} (N : Nat) {u u' : FrameMode} {v : Value} (hu : RecM u u' v)
    (hf : P.funcs[f]? = some fn) (hN : fn.ntmps = N) (hn : Nat.ble l.length N = true) (hb : fn.body = some (.seq (.region id #[oR, oA] false) c))
    (hgR : oR.guard = none) (hdR : oR.dst = some dR) (hrR : ∀ ρ w, (execOp ρ oR).run P w = .ok .recover w) (hgA : oA.guard = none) (hdA : oA.dst = some dA) (hrA : ∀ ρ w, (execOp ρ oA).run P w = .ok (.value (ρ (.tmp dR))) w)
    (hlR : Nat.blt dR N = true) (hlA : Nat.blt dA N = true)
    (h : T ⟨P, w₀, N, [], none⟩ c (bodyPost P fn R) ((dA, v) :: (dR, v) :: argsK 0 l) L) : ∀ w, MemOk w₀ L w → CallsD P f l.toArray u w fun e m w' => m = u' ∧ R e w' := by
  intro w hm
  subst hN
  replace hn := Nat.le_of_ble_eq_true hn
  refine callsD_of_wpS hf hb fun c₀ cs hmode => ?_
  apply wpS_seq
  apply wpS_region
  have hfr : FrOk fn.ntmps [] (argsK 0 l) { tmps := l.toArray ++ Array.replicate (fn.ntmps - l.toArray.size) undef, defers := [] } := by
    refine lk_args (by simpa using hn) _ (fun t v ht => ?_)
    obtain ⟨_, h2⟩ := argsK_lk l 0 t v ht
    simpa using h2
  obtain ⟨a, ha⟩ : ∃ a : Act, { tmps := l.toArray ++ Array.replicate (fn.ntmps - l.toArray.size) undef, defers := [] } = a := ⟨_, rfl⟩
  rw [ha] at hfr ⊢
  have hf1 := hfr.put v hlR
  have hev : (a.put (some dR) v).eval (.tmp dR) = v := hf1.knows _ _ (lk_cons_same _ _ _)
  have hf2 := hf1.put v hlA
  have key := wpIn_wide.1 (h _ w hf2 hm)
  have fin : ∀ u'', u'' = u' → (Code.wpS P c (bodyPostS P fn c₀ cs fun e m w' => m = u' ∧ R e w') ((a.put (some dR) v).put (some dA) v) ({ c₀ with mode := u'' } :: cs) w) := by
    rintro _ rfl
    refine wpS_of_wp (Code.wp_mono ?_ key)
    intro e a' w' he
    cases e with
    | normal => obtain ⟨h1, x, h2, h3⟩ := he; exact ⟨h1, _, rfl, x, h2, rfl, h3⟩
    | ret => obtain ⟨h1, x, h2, h3⟩ := he; exact ⟨h1, _, rfl, x, h2, rfl, h3⟩
    | exit id => exact he.elim
    | goto l => exact he.elim
    | panic ch => exact ⟨he.1, _, rfl, rfl, he.2⟩
    | outgrown => exact ⟨_, rfl, he⟩
  show wpOpsS P #[oR, oA] _ [0, 1] a (c₀ :: cs) w
  have hwR : ∀ j, Region.wanted oR j = true := fun j => by unfold Region.wanted; rw [hgR]
  have hwA : ∀ j, Region.wanted oA j = true := fun j => by unfold Region.wanted; rw [hgA]
  simp only [wpOpsS, List.getElem?_toArray, List.getElem?_cons_zero, List.getElem?_cons_succ, hwR, hwA, if_true, hrR, hrA, hdR, hdA, Oper.upon]
  rcases hu with ⟨rfl, rfl, rfl⟩ | ⟨rfl, rfl⟩
  · simp only [recoverD, hmode]
    rw [hev]
    have := fin _ rfl
    rwa [show ({ c₀ with mode := FrameMode.returning } : Frame) = c₀ by rw [← hmode]] at this
  · simp only [recoverD, hmode]
    rw [hev]
    exact fin _ rfl
/-! ### lists of what is known, told otherwise -/
theorem lk_none_of {A : Heap} {k : Nat} (h : ∀ p ∈ A, p.1 ≠ k) : lk A k = none := by
  induction A with
  | nil => rfl
  | cons a A ih =>
    rw [show a :: A = (a.1, a.2) :: A from rfl, lk_cons_other _ _ (h a (by simp))]
    exact ih fun p hp => h p (by simp [hp])
theorem lk_key {A : Heap} {k : Nat} {q : Res} (h : lk A k = some q) : ∃ p ∈ A, p.1 = k := by
  by_cases e : ∃ p ∈ A, p.1 = k
  · exact e
  · rw [lk_none_of (fun p hp e2 => e ⟨p, hp, e2⟩)] at h; cases h
/-- What is ahead, put behind. -/
theorem lk_front {N L : Heap} (A : Heap) (h : ∀ p ∈ A, lk N p.1 = none) : ∀ k q, lk (A ++ (N ++ L)) k = some q → lk (N ++ (A ++ L)) k = some q := fun k q hk => by
  rw [lk_append] at hk
  rw [lk_append]
  cases hA : lk A k with
  | some r =>
    rw [hA] at hk
    obtain ⟨p, hp, rfl⟩ := lk_key hA
    rw [h p hp]
    show lk (A ++ L) p.1 = _
    rw [lk_append, hA]; exact hk
  | none =>
    rw [hA] at hk
    replace hk : lk (N ++ L) k = some q := hk
    rw [lk_append] at hk
    cases hN : lk N k with
    | some r => rw [hN] at hk; exact hk
    | none => rw [hN] at hk; show lk (A ++ L) k = _; rw [lk_append, hA]; exact hk
/-- What is of no more use. -/
theorem lk_drop {L : Heap} (A : Heap) (h : ∀ p ∈ A, lk L p.1 = none) : ∀ k q, lk L k = some q → lk (A ++ L) k = some q := fun k q hk => by
  rw [lk_append]
  cases hA : lk A k with
  | some r => obtain ⟨p, hp, rfl⟩ := lk_key hA; rw [h p hp] at hk; cases hk
  | none => exact hk
/-- What is told anew ahead. -/
theorem lk_mid {L : Heap} (A M : Heap) (h : (M.map (·.1)).all (fun i => (A.map (·.1)).contains i) = true) : ∀ k q, lk (A ++ L) k = some q → lk (A ++ (M ++ L)) k = some q := fun k q hk => by
  rw [lk_append] at hk ⊢
  cases hA : lk A k with
  | some r => rw [hA] at hk; exact hk
  | none =>
    rw [hA] at hk
    show lk (M ++ L) k = _
    rw [lk_append]
    cases hM : lk M k with
    | none => exact hk
    | some r =>
      exfalso
      obtain ⟨p, hp, rfl⟩ := lk_key hM
      have := List.all_eq_true.1 h p.1 (List.mem_map_of_mem hp)
      rw [List.contains_iff_mem, List.mem_map] at this
      obtain ⟨z, hz, hzp⟩ := this
      rcases List.append_of_mem hz with ⟨s, t, rfl⟩
      have key : ∀ (s : Heap), lk (s ++ z :: t) p.1 ≠ none := fun s => by
        induction s with
        | nil => rw [List.nil_append, show z :: t = (z.1, z.2) :: t from rfl, hzp, lk_cons_same]; exact fun e => by cases e
        | cons a s ih =>
          rw [List.cons_append, show a :: (s ++ z :: t) = (a.1, a.2) :: (s ++ z :: t) from rfl]
          by_cases e : a.1 = p.1
          · rw [e, lk_cons_same]; exact fun e => by cases e
          · rw [lk_cons_other _ _ e]; exact ih
      exact key s hA
theorem lk_app_none {N L : Heap} {i : Nat} (h1 : lk N i = none) (h2 : lk L i = none) : lk (N ++ L) i = none := by rw [lk_append, h1]; exact h2
theorem lk_mid2 {L : Heap} (A : Heap) (p : Nat × Res) (M : Heap) (hp : lk L p.1 = none) (hA : lk A p.1 = none) (h : (M.map (·.1)).all (fun i => (A.map (·.1)).contains i) = true) : ∀ k q, lk (A ++ L) k = some q → lk (A ++ (p :: (M ++ L))) k = some q := fun k q hk => by
  have h2 := lk_mid A M h k q hk
  rw [lk_append] at h2 ⊢
  cases e : lk A k with
  | some r => rw [e] at h2; exact h2
  | none =>
    rw [e] at h2
    show lk (p :: (M ++ L)) k = _
    rw [show p :: (M ++ L) = (p.1, p.2) :: (M ++ L) from rfl, lk_cons_other _ _ ?_]
    · exact h2
    · intro e2
      subst e2
      rw [lk_append, hA] at hk
      rw [show lk L p.1 = some q from hk] at hp
      cases hp
theorem lk_dup2 {L : Heap} {i j : Nat} {r s : Res} (hi : lk L i = some r) (hj : lk L j = some s) : ∀ k q, lk ((i, r) :: (j, s) :: L) k = some q → lk L k = some q := fun k q hk => by
  by_cases e : i = k
  · subst e; rw [lk_cons_same] at hk; rw [hi]; exact hk
  · rw [lk_cons_other _ _ e] at hk; exact lk_dup hj k q hk
end Go.Proofs.Ytcidgbjgeegepaa
/- A slice of an array, from a place on. Over any program. -/
namespace Go.Proofs.Ytcidgbjgeegepaa
open Go Go.RowKit
theorem r_sliceAlo {P : Program} {w : World} {ρ : Operand → Value} {d : Option Tmp} {ty : TypeId} {ps : String} {af : Array Edge} {g : Option (Nat × Bool)} {x y : Operand} {k : IntKind} {t e : TypeId} {n sz b off l : Nat} (ht : arrOf P t = some (n, e)) (hs : szOf P e = some sz) (hl : l < n) (hx : ρ x = .pointer (some ⟨b, off, none⟩)) (hy : ρ y = .int k l) :
    (execOp ρ (mk d (.slice t x (some y) none none) ty ps af g)).run P w = .ok (.value (.slice (some ⟨b, off + l * sz, none⟩) (n - l) (n - l))) w := by
  refine run_v ?_
  rw [hx]
  unfold Instr.sliceAt
  rw [run_underlying (und_arr ht)]
  dsimp only
  rw [run_bind_ok (a := ⟨b, off, none⟩) (w' := w) rfl]
  have hb : (Instr.sliceBounds false n n (Option.map ρ (some y)) (Option.map ρ none) (Option.map ρ none)).run P w = .ok (l, n, n) w :=
    run_sliceBounds (lo := some y) (hi := none) (mx := none) (bd_none ρ _) (bd_none ρ _) (bd_some hy) (fun h => by cases h) (Nat.le_of_lt hl) (Nat.le_refl _) (Nat.le_refl _)
  rw [run_bind_ok hb]
  dsimp only
  rw [run_bind_ok (run_sizeOf hs), if_neg (by omega), addr_add]
  rfl
end Go.Proofs.Ytcidgbjgeegepaa
/- net and journal: numbers as bytes. Printed by a program of this seat's prover. -/
namespace Go.Proofs.Ytcidgbjgeegepaa
open Go Go.RowKit
set_option maxRecDepth 10000
/-- The same in words. -/
def numW (l : List By) : BitVec 64 := l.foldl (fun n x => (n <<< 8) ||| x.setWidth 64) 0#64
theorem numW_step {l : List By} {k : Nat} {x : By} (hx : l[k]? = some x) : numW (l.take (k + 1)) = (numW (l.take k) <<< 8) ||| x.setWidth 64 := by
  unfold numW
  rw [List.take_add_one, hx, List.foldl_append]; rfl
theorem numN_step {l : List By} {k : Nat} {x : By} (hx : l[k]? = some x) : numN (l.take (k + 1)) = 256 * numN (l.take k) + x.toNat := by
  unfold numN
  rw [List.take_add_one, hx, List.foldl_append]; rfl
theorem shl8_or (n : BitVec 64) (x : By) (h : n.toNat < 72057594037927936) : ((n <<< 8) ||| x.setWidth 64).toNat = 256 * n.toNat + x.toNat := by
  have hx := x.isLt
  rw [BitVec.toNat_or, BitVec.toNat_shiftLeft, BitVec.toNat_setWidth, Nat.mod_eq_of_lt (by rw [Nat.shiftLeft_eq]; omega), Nat.mod_eq_of_lt (by omega)]
  have e := Nat.shiftLeft_add_eq_or_of_lt (i := 8) (b := x.toNat) (by omega) n.toNat
  rw [← e, Nat.shiftLeft_eq]; omega
theorem num_both (l : List By) : ∀ k, k ≤ 4 → (numW (l.take k)).toNat = numN (l.take k) ∧ numN (l.take k) < 256 ^ k
  | 0, _ => ⟨rfl, (show numN [] < 1 by decide)⟩
  | k + 1, hk => by
    obtain ⟨h1, h2⟩ := num_both l k (by omega)
    have hp : 256 ^ (k + 1) = 256 * 256 ^ k := by rw [Nat.pow_succ]; omega
    have h4 : 256 ^ k ≤ 256 ^ 3 := Nat.pow_le_pow_right (by decide) (by omega)
    cases hx : l[k]? with
    | none =>
      have e : l.length ≤ k := List.getElem?_eq_none_iff.1 hx
      rw [List.take_of_length_le (Nat.le_succ_of_le e)]
      rw [List.take_of_length_le e] at h1 h2
      exact ⟨h1, by omega⟩
    | some x =>
      have hb := x.isLt
      rw [numW_step hx, numN_step hx, shl8_or _ _ (by omega), h1]
      exact ⟨rfl, by omega⟩
theorem numW4 (l : List By) (h : l.length = 4) : (numW l).toNat = numN l ∧ numN l < 4294967296 := by
  have := num_both l 4 (Nat.le_refl _)
  rw [List.take_of_length_le (by omega)] at this
  exact this
theorem numP_lt (l : List By) : numP l < 4294967296 := (num_both l 4 (Nat.le_refl _)).2
theorem ans0 {P : Program} {g : Nat} {args : Array Value} {w : World} {v : Value} (h : Calls P g args w fun e w' => e = .returned v ∧ Below w.heap.size w w') : Calls P g args w (Ans (fun _ : Unit => True) (fun _ => v) (fun _ => []) w) := h.mono fun e w' ⟨he, hb⟩ => ⟨(), trivial, he, hb, newOk0 w w'⟩
theorem byc_oneL {l : List By} : ∀ u ∈ l.flatMap byc, u.oneCell' = true := by
  intro u hu
  obtain ⟨x, _, hx⟩ := List.mem_flatMap.1 hu
  exact byc_one x u hx

theorem need_ok_oct (x : Int) (w : World) : Calls Try.prog 130 #[.bool true, .int .i64 x] w fun e w' => e = .returned (.tuple #[]) ∧ Below w.heap.size w w' := by
  refine calls_of_T (l := [.bool true, .int .i64 x]) 8 Try.func130 rfl rfl rfl ?_
  show T _ _ _ [(0, .bool true), (1, .int .i64 x)] []
  refine T_seq (T_region ?_)
  refine TL_q (.bool true) (fun _ _ hρ _ => r_move (hρ _ _ rfl)) rfl rfl rfl (w_n rfl) ?_
  refine TL_q (.bool false) (fun _ _ hρ _ => r_not (b := true) (hρ _ _ rfl)) rfl rfl rfl (w_n rfl) ?_
  refine TL_seq ?_
  refine T_cond_f rfl ?_
  refine T_skip' ?_
  refine p_end ?_
  refine ret_of rfl (.tuple #[]) (fun tmps w hk hm => results_none rfl _ _ _) (fun w hm => ?_)
  exact ⟨rfl, hm.ext⟩

theorem need_no_oct (x : Int) (w : World) : Calls Try.prog 130 #[.bool false, .int .i64 x] w fun e w' => e = .panicked [{ v := .iface 28 (.int .i64 x), recovered := false }] ∧ Below w.heap.size w w' := by
  refine calls_of_T (l := [.bool false, .int .i64 x]) 8 Try.func130 rfl rfl rfl ?_
  show T _ _ _ [(0, .bool false), (1, .int .i64 x)] []
  refine T_seq (T_region ?_)
  refine TL_q (.bool false) (fun _ _ hρ _ => r_move (hρ _ _ rfl)) rfl rfl rfl (w_n rfl) ?_
  refine TL_q (.bool true) (fun _ _ hρ _ => r_not (b := false) (hρ _ _ rfl)) rfl rfl rfl (w_n rfl) ?_
  refine TL_seq ?_
  refine T_cond_t rfl ?_
  refine T_region ?_
  refine TL_q (.int .i64 x) (fun _ _ hρ _ => r_move (hρ _ _ rfl)) rfl rfl rfl (w_n rfl) ?_
  refine TL_q (.iface 28 (.int .i64 x)) (fun _ _ hρ _ => r_makeIface (by kernel_rfl) (hρ _ _ rfl)) rfl rfl rfl (w_n rfl) ?_
  refine TL_panic (fun _ _ hρ _ => r_panic (hρ _ _ rfl)) rfl (w_n rfl) ?_
  refine p_pan rfl (fun w hm => ?_)
  exact ⟨rfl, hm.ext⟩

theorem octis_c (w : World) : Calls Try.prog 131 #[.int .i64 4] w fun e w' => e = .returned (.bool true) ∧ Below w.heap.size w w' := by
  refine calls_of_T (l := [.int .i64 4]) 9 Try.func131 rfl rfl rfl ?_
  show T _ _ _ [(0, .int .i64 4)] []
  refine T_seq (T_region ?_)
  refine TL_q (.bool false) (fun _ _ hρ _ => r_assign (hρ _ _ rfl)) rfl rfl rfl (w_n rfl) ?_
  refine TL_seq ?_
  refine T_seq (T_region ?_)
  refine TL_q (.int .i64 4) (fun _ _ hρ _ => r_move (hρ _ _ rfl)) rfl rfl rfl (w_n rfl) ?_
  refine TL_q (.bool true) (fun _ _ hρ _ => r_as (r_geq (hρ _ _ rfl) (hρ _ _ rfl)) (by rfl)) rfl rfl rfl (w_n rfl) ?_
  refine TL_q (.bool true) (fun _ _ hρ _ => r_move (hρ _ _ rfl)) rfl rfl rfl (w_n rfl) ?_
  refine TL_q (.int .i64 4) (fun _ _ hρ _ => r_move (hρ _ _ rfl)) rfl rfl rfl (want_y 5 rfl rfl rfl) ?_
  refine TL_q (.bool true) (fun _ _ hρ _ => r_as (r_leq (hρ _ _ rfl) (hρ _ _ rfl)) (by rfl)) rfl rfl rfl (want_y 5 rfl rfl rfl) ?_
  refine TL_q (.bool true) (fun _ _ hρ _ => r_pick_t (hρ _ _ rfl) (hρ _ _ rfl)) rfl rfl rfl (w_n rfl) ?_
  refine TL_q (.bool true) (fun _ _ hρ _ => r_assign (hρ _ _ rfl)) rfl rfl rfl (w_n rfl) ?_
  refine TL_seq ?_
  refine T_ret' ?_
  refine ret_of rfl (.bool true) (fun tmps w hk hm => res1 rfl (res_tmp (hk 2 _ rfl))) (fun w hm => ?_)
  exact ⟨rfl, hm.ext⟩

theorem number_c (l : List By) (a : Option Addr) (cap : Nat) (w : World) (hv : SliceAt w a cap 1 byc l) (hcap : cap ≤ Go.maxLen) : Calls Try.prog 132 #[.slice a l.length cap] w fun e w' => e = .returned (.int .u64 ((numW l).toNat : Int)) ∧ Below w.heap.size w w' := by
  have hvl := hv.1
  have hcp := hcap
  unfold Go.maxLen at hcp
  refine calls_of_T (l := [.slice a l.length cap]) 19 Try.func132 rfl rfl rfl ?_
  show T _ _ _ [(0, .slice a l.length cap)] []
  refine T_seq (T_region ?_)
  refine TL_q (.int .u64 0) (fun _ _ hρ _ => r_assign (hρ _ _ rfl)) rfl rfl rfl (w_n rfl) ?_
  refine TL_seq ?_
  refine T_seq (T_region ?_)
  refine TL_q (.int .u64 0) (fun _ _ hρ _ => r_assign (hρ _ _ rfl)) rfl rfl rfl (w_n rfl) ?_
  refine TL_seq ?_
  refine T_seq ?_
  refine T_seq (T_region ?_)
  refine TL_q (.slice a l.length cap) (fun _ _ hρ _ => r_move (hρ _ _ rfl)) rfl rfl rfl (w_n rfl) ?_
  refine TL_q (.int .i64 ((l.length : Nat) : Int)) (fun _ _ hρ _ => r_len sl34 (hρ _ _ rfl)) rfl rfl rfl (w_n rfl) ?_
  refine TL_q (.int .i64 0) (fun _ _ hρ _ => r_move (hρ _ _ rfl)) rfl rfl rfl (w_n rfl) ?_
  refine TL_seq ?_
  refine T_block ?_
  refine T_loop (ι := Nat) (fun (k : Nat) => k ≤ l.length) (fun (k : Nat) => [(2, .int .u64 0), (6, .slice a l.length cap), (7, .int .i64 ((l.length : Nat) : Int)), (8, .int .i64 ((k : Nat) : Int)), (3, .int .u64 ((numW (l.take k)).toNat : Int))]) (fun (k : Nat) => []) (fun (k : Nat) => l.length - k) 0 (Nat.zero_le _) (sub_cons rfl (sub_cons rfl (sub_cons rfl (sub_cons rfl (sub_cons rfl sub_nil))))) sub_nil ?_
  rintro k hp
  have hk := hp
  show T _ _ _ [(2, .int .u64 0), (6, .slice a l.length cap), (7, .int .i64 ((l.length : Nat) : Int)), (8, .int .i64 ((k : Nat) : Int)), (3, .int .u64 ((numW (l.take k)).toNat : Int))] []
  refine T_seq (T_region ?_)
  refine TL_q (.bool (decide (((k : Nat) : Int) < ((l.length : Nat) : Int)))) (fun _ _ hρ _ => r_lss (hρ _ _ rfl) (hρ _ _ rfl)) rfl rfl rfl (w_n rfl) ?_
  refine TL_seq ?_
  refine T_seq ?_
  refine T_cond rfl (fun h1 => ?_) (fun h1 => ?_)
  · replace h1 := of_decide_eq_true h1
    refine T_skip' ?_
    refine p_seq ?_
    refine T_seq ?_
    refine T_block ?_
    obtain ⟨x, hx⟩ : ∃ x, l[k]? = some x := ⟨_, List.getElem?_eq_getElem (by omega)⟩
    obtain ⟨b1, of1, cs1, T1, fz1, ha1, hq1, hr1⟩ := hv.open (i := k) (by omega)
    subst ha1
    refine T_seq (T_region ?_)
    refine TL_q (.pointer (some ⟨b1, of1 + k * 1, none⟩)) (fun _ _ hρ _ => r_indexAddrS (i := k) sl34 sz5 (hρ _ _ rfl) (hρ _ _ rfl) (by omega)) rfl rfl rfl (w_n rfl) ?_
    refine TL_q (.int .u8 ((x).toNat : Int)) (fun _ _ hρ hm => r_loadRow1 (f := byc) (u := x) ag5 (hρ _ _ rfl) (hm.old hq1) hr1 hx rfl) rfl rfl rfl (w_n rfl) ?_
    refine TL_q (.int .u8 ((x).toNat : Int)) (fun _ _ hρ _ => r_assign (hρ _ _ rfl)) rfl rfl rfl (w_n rfl) ?_
    refine TL_seq ?_
    refine T_region ?_
    refine TL_q (.int .u64 ((numW (l.take k)).toNat : Int)) (fun _ _ hρ _ => r_move (hρ _ _ rfl)) rfl rfl rfl (w_n rfl) ?_
    refine TL_q (.int .u64 (((numW (l.take k)) <<< 8).toNat : Int)) (fun _ _ hρ _ => r_shlB (k := .u64) (a := (numW (l.take k))) (n := 8) rfl (by decide) (hρ _ _ rfl) (hρ _ _ rfl)) rfl rfl rfl (w_n rfl) ?_
    refine TL_q (.int .u8 ((x).toNat : Int)) (fun _ _ hρ _ => r_move (hρ _ _ rfl)) rfl rfl rfl (w_n rfl) ?_
    refine TL_q (.int .u64 ((x.setWidth 64).toNat : Int)) (fun _ _ hρ _ => r_convB (k := .u8) (k' := .u64) (a := x) un5 io25 rfl (hρ _ _ rfl)) rfl rfl rfl (w_n rfl) ?_
    refine TL_q (.int .u64 ((((numW (l.take k)) <<< 8) ||| (x.setWidth 64)).toNat : Int)) (fun _ _ hρ _ => r_orB (k := .u64) (a := ((numW (l.take k)) <<< 8)) (b := (x.setWidth 64)) rfl (hρ _ _ rfl) (hρ _ _ rfl)) rfl rfl rfl (w_n rfl) ?_
    refine TL_q (.int .u64 ((((numW (l.take k)) <<< 8) ||| (x.setWidth 64)).toNat : Int)) (fun _ _ hρ _ => r_assign (hρ _ _ rfl)) rfl rfl rfl (w_n rfl) ?_
    refine TL_nil ?_
    refine p_blk_n ?_
    refine p_seq ?_
    refine T_region ?_
    refine TL_q (.int .i64 ((k + 1 : Nat) : Int)) (fun _ _ hρ _ => r_as (r_add (hρ _ _ rfl) (hρ _ _ rfl)) (int_as ((wrap64 (by omega) (by omega)).trans (by omega)))) rfl rfl rfl (w_n rfl) ?_
    refine TL_q (.int .i64 ((k + 1 : Nat) : Int)) (fun _ _ hρ _ => r_move (hρ _ _ rfl)) rfl rfl rfl (w_n rfl) ?_
    refine TL_nil ?_
    rw [← numW_step hx]
    exact p_at (k + 1) ⟨by omega, by omega⟩ (sub_cons rfl (sub_cons rfl (sub_cons rfl (sub_cons rfl (sub_cons rfl sub_nil))))) sub_nil
  · replace h1 := of_decide_eq_false h1
    refine T_exit' ?_
    refine p_then_x ?_
    refine p_then_x ?_
    refine p_blk_x ?_
    refine p_seq ?_
    refine T_seq (T_region ?_)
    refine TL_q (.int .u64 ((numW (l.take k)).toNat : Int)) (fun _ _ hρ _ => r_move (hρ _ _ rfl)) rfl rfl rfl (w_n rfl) ?_
    refine TL_q (.int .u64 ((numW (l.take k)).toNat : Int)) (fun _ _ hρ _ => r_assign (hρ _ _ rfl)) rfl rfl rfl (w_n rfl) ?_
    refine TL_seq ?_
    refine T_ret' ?_
    refine ret_of rfl (.int .u64 ((numW (l.take k)).toNat : Int)) (fun tmps w hk hm => res1 rfl (res_tmp (hk 2 _ rfl))) (fun w hm => ?_)
    have hke : k = l.length := by omega
    subst hke
    rw [List.take_length]
    exact ⟨rfl, hm.ext⟩

theorem get1_ok (T0 T1 T2 : Nat) (l : List By) (a : Option Addr) (cap : Nat) (w : World) (hv : SliceAt w a cap 1 byc l) (hcap : cap ≤ Go.maxLen) (h0 : hp w T0 = some (.cells #[.int .i64 4] 3)) (h1 : hp w T1 = some (.cells #[.int .i64 0] 3)) (h2 : hp w T2 = some (.cells #[.slice a l.length cap] 34)) (h4 : 4 ≤ l.length) : Calls Try.prog 129 #[.pointer (some ⟨T0, 0, none⟩), .pointer (some ⟨T1, 0, none⟩), .pointer (some ⟨T2, 0, none⟩)] w fun e w' => e = .returned (.int .u64 ((numP l : Nat) : Int)) ∧ Below w.heap.size w w' := by
  have hvl := hv.1
  have hcp := hcap
  unfold Go.maxLen at hcp
  refine calls_of_T (l := [.pointer (some ⟨T0, 0, none⟩), .pointer (some ⟨T1, 0, none⟩), .pointer (some ⟨T2, 0, none⟩)]) 30 Try.func129 rfl rfl rfl ?_
  show T _ _ _ [(0, .pointer (some ⟨T0, 0, none⟩)), (1, .pointer (some ⟨T1, 0, none⟩)), (2, .pointer (some ⟨T2, 0, none⟩))] []
  refine T_seq (T_region ?_)
  refine TL_q (.int .u64 0) (fun _ _ hρ _ => r_assign (hρ _ _ rfl)) rfl rfl rfl (w_n rfl) ?_
  refine TL_seq ?_
  refine T_seq (T_region ?_)
  refine TL_q (.int .i64 4) (fun _ _ hρ hm => r_load ag3 (hρ _ _ rfl) (hm.old h0) rfl) rfl rfl rfl (w_n rfl) ?_
  refine TL_call (.bool true) (fun _ _ hρ _ => r_call (args := [.int .i64 4]) (enters_of Try.func131 (by kernel_rfl) rfl) (hρ _ _ rfl) ((cons2 (hρ _ _ rfl) rfl)) rfl) (fun w _ => octis_c w) rfl rfl rfl (w_n rfl) ?_
  refine TL_call (.tuple #[]) (fun _ _ hρ _ => r_call (args := [.bool true, .int .i64 111]) (enters_of Try.func130 (by kernel_rfl) rfl) (hρ _ _ rfl) ((cons2 (hρ _ _ rfl) (cons2 (hρ _ _ rfl) rfl))) rfl) (fun w _ => need_ok_oct 111 w) rfl rfl rfl (w_n rfl) ?_
  refine TL_seq ?_
  refine T_seq (T_region ?_)
  refine TL_q (.int .i64 0) (fun _ _ hρ hm => r_load ag3 (hρ _ _ rfl) (hm.old h1) rfl) rfl rfl rfl (w_n rfl) ?_
  refine TL_q (.bool true) (fun _ _ hρ _ => r_as (r_geq (hρ _ _ rfl) (hρ _ _ rfl)) (by rfl)) rfl rfl rfl (w_n rfl) ?_
  refine TL_q (.bool true) (fun _ _ hρ _ => r_move (hρ _ _ rfl)) rfl rfl rfl (w_n rfl) ?_
  refine TL_q (.int .i64 0) (fun _ _ hρ hm => r_load ag3 (hρ _ _ rfl) (hm.old h1) rfl) rfl rfl rfl (want_y 9 rfl rfl rfl) ?_
  refine TL_q (.slice a l.length cap) (fun _ _ hρ hm => r_load ag34 (hρ _ _ rfl) (hm.old h2) rfl) rfl rfl rfl (want_y 9 rfl rfl rfl) ?_
  refine TL_q (.int .i64 ((l.length : Nat) : Int)) (fun _ _ hρ _ => r_len sl34 (hρ _ _ rfl)) rfl rfl rfl (want_y 9 rfl rfl rfl) ?_
  refine TL_q (.bool true) (fun _ _ hρ _ => r_as (r_leq (hρ _ _ rfl) (hρ _ _ rfl)) (bool_as (decide_eq_true (by omega)))) rfl rfl rfl (want_y 9 rfl rfl rfl) ?_
  refine TL_q (.bool true) (fun _ _ hρ _ => r_pick_t (hρ _ _ rfl) (hρ _ _ rfl)) rfl rfl rfl (w_n rfl) ?_
  refine TL_call (.tuple #[]) (fun _ _ hρ _ => r_call (args := [.bool true, .int .i64 2]) (enters_of Try.func130 (by kernel_rfl) rfl) (hρ _ _ rfl) ((cons2 (hρ _ _ rfl) (cons2 (hρ _ _ rfl) rfl))) rfl) (fun w _ => need_ok_oct 2 w) rfl rfl rfl (w_n rfl) ?_
  refine TL_seq ?_
  refine T_seq (T_region ?_)
  refine TL_q (.slice a l.length cap) (fun _ _ hρ hm => r_load ag34 (hρ _ _ rfl) (hm.old h2) rfl) rfl rfl rfl (w_n rfl) ?_
  refine TL_q (.int .i64 ((l.length : Nat) : Int)) (fun _ _ hρ _ => r_len sl34 (hρ _ _ rfl)) rfl rfl rfl (w_n rfl) ?_
  refine TL_q (.int .i64 0) (fun _ _ hρ hm => r_load ag3 (hρ _ _ rfl) (hm.old h1) rfl) rfl rfl rfl (w_n rfl) ?_
  refine TL_q (.int .i64 ((l.length - 0 : Nat) : Int)) (fun _ _ hρ _ => r_as (r_sub (hρ _ _ rfl) (hρ _ _ rfl)) (int_as ((wrap64 (by omega) (by omega)).trans (by omega)))) rfl rfl rfl (w_n rfl) ?_
  refine TL_q (.int .i64 4) (fun _ _ hρ hm => r_load ag3 (hρ _ _ rfl) (hm.old h0) rfl) rfl rfl rfl (w_n rfl) ?_
  refine TL_q (.bool true) (fun _ _ hρ _ => r_as (r_geq (hρ _ _ rfl) (hρ _ _ rfl)) (bool_as (decide_eq_true (by omega)))) rfl rfl rfl (w_n rfl) ?_
  refine TL_call (.tuple #[]) (fun _ _ hρ _ => r_call (args := [.bool true, .int .i64 110]) (enters_of Try.func130 (by kernel_rfl) rfl) (hρ _ _ rfl) ((cons2 (hρ _ _ rfl) (cons2 (hρ _ _ rfl) rfl))) rfl) (fun w _ => need_ok_oct 110 w) rfl rfl rfl (w_n rfl) ?_
  refine TL_seq ?_
  refine T_seq (T_region ?_)
  refine TL_q (.slice a l.length cap) (fun _ _ hρ hm => r_load ag34 (hρ _ _ rfl) (hm.old h2) rfl) rfl rfl rfl (w_n rfl) ?_
  refine TL_q (.int .i64 0) (fun _ _ hρ hm => r_load ag3 (hρ _ _ rfl) (hm.old h1) rfl) rfl rfl rfl (w_n rfl) ?_
  refine TL_q (.int .i64 0) (fun _ _ hρ hm => r_load ag3 (hρ _ _ rfl) (hm.old h1) rfl) rfl rfl rfl (w_n rfl) ?_
  refine TL_q (.int .i64 4) (fun _ _ hρ hm => r_load ag3 (hρ _ _ rfl) (hm.old h0) rfl) rfl rfl rfl (w_n rfl) ?_
  refine TL_q (.int .i64 4) (fun _ _ hρ _ => r_as (r_add (hρ _ _ rfl) (hρ _ _ rfl)) (by rfl)) rfl rfl rfl (w_n rfl) ?_
  obtain ⟨l1, hl1, hn1⟩ : ∃ lz, lz = l.take 4 ∧ lz.length = 4 := ⟨_, rfl, by rw [List.length_take]; omega⟩
  have hs1 := SliceAt.front hv (n := 4) (m := cap) (by omega) (by omega) (by omega)
  rw [← hl1] at hs1
  refine TL_q (.slice a l1.length cap) (fun ρ _ hρ _ => r_as (r_sliceO sl34 sz5 (hρ _ _ rfl) (bd_none ρ _) (bd_some (n := 4) (hρ _ _ rfl)) (bd_some (n := 0) (hρ _ _ rfl)) (by simp) (by omega) (by omega) (by omega)) (by rw [hn1]; exact slo_zero _ _ _ _)) rfl rfl rfl (w_n rfl) ?_
  refine TL_call (.int .u64 ((numP l : Nat) : Int)) (fun _ _ hρ _ => r_call (args := [.slice a l1.length cap]) (enters_of Try.func132 (by kernel_rfl) rfl) (hρ _ _ rfl) ((cons2 (hρ _ _ rfl) rfl)) rfl) (fun w hm => (number_c l1 a cap w (hs1.keep hm.ext) (by omega)).mono fun _ _ h => ⟨h.1.trans (congrArg Ending.returned (congrArg (fun n : Nat => Value.int .u64 (n : Int)) (show (numW l1).toNat = numP l by rw [(numW4 l1 (by omega)).1, hl1]; rfl))), h.2⟩) rfl rfl rfl (w_n rfl) ?_
  refine TL_q (.int .u64 ((numP l : Nat) : Int)) (fun _ _ hρ _ => r_assign (hρ _ _ rfl)) rfl rfl rfl (w_n rfl) ?_
  refine TL_seq ?_
  refine T_ret' ?_
  refine ret_of rfl (.int .u64 ((numP l : Nat) : Int)) (fun tmps w hk hm => res1 rfl (res_tmp (hk 3 _ rfl))) (fun w hm => ?_)
  exact ⟨rfl, hm.ext⟩

theorem get1_no (T0 T1 T2 : Nat) (l : List By) (a : Option Addr) (cap : Nat) (w : World) (hv : SliceAt w a cap 1 byc l) (hcap : cap ≤ Go.maxLen) (h0 : hp w T0 = some (.cells #[.int .i64 4] 3)) (h1 : hp w T1 = some (.cells #[.int .i64 0] 3)) (h2 : hp w T2 = some (.cells #[.slice a l.length cap] 34)) (h4 : ¬ 4 ≤ l.length) : Calls Try.prog 129 #[.pointer (some ⟨T0, 0, none⟩), .pointer (some ⟨T1, 0, none⟩), .pointer (some ⟨T2, 0, none⟩)] w fun e w' => e = .panicked [{ v := .iface 28 (.int .i64 110), recovered := false }] ∧ Below w.heap.size w w' := by
  have hvl := hv.1
  have hcp := hcap
  unfold Go.maxLen at hcp
  refine calls_of_T (l := [.pointer (some ⟨T0, 0, none⟩), .pointer (some ⟨T1, 0, none⟩), .pointer (some ⟨T2, 0, none⟩)]) 30 Try.func129 rfl rfl rfl ?_
  show T _ _ _ [(0, .pointer (some ⟨T0, 0, none⟩)), (1, .pointer (some ⟨T1, 0, none⟩)), (2, .pointer (some ⟨T2, 0, none⟩))] []
  refine T_seq (T_region ?_)
  refine TL_q (.int .u64 0) (fun _ _ hρ _ => r_assign (hρ _ _ rfl)) rfl rfl rfl (w_n rfl) ?_
  refine TL_seq ?_
  refine T_seq (T_region ?_)
  refine TL_q (.int .i64 4) (fun _ _ hρ hm => r_load ag3 (hρ _ _ rfl) (hm.old h0) rfl) rfl rfl rfl (w_n rfl) ?_
  refine TL_call (.bool true) (fun _ _ hρ _ => r_call (args := [.int .i64 4]) (enters_of Try.func131 (by kernel_rfl) rfl) (hρ _ _ rfl) ((cons2 (hρ _ _ rfl) rfl)) rfl) (fun w _ => octis_c w) rfl rfl rfl (w_n rfl) ?_
  refine TL_call (.tuple #[]) (fun _ _ hρ _ => r_call (args := [.bool true, .int .i64 111]) (enters_of Try.func130 (by kernel_rfl) rfl) (hρ _ _ rfl) ((cons2 (hρ _ _ rfl) (cons2 (hρ _ _ rfl) rfl))) rfl) (fun w _ => need_ok_oct 111 w) rfl rfl rfl (w_n rfl) ?_
  refine TL_seq ?_
  refine T_seq (T_region ?_)
  refine TL_q (.int .i64 0) (fun _ _ hρ hm => r_load ag3 (hρ _ _ rfl) (hm.old h1) rfl) rfl rfl rfl (w_n rfl) ?_
  refine TL_q (.bool true) (fun _ _ hρ _ => r_as (r_geq (hρ _ _ rfl) (hρ _ _ rfl)) (by rfl)) rfl rfl rfl (w_n rfl) ?_
  refine TL_q (.bool true) (fun _ _ hρ _ => r_move (hρ _ _ rfl)) rfl rfl rfl (w_n rfl) ?_
  refine TL_q (.int .i64 0) (fun _ _ hρ hm => r_load ag3 (hρ _ _ rfl) (hm.old h1) rfl) rfl rfl rfl (want_y 9 rfl rfl rfl) ?_
  refine TL_q (.slice a l.length cap) (fun _ _ hρ hm => r_load ag34 (hρ _ _ rfl) (hm.old h2) rfl) rfl rfl rfl (want_y 9 rfl rfl rfl) ?_
  refine TL_q (.int .i64 ((l.length : Nat) : Int)) (fun _ _ hρ _ => r_len sl34 (hρ _ _ rfl)) rfl rfl rfl (want_y 9 rfl rfl rfl) ?_
  refine TL_q (.bool true) (fun _ _ hρ _ => r_as (r_leq (hρ _ _ rfl) (hρ _ _ rfl)) (bool_as (decide_eq_true (by omega)))) rfl rfl rfl (want_y 9 rfl rfl rfl) ?_
  refine TL_q (.bool true) (fun _ _ hρ _ => r_pick_t (hρ _ _ rfl) (hρ _ _ rfl)) rfl rfl rfl (w_n rfl) ?_
  refine TL_call (.tuple #[]) (fun _ _ hρ _ => r_call (args := [.bool true, .int .i64 2]) (enters_of Try.func130 (by kernel_rfl) rfl) (hρ _ _ rfl) ((cons2 (hρ _ _ rfl) (cons2 (hρ _ _ rfl) rfl))) rfl) (fun w _ => need_ok_oct 2 w) rfl rfl rfl (w_n rfl) ?_
  refine TL_seq ?_
  refine T_seq (T_region ?_)
  refine TL_q (.slice a l.length cap) (fun _ _ hρ hm => r_load ag34 (hρ _ _ rfl) (hm.old h2) rfl) rfl rfl rfl (w_n rfl) ?_
  refine TL_q (.int .i64 ((l.length : Nat) : Int)) (fun _ _ hρ _ => r_len sl34 (hρ _ _ rfl)) rfl rfl rfl (w_n rfl) ?_
  refine TL_q (.int .i64 0) (fun _ _ hρ hm => r_load ag3 (hρ _ _ rfl) (hm.old h1) rfl) rfl rfl rfl (w_n rfl) ?_
  refine TL_q (.int .i64 ((l.length - 0 : Nat) : Int)) (fun _ _ hρ _ => r_as (r_sub (hρ _ _ rfl) (hρ _ _ rfl)) (int_as ((wrap64 (by omega) (by omega)).trans (by omega)))) rfl rfl rfl (w_n rfl) ?_
  refine TL_q (.int .i64 4) (fun _ _ hρ hm => r_load ag3 (hρ _ _ rfl) (hm.old h0) rfl) rfl rfl rfl (w_n rfl) ?_
  refine TL_q (.bool false) (fun _ _ hρ _ => r_as (r_geq (hρ _ _ rfl) (hρ _ _ rfl)) (bool_as (decide_eq_false (by omega)))) rfl rfl rfl (w_n rfl) ?_
  refine TL_callQ (v := .iface 28 (.int .i64 110)) (fun _ _ hρ _ => r_call (args := [.bool false, .int .i64 110]) (enters_of Try.func130 (by kernel_rfl) rfl) (hρ _ _ rfl) ((cons2 (hρ _ _ rfl) (cons2 (hρ _ _ rfl) rfl))) rfl) (fun w _ => need_no_oct 110 w) rfl (w_n rfl) ?_
  refine p_then_p ?_
  refine p_pan rfl (fun w hm => ?_)
  exact ⟨rfl, hm.ext⟩

theorem trG_idle (w₀ : World) (L : Heap) (A B : Nat) : ∀ w, MemOk w₀ L w → CallsD Try.prog 140 #[.pointer (some ⟨A, 0, none⟩), .pointer (some ⟨B, 0, none⟩)] .returning w fun e u' w' => u' = .returning ∧ (e = .returned (.tuple #[]) ∧ MemOk w₀ L w') := by
  refine dS_of_T (l := [.pointer (some ⟨A, 0, none⟩), .pointer (some ⟨B, 0, none⟩)]) (L := L) (v := .nilIface) 19 (.inl ⟨rfl, rfl, rfl⟩) Try.func140 rfl rfl rfl rfl rfl (fun _ _ => rfl) rfl rfl (fun _ _ => rfl) rfl rfl ?_
  show T _ _ _ [(2, .nilIface), (6, .nilIface), (0, .pointer (some ⟨A, 0, none⟩)), (1, .pointer (some ⟨B, 0, none⟩))] L
  refine T_seq (T_region ?_)
  refine TL_q (.nilIface) (fun _ _ hρ _ => r_move (hρ _ _ rfl)) rfl rfl rfl (w_n rfl) ?_
  refine TL_q (.bool false) (fun _ w hρ _ => r_eqI (by rfl) (hρ _ _ rfl) (hρ _ _ rfl) (run_neq_nil_nil w 20 (by kernel_rfl))) rfl rfl rfl (w_n rfl) ?_
  refine TL_seq ?_
  refine T_cond_f rfl ?_
  refine T_skip' ?_
  refine p_endP ?_
  refine ret_ofP rfl (.tuple #[]) (fun tmps w hk hm => results_none rfl _ _ _) (fun w hm => ?_)
  exact ⟨rfl, hm⟩

theorem trG_rec (w₀ : World) (L : Heap) (A B : Nat) (x : Int) (hA : lk L 1900 = some (.blk A (.cells #[.int .u64 0] 25))) (hB : lk L 1901 = some (.blk B (.cells #[.int .i64 0] 28))) : ∀ w, MemOk w₀ L w → CallsD Try.prog 140 #[.pointer (some ⟨A, 0, none⟩), .pointer (some ⟨B, 0, none⟩)] (.panicking [{ v := .iface 28 (.int .i64 x), recovered := false }]) w fun e u' w' => u' = .panicking [{ v := .iface 28 (.int .i64 x), recovered := true }] ∧ (e = .returned (.tuple #[]) ∧ MemOk w₀ ([(1901, .blk B (.cells #[.int .i64 x] 28)), (1900, .blk A (.cells #[.int .u64 0] 25))] ++ L) w') := by
  refine dS_of_T (l := [.pointer (some ⟨A, 0, none⟩), .pointer (some ⟨B, 0, none⟩)]) (L := L) (v := .iface 28 (.int .i64 x)) 19 (.inr ⟨rfl, rfl⟩) Try.func140 rfl rfl rfl rfl rfl (fun _ _ => rfl) rfl rfl (fun _ _ => rfl) rfl rfl ?_
  refine T_mem ((1901, .blk B (.cells #[.int .i64 0] 28)) :: (1900, .blk A (.cells #[.int .u64 0] 25)) :: L) (fun _ hm => hm.of (lk_dup2 hB hA)) ?_
  show T _ _ _ [(2, .iface 28 (.int .i64 x)), (6, .iface 28 (.int .i64 x)), (0, .pointer (some ⟨A, 0, none⟩)), (1, .pointer (some ⟨B, 0, none⟩))] ((1901, .blk B (.cells #[.int .i64 0] 28)) :: (1900, .blk A (.cells #[.int .u64 0] 25)) :: L)
  refine T_seq (T_region ?_)
  refine TL_q (.iface 28 (.int .i64 x)) (fun _ _ hρ _ => r_move (hρ _ _ rfl)) rfl rfl rfl (w_n rfl) ?_
  refine TL_q (.bool true) (fun _ w hρ _ => r_eqI (by rfl) (hρ _ _ rfl) (hρ _ _ rfl) (run_neq_held_nil w 20 _ _ (by kernel_rfl))) rfl rfl rfl (w_n rfl) ?_
  refine TL_seq ?_
  refine T_cond_t rfl ?_
  refine T_seq (T_region ?_)
  refine TL_q (.iface 28 (.int .i64 x)) (fun _ _ hρ _ => r_move (hρ _ _ rfl)) rfl rfl rfl (w_n rfl) ?_
  refine TL_q (.tuple #[.int .i64 x, .bool true]) (fun _ _ hρ _ => r_typeAssert (hρ _ _ rfl) (by kernel_rfl)) rfl rfl rfl (w_n rfl) ?_
  refine TL_q (.tuple #[.int .i64 x, .bool true]) (fun _ _ hρ _ => r_move (hρ _ _ rfl)) rfl rfl rfl (w_n rfl) ?_
  refine TL_q (.int .i64 x) (fun _ _ hρ _ => r_extract (hρ _ _ rfl) rfl) rfl rfl rfl (w_n rfl) ?_
  refine TL_q (.bool true) (fun _ _ hρ _ => r_extract (hρ _ _ rfl) rfl) rfl rfl rfl (w_n rfl) ?_
  refine TL_q (.int .i64 x) (fun _ _ hρ _ => r_assign (hρ _ _ rfl)) rfl rfl rfl (w_n rfl) ?_
  refine TL_q (.bool true) (fun _ _ hρ _ => r_assign (hρ _ _ rfl)) rfl rfl rfl (w_n rfl) ?_
  refine TL_seq ?_
  refine T_seq ?_
  refine T_seq (T_region ?_)
  refine TL_q (.bool true) (fun _ _ hρ _ => r_move (hρ _ _ rfl)) rfl rfl rfl (w_n rfl) ?_
  refine TL_q (.bool false) (fun _ _ hρ _ => r_not (b := true) (hρ _ _ rfl)) rfl rfl rfl (w_n rfl) ?_
  refine TL_seq ?_
  refine T_cond_f rfl ?_
  refine T_skip' ?_
  refine p_seq ?_
  refine T_seq (T_region ?_)
  refine TL_q (.int .u64 0) (fun _ _ hρ _ => r_assign (hρ _ _ rfl)) rfl rfl rfl (w_n rfl) ?_
  refine TL_seq ?_
  refine T_region ?_
  refine TL_q (.int .u64 0) (fun _ _ hρ _ => r_move (hρ _ _ rfl)) rfl rfl rfl (w_n rfl) ?_
  refine TL_q (.int .i64 x) (fun _ _ hρ _ => r_move (hρ _ _ rfl)) rfl rfl rfl (w_n rfl) ?_
  refine TL_store 1900 (.cells #[.int .u64 0] 25) rfl (fun _ _ hρ hm => r_store sz25 (hρ _ _ rfl) (hρ _ _ rfl) (hm.at 1900 rfl) rfl rfl rfl rfl) rfl rfl (w_n rfl) ?_
  refine TL_store 1901 (.cells #[.int .i64 x] 28) rfl (fun _ _ hρ hm => r_store sz28 (hρ _ _ rfl) (hρ _ _ rfl) (hm.at 1901 rfl) rfl rfl rfl rfl) rfl rfl (w_n rfl) ?_
  refine TL_nil ?_
  refine p_endP ?_
  refine ret_ofP rfl (.tuple #[]) (fun tmps w hk hm => results_none rfl _ _ _) (fun w hm => ?_)
  exact ⟨rfl, hm.of (lk_mid (L := L) [(1901, .blk B (.cells #[.int .i64 x] 28)), (1900, .blk A (.cells #[.int .u64 0] 25))] [(1901, .blk B (.cells #[.int .i64 0] 28)), (1900, .blk A (.cells #[.int .u64 0] 25))] rfl)⟩

theorem trG_ok {w₀ : World} {L : Heap} (g : Nat) (cap : Array Value) {ι : Type} (p : ι → Prop) (vi0 : ι → Int) (N : ι → Heap) (hE : Enters Try.prog g) (h1901 : lk L 1901 = none) (h1900 : lk L 1900 = none) (hN1901 : ∀ x, lk (N x) 1901 = none) (hN1900 : ∀ x, lk (N x) 1900 = none) (H : ∀ A B w, MemOk w₀ ((1901, .blk B (.cells #[.int .i64 0] 28)) :: (1900, .blk A (.cells #[.int .u64 0] 25)) :: L) w → Calls Try.prog g cap w (HAns w₀ p (fun x => .int .u64 (vi0 x)) (fun x => N x ++ ((1901, .blk B (.cells #[.int .i64 0] 28)) :: (1900, .blk A (.cells #[.int .u64 0] 25)) :: L)))) : ∀ w, MemOk w₀ L w → Calls Try.prog 128 #[.func (.func g) #[] cap] w (HAns w₀ p (fun x => .tuple #[.int .u64 (vi0 x), .int .i64 0]) (fun x => N x ++ L)) := by
  refine ht_of_TD (l := [.func (.func g) #[] cap]) (L := L) 7 Try.func128 rfl rfl rfl ?_
  show T _ _ _ [(0, .func (.func g) #[] cap)] L
  refine T_seq (T_region ?_)
  refine TL_new 1900 (.cells #[.int .u64 0] 25) (fun B => .pointer (some ⟨B, 0, none⟩)) (fun _ _ _ _ => r_alloc (v := .int .u64 0) (by kernel_rfl) rfl) rfl rfl rfl (w_n rfl) ?_
  intro B1
  refine TL_new 1901 (.cells #[.int .i64 0] 28) (fun B => .pointer (some ⟨B, 0, none⟩)) (fun _ _ _ _ => r_alloc (v := .int .i64 0) (by kernel_rfl) rfl) rfl rfl rfl (w_n rfl) ?_
  intro B2
  refine TL_seq ?_
  refine T_seq (T_region ?_)
  refine TL_q (.func (.func 140) #[] #[.pointer (some ⟨B1, 0, none⟩), .pointer (some ⟨B2, 0, none⟩)]) (fun _ _ hρ _ => r_makeFunc (by simp) (map_arr (cons2 (hρ _ _ rfl) (cons2 (hρ _ _ rfl) rfl)))) rfl rfl rfl (w_n rfl) ?_
  refine TL_defer ({ target := .fn (.func 140) #[.pointer (some ⟨B1, 0, none⟩), .pointer (some ⟨B2, 0, none⟩)], args := #[] }) rfl (fun _ _ hρ _ => r_defer (args := []) (hρ _ _ rfl) (by rfl) rfl) rfl (w_n rfl) ?_
  refine TL_seq ?_
  refine T_seq (T_region ?_)
  refine TL_q (.func (.func g) #[] cap) (fun _ _ hρ _ => r_move (hρ _ _ rfl)) rfl rfl rfl (w_n rfl) ?_
  refine TL_callH _ _ _ (fun _ _ hρ _ => r_call (args := []) hE (hρ _ _ rfl) (by rfl) (by simp)) (fun w hm => H B1 B2 w hm) rfl rfl rfl (w_n rfl) ?_
  intro x hx
  refine TL_mem ([(1901, .blk B2 (.cells #[.int .i64 0] 28)), (1900, .blk B1 (.cells #[.int .u64 0] 25))] ++ (N x ++ L)) (fun _ hm => hm.of (lk_front (L := L) [(1901, .blk B2 (.cells #[.int .i64 0] 28)), (1900, .blk B1 (.cells #[.int .u64 0] 25))] (by simp [hN1901, hN1900]))) ?_
  refine TL_store 1900 (.cells #[.int .u64 (vi0 x)] 25) rfl (fun _ _ hρ hm => r_store sz25 (hρ _ _ rfl) (hρ _ _ rfl) (hm.at 1900 rfl) rfl rfl rfl rfl) rfl rfl (w_n rfl) ?_
  refine TL_store 1901 (.cells #[.int .i64 0] 28) rfl (fun _ _ hρ hm => r_store sz28 (hρ _ _ rfl) (hρ _ _ rfl) (hm.at 1901 rfl) rfl rfl rfl rfl) rfl rfl (w_n rfl) ?_
  refine TL_seq ?_
  refine T_ret' ?_
  refine ret_ofD [{ target := .fn (.func 140) #[.pointer (some ⟨B1, 0, none⟩), .pointer (some ⟨B2, 0, none⟩)], args := #[] }] rfl (fun tmps hk => ?_)
  refine leavesH_cons (enters_of Try.func140 (by kernel_rfl) rfl) (fun w hm => trG_idle _ _ B1 B2 w hm) ?_
  refine leavesH_nil (.tuple #[.int .u64 (vi0 x), .int .i64 0]) (fun _ hm => res2 rfl (res_cell (hk 2 _ rfl) (run_loadVar_one ag25 (hm.at 1900 rfl) rfl)) (res_cell (hk 3 _ rfl) (run_loadVar_one ag28 (hm.at 1901 rfl) rfl))) (fun w hm => ?_)
  have e1901 := lk_app_none (hN1901 x) h1901
  have e1900 := lk_app_none (hN1900 x) h1900
  exact ⟨x, hx, rfl, hm.of (lk_drop (L := N x ++ L) [(1901, .blk B2 (.cells #[.int .i64 0] 28)), (1900, .blk B1 (.cells #[.int .u64 (vi0 x)] 25)), (1901, .blk B2 (.cells #[.int .i64 0] 28)), (1900, .blk B1 (.cells #[.int .u64 0] 25))] (by simp [e1901, e1900]))⟩

theorem trG_no {w₀ : World} {L : Heap} (g : Nat) (cap : Array Value) {ι : Type} (p : ι → Prop) (er : ι → Int) (N : ι → Heap) (hE : Enters Try.prog g) (h1901 : lk L 1901 = none) (h1900 : lk L 1900 = none) (hN1901 : ∀ x, lk (N x) 1901 = none) (hN1900 : ∀ x, lk (N x) 1900 = none) (H : ∀ A B w, MemOk w₀ ((1901, .blk B (.cells #[.int .i64 0] 28)) :: (1900, .blk A (.cells #[.int .u64 0] 25)) :: L) w → Calls Try.prog g cap w (PAns w₀ p (fun x => .iface 28 (.int .i64 (er x))) (fun x => N x ++ ((1901, .blk B (.cells #[.int .i64 0] 28)) :: (1900, .blk A (.cells #[.int .u64 0] 25)) :: L)))) : ∀ w, MemOk w₀ L w → Calls Try.prog 128 #[.func (.func g) #[] cap] w (HAns w₀ p (fun x => .tuple #[.int .u64 0, .int .i64 (er x)]) (fun x => N x ++ L)) := by
  refine ht_of_TD (l := [.func (.func g) #[] cap]) (L := L) 7 Try.func128 rfl rfl rfl ?_
  show T _ _ _ [(0, .func (.func g) #[] cap)] L
  refine T_seq (T_region ?_)
  refine TL_new 1900 (.cells #[.int .u64 0] 25) (fun B => .pointer (some ⟨B, 0, none⟩)) (fun _ _ _ _ => r_alloc (v := .int .u64 0) (by kernel_rfl) rfl) rfl rfl rfl (w_n rfl) ?_
  intro B1
  refine TL_new 1901 (.cells #[.int .i64 0] 28) (fun B => .pointer (some ⟨B, 0, none⟩)) (fun _ _ _ _ => r_alloc (v := .int .i64 0) (by kernel_rfl) rfl) rfl rfl rfl (w_n rfl) ?_
  intro B2
  refine TL_seq ?_
  refine T_seq (T_region ?_)
  refine TL_q (.func (.func 140) #[] #[.pointer (some ⟨B1, 0, none⟩), .pointer (some ⟨B2, 0, none⟩)]) (fun _ _ hρ _ => r_makeFunc (by simp) (map_arr (cons2 (hρ _ _ rfl) (cons2 (hρ _ _ rfl) rfl)))) rfl rfl rfl (w_n rfl) ?_
  refine TL_defer ({ target := .fn (.func 140) #[.pointer (some ⟨B1, 0, none⟩), .pointer (some ⟨B2, 0, none⟩)], args := #[] }) rfl (fun _ _ hρ _ => r_defer (args := []) (hρ _ _ rfl) (by rfl) rfl) rfl (w_n rfl) ?_
  refine TL_seq ?_
  refine T_seq (T_region ?_)
  refine TL_q (.func (.func g) #[] cap) (fun _ _ hρ _ => r_move (hρ _ _ rfl)) rfl rfl rfl (w_n rfl) ?_
  refine TL_callP _ _ _ (fun _ _ hρ _ => r_call (args := []) hE (hρ _ _ rfl) (by rfl) (by simp)) (fun w hm => H B1 B2 w hm) rfl (w_n rfl) ?_
  intro x hx
  refine p_mem ([(1901, .blk B2 (.cells #[.int .i64 0] 28)), (1900, .blk B1 (.cells #[.int .u64 0] 25))] ++ (N x ++ L)) (fun _ hm => hm.of (lk_front (L := L) [(1901, .blk B2 (.cells #[.int .i64 0] 28)), (1900, .blk B1 (.cells #[.int .u64 0] 25))] (by simp [hN1901, hN1900]))) ?_
  refine p_then_p ?_
  refine p_panD [{ target := .fn (.func 140) #[.pointer (some ⟨B1, 0, none⟩), .pointer (some ⟨B2, 0, none⟩)], args := #[] }] rfl (fun tmps hk => ?_)
  refine leavesP_cons (L' := [(1901, .blk B2 (.cells #[.int .i64 (er x)] 28)), (1900, .blk B1 (.cells #[.int .u64 0] 25))] ++ (N x ++ L)) (enters_of Try.func140 (by kernel_rfl) rfl) (fun w hm => ((trG_rec _ ([(1901, .blk B2 (.cells #[.int .i64 0] 28)), (1900, .blk B1 (.cells #[.int .u64 0] 25))] ++ (N x ++ L)) B1 B2 _ rfl rfl w hm).mono fun e u' w' h => ⟨h.1, h.2.1, h.2.2.of (lk_mid (L := N x ++ L) [(1901, .blk B2 (.cells #[.int .i64 (er x)] 28)), (1900, .blk B1 (.cells #[.int .u64 0] 25))] [(1901, .blk B2 (.cells #[.int .i64 0] 28)), (1900, .blk B1 (.cells #[.int .u64 0] 25))] rfl)⟩)) ?_
  refine leavesH_nil (.tuple #[.int .u64 0, .int .i64 (er x)]) (fun _ hm => res2 rfl (res_cell (hk 2 _ rfl) (run_loadVar_one ag25 (hm.at 1900 rfl) rfl)) (res_cell (hk 3 _ rfl) (run_loadVar_one ag28 (hm.at 1901 rfl) rfl))) (fun w hm => ?_)
  have e1901 := lk_app_none (hN1901 x) h1901
  have e1900 := lk_app_none (hN1900 x) h1900
  exact ⟨x, hx, rfl, hm.of (lk_drop (L := N x ++ L) [(1901, .blk B2 (.cells #[.int .i64 (er x)] 28)), (1900, .blk B1 (.cells #[.int .u64 0] 25))] (by simp [e1901, e1900]))⟩

theorem trGW_ok (g : Nat) (cap : Array Value) {ι : Type} (p : ι → Prop) (vi0 : ι → Int) (N : ι → Heap) (w : World) (hE : Enters Try.prog g) (hN1901 : ∀ x, lk (N x) 1901 = none) (hN1900 : ∀ x, lk (N x) 1900 = none) (H : ∀ w2, Below w.heap.size w w2 → Calls Try.prog g cap w2 (Ans p (fun x => .int .u64 (vi0 x)) N w2)) : Calls Try.prog 128 #[.func (.func g) #[] cap] w (Ans p (fun x => .tuple #[.int .u64 (vi0 x), .int .i64 0]) N w) := by
  refine (trG_ok (L := []) (w₀ := w) g cap p vi0 N hE rfl rfl hN1901 hN1900 (fun A B w2 hm => (H w2 hm.ext).mono ?_) w (MemOk.nil w)).mono ?_
  · rintro e w' ⟨x, hx, he, hb, hn⟩
    exact ⟨x, hx, he, hm.news hb hn⟩
  · rintro e w' ⟨x, hx, he, hm⟩
    simp only [List.append_nil] at hm
    exact ⟨x, hx, he, hm.ext, ⟨fun i r h => hm.own i r h, fun i j r s h1 h2 => hm.sep i j r s h1 h2⟩⟩
theorem trGW_no (g : Nat) (cap : Array Value) (x : Int) (w : World) (hE : Enters Try.prog g) (H : ∀ w2, Below w.heap.size w w2 → Calls Try.prog g cap w2 fun e w' => e = .panicked [{ v := .iface 28 (.int .i64 x), recovered := false }] ∧ Below w2.heap.size w2 w') : Calls Try.prog 128 #[.func (.func g) #[] cap] w fun e w' => e = .returned (.tuple #[.int .u64 0, .int .i64 x]) ∧ Below w.heap.size w w' :=
  (trG_no (ι := Unit) (L := []) (w₀ := w) g cap (fun _ => True) (fun _ => x) (fun _ => []) hE rfl rfl (fun _ => rfl) (fun _ => rfl) (fun A B w2 hm => (H w2 hm.ext).mono fun e w' h => ⟨(), trivial, h.1, hm.below h.2⟩) w (MemOk.nil w)).mono fun e w' ⟨_, _, he, hm⟩ => ⟨he, hm.ext⟩

theorem get_ok (l : List By) (a : Option Addr) (cap : Nat) (w : World) (hv : SliceAt w a cap 1 byc l) (hcap : cap ≤ Go.maxLen) (h4 : 4 ≤ l.length) : Calls Try.prog 117 #[.slice a l.length cap, .int .i64 0, .int .i64 4] w fun e w' => e = .returned (.tuple #[.int .u64 ((numP l : Nat) : Int), .int .i64 0]) ∧ Below w.heap.size w w' := by
  have hvl := hv.1
  have hcp := hcap
  unfold Go.maxLen at hcp
  refine calls_of_T (l := [.slice a l.length cap, .int .i64 0, .int .i64 4]) 12 Try.func117 rfl rfl rfl ?_
  show T _ _ _ [(0, .slice a l.length cap), (1, .int .i64 0), (2, .int .i64 4)] []
  refine T_seq (T_region ?_)
  refine TL_new 1 (.cells #[.slice a l.length cap] 34) (fun B => .pointer (some ⟨B, 0, none⟩)) (fun _ _ hρ _ => r_box (hρ _ _ rfl) rfl) rfl rfl rfl (w_n rfl) ?_
  intro B1
  refine TL_new 2 (.cells #[.int .i64 0] 3) (fun B => .pointer (some ⟨B, 0, none⟩)) (fun _ _ hρ _ => r_box (hρ _ _ rfl) rfl) rfl rfl rfl (w_n rfl) ?_
  intro B2
  refine TL_new 3 (.cells #[.int .i64 4] 3) (fun B => .pointer (some ⟨B, 0, none⟩)) (fun _ _ hρ _ => r_box (hρ _ _ rfl) rfl) rfl rfl rfl (w_n rfl) ?_
  intro B3
  refine TL_q (.int .u64 0) (fun _ _ hρ _ => r_assign (hρ _ _ rfl)) rfl rfl rfl (w_n rfl) ?_
  refine TL_q (.int .i64 0) (fun _ _ hρ _ => r_assign (hρ _ _ rfl)) rfl rfl rfl (w_n rfl) ?_
  refine TL_seq ?_
  refine T_seq (T_region ?_)
  refine TL_q (.func (.func 129) #[] #[.pointer (some ⟨B3, 0, none⟩), .pointer (some ⟨B2, 0, none⟩), .pointer (some ⟨B1, 0, none⟩)]) (fun _ _ hρ _ => r_makeFunc (by simp) (map_arr (cons2 (hρ _ _ rfl) (cons2 (hρ _ _ rfl) (cons2 (hρ _ _ rfl) rfl))))) rfl rfl rfl (w_n rfl) ?_
  refine TL_call (.tuple #[.int .u64 ((numP l : Nat) : Int), .int .i64 0]) (fun _ _ hρ _ => r_call (args := [.func (.func 129) #[] #[.pointer (some ⟨B3, 0, none⟩), .pointer (some ⟨B2, 0, none⟩), .pointer (some ⟨B1, 0, none⟩)]]) (enters_of Try.func128 (by kernel_rfl) rfl) (hρ _ _ rfl) ((cons2 (hρ _ _ rfl) rfl)) rfl) (fun w hm => (trGW_ok 129 #[.pointer (some ⟨B3, 0, none⟩), .pointer (some ⟨B2, 0, none⟩), .pointer (some ⟨B1, 0, none⟩)] (fun _ : Unit => True) (fun _ => ((numP l : Nat) : Int)) (fun _ => []) w (enters_of Try.func129 (by kernel_rfl) rfl) (fun _ => rfl) (fun _ => rfl) (fun w2 hb2 => ans0 (get1_ok B3 B2 B1 l a cap w2 (hv.keep (hm.ext.trans (hb2.mono hm.ext.size))) hcap (kept hb2 (hm.at 3 rfl)) (kept hb2 (hm.at 2 rfl)) (kept hb2 (hm.at 1 rfl)) h4))).mono fun e w' ⟨_, _, he, hb, _⟩ => ⟨he, hb⟩) rfl rfl rfl (w_n rfl) ?_
  refine TL_q (.int .u64 ((numP l : Nat) : Int)) (fun _ _ hρ _ => r_extract (hρ _ _ rfl) rfl) rfl rfl rfl (w_n rfl) ?_
  refine TL_q (.int .i64 0) (fun _ _ hρ _ => r_extract (hρ _ _ rfl) rfl) rfl rfl rfl (w_n rfl) ?_
  refine TL_q (.int .u64 ((numP l : Nat) : Int)) (fun _ _ hρ _ => r_assign (hρ _ _ rfl)) rfl rfl rfl (w_n rfl) ?_
  refine TL_q (.int .i64 0) (fun _ _ hρ _ => r_assign (hρ _ _ rfl)) rfl rfl rfl (w_n rfl) ?_
  refine TL_seq ?_
  refine T_ret' ?_
  refine ret_of rfl (.tuple #[.int .u64 ((numP l : Nat) : Int), .int .i64 0]) (fun tmps w hk hm => res2 rfl (res_tmp (hk 6 _ rfl)) (res_tmp (hk 7 _ rfl))) (fun w hm => ?_)
  exact ⟨rfl, hm.ext⟩

theorem get_no (l : List By) (a : Option Addr) (cap : Nat) (w : World) (hv : SliceAt w a cap 1 byc l) (hcap : cap ≤ Go.maxLen) (h4 : ¬ 4 ≤ l.length) : Calls Try.prog 117 #[.slice a l.length cap, .int .i64 0, .int .i64 4] w fun e w' => e = .returned (.tuple #[.int .u64 0, .int .i64 110]) ∧ Below w.heap.size w w' := by
  have hvl := hv.1
  have hcp := hcap
  unfold Go.maxLen at hcp
  refine calls_of_T (l := [.slice a l.length cap, .int .i64 0, .int .i64 4]) 12 Try.func117 rfl rfl rfl ?_
  show T _ _ _ [(0, .slice a l.length cap), (1, .int .i64 0), (2, .int .i64 4)] []
  refine T_seq (T_region ?_)
  refine TL_new 1 (.cells #[.slice a l.length cap] 34) (fun B => .pointer (some ⟨B, 0, none⟩)) (fun _ _ hρ _ => r_box (hρ _ _ rfl) rfl) rfl rfl rfl (w_n rfl) ?_
  intro B1
  refine TL_new 2 (.cells #[.int .i64 0] 3) (fun B => .pointer (some ⟨B, 0, none⟩)) (fun _ _ hρ _ => r_box (hρ _ _ rfl) rfl) rfl rfl rfl (w_n rfl) ?_
  intro B2
  refine TL_new 3 (.cells #[.int .i64 4] 3) (fun B => .pointer (some ⟨B, 0, none⟩)) (fun _ _ hρ _ => r_box (hρ _ _ rfl) rfl) rfl rfl rfl (w_n rfl) ?_
  intro B3
  refine TL_q (.int .u64 0) (fun _ _ hρ _ => r_assign (hρ _ _ rfl)) rfl rfl rfl (w_n rfl) ?_
  refine TL_q (.int .i64 0) (fun _ _ hρ _ => r_assign (hρ _ _ rfl)) rfl rfl rfl (w_n rfl) ?_
  refine TL_seq ?_
  refine T_seq (T_region ?_)
  refine TL_q (.func (.func 129) #[] #[.pointer (some ⟨B3, 0, none⟩), .pointer (some ⟨B2, 0, none⟩), .pointer (some ⟨B1, 0, none⟩)]) (fun _ _ hρ _ => r_makeFunc (by simp) (map_arr (cons2 (hρ _ _ rfl) (cons2 (hρ _ _ rfl) (cons2 (hρ _ _ rfl) rfl))))) rfl rfl rfl (w_n rfl) ?_
  refine TL_call (.tuple #[.int .u64 0, .int .i64 110]) (fun _ _ hρ _ => r_call (args := [.func (.func 129) #[] #[.pointer (some ⟨B3, 0, none⟩), .pointer (some ⟨B2, 0, none⟩), .pointer (some ⟨B1, 0, none⟩)]]) (enters_of Try.func128 (by kernel_rfl) rfl) (hρ _ _ rfl) ((cons2 (hρ _ _ rfl) rfl)) rfl) (fun w hm => trGW_no 129 #[.pointer (some ⟨B3, 0, none⟩), .pointer (some ⟨B2, 0, none⟩), .pointer (some ⟨B1, 0, none⟩)] 110 w (enters_of Try.func129 (by kernel_rfl) rfl) (fun w2 hb2 => get1_no B3 B2 B1 l a cap w2 (hv.keep (hm.ext.trans (hb2.mono hm.ext.size))) hcap (kept hb2 (hm.at 3 rfl)) (kept hb2 (hm.at 2 rfl)) (kept hb2 (hm.at 1 rfl)) h4)) rfl rfl rfl (w_n rfl) ?_
  refine TL_q (.int .u64 0) (fun _ _ hρ _ => r_extract (hρ _ _ rfl) rfl) rfl rfl rfl (w_n rfl) ?_
  refine TL_q (.int .i64 110) (fun _ _ hρ _ => r_extract (hρ _ _ rfl) rfl) rfl rfl rfl (w_n rfl) ?_
  refine TL_q (.int .u64 0) (fun _ _ hρ _ => r_assign (hρ _ _ rfl)) rfl rfl rfl (w_n rfl) ?_
  refine TL_q (.int .i64 110) (fun _ _ hρ _ => r_assign (hρ _ _ rfl)) rfl rfl rfl (w_n rfl) ?_
  refine TL_seq ?_
  refine T_ret' ?_
  refine ret_of rfl (.tuple #[.int .u64 0, .int .i64 110]) (fun tmps w hk hm => res2 rfl (res_tmp (hk 6 _ rfl)) (res_tmp (hk 7 _ rfl))) (fun w hm => ?_)
  exact ⟨rfl, hm.ext⟩

/-- The eight bytes of a number. -/
theorem shr_byte (n i : Nat) : ((BitVec.ofNat 64 n >>> (8 * i)).setWidth 8 : By) = BitVec.ofNat 8 (n % 18446744073709551616 / 2 ^ (8 * i)) := by
  apply BitVec.eq_of_toNat_eq
  rw [BitVec.toNat_setWidth, BitVec.toNat_ushiftRight, BitVec.toNat_ofNat, BitVec.toNat_ofNat, Nat.shiftRight_eq_div_pow]
theorem shr_small {n : Nat} (h : n ≤ 65536) : BitVec.ofNat 64 n >>> 32 = 0#64 := by
  apply BitVec.eq_of_toNat_eq
  rw [BitVec.toNat_ushiftRight, BitVec.toNat_ofNat, Nat.mod_eq_of_lt (by omega), Nat.shiftRight_eq_div_pow]
  show n / 4294967296 = 0
  omega
abbrev hi4 (n : Nat) : List By := [(BitVec.ofNat 64 n >>> 56).setWidth 8, (BitVec.ofNat 64 n >>> 48).setWidth 8, (BitVec.ofNat 64 n >>> 40).setWidth 8, (BitVec.ofNat 64 n >>> 32).setWidth 8]
theorem laid_at {w : World} {z n : Nat} {T : TypeId} {fz : Nat × Nat} (h : hp w z = some (.cells ((hi4 n ++ lenB n).flatMap byc).toArray T fz)) : SliceAt w (some ⟨z, 4, none⟩) 4 1 byc (lenB n) :=
  ⟨Nat.le_refl _, (fun e => by cases e), .inr ⟨z, 4, _, _, _, rfl, h, (row_of_take (s := 1) (f := byc) (l := hi4 n ++ lenB n) (fun _ => rfl) rfl).sub 4 4⟩⟩
theorem lenB_w {n : Nat} (h : n ≤ 65536) : lenB n = [(BitVec.ofNat 64 n >>> 24).setWidth 8, (BitVec.ofNat 64 n >>> 16).setWidth 8, (BitVec.ofNat 64 n >>> 8).setWidth 8, (BitVec.ofNat 64 n >>> 0).setWidth 8] := by
  have e : n % 18446744073709551616 = n := Nat.mod_eq_of_lt (by omega)
  have h3 := shr_byte n 3
  have h2 := shr_byte n 2
  have h1 := shr_byte n 1
  have h0 := shr_byte n 0
  rw [e] at h3 h2 h1 h0
  unfold lenB
  rw [h3, h2, h1, h0]
  simp

set_option maxHeartbeats 1000000 in
theorem laid_c (n : Nat) (hn : n ≤ 65536) (w : World) : Calls Try.prog 125 #[.int .i64 4, .int .u64 ((BitVec.ofNat 64 n).toNat : Int)] w fun e w' => ∃ z, e = .returned (.slice (some ⟨z, 4, none⟩) 4 4) ∧ Below w.heap.size w w' ∧ (Res.blk z (.cells ((hi4 n ++ lenB n : List By).flatMap byc).toArray 175)).ok w.heap.size w' := by
  refine calls_of_T (l := [.int .i64 4, .int .u64 ((BitVec.ofNat 64 n).toNat : Int)]) 35 Try.func125 rfl rfl rfl ?_
  show T _ _ _ [(0, .int .i64 4), (1, .int .u64 ((BitVec.ofNat 64 n).toNat : Int))] []
  refine T_seq (T_region ?_)
  refine TL_q (.slice none 0 0) (fun _ _ hρ _ => r_assign (hρ _ _ rfl)) rfl rfl rfl (w_n rfl) ?_
  refine TL_seq ?_
  refine T_seq (T_region ?_)
  refine TL_q (.int .i64 4) (fun _ _ hρ _ => r_move (hρ _ _ rfl)) rfl rfl rfl (w_n rfl) ?_
  refine TL_call (.bool true) (fun _ _ hρ _ => r_call (args := [.int .i64 4]) (enters_of Try.func131 (by kernel_rfl) rfl) (hρ _ _ rfl) ((cons2 (hρ _ _ rfl) rfl)) rfl) (fun w _ => octis_c w) rfl rfl rfl (w_n rfl) ?_
  refine TL_call (.tuple #[]) (fun _ _ hρ _ => r_call (args := [.bool true, .int .i64 111]) (enters_of Try.func130 (by kernel_rfl) rfl) (hρ _ _ rfl) ((cons2 (hρ _ _ rfl) (cons2 (hρ _ _ rfl) rfl))) rfl) (fun w _ => need_ok_oct 111 w) rfl rfl rfl (w_n rfl) ?_
  refine TL_seq ?_
  refine T_seq (T_region ?_)
  refine TL_q (.int .i64 4) (fun _ _ hρ _ => r_move (hρ _ _ rfl)) rfl rfl rfl (w_n rfl) ?_
  refine TL_q (.bool false) (fun _ _ hρ _ => r_as (r_eql (hρ _ _ rfl) (hρ _ _ rfl)) (by rfl)) rfl rfl rfl (w_n rfl) ?_
  refine TL_q (.bool false) (fun _ _ hρ _ => r_move (hρ _ _ rfl)) rfl rfl rfl (w_n rfl) ?_
  refine TL_q (.int .u64 ((BitVec.ofNat 64 n).toNat : Int)) (fun _ _ hρ _ => r_move (hρ _ _ rfl)) rfl rfl rfl (want_y 12 rfl rfl rfl) ?_
  refine TL_q (.int .i64 4) (fun _ _ hρ _ => r_move (hρ _ _ rfl)) rfl rfl rfl (want_y 12 rfl rfl rfl) ?_
  refine TL_q (.int .i64 32) (fun _ _ hρ _ => r_as (r_mul (hρ _ _ rfl) (hρ _ _ rfl)) (by rfl)) rfl rfl rfl (want_y 12 rfl rfl rfl) ?_
  refine TL_q (.int .u64 (((BitVec.ofNat 64 n) >>> 32).toNat : Int)) (fun _ _ hρ _ => r_shrB (k := .u64) (a := (BitVec.ofNat 64 n)) (n := 32) (by decide) (hρ _ _ rfl) (hρ _ _ rfl)) rfl rfl rfl (want_y 12 rfl rfl rfl) ?_
  refine TL_q (.bool true) (fun _ _ hρ _ => r_as (r_as (r_eql (hρ _ _ rfl) (hρ _ _ rfl)) (bool_as (bv_dec ((BitVec.ofNat 64 n) >>> 32) (0#64)))) (bool_as (decide_eq_true (shr_small hn)))) rfl rfl rfl (want_y 12 rfl rfl rfl) ?_
  refine TL_q (.bool true) (fun _ _ hρ _ => r_pick_f (hρ _ _ rfl) (hρ _ _ rfl)) rfl rfl rfl (w_n rfl) ?_
  refine TL_call (.tuple #[]) (fun _ _ hρ _ => r_call (args := [.bool true, .int .i64 112]) (enters_of Try.func130 (by kernel_rfl) rfl) (hρ _ _ rfl) ((cons2 (hρ _ _ rfl) (cons2 (hρ _ _ rfl) rfl))) rfl) (fun w _ => need_ok_oct 112 w) rfl rfl rfl (w_n rfl) ?_
  refine TL_seq ?_
  refine T_seq (T_region ?_)
  refine TL_new 1 (.cells #[.int .u8 0, .int .u8 0, .int .u8 0, .int .u8 0, .int .u8 0, .int .u8 0, .int .u8 0, .int .u8 0] 175) (fun B => .pointer (some ⟨B, 0, none⟩)) (fun _ _ _ _ => r_alloc (v := .agg #[.int .u8 0, .int .u8 0, .int .u8 0, .int .u8 0, .int .u8 0, .int .u8 0, .int .u8 0, .int .u8 0]) (by kernel_rfl) rfl) rfl rfl rfl (w_n rfl) ?_
  intro B1
  refine TL_seq ?_
  refine T_seq ?_
  refine T_seq (T_region ?_)
  refine TL_q (.int .i64 0) (fun _ _ hρ _ => r_move (hρ _ _ rfl)) rfl rfl rfl (w_n rfl) ?_
  refine TL_seq ?_
  refine T_block ?_
  refine T_rounds 9 ?_
  refine TR_succ ?_
  refine T_seq (T_region ?_)
  refine TL_q (.bool true) (fun _ _ hρ _ => r_as (r_lss (hρ _ _ rfl) (hρ _ _ rfl)) (by rfl)) rfl rfl rfl (w_n rfl) ?_
  refine TL_seq ?_
  refine T_seq ?_
  refine T_cond_t rfl ?_
  refine T_skip' ?_
  refine p_seq ?_
  refine T_seq ?_
  refine T_block ?_
  refine T_seq (T_region ?_)
  refine TL_q (.int .i64 0) (fun _ _ hρ _ => r_move (hρ _ _ rfl)) rfl rfl rfl (w_n rfl) ?_
  refine TL_q (.int .i64 0) (fun _ _ hρ _ => r_assign (hρ _ _ rfl)) rfl rfl rfl (w_n rfl) ?_
  refine TL_seq ?_
  refine T_region ?_
  refine TL_q (.int .i64 0) (fun _ _ hρ _ => r_move (hρ _ _ rfl)) rfl rfl rfl (w_n rfl) ?_
  refine TL_q (.int .i64 7) (fun _ _ hρ _ => r_as (r_sub (hρ _ _ rfl) (hρ _ _ rfl)) (by rfl)) rfl rfl rfl (w_n rfl) ?_
  refine TL_q (.int .u64 ((BitVec.ofNat 64 n).toNat : Int)) (fun _ _ hρ _ => r_move (hρ _ _ rfl)) rfl rfl rfl (w_n rfl) ?_
  refine TL_q (.int .i64 0) (fun _ _ hρ _ => r_move (hρ _ _ rfl)) rfl rfl rfl (w_n rfl) ?_
  refine TL_q (.int .i64 0) (fun _ _ hρ _ => r_as (r_mul (hρ _ _ rfl) (hρ _ _ rfl)) (by rfl)) rfl rfl rfl (w_n rfl) ?_
  refine TL_q (.int .u64 (((BitVec.ofNat 64 n) >>> 0).toNat : Int)) (fun _ _ hρ _ => r_shrB (k := .u64) (a := (BitVec.ofNat 64 n)) (n := 0) (by decide) (hρ _ _ rfl) (hρ _ _ rfl)) rfl rfl rfl (w_n rfl) ?_
  refine TL_q (.int .u8 ((((BitVec.ofNat 64 n) >>> 0).setWidth 8).toNat : Int)) (fun _ _ hρ _ => r_convB (k := .u64) (k' := .u8) (a := ((BitVec.ofNat 64 n) >>> 0)) un25 io5 rfl (hρ _ _ rfl)) rfl rfl rfl (w_n rfl) ?_
  refine TL_q (.pointer (some ⟨B1, 7, none⟩)) (fun _ _ hρ _ => r_indexAddrA (i := 7) ar175 sz5 (hρ _ _ rfl) (hρ _ _ rfl) (by decide)) rfl rfl rfl (w_n rfl) ?_
  refine TL_store 1 (.cells #[.int .u8 0, .int .u8 0, .int .u8 0, .int .u8 0, .int .u8 0, .int .u8 0, .int .u8 0, .int .u8 ((((BitVec.ofNat 64 n) >>> 0).setWidth 8).toNat : Int)] 175) rfl (fun _ _ hρ hm => r_store sz5 (hρ _ _ rfl) (hρ _ _ rfl) (hm.at 1 rfl) rfl rfl rfl rfl) rfl rfl (w_n rfl) ?_
  refine TL_nil ?_
  refine p_blk_n ?_
  refine p_seq ?_
  refine T_region ?_
  refine TL_q (.int .i64 1) (fun _ _ hρ _ => r_as (r_add (hρ _ _ rfl) (hρ _ _ rfl)) (by rfl)) rfl rfl rfl (w_n rfl) ?_
  refine TL_q (.int .i64 1) (fun _ _ hρ _ => r_move (hρ _ _ rfl)) rfl rfl rfl (w_n rfl) ?_
  refine TL_nil ?_
  refine p_round ?_
  refine TR_succ ?_
  refine T_seq (T_region ?_)
  refine TL_q (.bool true) (fun _ _ hρ _ => r_as (r_lss (hρ _ _ rfl) (hρ _ _ rfl)) (by rfl)) rfl rfl rfl (w_n rfl) ?_
  refine TL_seq ?_
  refine T_sub [(0, .int .i64 4), (1, .int .u64 ((BitVec.ofNat 64 n).toNat : Int)), (4, .slice none 0 0), (5, .pointer (some ⟨B1, 0, none⟩)), (22, .int .i64 0), (6, .int .i64 0), (23, .int .i64 0), (24, .int .i64 7), (25, .int .u64 ((BitVec.ofNat 64 n).toNat : Int)), (26, .int .i64 0), (27, .int .i64 0), (28, .int .u64 (((BitVec.ofNat 64 n) >>> 0).toNat : Int)), (29, .int .u8 ((((BitVec.ofNat 64 n) >>> 0).setWidth 8).toNat : Int)), (30, .pointer (some ⟨B1, 7, none⟩)), (31, .int .i64 1), (20, .int .i64 1), (21, .bool true)] [(1, .blk B1 (.cells #[.int .u8 0, .int .u8 0, .int .u8 0, .int .u8 0, .int .u8 0, .int .u8 0, .int .u8 0, .int .u8 ((((BitVec.ofNat 64 n) >>> 0).setWidth 8).toNat : Int)] 175))] (sub_cons rfl (sub_cons rfl (sub_cons rfl (sub_cons rfl (sub_cons rfl (sub_cons rfl (sub_cons rfl (sub_cons rfl (sub_cons rfl (sub_cons rfl (sub_cons rfl (sub_cons rfl (sub_cons rfl (sub_cons rfl (sub_cons rfl (sub_cons rfl (sub_cons rfl sub_nil))))))))))))))))) (sub_cons rfl sub_nil) ?_
  refine T_seq ?_
  refine T_cond_t rfl ?_
  refine T_skip' ?_
  refine p_seq ?_
  refine T_seq ?_
  refine T_block ?_
  refine T_seq (T_region ?_)
  refine TL_q (.int .i64 1) (fun _ _ hρ _ => r_move (hρ _ _ rfl)) rfl rfl rfl (w_n rfl) ?_
  refine TL_q (.int .i64 1) (fun _ _ hρ _ => r_assign (hρ _ _ rfl)) rfl rfl rfl (w_n rfl) ?_
  refine TL_seq ?_
  refine T_region ?_
  refine TL_q (.int .i64 1) (fun _ _ hρ _ => r_move (hρ _ _ rfl)) rfl rfl rfl (w_n rfl) ?_
  refine TL_q (.int .i64 6) (fun _ _ hρ _ => r_as (r_sub (hρ _ _ rfl) (hρ _ _ rfl)) (by rfl)) rfl rfl rfl (w_n rfl) ?_
  refine TL_q (.int .u64 ((BitVec.ofNat 64 n).toNat : Int)) (fun _ _ hρ _ => r_move (hρ _ _ rfl)) rfl rfl rfl (w_n rfl) ?_
  refine TL_q (.int .i64 1) (fun _ _ hρ _ => r_move (hρ _ _ rfl)) rfl rfl rfl (w_n rfl) ?_
  refine TL_q (.int .i64 8) (fun _ _ hρ _ => r_as (r_mul (hρ _ _ rfl) (hρ _ _ rfl)) (by rfl)) rfl rfl rfl (w_n rfl) ?_
  refine TL_q (.int .u64 (((BitVec.ofNat 64 n) >>> 8).toNat : Int)) (fun _ _ hρ _ => r_shrB (k := .u64) (a := (BitVec.ofNat 64 n)) (n := 8) (by decide) (hρ _ _ rfl) (hρ _ _ rfl)) rfl rfl rfl (w_n rfl) ?_
  refine TL_q (.int .u8 ((((BitVec.ofNat 64 n) >>> 8).setWidth 8).toNat : Int)) (fun _ _ hρ _ => r_convB (k := .u64) (k' := .u8) (a := ((BitVec.ofNat 64 n) >>> 8)) un25 io5 rfl (hρ _ _ rfl)) rfl rfl rfl (w_n rfl) ?_
  refine TL_q (.pointer (some ⟨B1, 6, none⟩)) (fun _ _ hρ _ => r_indexAddrA (i := 6) ar175 sz5 (hρ _ _ rfl) (hρ _ _ rfl) (by decide)) rfl rfl rfl (w_n rfl) ?_
  refine TL_store 1 (.cells #[.int .u8 0, .int .u8 0, .int .u8 0, .int .u8 0, .int .u8 0, .int .u8 0, .int .u8 ((((BitVec.ofNat 64 n) >>> 8).setWidth 8).toNat : Int), .int .u8 ((((BitVec.ofNat 64 n) >>> 0).setWidth 8).toNat : Int)] 175) rfl (fun _ _ hρ hm => r_store sz5 (hρ _ _ rfl) (hρ _ _ rfl) (hm.at 1 rfl) rfl rfl rfl rfl) rfl rfl (w_n rfl) ?_
  refine TL_nil ?_
  refine p_blk_n ?_
  refine p_seq ?_
  refine T_region ?_
  refine TL_q (.int .i64 2) (fun _ _ hρ _ => r_as (r_add (hρ _ _ rfl) (hρ _ _ rfl)) (by rfl)) rfl rfl rfl (w_n rfl) ?_
  refine TL_q (.int .i64 2) (fun _ _ hρ _ => r_move (hρ _ _ rfl)) rfl rfl rfl (w_n rfl) ?_
  refine TL_nil ?_
  refine p_round ?_
  refine TR_succ ?_
  refine T_seq (T_region ?_)
  refine TL_q (.bool true) (fun _ _ hρ _ => r_as (r_lss (hρ _ _ rfl) (hρ _ _ rfl)) (by rfl)) rfl rfl rfl (w_n rfl) ?_
  refine TL_seq ?_
  refine T_seq ?_
  refine T_cond_t rfl ?_
  refine T_skip' ?_
  refine p_seq ?_
  refine T_seq ?_
  refine T_block ?_
  refine T_seq (T_region ?_)
  refine TL_q (.int .i64 2) (fun _ _ hρ _ => r_move (hρ _ _ rfl)) rfl rfl rfl (w_n rfl) ?_
  refine TL_q (.int .i64 2) (fun _ _ hρ _ => r_assign (hρ _ _ rfl)) rfl rfl rfl (w_n rfl) ?_
  refine TL_seq ?_
  refine T_region ?_
  refine TL_q (.int .i64 2) (fun _ _ hρ _ => r_move (hρ _ _ rfl)) rfl rfl rfl (w_n rfl) ?_
  refine TL_q (.int .i64 5) (fun _ _ hρ _ => r_as (r_sub (hρ _ _ rfl) (hρ _ _ rfl)) (by rfl)) rfl rfl rfl (w_n rfl) ?_
  refine TL_q (.int .u64 ((BitVec.ofNat 64 n).toNat : Int)) (fun _ _ hρ _ => r_move (hρ _ _ rfl)) rfl rfl rfl (w_n rfl) ?_
  refine TL_q (.int .i64 2) (fun _ _ hρ _ => r_move (hρ _ _ rfl)) rfl rfl rfl (w_n rfl) ?_
  refine TL_q (.int .i64 16) (fun _ _ hρ _ => r_as (r_mul (hρ _ _ rfl) (hρ _ _ rfl)) (by rfl)) rfl rfl rfl (w_n rfl) ?_
  refine TL_q (.int .u64 (((BitVec.ofNat 64 n) >>> 16).toNat : Int)) (fun _ _ hρ _ => r_shrB (k := .u64) (a := (BitVec.ofNat 64 n)) (n := 16) (by decide) (hρ _ _ rfl) (hρ _ _ rfl)) rfl rfl rfl (w_n rfl) ?_
  refine TL_q (.int .u8 ((((BitVec.ofNat 64 n) >>> 16).setWidth 8).toNat : Int)) (fun _ _ hρ _ => r_convB (k := .u64) (k' := .u8) (a := ((BitVec.ofNat 64 n) >>> 16)) un25 io5 rfl (hρ _ _ rfl)) rfl rfl rfl (w_n rfl) ?_
  refine TL_q (.pointer (some ⟨B1, 5, none⟩)) (fun _ _ hρ _ => r_indexAddrA (i := 5) ar175 sz5 (hρ _ _ rfl) (hρ _ _ rfl) (by decide)) rfl rfl rfl (w_n rfl) ?_
  refine TL_store 1 (.cells #[.int .u8 0, .int .u8 0, .int .u8 0, .int .u8 0, .int .u8 0, .int .u8 ((((BitVec.ofNat 64 n) >>> 16).setWidth 8).toNat : Int), .int .u8 ((((BitVec.ofNat 64 n) >>> 8).setWidth 8).toNat : Int), .int .u8 ((((BitVec.ofNat 64 n) >>> 0).setWidth 8).toNat : Int)] 175) rfl (fun _ _ hρ hm => r_store sz5 (hρ _ _ rfl) (hρ _ _ rfl) (hm.at 1 rfl) rfl rfl rfl rfl) rfl rfl (w_n rfl) ?_
  refine TL_nil ?_
  refine p_blk_n ?_
  refine p_seq ?_
  refine T_region ?_
  refine TL_q (.int .i64 3) (fun _ _ hρ _ => r_as (r_add (hρ _ _ rfl) (hρ _ _ rfl)) (by rfl)) rfl rfl rfl (w_n rfl) ?_
  refine TL_q (.int .i64 3) (fun _ _ hρ _ => r_move (hρ _ _ rfl)) rfl rfl rfl (w_n rfl) ?_
  refine TL_nil ?_
  refine p_round ?_
  refine TR_succ ?_
  refine T_seq (T_region ?_)
  refine TL_q (.bool true) (fun _ _ hρ _ => r_as (r_lss (hρ _ _ rfl) (hρ _ _ rfl)) (by rfl)) rfl rfl rfl (w_n rfl) ?_
  refine TL_seq ?_
  refine T_seq ?_
  refine T_cond_t rfl ?_
  refine T_skip' ?_
  refine p_seq ?_
  refine T_seq ?_
  refine T_block ?_
  refine T_seq (T_region ?_)
  refine TL_q (.int .i64 3) (fun _ _ hρ _ => r_move (hρ _ _ rfl)) rfl rfl rfl (w_n rfl) ?_
  refine TL_q (.int .i64 3) (fun _ _ hρ _ => r_assign (hρ _ _ rfl)) rfl rfl rfl (w_n rfl) ?_
  refine TL_seq ?_
  refine T_region ?_
  refine TL_q (.int .i64 3) (fun _ _ hρ _ => r_move (hρ _ _ rfl)) rfl rfl rfl (w_n rfl) ?_
  refine TL_q (.int .i64 4) (fun _ _ hρ _ => r_as (r_sub (hρ _ _ rfl) (hρ _ _ rfl)) (by rfl)) rfl rfl rfl (w_n rfl) ?_
  refine TL_q (.int .u64 ((BitVec.ofNat 64 n).toNat : Int)) (fun _ _ hρ _ => r_move (hρ _ _ rfl)) rfl rfl rfl (w_n rfl) ?_
  refine TL_q (.int .i64 3) (fun _ _ hρ _ => r_move (hρ _ _ rfl)) rfl rfl rfl (w_n rfl) ?_
  refine TL_q (.int .i64 24) (fun _ _ hρ _ => r_as (r_mul (hρ _ _ rfl) (hρ _ _ rfl)) (by rfl)) rfl rfl rfl (w_n rfl) ?_
  refine TL_q (.int .u64 (((BitVec.ofNat 64 n) >>> 24).toNat : Int)) (fun _ _ hρ _ => r_shrB (k := .u64) (a := (BitVec.ofNat 64 n)) (n := 24) (by decide) (hρ _ _ rfl) (hρ _ _ rfl)) rfl rfl rfl (w_n rfl) ?_
  refine TL_q (.int .u8 ((((BitVec.ofNat 64 n) >>> 24).setWidth 8).toNat : Int)) (fun _ _ hρ _ => r_convB (k := .u64) (k' := .u8) (a := ((BitVec.ofNat 64 n) >>> 24)) un25 io5 rfl (hρ _ _ rfl)) rfl rfl rfl (w_n rfl) ?_
  refine TL_q (.pointer (some ⟨B1, 4, none⟩)) (fun _ _ hρ _ => r_indexAddrA (i := 4) ar175 sz5 (hρ _ _ rfl) (hρ _ _ rfl) (by decide)) rfl rfl rfl (w_n rfl) ?_
  refine TL_store 1 (.cells #[.int .u8 0, .int .u8 0, .int .u8 0, .int .u8 0, .int .u8 ((((BitVec.ofNat 64 n) >>> 24).setWidth 8).toNat : Int), .int .u8 ((((BitVec.ofNat 64 n) >>> 16).setWidth 8).toNat : Int), .int .u8 ((((BitVec.ofNat 64 n) >>> 8).setWidth 8).toNat : Int), .int .u8 ((((BitVec.ofNat 64 n) >>> 0).setWidth 8).toNat : Int)] 175) rfl (fun _ _ hρ hm => r_store sz5 (hρ _ _ rfl) (hρ _ _ rfl) (hm.at 1 rfl) rfl rfl rfl rfl) rfl rfl (w_n rfl) ?_
  refine TL_nil ?_
  refine p_blk_n ?_
  refine p_seq ?_
  refine T_region ?_
  refine TL_q (.int .i64 4) (fun _ _ hρ _ => r_as (r_add (hρ _ _ rfl) (hρ _ _ rfl)) (by rfl)) rfl rfl rfl (w_n rfl) ?_
  refine TL_q (.int .i64 4) (fun _ _ hρ _ => r_move (hρ _ _ rfl)) rfl rfl rfl (w_n rfl) ?_
  refine TL_nil ?_
  refine p_round ?_
  refine TR_succ ?_
  refine T_seq (T_region ?_)
  refine TL_q (.bool true) (fun _ _ hρ _ => r_as (r_lss (hρ _ _ rfl) (hρ _ _ rfl)) (by rfl)) rfl rfl rfl (w_n rfl) ?_
  refine TL_seq ?_
  refine T_sub [(0, .int .i64 4), (1, .int .u64 ((BitVec.ofNat 64 n).toNat : Int)), (4, .slice none 0 0), (5, .pointer (some ⟨B1, 0, none⟩)), (22, .int .i64 3), (6, .int .i64 3), (23, .int .i64 3), (24, .int .i64 4), (25, .int .u64 ((BitVec.ofNat 64 n).toNat : Int)), (26, .int .i64 3), (27, .int .i64 24), (28, .int .u64 (((BitVec.ofNat 64 n) >>> 24).toNat : Int)), (29, .int .u8 ((((BitVec.ofNat 64 n) >>> 24).setWidth 8).toNat : Int)), (30, .pointer (some ⟨B1, 4, none⟩)), (31, .int .i64 4), (20, .int .i64 4), (21, .bool true)] [(1, .blk B1 (.cells #[.int .u8 0, .int .u8 0, .int .u8 0, .int .u8 0, .int .u8 ((((BitVec.ofNat 64 n) >>> 24).setWidth 8).toNat : Int), .int .u8 ((((BitVec.ofNat 64 n) >>> 16).setWidth 8).toNat : Int), .int .u8 ((((BitVec.ofNat 64 n) >>> 8).setWidth 8).toNat : Int), .int .u8 ((((BitVec.ofNat 64 n) >>> 0).setWidth 8).toNat : Int)] 175))] (sub_cons rfl (sub_cons rfl (sub_cons rfl (sub_cons rfl (sub_cons rfl (sub_cons rfl (sub_cons rfl (sub_cons rfl (sub_cons rfl (sub_cons rfl (sub_cons rfl (sub_cons rfl (sub_cons rfl (sub_cons rfl (sub_cons rfl (sub_cons rfl (sub_cons rfl sub_nil))))))))))))))))) (sub_cons rfl sub_nil) ?_
  refine T_seq ?_
  refine T_cond_t rfl ?_
  refine T_skip' ?_
  refine p_seq ?_
  refine T_seq ?_
  refine T_block ?_
  refine T_seq (T_region ?_)
  refine TL_q (.int .i64 4) (fun _ _ hρ _ => r_move (hρ _ _ rfl)) rfl rfl rfl (w_n rfl) ?_
  refine TL_q (.int .i64 4) (fun _ _ hρ _ => r_assign (hρ _ _ rfl)) rfl rfl rfl (w_n rfl) ?_
  refine TL_seq ?_
  refine T_region ?_
  refine TL_q (.int .i64 4) (fun _ _ hρ _ => r_move (hρ _ _ rfl)) rfl rfl rfl (w_n rfl) ?_
  refine TL_q (.int .i64 3) (fun _ _ hρ _ => r_as (r_sub (hρ _ _ rfl) (hρ _ _ rfl)) (by rfl)) rfl rfl rfl (w_n rfl) ?_
  refine TL_q (.int .u64 ((BitVec.ofNat 64 n).toNat : Int)) (fun _ _ hρ _ => r_move (hρ _ _ rfl)) rfl rfl rfl (w_n rfl) ?_
  refine TL_q (.int .i64 4) (fun _ _ hρ _ => r_move (hρ _ _ rfl)) rfl rfl rfl (w_n rfl) ?_
  refine TL_q (.int .i64 32) (fun _ _ hρ _ => r_as (r_mul (hρ _ _ rfl) (hρ _ _ rfl)) (by rfl)) rfl rfl rfl (w_n rfl) ?_
  refine TL_q (.int .u64 (((BitVec.ofNat 64 n) >>> 32).toNat : Int)) (fun _ _ hρ _ => r_shrB (k := .u64) (a := (BitVec.ofNat 64 n)) (n := 32) (by decide) (hρ _ _ rfl) (hρ _ _ rfl)) rfl rfl rfl (w_n rfl) ?_
  refine TL_q (.int .u8 ((((BitVec.ofNat 64 n) >>> 32).setWidth 8).toNat : Int)) (fun _ _ hρ _ => r_convB (k := .u64) (k' := .u8) (a := ((BitVec.ofNat 64 n) >>> 32)) un25 io5 rfl (hρ _ _ rfl)) rfl rfl rfl (w_n rfl) ?_
  refine TL_q (.pointer (some ⟨B1, 3, none⟩)) (fun _ _ hρ _ => r_indexAddrA (i := 3) ar175 sz5 (hρ _ _ rfl) (hρ _ _ rfl) (by decide)) rfl rfl rfl (w_n rfl) ?_
  refine TL_store 1 (.cells #[.int .u8 0, .int .u8 0, .int .u8 0, .int .u8 ((((BitVec.ofNat 64 n) >>> 32).setWidth 8).toNat : Int), .int .u8 ((((BitVec.ofNat 64 n) >>> 24).setWidth 8).toNat : Int), .int .u8 ((((BitVec.ofNat 64 n) >>> 16).setWidth 8).toNat : Int), .int .u8 ((((BitVec.ofNat 64 n) >>> 8).setWidth 8).toNat : Int), .int .u8 ((((BitVec.ofNat 64 n) >>> 0).setWidth 8).toNat : Int)] 175) rfl (fun _ _ hρ hm => r_store sz5 (hρ _ _ rfl) (hρ _ _ rfl) (hm.at 1 rfl) rfl rfl rfl rfl) rfl rfl (w_n rfl) ?_
  refine TL_nil ?_
  refine p_blk_n ?_
  refine p_seq ?_
  refine T_region ?_
  refine TL_q (.int .i64 5) (fun _ _ hρ _ => r_as (r_add (hρ _ _ rfl) (hρ _ _ rfl)) (by rfl)) rfl rfl rfl (w_n rfl) ?_
  refine TL_q (.int .i64 5) (fun _ _ hρ _ => r_move (hρ _ _ rfl)) rfl rfl rfl (w_n rfl) ?_
  refine TL_nil ?_
  refine p_round ?_
  refine TR_succ ?_
  refine T_seq (T_region ?_)
  refine TL_q (.bool true) (fun _ _ hρ _ => r_as (r_lss (hρ _ _ rfl) (hρ _ _ rfl)) (by rfl)) rfl rfl rfl (w_n rfl) ?_
  refine TL_seq ?_
  refine T_seq ?_
  refine T_cond_t rfl ?_
  refine T_skip' ?_
  refine p_seq ?_
  refine T_seq ?_
  refine T_block ?_
  refine T_seq (T_region ?_)
  refine TL_q (.int .i64 5) (fun _ _ hρ _ => r_move (hρ _ _ rfl)) rfl rfl rfl (w_n rfl) ?_
  refine TL_q (.int .i64 5) (fun _ _ hρ _ => r_assign (hρ _ _ rfl)) rfl rfl rfl (w_n rfl) ?_
  refine TL_seq ?_
  refine T_region ?_
  refine TL_q (.int .i64 5) (fun _ _ hρ _ => r_move (hρ _ _ rfl)) rfl rfl rfl (w_n rfl) ?_
  refine TL_q (.int .i64 2) (fun _ _ hρ _ => r_as (r_sub (hρ _ _ rfl) (hρ _ _ rfl)) (by rfl)) rfl rfl rfl (w_n rfl) ?_
  refine TL_q (.int .u64 ((BitVec.ofNat 64 n).toNat : Int)) (fun _ _ hρ _ => r_move (hρ _ _ rfl)) rfl rfl rfl (w_n rfl) ?_
  refine TL_q (.int .i64 5) (fun _ _ hρ _ => r_move (hρ _ _ rfl)) rfl rfl rfl (w_n rfl) ?_
  refine TL_q (.int .i64 40) (fun _ _ hρ _ => r_as (r_mul (hρ _ _ rfl) (hρ _ _ rfl)) (by rfl)) rfl rfl rfl (w_n rfl) ?_
  refine TL_q (.int .u64 (((BitVec.ofNat 64 n) >>> 40).toNat : Int)) (fun _ _ hρ _ => r_shrB (k := .u64) (a := (BitVec.ofNat 64 n)) (n := 40) (by decide) (hρ _ _ rfl) (hρ _ _ rfl)) rfl rfl rfl (w_n rfl) ?_
  refine TL_q (.int .u8 ((((BitVec.ofNat 64 n) >>> 40).setWidth 8).toNat : Int)) (fun _ _ hρ _ => r_convB (k := .u64) (k' := .u8) (a := ((BitVec.ofNat 64 n) >>> 40)) un25 io5 rfl (hρ _ _ rfl)) rfl rfl rfl (w_n rfl) ?_
  refine TL_q (.pointer (some ⟨B1, 2, none⟩)) (fun _ _ hρ _ => r_indexAddrA (i := 2) ar175 sz5 (hρ _ _ rfl) (hρ _ _ rfl) (by decide)) rfl rfl rfl (w_n rfl) ?_
  refine TL_store 1 (.cells #[.int .u8 0, .int .u8 0, .int .u8 ((((BitVec.ofNat 64 n) >>> 40).setWidth 8).toNat : Int), .int .u8 ((((BitVec.ofNat 64 n) >>> 32).setWidth 8).toNat : Int), .int .u8 ((((BitVec.ofNat 64 n) >>> 24).setWidth 8).toNat : Int), .int .u8 ((((BitVec.ofNat 64 n) >>> 16).setWidth 8).toNat : Int), .int .u8 ((((BitVec.ofNat 64 n) >>> 8).setWidth 8).toNat : Int), .int .u8 ((((BitVec.ofNat 64 n) >>> 0).setWidth 8).toNat : Int)] 175) rfl (fun _ _ hρ hm => r_store sz5 (hρ _ _ rfl) (hρ _ _ rfl) (hm.at 1 rfl) rfl rfl rfl rfl) rfl rfl (w_n rfl) ?_
  refine TL_nil ?_
  refine p_blk_n ?_
  refine p_seq ?_
  refine T_region ?_
  refine TL_q (.int .i64 6) (fun _ _ hρ _ => r_as (r_add (hρ _ _ rfl) (hρ _ _ rfl)) (by rfl)) rfl rfl rfl (w_n rfl) ?_
  refine TL_q (.int .i64 6) (fun _ _ hρ _ => r_move (hρ _ _ rfl)) rfl rfl rfl (w_n rfl) ?_
  refine TL_nil ?_
  refine p_round ?_
  refine TR_succ ?_
  refine T_seq (T_region ?_)
  refine TL_q (.bool true) (fun _ _ hρ _ => r_as (r_lss (hρ _ _ rfl) (hρ _ _ rfl)) (by rfl)) rfl rfl rfl (w_n rfl) ?_
  refine TL_seq ?_
  refine T_seq ?_
  refine T_cond_t rfl ?_
  refine T_skip' ?_
  refine p_seq ?_
  refine T_seq ?_
  refine T_block ?_
  refine T_seq (T_region ?_)
  refine TL_q (.int .i64 6) (fun _ _ hρ _ => r_move (hρ _ _ rfl)) rfl rfl rfl (w_n rfl) ?_
  refine TL_q (.int .i64 6) (fun _ _ hρ _ => r_assign (hρ _ _ rfl)) rfl rfl rfl (w_n rfl) ?_
  refine TL_seq ?_
  refine T_region ?_
  refine TL_q (.int .i64 6) (fun _ _ hρ _ => r_move (hρ _ _ rfl)) rfl rfl rfl (w_n rfl) ?_
  refine TL_q (.int .i64 1) (fun _ _ hρ _ => r_as (r_sub (hρ _ _ rfl) (hρ _ _ rfl)) (by rfl)) rfl rfl rfl (w_n rfl) ?_
  refine TL_q (.int .u64 ((BitVec.ofNat 64 n).toNat : Int)) (fun _ _ hρ _ => r_move (hρ _ _ rfl)) rfl rfl rfl (w_n rfl) ?_
  refine TL_q (.int .i64 6) (fun _ _ hρ _ => r_move (hρ _ _ rfl)) rfl rfl rfl (w_n rfl) ?_
  refine TL_q (.int .i64 48) (fun _ _ hρ _ => r_as (r_mul (hρ _ _ rfl) (hρ _ _ rfl)) (by rfl)) rfl rfl rfl (w_n rfl) ?_
  refine TL_q (.int .u64 (((BitVec.ofNat 64 n) >>> 48).toNat : Int)) (fun _ _ hρ _ => r_shrB (k := .u64) (a := (BitVec.ofNat 64 n)) (n := 48) (by decide) (hρ _ _ rfl) (hρ _ _ rfl)) rfl rfl rfl (w_n rfl) ?_
  refine TL_q (.int .u8 ((((BitVec.ofNat 64 n) >>> 48).setWidth 8).toNat : Int)) (fun _ _ hρ _ => r_convB (k := .u64) (k' := .u8) (a := ((BitVec.ofNat 64 n) >>> 48)) un25 io5 rfl (hρ _ _ rfl)) rfl rfl rfl (w_n rfl) ?_
  refine TL_q (.pointer (some ⟨B1, 1, none⟩)) (fun _ _ hρ _ => r_indexAddrA (i := 1) ar175 sz5 (hρ _ _ rfl) (hρ _ _ rfl) (by decide)) rfl rfl rfl (w_n rfl) ?_
  refine TL_store 1 (.cells #[.int .u8 0, .int .u8 ((((BitVec.ofNat 64 n) >>> 48).setWidth 8).toNat : Int), .int .u8 ((((BitVec.ofNat 64 n) >>> 40).setWidth 8).toNat : Int), .int .u8 ((((BitVec.ofNat 64 n) >>> 32).setWidth 8).toNat : Int), .int .u8 ((((BitVec.ofNat 64 n) >>> 24).setWidth 8).toNat : Int), .int .u8 ((((BitVec.ofNat 64 n) >>> 16).setWidth 8).toNat : Int), .int .u8 ((((BitVec.ofNat 64 n) >>> 8).setWidth 8).toNat : Int), .int .u8 ((((BitVec.ofNat 64 n) >>> 0).setWidth 8).toNat : Int)] 175) rfl (fun _ _ hρ hm => r_store sz5 (hρ _ _ rfl) (hρ _ _ rfl) (hm.at 1 rfl) rfl rfl rfl rfl) rfl rfl (w_n rfl) ?_
  refine TL_nil ?_
  refine p_blk_n ?_
  refine p_seq ?_
  refine T_region ?_
  refine TL_q (.int .i64 7) (fun _ _ hρ _ => r_as (r_add (hρ _ _ rfl) (hρ _ _ rfl)) (by rfl)) rfl rfl rfl (w_n rfl) ?_
  refine TL_q (.int .i64 7) (fun _ _ hρ _ => r_move (hρ _ _ rfl)) rfl rfl rfl (w_n rfl) ?_
  refine TL_nil ?_
  refine p_round ?_
  refine TR_succ ?_
  refine T_seq (T_region ?_)
  refine TL_q (.bool true) (fun _ _ hρ _ => r_as (r_lss (hρ _ _ rfl) (hρ _ _ rfl)) (by rfl)) rfl rfl rfl (w_n rfl) ?_
  refine TL_seq ?_
  refine T_sub [(0, .int .i64 4), (1, .int .u64 ((BitVec.ofNat 64 n).toNat : Int)), (4, .slice none 0 0), (5, .pointer (some ⟨B1, 0, none⟩)), (22, .int .i64 6), (6, .int .i64 6), (23, .int .i64 6), (24, .int .i64 1), (25, .int .u64 ((BitVec.ofNat 64 n).toNat : Int)), (26, .int .i64 6), (27, .int .i64 48), (28, .int .u64 (((BitVec.ofNat 64 n) >>> 48).toNat : Int)), (29, .int .u8 ((((BitVec.ofNat 64 n) >>> 48).setWidth 8).toNat : Int)), (30, .pointer (some ⟨B1, 1, none⟩)), (31, .int .i64 7), (20, .int .i64 7), (21, .bool true)] [(1, .blk B1 (.cells #[.int .u8 0, .int .u8 ((((BitVec.ofNat 64 n) >>> 48).setWidth 8).toNat : Int), .int .u8 ((((BitVec.ofNat 64 n) >>> 40).setWidth 8).toNat : Int), .int .u8 ((((BitVec.ofNat 64 n) >>> 32).setWidth 8).toNat : Int), .int .u8 ((((BitVec.ofNat 64 n) >>> 24).setWidth 8).toNat : Int), .int .u8 ((((BitVec.ofNat 64 n) >>> 16).setWidth 8).toNat : Int), .int .u8 ((((BitVec.ofNat 64 n) >>> 8).setWidth 8).toNat : Int), .int .u8 ((((BitVec.ofNat 64 n) >>> 0).setWidth 8).toNat : Int)] 175))] (sub_cons rfl (sub_cons rfl (sub_cons rfl (sub_cons rfl (sub_cons rfl (sub_cons rfl (sub_cons rfl (sub_cons rfl (sub_cons rfl (sub_cons rfl (sub_cons rfl (sub_cons rfl (sub_cons rfl (sub_cons rfl (sub_cons rfl (sub_cons rfl (sub_cons rfl sub_nil))))))))))))))))) (sub_cons rfl sub_nil) ?_
  refine T_seq ?_
  refine T_cond_t rfl ?_
  refine T_skip' ?_
  refine p_seq ?_
  refine T_seq ?_
  refine T_block ?_
  refine T_seq (T_region ?_)
  refine TL_q (.int .i64 7) (fun _ _ hρ _ => r_move (hρ _ _ rfl)) rfl rfl rfl (w_n rfl) ?_
  refine TL_q (.int .i64 7) (fun _ _ hρ _ => r_assign (hρ _ _ rfl)) rfl rfl rfl (w_n rfl) ?_
  refine TL_seq ?_
  refine T_region ?_
  refine TL_q (.int .i64 7) (fun _ _ hρ _ => r_move (hρ _ _ rfl)) rfl rfl rfl (w_n rfl) ?_
  refine TL_q (.int .i64 0) (fun _ _ hρ _ => r_as (r_sub (hρ _ _ rfl) (hρ _ _ rfl)) (by rfl)) rfl rfl rfl (w_n rfl) ?_
  refine TL_q (.int .u64 ((BitVec.ofNat 64 n).toNat : Int)) (fun _ _ hρ _ => r_move (hρ _ _ rfl)) rfl rfl rfl (w_n rfl) ?_
  refine TL_q (.int .i64 7) (fun _ _ hρ _ => r_move (hρ _ _ rfl)) rfl rfl rfl (w_n rfl) ?_
  refine TL_q (.int .i64 56) (fun _ _ hρ _ => r_as (r_mul (hρ _ _ rfl) (hρ _ _ rfl)) (by rfl)) rfl rfl rfl (w_n rfl) ?_
  refine TL_q (.int .u64 (((BitVec.ofNat 64 n) >>> 56).toNat : Int)) (fun _ _ hρ _ => r_shrB (k := .u64) (a := (BitVec.ofNat 64 n)) (n := 56) (by decide) (hρ _ _ rfl) (hρ _ _ rfl)) rfl rfl rfl (w_n rfl) ?_
  refine TL_q (.int .u8 ((((BitVec.ofNat 64 n) >>> 56).setWidth 8).toNat : Int)) (fun _ _ hρ _ => r_convB (k := .u64) (k' := .u8) (a := ((BitVec.ofNat 64 n) >>> 56)) un25 io5 rfl (hρ _ _ rfl)) rfl rfl rfl (w_n rfl) ?_
  refine TL_q (.pointer (some ⟨B1, 0, none⟩)) (fun _ _ hρ _ => r_indexAddrA (i := 0) ar175 sz5 (hρ _ _ rfl) (hρ _ _ rfl) (by decide)) rfl rfl rfl (w_n rfl) ?_
  refine TL_store 1 (.cells #[.int .u8 ((((BitVec.ofNat 64 n) >>> 56).setWidth 8).toNat : Int), .int .u8 ((((BitVec.ofNat 64 n) >>> 48).setWidth 8).toNat : Int), .int .u8 ((((BitVec.ofNat 64 n) >>> 40).setWidth 8).toNat : Int), .int .u8 ((((BitVec.ofNat 64 n) >>> 32).setWidth 8).toNat : Int), .int .u8 ((((BitVec.ofNat 64 n) >>> 24).setWidth 8).toNat : Int), .int .u8 ((((BitVec.ofNat 64 n) >>> 16).setWidth 8).toNat : Int), .int .u8 ((((BitVec.ofNat 64 n) >>> 8).setWidth 8).toNat : Int), .int .u8 ((((BitVec.ofNat 64 n) >>> 0).setWidth 8).toNat : Int)] 175) rfl (fun _ _ hρ hm => r_store sz5 (hρ _ _ rfl) (hρ _ _ rfl) (hm.at 1 rfl) rfl rfl rfl rfl) rfl rfl (w_n rfl) ?_
  refine TL_nil ?_
  refine p_blk_n ?_
  refine p_seq ?_
  refine T_region ?_
  refine TL_q (.int .i64 8) (fun _ _ hρ _ => r_as (r_add (hρ _ _ rfl) (hρ _ _ rfl)) (by rfl)) rfl rfl rfl (w_n rfl) ?_
  refine TL_q (.int .i64 8) (fun _ _ hρ _ => r_move (hρ _ _ rfl)) rfl rfl rfl (w_n rfl) ?_
  refine TL_nil ?_
  refine p_round ?_
  refine TR_succ ?_
  refine T_seq (T_region ?_)
  refine TL_q (.bool false) (fun _ _ hρ _ => r_as (r_lss (hρ _ _ rfl) (hρ _ _ rfl)) (by rfl)) rfl rfl rfl (w_n rfl) ?_
  refine TL_seq ?_
  refine T_seq ?_
  refine T_cond_f rfl ?_
  refine T_exit' ?_
  refine p_then_x ?_
  refine p_then_x ?_
  refine p_blk_x ?_
  refine p_seq ?_
  refine T_seq (T_region ?_)
  refine TL_q (.int .i64 4) (fun _ _ hρ _ => r_move (hρ _ _ rfl)) rfl rfl rfl (w_n rfl) ?_
  refine TL_q (.int .i64 4) (fun _ _ hρ _ => r_as (r_sub (hρ _ _ rfl) (hρ _ _ rfl)) (by rfl)) rfl rfl rfl (w_n rfl) ?_
  refine TL_q (.slice (some ⟨B1, 4, none⟩) 4 4) (fun _ _ hρ _ => r_sliceAlo (l := 4) ar175 sz5 (by decide) (hρ _ _ rfl) (hρ _ _ rfl)) rfl rfl rfl (w_n rfl) ?_
  refine TL_q (.slice (some ⟨B1, 4, none⟩) 4 4) (fun _ _ hρ _ => r_assign (hρ _ _ rfl)) rfl rfl rfl (w_n rfl) ?_
  refine TL_seq ?_
  refine T_ret' ?_
  refine ret_of rfl (.slice (some ⟨B1, 4, none⟩) 4 4) (fun tmps w hk hm => res1 rfl (res_tmp (hk 4 _ rfl))) (fun w hm => ?_)
  refine ⟨B1, rfl, hm.ext, ?_⟩
  rw [lenB_w hn]
  exact hm.own 1 _ rfl

theorem behind_c (l : List By) (a : Option Addr) (cap : Nat) (w : World) (hv : SliceAt w a cap 1 byc l) (hcap : cap ≤ Go.maxLen) (m : List By) (b : Option Addr) (capb : Nat) (hu : SliceAt w b capb 1 byc m) (hcapb : capb ≤ Go.maxLen) (hl1 : l.length ≤ 1000000) (hm1 : m.length ≤ 1000000) : Calls Try.prog 124 #[.slice a l.length cap, .slice b m.length capb] w fun e w' => ∃ a' cap', e = .returned (.slice a' (l ++ m).length cap') ∧ Below w.heap.size w w' ∧ w'.ownsRow w.heap.size 5 1 (.slice a' (l ++ m).length cap') (l ++ m).length ((l ++ m).flatMap byc) := by
  have hvl := hv.1
  have hcp := hcap
  unfold Go.maxLen at hcp
  have hul := hu.1
  have hcp2 := hcapb
  unfold Go.maxLen at hcp2
  refine calls_of_T (l := [.slice a l.length cap, .slice b m.length capb]) 20 Try.func124 rfl rfl rfl ?_
  show T _ _ _ [(0, .slice a l.length cap), (1, .slice b m.length capb)] []
  refine T_seq (T_region ?_)
  refine TL_q (.slice none 0 0) (fun _ _ hρ _ => r_assign (hρ _ _ rfl)) rfl rfl rfl (w_n rfl) ?_
  refine TL_seq ?_
  refine T_seq (T_region ?_)
  refine TL_q (.slice a l.length cap) (fun _ _ hρ _ => r_move (hρ _ _ rfl)) rfl rfl rfl (w_n rfl) ?_
  refine TL_q (.int .i64 ((l.length : Nat) : Int)) (fun _ _ hρ _ => r_len sl34 (hρ _ _ rfl)) rfl rfl rfl (w_n rfl) ?_
  refine TL_q (.slice a l.length cap) (fun _ _ hρ _ => r_move (hρ _ _ rfl)) rfl rfl rfl (w_n rfl) ?_
  refine TL_q (.int .i64 ((l.length : Nat) : Int)) (fun _ _ hρ _ => r_len sl34 (hρ _ _ rfl)) rfl rfl rfl (w_n rfl) ?_
  refine TL_q (.slice b m.length capb) (fun _ _ hρ _ => r_move (hρ _ _ rfl)) rfl rfl rfl (w_n rfl) ?_
  refine TL_q (.int .i64 ((m.length : Nat) : Int)) (fun _ _ hρ _ => r_len sl34 (hρ _ _ rfl)) rfl rfl rfl (w_n rfl) ?_
  refine TL_q (.int .i64 ((l.length + m.length : Nat) : Int)) (fun _ _ hρ _ => r_as (r_add (hρ _ _ rfl) (hρ _ _ rfl)) (int_as ((wrap64 (by omega) (by omega)).trans (by omega)))) rfl rfl rfl (w_n rfl) ?_
  refine TL_op (ι := Nat) (fun B => .slice (some ⟨B, 0, none⟩) l.length (l.length + m.length)) _ (fun _ _ hρ hm => o_make (n := l.length) (cap := l.length + m.length) (z := .int .u8 0) (f := byc) (u := 0#8) 1 rfl (hρ _ _ rfl) (hρ _ _ rfl) sl34 by5 sz5 rfl (by kernel_rfl) rfl byc_len (by omega) (by omega) (by omega) hm) rfl rfl rfl (w_n rfl) ?_
  intro B1
  refine TL_q (.slice (some ⟨B1, 0, none⟩) l.length (l.length + m.length)) (fun _ _ hρ _ => r_assign (hρ _ _ rfl)) rfl rfl rfl (w_n rfl) ?_
  refine TL_seq ?_
  refine T_seq (T_region ?_)
  refine TL_q (.slice (some ⟨B1, 0, none⟩) l.length (l.length + m.length)) (fun _ _ hρ _ => r_move (hρ _ _ rfl)) rfl rfl rfl (w_n rfl) ?_
  refine TL_q (.slice a l.length cap) (fun _ _ hρ _ => r_move (hρ _ _ rfl)) rfl rfl rfl (w_n rfl) ?_
  refine TL_op1 (.int .i64 ((l.length : Nat) : Int)) _ (fun _ _ hρ hm => o_copy (s := 1) (news := (l.flatMap byc)) 1 rfl (hρ _ _ rfl) (hρ _ _ rfl) rfl sl34 sz5 (src_of byc_len (hv.keep hm.ext)) byc_oneL hm) rfl rfl rfl (w_n rfl) ?_
  refine TL_seq ?_
  refine T_seq (T_region ?_)
  refine TL_q (.slice (some ⟨B1, 0, none⟩) l.length (l.length + m.length)) (fun _ _ hρ _ => r_move (hρ _ _ rfl)) rfl rfl rfl (w_n rfl) ?_
  refine TL_q (.slice b m.length capb) (fun _ _ hρ _ => r_move (hρ _ _ rfl)) rfl rfl rfl (w_n rfl) ?_
  refine TL_append (n := l.length) (m := m.length) (xs := (l.flatMap byc)) (news := (m.flatMap byc)) (z := .int .u8 0) 1 rfl rfl rfl sl34 sz5 by5 (by kernel_rfl) rfl rfl (.inl rfl) (fun _ hm => by have := src_of byc_len (hu.keep hm.ext); simpa using this) byc_oneL (by omega) (by omega) rfl (w_n rfl) ?_
  intro a3 cap3
  refine TL_q (.slice a3 (l.length + m.length) cap3) (fun _ _ hρ _ => r_assign (hρ _ _ rfl)) rfl rfl rfl (w_n rfl) ?_
  refine TL_seq ?_
  refine T_ret' ?_
  refine ret_of rfl (.slice a3 (l.length + m.length) cap3) (fun tmps w hk hm => res1 rfl (res_tmp (hk 4 _ rfl))) (fun w hm => ?_)
  have hrow := hm.row 1 rfl
  rw [← List.flatMap_append, ← List.length_append] at hrow
  exact ⟨a3, cap3, by rw [List.length_append], hm.ext, hrow⟩

theorem trP_idle (w₀ : World) (L : Heap) (A B : Nat) : ∀ w, MemOk w₀ L w → CallsD Try.prog 137 #[.pointer (some ⟨A, 0, none⟩), .pointer (some ⟨B, 0, none⟩)] .returning w fun e u' w' => u' = .returning ∧ (e = .returned (.tuple #[]) ∧ MemOk w₀ L w') := by
  refine dS_of_T (l := [.pointer (some ⟨A, 0, none⟩), .pointer (some ⟨B, 0, none⟩)]) (L := L) (v := .nilIface) 19 (.inl ⟨rfl, rfl, rfl⟩) Try.func137 rfl rfl rfl rfl rfl (fun _ _ => rfl) rfl rfl (fun _ _ => rfl) rfl rfl ?_
  show T _ _ _ [(2, .nilIface), (6, .nilIface), (0, .pointer (some ⟨A, 0, none⟩)), (1, .pointer (some ⟨B, 0, none⟩))] L
  refine T_seq (T_region ?_)
  refine TL_q (.nilIface) (fun _ _ hρ _ => r_move (hρ _ _ rfl)) rfl rfl rfl (w_n rfl) ?_
  refine TL_q (.bool false) (fun _ w hρ _ => r_eqI (by rfl) (hρ _ _ rfl) (hρ _ _ rfl) (run_neq_nil_nil w 20 (by kernel_rfl))) rfl rfl rfl (w_n rfl) ?_
  refine TL_seq ?_
  refine T_cond_f rfl ?_
  refine T_skip' ?_
  refine p_endP ?_
  refine ret_ofP rfl (.tuple #[]) (fun tmps w hk hm => results_none rfl _ _ _) (fun w hm => ?_)
  exact ⟨rfl, hm⟩

theorem trP_ok {w₀ : World} {L : Heap} (g : Nat) (cap : Array Value) {ι : Type} (p : ι → Prop) (va0 : ι → Option Addr) (vn0 : ι → Nat) (vc0 : ι → Nat) (N : ι → Heap) (hE : Enters Try.prog g) (h1901 : lk L 1901 = none) (h1900 : lk L 1900 = none) (hN1901 : ∀ x, lk (N x) 1901 = none) (hN1900 : ∀ x, lk (N x) 1900 = none) (H : ∀ A B w, MemOk w₀ ((1901, .blk B (.cells #[.int .i64 0] 28)) :: (1900, .blk A (.cells #[.slice none 0 0] 34)) :: L) w → Calls Try.prog g cap w (HAns w₀ p (fun x => .slice (va0 x) (vn0 x) (vc0 x)) (fun x => N x ++ ((1901, .blk B (.cells #[.int .i64 0] 28)) :: (1900, .blk A (.cells #[.slice none 0 0] 34)) :: L)))) : ∀ w, MemOk w₀ L w → Calls Try.prog 122 #[.func (.func g) #[] cap] w (HAns w₀ p (fun x => .tuple #[.slice (va0 x) (vn0 x) (vc0 x), .int .i64 0]) (fun x => N x ++ L)) := by
  refine ht_of_TD (l := [.func (.func g) #[] cap]) (L := L) 7 Try.func122 rfl rfl rfl ?_
  show T _ _ _ [(0, .func (.func g) #[] cap)] L
  refine T_seq (T_region ?_)
  refine TL_new 1900 (.cells #[.slice none 0 0] 34) (fun B => .pointer (some ⟨B, 0, none⟩)) (fun _ _ _ _ => r_alloc (v := .slice none 0 0) (by kernel_rfl) rfl) rfl rfl rfl (w_n rfl) ?_
  intro B1
  refine TL_new 1901 (.cells #[.int .i64 0] 28) (fun B => .pointer (some ⟨B, 0, none⟩)) (fun _ _ _ _ => r_alloc (v := .int .i64 0) (by kernel_rfl) rfl) rfl rfl rfl (w_n rfl) ?_
  intro B2
  refine TL_seq ?_
  refine T_seq (T_region ?_)
  refine TL_q (.func (.func 137) #[] #[.pointer (some ⟨B1, 0, none⟩), .pointer (some ⟨B2, 0, none⟩)]) (fun _ _ hρ _ => r_makeFunc (by simp) (map_arr (cons2 (hρ _ _ rfl) (cons2 (hρ _ _ rfl) rfl)))) rfl rfl rfl (w_n rfl) ?_
  refine TL_defer ({ target := .fn (.func 137) #[.pointer (some ⟨B1, 0, none⟩), .pointer (some ⟨B2, 0, none⟩)], args := #[] }) rfl (fun _ _ hρ _ => r_defer (args := []) (hρ _ _ rfl) (by rfl) rfl) rfl (w_n rfl) ?_
  refine TL_seq ?_
  refine T_seq (T_region ?_)
  refine TL_q (.func (.func g) #[] cap) (fun _ _ hρ _ => r_move (hρ _ _ rfl)) rfl rfl rfl (w_n rfl) ?_
  refine TL_callH _ _ _ (fun _ _ hρ _ => r_call (args := []) hE (hρ _ _ rfl) (by rfl) (by simp)) (fun w hm => H B1 B2 w hm) rfl rfl rfl (w_n rfl) ?_
  intro x hx
  refine TL_mem ([(1901, .blk B2 (.cells #[.int .i64 0] 28)), (1900, .blk B1 (.cells #[.slice none 0 0] 34))] ++ (N x ++ L)) (fun _ hm => hm.of (lk_front (L := L) [(1901, .blk B2 (.cells #[.int .i64 0] 28)), (1900, .blk B1 (.cells #[.slice none 0 0] 34))] (by simp [hN1901, hN1900]))) ?_
  refine TL_store 1900 (.cells #[.slice (va0 x) (vn0 x) (vc0 x)] 34) rfl (fun _ _ hρ hm => r_store sz34 (hρ _ _ rfl) (hρ _ _ rfl) (hm.at 1900 rfl) rfl rfl rfl rfl) rfl rfl (w_n rfl) ?_
  refine TL_store 1901 (.cells #[.int .i64 0] 28) rfl (fun _ _ hρ hm => r_store sz28 (hρ _ _ rfl) (hρ _ _ rfl) (hm.at 1901 rfl) rfl rfl rfl rfl) rfl rfl (w_n rfl) ?_
  refine TL_seq ?_
  refine T_ret' ?_
  refine ret_ofD [{ target := .fn (.func 137) #[.pointer (some ⟨B1, 0, none⟩), .pointer (some ⟨B2, 0, none⟩)], args := #[] }] rfl (fun tmps hk => ?_)
  refine leavesH_cons (enters_of Try.func137 (by kernel_rfl) rfl) (fun w hm => trP_idle _ _ B1 B2 w hm) ?_
  refine leavesH_nil (.tuple #[.slice (va0 x) (vn0 x) (vc0 x), .int .i64 0]) (fun _ hm => res2 rfl (res_cell (hk 2 _ rfl) (run_loadVar_one ag34 (hm.at 1900 rfl) rfl)) (res_cell (hk 3 _ rfl) (run_loadVar_one ag28 (hm.at 1901 rfl) rfl))) (fun w hm => ?_)
  have e1901 := lk_app_none (hN1901 x) h1901
  have e1900 := lk_app_none (hN1900 x) h1900
  exact ⟨x, hx, rfl, hm.of (lk_drop (L := N x ++ L) [(1901, .blk B2 (.cells #[.int .i64 0] 28)), (1900, .blk B1 (.cells #[.slice (va0 x) (vn0 x) (vc0 x)] 34)), (1901, .blk B2 (.cells #[.int .i64 0] 28)), (1900, .blk B1 (.cells #[.slice none 0 0] 34))] (by simp [e1901, e1900]))⟩

theorem trPW_ok (g : Nat) (cap : Array Value) {ι : Type} (p : ι → Prop) (va0 : ι → Option Addr) (vn0 : ι → Nat) (vc0 : ι → Nat) (N : ι → Heap) (w : World) (hE : Enters Try.prog g) (hN1901 : ∀ x, lk (N x) 1901 = none) (hN1900 : ∀ x, lk (N x) 1900 = none) (H : ∀ w2, Below w.heap.size w w2 → Calls Try.prog g cap w2 (Ans p (fun x => .slice (va0 x) (vn0 x) (vc0 x)) N w2)) : Calls Try.prog 122 #[.func (.func g) #[] cap] w (Ans p (fun x => .tuple #[.slice (va0 x) (vn0 x) (vc0 x), .int .i64 0]) N w) := by
  refine (trP_ok (L := []) (w₀ := w) g cap p va0 vn0 vc0 N hE rfl rfl hN1901 hN1900 (fun A B w2 hm => (H w2 hm.ext).mono ?_) w (MemOk.nil w)).mono ?_
  · rintro e w' ⟨x, hx, he, hb, hn⟩
    exact ⟨x, hx, he, hm.news hb hn⟩
  · rintro e w' ⟨x, hx, he, hm⟩
    simp only [List.append_nil] at hm
    exact ⟨x, hx, he, hm.ext, ⟨fun i r h => hm.own i r h, fun i j r s h1 h2 => hm.sep i j r s h1 h2⟩⟩
theorem put1_c (T0 T1 T2 n : Nat) (hn : n ≤ 65536) (w : World) (h0 : hp w T0 = some (.cells #[.slice none 0 0] 34)) (h1 : hp w T1 = some (.cells #[.int .i64 4] 3)) (h2 : hp w T2 = some (.cells #[.int .u64 ((BitVec.ofNat 64 n).toNat : Int)] 25)) : Calls Try.prog 123 #[.pointer (some ⟨T0, 0, none⟩), .pointer (some ⟨T1, 0, none⟩), .pointer (some ⟨T2, 0, none⟩)] w fun e w' => ∃ a' cap', e = .returned (.slice a' (lenB n).length cap') ∧ Below w.heap.size w w' ∧ w'.ownsRow w.heap.size 5 1 (.slice a' (lenB n).length cap') (lenB n).length ((lenB n).flatMap byc) := by
  refine calls_of_T (l := [.pointer (some ⟨T0, 0, none⟩), .pointer (some ⟨T1, 0, none⟩), .pointer (some ⟨T2, 0, none⟩)]) 9 Try.func123 rfl rfl rfl ?_
  show T _ _ _ [(0, .pointer (some ⟨T0, 0, none⟩)), (1, .pointer (some ⟨T1, 0, none⟩)), (2, .pointer (some ⟨T2, 0, none⟩))] []
  refine T_seq (T_region ?_)
  refine TL_q (.slice none 0 0) (fun _ _ hρ _ => r_assign (hρ _ _ rfl)) rfl rfl rfl (w_n rfl) ?_
  refine TL_seq ?_
  refine T_seq (T_draw (V := [(0, .slice none 0 0), (1, .int .i64 4), (2, .int .u64 ((BitVec.ofNat 64 n).toNat : Int))]) [0, 0, 0, 6, 15, 31] [[(0, none)], [(1, none)], [(2, none)], [(5, some 1), (6, some 2)], [(4, some 0), (7, some 3)], [(8, some 4)]] 24 mixed (by kernel_rfl) ?_)
  refine G_step [0, 1, 2] 3 [] (by kernel_rfl) (allM (all_cons (q_run (.slice none 0 0) rfl rfl (wv_n rfl) rfl (fun _ _ hρ hm => r_load ag34 (hρ _ _ rfl) (hm.old h0) rfl)) (all_cons (q_run (.int .i64 4) rfl rfl (wv_n rfl) rfl (fun _ _ hρ hm => r_load ag3 (hρ _ _ rfl) (hm.old h1) rfl)) (all_cons (q_run (.int .u64 ((BitVec.ofNat 64 n).toNat : Int)) rfl rfl (wv_n rfl) rfl (fun _ _ hρ hm => r_load ag25 (hρ _ _ rfl) (hm.old h2) rfl)) all_nil)))) (allM (all_cons ?_ all_nil))
  refine LOb_callN (fun (_ : Nat) => True) (fun z3 => .slice (some ⟨z3, 4, none⟩) 4 4) (fun z3 => [(1, .blk z3 (.cells (((hi4 n ++ lenB n : List By).flatMap byc).toArray) 175))]) (fun z3 => []) rfl (wv_n rfl) rfl rfl (fun _ _ hρ _ => r_call (args := [.int .i64 4, .int .u64 ((BitVec.ofNat 64 n).toNat : Int)]) (enters_of Try.func125 (by kernel_rfl) rfl) (hρ _ _ rfl) ((cons2 (hρ _ _ rfl) (cons2 (hρ _ _ rfl) rfl))) rfl) (fun w _ => (laid_c n hn w).mono fun e w' ⟨z, he, hb, hr⟩ => ⟨z, trivial, he, hb, newOk1 1 hr⟩) (fun z3 => by kernel_rfl) ?_
  rintro z3 -
  refine G_step [0] 4 [] (by kernel_rfl) (allM (all_cons (q_run (.slice none 0 0) rfl rfl (wv_n rfl) rfl (fun _ _ hρ hm => r_load ag34 (hρ _ _ rfl) (hm.old h0) rfl)) all_nil)) (allM (all_cons ?_ all_nil))
  refine LOb_callN (fun (_ : Option Addr × Nat) => True) (fun (ar4, cr4) => .slice ar4 ((lenB n).length) cr4) (fun (ar4, cr4) => [(2, .row (.slice ar4 ((lenB n).length) cr4) 5 1 ((lenB n).length) ((lenB n).flatMap byc))]) (fun (ar4, cr4) => [(5, .slice ar4 ((lenB n).length) cr4)]) rfl (wv_n rfl) rfl rfl (fun _ _ hρ _ => r_call (args := [.slice none 0 0, .slice (some ⟨z3, 4, none⟩) 4 4]) (enters_of Try.func124 (by kernel_rfl) rfl) (hρ _ _ rfl) ((cons2 (hρ _ _ rfl) (cons2 (hρ _ _ rfl) rfl))) rfl) (fun w hm => (behind_c [] none 0 w (sliceNil w) (by decide) (lenB n) (some ⟨z3, 4, none⟩) 4 (laid_at (hm.at 1 rfl)) (by decide) (by decide) (show 4 ≤ 1000000 by decide)).mono fun e w' ⟨a', cap', he, hb, hr⟩ => ⟨(a', cap'), trivial, he, hb, newOk1 2 hr⟩) (fun (ar4, cr4) => by kernel_rfl) ?_
  rintro ⟨ar4, cr4⟩ -
  refine G_last [5] [(3, .slice ar4 ((lenB n).length) cr4)] (by kernel_rfl) (allM (all_cons (q_run (.slice ar4 ((lenB n).length) cr4) rfl rfl (wv_n rfl) rfl (fun _ _ hρ _ => r_assign (hρ _ _ rfl))) all_nil)) (end_new 5 rfl rfl end_nil) ?_
  refine T_ret' ?_
  refine ret_of rfl (.slice ar4 ((lenB n).length) cr4) (fun tmps w hk hm => res1 rfl (res_tmp (hk 3 _ rfl))) (fun w hm => ?_)
  exact ⟨ar4, cr4, rfl, hm.ext, hm.row 2 rfl⟩

theorem put_c (n : Nat) (hn : n ≤ 65536) (w : World) : Calls Try.prog 111 #[.slice none 0 0, .int .i64 4, .int .u64 ((BitVec.ofNat 64 n).toNat : Int)] w fun e w' => ∃ a' cap', e = .returned (.tuple #[.slice a' (lenB n).length cap', .int .i64 0]) ∧ Below w.heap.size w w' ∧ w'.ownsRow w.heap.size 5 1 (.slice a' (lenB n).length cap') (lenB n).length ((lenB n).flatMap byc) := by
  refine calls_of_T (l := [.slice none 0 0, .int .i64 4, .int .u64 ((BitVec.ofNat 64 n).toNat : Int)]) 12 Try.func111 rfl rfl rfl ?_
  show T _ _ _ [(0, .slice none 0 0), (1, .int .i64 4), (2, .int .u64 ((BitVec.ofNat 64 n).toNat : Int))] []
  refine T_seq (T_region ?_)
  refine TL_new 1 (.cells #[.slice none 0 0] 34) (fun B => .pointer (some ⟨B, 0, none⟩)) (fun _ _ hρ _ => r_box (hρ _ _ rfl) rfl) rfl rfl rfl (w_n rfl) ?_
  intro B1
  refine TL_new 2 (.cells #[.int .i64 4] 3) (fun B => .pointer (some ⟨B, 0, none⟩)) (fun _ _ hρ _ => r_box (hρ _ _ rfl) rfl) rfl rfl rfl (w_n rfl) ?_
  intro B2
  refine TL_new 3 (.cells #[.int .u64 ((BitVec.ofNat 64 n).toNat : Int)] 25) (fun B => .pointer (some ⟨B, 0, none⟩)) (fun _ _ hρ _ => r_box (hρ _ _ rfl) rfl) rfl rfl rfl (w_n rfl) ?_
  intro B3
  refine TL_q (.slice none 0 0) (fun _ _ hρ _ => r_assign (hρ _ _ rfl)) rfl rfl rfl (w_n rfl) ?_
  refine TL_q (.int .i64 0) (fun _ _ hρ _ => r_assign (hρ _ _ rfl)) rfl rfl rfl (w_n rfl) ?_
  refine TL_seq ?_
  refine T_seq (T_region ?_)
  refine TL_q (.func (.func 123) #[] #[.pointer (some ⟨B1, 0, none⟩), .pointer (some ⟨B2, 0, none⟩), .pointer (some ⟨B3, 0, none⟩)]) (fun _ _ hρ _ => r_makeFunc (by simp) (map_arr (cons2 (hρ _ _ rfl) (cons2 (hρ _ _ rfl) (cons2 (hρ _ _ rfl) rfl))))) rfl rfl rfl (w_n rfl) ?_
  refine TL_callN (fun (_ : Option Addr × Nat) => True) (fun (ar4, cr4) => .tuple #[.slice ar4 ((lenB n).length) cr4, .int .i64 0]) (fun (ar4, cr4) => [(4, .row (.slice ar4 ((lenB n).length) cr4) 5 1 ((lenB n).length) ((lenB n).flatMap byc))]) (fun _ _ hρ _ => r_call (args := [.func (.func 123) #[] #[.pointer (some ⟨B1, 0, none⟩), .pointer (some ⟨B2, 0, none⟩), .pointer (some ⟨B3, 0, none⟩)]]) (enters_of Try.func122 (by kernel_rfl) rfl) (hρ _ _ rfl) ((cons2 (hρ _ _ rfl) rfl)) rfl) (fun w hm => (trPW_ok 123 #[.pointer (some ⟨B1, 0, none⟩), .pointer (some ⟨B2, 0, none⟩), .pointer (some ⟨B3, 0, none⟩)] (fun (_ : Option Addr × Nat) => True) (fun z => z.1) (fun _ => (lenB n).length) (fun z => z.2) (fun z => [(1, .row (.slice z.1 (lenB n).length z.2) 5 1 (lenB n).length ((lenB n).flatMap byc))]) w (enters_of Try.func123 (by kernel_rfl) rfl) (fun _ => rfl) (fun _ => rfl) (fun w2 hb2 => (put1_c B1 B2 B3 n hn w2 (kept hb2 (hm.at 1 rfl)) (kept hb2 (hm.at 2 rfl)) (kept hb2 (hm.at 3 rfl))).mono fun e w' ⟨a', cap', he, hb, hr⟩ => ⟨(a', cap'), trivial, he, hb, newOk1 1 hr⟩)).mono fun e w' ⟨z, _, he, hb, hn⟩ => ⟨z, trivial, he, hb, newOk_at 4 hn⟩) rfl rfl rfl (w_n rfl) ?_
  rintro ⟨ar4, cr4⟩ -
  refine TL_q (.slice ar4 ((lenB n).length) cr4) (fun _ _ hρ _ => r_extract (hρ _ _ rfl) rfl) rfl rfl rfl (w_n rfl) ?_
  refine TL_q (.int .i64 0) (fun _ _ hρ _ => r_extract (hρ _ _ rfl) rfl) rfl rfl rfl (w_n rfl) ?_
  refine TL_q (.slice ar4 ((lenB n).length) cr4) (fun _ _ hρ _ => r_assign (hρ _ _ rfl)) rfl rfl rfl (w_n rfl) ?_
  refine TL_q (.int .i64 0) (fun _ _ hρ _ => r_assign (hρ _ _ rfl)) rfl rfl rfl (w_n rfl) ?_
  refine TL_seq ?_
  refine T_ret' ?_
  refine ret_of rfl (.tuple #[.slice ar4 ((lenB n).length) cr4, .int .i64 0]) (fun tmps w hk hm => res2 rfl (res_tmp (hk 6 _ rfl)) (res_tmp (hk 7 _ rfl))) (fun w hm => ?_)
  exact ⟨ar4, cr4, rfl, hm.ext, hm.row 4 rfl⟩
end Go.Proofs.Ytcidgbjgeegepaa
