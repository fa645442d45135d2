/- Texts of this seat, merged: part 6. -/
import Derived.Test.YtcidgbjgeegepaaMg5
/- net and journal: NetTricks. Printed by a program of this seat's prover. -/
namespace Go.Proofs.Ytcidgbjgeegepaa
open Go Go.RowKit
set_option maxRecDepth 10000
instance trkDec : DecidableEq Trk := fun x y =>
  if h : x.kind = y.kind ∧ x.at' = y.at' ∧ x.bit = y.bit ∧ x.mask = y.mask then .isTrue (by cases x; cases y; obtain ⟨h1, h2, h3, h4⟩ := h; cases h1; cases h2; cases h3; cases h4; rfl) else .isFalse fun e => h (by subst e; exact ⟨rfl, rfl, rfl, rfl⟩)
theorem eqTrk (x y : Trk) : eqI #[.int .i64 x.kind, .int .i64 x.at', .int .i64 x.bit, .int .u32 (x.mask.toNat : Int)] #[.int .i64 y.kind, .int .i64 y.at', .int .i64 y.bit, .int .u32 (y.mask.toNat : Int)] [(0, .i64), (1, .i64), (2, .i64), (3, .u32)] = decide (x = y) := by
  show (decide (x.kind = y.kind) && (decide (x.at' = y.at') && (decide (x.bit = y.bit) && (decide ((x.mask.toNat : Int) = (y.mask.toNat : Int)) && true)))) = _
  rw [bv_dec, Bool.and_true, ← Bool.decide_and, ← Bool.decide_and, ← Bool.decide_and]
  exact decide_eq_decide.2 ⟨fun ⟨h1, h2, h3, h4⟩ => by cases x; cases y; cases h1; cases h2; cases h3; cases h4; rfl, fun e => by subst e; exact ⟨rfl, rfl, rfl, rfl⟩⟩

theorem clone_t {α : Type} (f : α → List Value) (hf : ∀ x, (f x).length = 4) (ho : ∀ x, ∀ u ∈ f x, u.oneCell' = true) (l : List α) (a : Option Addr) (cap : Nat) (w : World) (hv : SliceAt w a cap 4 f l) (hlen : l.length * 32 ≤ 140737488355328) :
    Calls Try.prog 21 #[.slice a l.length cap] w fun e w' => ∃ a' cap', e = .returned (.slice a' l.length cap') ∧ Below w.heap.size w w' ∧ w'.ownsRow w.heap.size 48 4 (.slice a' l.length cap') l.length (l.flatMap f) := by
  refine calls_of_T (l := [.slice a l.length cap]) 8 Try.func21 rfl rfl rfl ?_
  show T _ _ _ [(0, .slice a l.length cap)] []
  refine T_seq (T_region ?_)
  refine TL_q (.slice none 0 0) (fun _ _ hρ _ => r_assign (hρ _ _ rfl)) rfl rfl rfl (w_n rfl) ?_
  refine TL_seq ?_
  refine T_seq ?_
  refine T_seq (T_region ?_)
  refine TL_q (.slice a l.length cap) (fun _ _ hρ _ => r_move (hρ _ _ rfl)) rfl rfl rfl (w_n rfl) ?_
  refine TL_q (.bool a.isNone) (fun _ _ hρ _ => r_eqlSn sl43 (hρ _ _ rfl) (hρ _ _ rfl)) rfl rfl rfl (w_n rfl) ?_
  refine TL_seq ?_
  refine T_cond rfl (fun h1 => ?_) (fun h1 => ?_)
  · skip
    refine T_seq (T_region ?_)
    refine TL_q (.slice none 0 0) (fun _ _ hρ _ => r_assign (hρ _ _ rfl)) rfl rfl rfl (w_n rfl) ?_
    refine TL_seq ?_
    refine T_ret' ?_
    refine p_then_r ?_
    refine ret_of rfl (.slice none 0 0) (fun tmps w hk hm => res1 rfl (res_tmp (hk 2 _ rfl))) (fun w hm => ?_)
    have e0 : a = none := Option.isNone_iff_eq_none.1 h1
    subst e0
    have e1 : l = [] := by have := hv.2.1 rfl; have := hv.1; exact List.eq_nil_of_length_eq_zero (by omega)
    subst e1
    exact ⟨none, 0, rfl, hm.ext, World.ownsRow_nil _ _ _ _⟩
  · skip
    refine T_skip' ?_
    refine p_seq ?_
    refine T_seq (T_region ?_)
    refine TL_new 1 (.cells #[] 48) (fun B => .slice (some ⟨B, 0, none⟩) 0 0) (fun _ _ _ _ => r_buildSlice (vs := []) (by kernel_rfl) rfl) rfl rfl rfl (w_n rfl) ?_
    intro B1
    refine TL_q (.slice a l.length cap) (fun _ _ hρ _ => r_move (hρ _ _ rfl)) rfl rfl rfl (w_n rfl) ?_
    refine TL_mem ([(1, .row (.slice (some ⟨B1, 0, none⟩) 0 0) 48 4 0 [])]) (fun _ hm => MemOk.sub (hm.toRow (n := 0) (cap := 0) (s := 4) 1 rfl rfl (by omega) rfl _ rfl) (sub_cons rfl sub_nil)) ?_
    refine TL_append (n := 0) (m := l.length) (xs := []) (news := (l.flatMap f)) (z := .agg #[.int .i64 0, .int .i64 0, .int .i64 0, .int .u32 0]) 1 rfl rfl rfl sl43 sz48 by48 (by kernel_rfl) rfl rfl (.inl rfl) (fun _ hm => by have := src_of hf (hv.keep hm.ext); simpa using this) (by intro u hu; obtain ⟨x, _, hx⟩ := List.mem_flatMap.1 hu; exact ho x u hx) (by omega) (by omega) rfl (w_n rfl) ?_
    intro a2 cap2
    refine TL_q (.slice a2 (0 + l.length) cap2) (fun _ _ hρ _ => r_assign (hρ _ _ rfl)) rfl rfl rfl (w_n rfl) ?_
    refine TL_seq ?_
    refine T_ret' ?_
    refine ret_of rfl (.slice a2 (0 + l.length) cap2) (fun tmps w hk hm => res1 rfl (res_tmp (hk 2 _ rfl))) (fun w hm => ?_)
    have hrow := hm.row 1 rfl
    simp only [Nat.zero_add, List.nil_append] at hrow ⊢
    exact ⟨a2, cap2, rfl, hm.ext, hrow⟩

theorem equal_t (l m : List Trk) (a b : Option Addr) (ca cb : Nat) (w : World) (hv : SliceAt w a ca 4 Trk.cells l) (hu : SliceAt w b cb 4 Trk.cells m) (hl : l.length ≤ 4611686018427387904) (hl' : m.length ≤ 4611686018427387904) :
    Calls Try.prog 30 #[.slice a l.length ca, .slice b m.length cb] w fun e w' => e = .returned (.bool (decide (l = m))) ∧ Below w.heap.size w w' := by
  refine calls_of_T (l := [.slice a l.length ca, .slice b m.length cb]) 26 Try.func30 rfl rfl rfl ?_
  show T _ _ _ [(0, .slice a l.length ca), (1, .slice b m.length cb)] []
  refine T_seq (T_region ?_)
  refine TL_q (.bool false) (fun _ _ hρ _ => r_assign (hρ _ _ rfl)) rfl rfl rfl (w_n rfl) ?_
  refine TL_seq ?_
  refine T_seq ?_
  by_cases hlm : ((l.length : Nat) : Int) = ((m.length : Nat) : Int)
  · skip
    refine T_seq (T_region ?_)
    refine TL_q (.slice a l.length ca) (fun _ _ hρ _ => r_move (hρ _ _ rfl)) rfl rfl rfl (w_n rfl) ?_
    refine TL_q (.int .i64 ((l.length : Nat) : Int)) (fun _ _ hρ _ => r_len sl43 (hρ _ _ rfl)) rfl rfl rfl (w_n rfl) ?_
    refine TL_q (.slice b m.length cb) (fun _ _ hρ _ => r_move (hρ _ _ rfl)) rfl rfl rfl (w_n rfl) ?_
    refine TL_q (.int .i64 ((m.length : Nat) : Int)) (fun _ _ hρ _ => r_len sl43 (hρ _ _ rfl)) rfl rfl rfl (w_n rfl) ?_
    refine TL_q (.bool false) (fun _ _ hρ _ => r_as (r_neq (hρ _ _ rfl) (hρ _ _ rfl)) (bool_as (by rw [decide_eq_true hlm]; rfl))) rfl rfl rfl (w_n rfl) ?_
    refine TL_seq ?_
    refine T_cond_f rfl ?_
    refine T_skip' ?_
    refine p_seq ?_
    refine T_seq ?_
    refine T_seq (T_region ?_)
    refine TL_q (.slice a l.length ca) (fun _ _ hρ _ => r_move (hρ _ _ rfl)) rfl rfl rfl (w_n rfl) ?_
    refine TL_q (.int .i64 ((l.length : Nat) : Int)) (fun _ _ hρ _ => r_len sl43 (hρ _ _ rfl)) rfl rfl rfl (w_n rfl) ?_
    refine TL_q (.int .i64 0) (fun _ _ hρ _ => r_move (hρ _ _ rfl)) rfl rfl rfl (w_n rfl) ?_
    refine TL_seq ?_
    refine T_block ?_
    refine T_loop (ι := Nat) (fun (k : Nat) => k ≤ l.length ∧ l.take k = m.take k) (fun (k : Nat) => [(0, .slice a l.length ca), (1, .slice b m.length cb), (12, .int .i64 ((l.length : Nat) : Int)), (13, .int .i64 ((k : Nat) : Int))]) (fun (k : Nat) => []) (fun (k : Nat) => l.length - k) 0 ⟨Nat.zero_le _, by simp⟩ (sub_cons rfl (sub_cons rfl (sub_cons rfl (sub_cons rfl sub_nil)))) sub_nil ?_
    rintro k hp
    obtain ⟨hk1, hk2⟩ := hp
    show T _ _ _ [(0, .slice a l.length ca), (1, .slice b m.length cb), (12, .int .i64 ((l.length : Nat) : Int)), (13, .int .i64 ((k : Nat) : Int))] []
    refine T_seq (T_region ?_)
    refine TL_q (.bool (decide (((k : Nat) : Int) < ((l.length : Nat) : Int)))) (fun _ _ hρ _ => r_lss (hρ _ _ rfl) (hρ _ _ rfl)) rfl rfl rfl (w_n rfl) ?_
    refine TL_seq ?_
    refine T_seq ?_
    refine T_cond rfl (fun h1 => ?_) (fun h1 => ?_)
    · replace h1 := of_decide_eq_true h1
      refine T_skip' ?_
      refine p_seq ?_
      refine T_seq ?_
      refine T_block ?_
      obtain ⟨x, hx⟩ : ∃ x, l[k]? = some x := ⟨_, List.getElem?_eq_getElem (by omega)⟩
      obtain ⟨y, hy⟩ : ∃ y, m[k]? = some y := ⟨_, List.getElem?_eq_getElem (by omega)⟩
      obtain ⟨b1, of1, cs1, T1, fz1, ha1, hq1, hr1⟩ := hv.open (i := k) (by omega)
      subst ha1
      obtain ⟨b2, of2, cs2, T2, fz2, ha2, hq2, hr2⟩ := hu.open (i := k) (by omega)
      subst ha2
      refine T_seq (T_region ?_)
      refine TL_q (.int .i64 ((k : Nat) : Int)) (fun _ _ hρ _ => r_move (hρ _ _ rfl)) rfl rfl rfl (w_n rfl) ?_
      refine TL_q (.int .i64 ((k : Nat) : Int)) (fun _ _ hρ _ => r_assign (hρ _ _ rfl)) rfl rfl rfl (w_n rfl) ?_
      refine TL_seq ?_
      refine T_seq (T_draw (V := [(0, .slice (some ⟨b1, of1, none⟩) l.length ca), (1, .int .i64 ((k : Nat) : Int)), (2, .pointer (some ⟨b1, of1 + k * 4, none⟩)), (3, .agg #[.int .i64 x.kind, .int .i64 x.at', .int .i64 x.bit, .int .u32 ((x.mask).toNat : Int)]), (4, .slice (some ⟨b2, of2, none⟩) m.length cb), (5, .int .i64 ((k : Nat) : Int)), (6, .pointer (some ⟨b2, of2 + k * 4, none⟩)), (7, .agg #[.int .i64 y.kind, .int .i64 y.at', .int .i64 y.bit, .int .u32 ((y.mask).toNat : Int)]), (8, .bool (!decide (x = y)))]) [0, 0, 3, 7, 0, 0, 48, 112, 255] [[(0, none)], [(5, none)], [(16, some 0), (17, some 1)], [(18, some 2)], [(1, none)], [(5, none)], [(20, some 4), (21, some 5)], [(22, some 6)], [(19, some 3), (23, some 7)]] 0 mixed (by kernel_rfl) ?_)
      refine G_last [0, 1, 2, 3, 4, 5, 6, 7, 8] [(0, .slice (some ⟨b1, of1, none⟩) l.length ca), (1, .slice (some ⟨b2, of2, none⟩) m.length cb), (12, .int .i64 ((l.length : Nat) : Int)), (13, .int .i64 ((k : Nat) : Int)), (14, .bool (decide (((k : Nat) : Int) < ((l.length : Nat) : Int)))), (15, .int .i64 ((k : Nat) : Int)), (5, .int .i64 ((k : Nat) : Int)), (16, .slice (some ⟨b1, of1, none⟩) l.length ca), (17, .int .i64 ((k : Nat) : Int)), (18, .pointer (some ⟨b1, of1 + k * 4, none⟩)), (19, .agg #[.int .i64 x.kind, .int .i64 x.at', .int .i64 x.bit, .int .u32 ((x.mask).toNat : Int)]), (20, .slice (some ⟨b2, of2, none⟩) m.length cb), (21, .int .i64 ((k : Nat) : Int)), (22, .pointer (some ⟨b2, of2 + k * 4, none⟩)), (23, .agg #[.int .i64 y.kind, .int .i64 y.at', .int .i64 y.bit, .int .u32 ((y.mask).toNat : Int)]), (24, .bool (!decide (x = y)))] (by kernel_rfl) (allM (all_cons (q_run (.slice (some ⟨b1, of1, none⟩) l.length ca) rfl rfl (wv_n rfl) rfl (fun _ _ hρ _ => r_move (hρ _ _ rfl))) (all_cons (q_run (.int .i64 ((k : Nat) : Int)) rfl rfl (wv_n rfl) rfl (fun _ _ hρ _ => r_move (hρ _ _ rfl))) (all_cons (q_run (.pointer (some ⟨b1, of1 + k * 4, none⟩)) rfl rfl (wv_n rfl) rfl (fun _ _ hρ _ => r_indexAddrS (i := k) sl43 sz48 (hρ _ _ rfl) (hρ _ _ rfl) (by omega))) (all_cons (q_run (.agg #[.int .i64 x.kind, .int .i64 x.at', .int .i64 x.bit, .int .u32 ((x.mask).toNat : Int)]) rfl rfl (wv_n rfl) rfl (fun _ _ hρ hm => r_loadRow (f := Trk.cells) (u := x) ag48 sz48 (hρ _ _ rfl) (hm.old hq1) hr1 hx)) (all_cons (q_run (.slice (some ⟨b2, of2, none⟩) m.length cb) rfl rfl (wv_n rfl) rfl (fun _ _ hρ _ => r_move (hρ _ _ rfl))) (all_cons (q_run (.int .i64 ((k : Nat) : Int)) rfl rfl (wv_n rfl) rfl (fun _ _ hρ _ => r_move (hρ _ _ rfl))) (all_cons (q_run (.pointer (some ⟨b2, of2 + k * 4, none⟩)) rfl rfl (wv_n rfl) rfl (fun _ _ hρ _ => r_indexAddrS (i := k) sl43 sz48 (hρ _ _ rfl) (hρ _ _ rfl) (by omega))) (all_cons (q_run (.agg #[.int .i64 y.kind, .int .i64 y.at', .int .i64 y.bit, .int .u32 ((y.mask).toNat : Int)]) rfl rfl (wv_n rfl) rfl (fun _ _ hρ hm => r_loadRow (f := Trk.cells) (u := y) ag48 sz48 (hρ _ _ rfl) (hm.old hq2) hr2 hy)) (all_cons (q_run (.bool (!decide (x = y))) rfl rfl (wv_n rfl) rfl (fun _ _ hρ _ => r_as (r_neqA (by kernel_rfl) (hρ _ _ rfl) (hρ _ _ rfl) (run_equalI (l := [(0, .i64), (1, .i64), (2, .i64), (3, .u32)]) (by kernel_rfl) rfl rfl)) (bool_as (congrArg (fun b => !b) (eqTrk x y))))) all_nil)))))))))) (end_old rfl rfl (end_old rfl rfl (end_old rfl rfl (end_old rfl rfl (end_old rfl rfl (end_old rfl rfl (end_old rfl rfl (end_new 0 rfl rfl (end_new 1 rfl rfl (end_new 2 rfl rfl (end_new 3 rfl rfl (end_new 4 rfl rfl (end_new 5 rfl rfl (end_new 6 rfl rfl (end_new 7 rfl rfl (end_new 8 rfl rfl end_nil)))))))))))))))) ?_
      refine T_cond rfl (fun h2 => ?_) (fun h2 => ?_)
      · replace h2 := of_decide_eq_false (bnot_t h2)
        have hxy : ¬ x = y := by exact h2
        refine T_seq (T_region ?_)
        refine TL_q (.bool false) (fun _ _ hρ _ => r_assign (hρ _ _ rfl)) rfl rfl rfl (w_n rfl) ?_
        refine TL_seq ?_
        refine T_ret' ?_
        refine p_blk_r ?_
        refine p_then_r ?_
        refine p_then_r ?_
        refine p_blk_r ?_
        refine p_then_r ?_
        refine ret_of rfl (.bool false) (fun tmps w hk hm => res1 rfl (res_tmp (hk 4 _ rfl))) (fun w hm => ?_)
        exact ⟨congrArg Ending.returned (bool_as (decide_eq_false (fun e => hxy (by subst e; rw [hx] at hy; exact Option.some.inj hy))).symm), hm.ext⟩
      · replace h2 := of_decide_eq_true (bnot_f h2)
        refine T_skip' ?_
        refine p_blk_n ?_
        refine p_seq ?_
        have hxy : x = y := by exact h2
        refine T_region ?_
        refine TL_q (.int .i64 ((k + 1 : Nat) : Int)) (fun _ _ hρ _ => r_as (r_add (hρ _ _ rfl) (hρ _ _ rfl)) (int_as ((wrap64 (by omega) (by omega)).trans (by omega)))) rfl rfl rfl (w_n rfl) ?_
        refine TL_q (.int .i64 ((k + 1 : Nat) : Int)) (fun _ _ hρ _ => r_move (hρ _ _ rfl)) rfl rfl rfl (w_n rfl) ?_
        refine TL_nil ?_
        exact p_at (k + 1) ⟨⟨by omega, by rw [List.take_add_one, List.take_add_one, hx, hy, hk2, hxy]⟩, by omega⟩ (sub_cons rfl (sub_cons rfl (sub_cons rfl (sub_cons rfl sub_nil)))) sub_nil
    · replace h1 := of_decide_eq_false h1
      refine T_exit' ?_
      refine p_then_x ?_
      refine p_then_x ?_
      refine p_blk_x ?_
      refine p_seq ?_
      refine T_seq (T_region ?_)
      refine TL_q (.bool true) (fun _ _ hρ _ => r_assign (hρ _ _ rfl)) rfl rfl rfl (w_n rfl) ?_
      refine TL_seq ?_
      refine T_ret' ?_
      refine ret_of rfl (.bool true) (fun tmps w hk hm => res1 rfl (res_tmp (hk 4 _ rfl))) (fun w hm => ?_)
      exact ⟨congrArg Ending.returned (bool_as (decide_eq_true (by rw [← List.take_length (l := l), ← List.take_length (l := m), ← show k = l.length by omega, ← show k = m.length by omega]; exact hk2)).symm), hm.ext⟩
  · skip
    refine T_seq (T_region ?_)
    refine TL_q (.slice a l.length ca) (fun _ _ hρ _ => r_move (hρ _ _ rfl)) rfl rfl rfl (w_n rfl) ?_
    refine TL_q (.int .i64 ((l.length : Nat) : Int)) (fun _ _ hρ _ => r_len sl43 (hρ _ _ rfl)) rfl rfl rfl (w_n rfl) ?_
    refine TL_q (.slice b m.length cb) (fun _ _ hρ _ => r_move (hρ _ _ rfl)) rfl rfl rfl (w_n rfl) ?_
    refine TL_q (.int .i64 ((m.length : Nat) : Int)) (fun _ _ hρ _ => r_len sl43 (hρ _ _ rfl)) rfl rfl rfl (w_n rfl) ?_
    refine TL_q (.bool true) (fun _ _ hρ _ => r_as (r_neq (hρ _ _ rfl) (hρ _ _ rfl)) (bool_as (by rw [decide_eq_false hlm]; rfl))) rfl rfl rfl (w_n rfl) ?_
    refine TL_seq ?_
    refine T_cond_t rfl ?_
    refine T_seq (T_region ?_)
    refine TL_q (.bool false) (fun _ _ hρ _ => r_assign (hρ _ _ rfl)) rfl rfl rfl (w_n rfl) ?_
    refine TL_seq ?_
    refine T_ret' ?_
    refine p_then_r ?_
    refine ret_of rfl (.bool false) (fun tmps w hk hm => res1 rfl (res_tmp (hk 4 _ rfl))) (fun w hm => ?_)
    exact ⟨congrArg Ending.returned (bool_as (decide_eq_false (fun e => hlm (by rw [e]))).symm), hm.ext⟩

theorem empty_no (ps : List Pcl) (a : Option Addr) (cap : Nat) (lost : Int) (w : World) (hv : SliceAt w a cap 3 Pcl.cells ps) (hcap : cap ≤ Go.maxLen) (hb : PcsAt w ps) (hck : ¬ checkV (pvs ps) lost = true) (hl9 : ps.length ≤ 70) : Calls Try.prog 15 #[.agg #[.slice a ps.length cap, .int .u64 lost]] w fun e w' => e = .returned (.tuple #[.agg #[.slice none 0 0, .int .u64 0], .slice none 0 0, .int .i64 350]) ∧ Below w.heap.size w w' := by
  have hvl := hv.1
  unfold Go.maxLen at hcap
  refine calls_of_T (l := [.agg #[.slice a ps.length cap, .int .u64 lost]]) 25 Try.func15 rfl rfl rfl ?_
  show T _ _ _ [(0, .agg #[.slice a ps.length cap, .int .u64 lost])] []
  refine T_seq (T_region ?_)
  refine TL_new 1 (.cells #[.slice a ps.length cap, .int .u64 lost] 27) (fun B => .pointer (some ⟨B, 0, none⟩)) (fun _ _ hρ _ => r_box (hρ _ _ rfl) rfl) rfl rfl rfl (w_n rfl) ?_
  intro B1
  refine TL_new 2 (.cells #[.slice none 0 0, .int .u64 0] 27) (fun B => .pointer (some ⟨B, 0, none⟩)) (fun _ _ _ _ => r_alloc (v := .agg #[.slice none 0 0, .int .u64 0]) (by kernel_rfl) rfl) rfl rfl rfl (w_n rfl) ?_
  intro B2
  refine TL_q (.slice none 0 0) (fun _ _ hρ _ => r_assign (hρ _ _ rfl)) rfl rfl rfl (w_n rfl) ?_
  refine TL_q (.int .i64 0) (fun _ _ hρ _ => r_assign (hρ _ _ rfl)) rfl rfl rfl (w_n rfl) ?_
  refine TL_seq ?_
  refine T_join (ι := Nat × (Option Addr) × Nat × Nat) (fun _ => True) (fun (z : Nat × (Option Addr) × Nat × Nat) => match z with | (Bx2, ar3, cr3, Bx13) => [(2, .pointer (some ⟨B2, 0, none⟩)), (3, .slice none 0 0), (4, .int .i64 0), (5, .pointer (some ⟨Bx13, 0, none⟩)), (6, .slice none 0 0), (8, .int .i64 350)]) (fun (z : Nat × (Option Addr) × Nat × Nat) => match z with | (Bx2, ar3, cr3, Bx13) => [(1, .blk B1 (.cells #[.slice a ps.length cap, .int .u64 lost] 27)), (2, .blk B2 (.cells #[.slice none 0 0, .int .u64 0] 27)), (3, .blk Bx2 (.cells #[.int .i64 1, .int .i64 0, .int .i64 0, .int .u32 0] 48)), (4, .row (.slice ar3 ((List.replicate ps.length (⟨1, 0, 0, 0#32⟩ : Trk)).length) cr3) 48 4 ((List.replicate ps.length (⟨1, 0, 0, 0#32⟩ : Trk)).length) ((List.replicate ps.length (⟨1, 0, 0, 0#32⟩ : Trk)).flatMap Trk.cells)), (5, .blk Bx13 (.cells #[.slice none 0 0, .int .u64 0] 27))]) (T_draw (V := [(0, .agg #[.slice a ps.length cap, .int .u64 lost]), (1, .agg #[.int .i64 1, .int .i64 0, .int .i64 0, .int .u32 0]), (3, .pointer (some ⟨B1, 0, none⟩)), (4, .slice a ps.length cap), (5, .int .i64 ((ps.length : Nat) : Int))]) [0, 0, 2, 0, 8, 24, 62, 127, 255, 511, 511, 511, 511, 0, 9215, 26623, 61439, 131071] [[(1, none)], [], [(11, some 1)], [(1, none)], [(13, some 3)], [(14, some 4)], [(12, some 2), (15, some 5)], [(10, some 0), (16, some 6)], [(17, some 7)], [(9, some 8)], [(9, some 8)], [(9, some 8)], [(9, some 8)], [], [(5, some 13), (18, some 9)], [(19, some 10)], [(20, some 11)], [(21, some 12)]] 24772 mixed (by kernel_rfl) ?_) (fun z hz => ?_)
  · skip
    refine G_step [0, 1, 3, 4, 5] 2 [13] (by kernel_rfl) (allM (all_cons (q_run (.agg #[.slice a ps.length cap, .int .u64 lost]) rfl rfl (wv_n rfl) rfl (fun _ _ hρ hm => r_loadA ag27 sz27 (hρ _ _ rfl) (hm.at 1 rfl) rfl rfl)) (all_cons (q_run (.agg #[.int .i64 1, .int .i64 0, .int .i64 0, .int .u32 0]) rfl rfl (wv_n rfl) rfl (fun _ _ hρ _ => r_build (vs := [(0, .int .i64 1)]) (by kernel_rfl) (cons2 (pair2 (hρ _ _ rfl)) rfl))) (all_cons (q_run (.pointer (some ⟨B1, 0, none⟩)) rfl rfl (wv_n rfl) rfl (fun _ _ hρ _ => r_fieldAddr fl27_0 sz22 (hρ _ _ rfl))) (all_cons (q_run (.slice a ps.length cap) rfl rfl (wv_n rfl) rfl (fun _ _ hρ hm => r_load ag22 (hρ _ _ rfl) (hm.at 1 rfl) rfl)) (all_cons (q_run (.int .i64 ((ps.length : Nat) : Int)) rfl rfl (wv_n rfl) rfl (fun _ _ hρ _ => r_len sl22 (hρ _ _ rfl))) all_nil)))))) (allM (all_cons ?_ (all_cons ?_ all_nil)))
    · skip
      refine LOb_new 3 (.cells #[.int .i64 1, .int .i64 0, .int .i64 0, .int .u32 0] 48) (fun B => .slice (some ⟨B, 0, none⟩) 1 1) (fun B => []) rfl (wv_n rfl) rfl rfl (fun _ _ hρ _ => r_buildSlice (vs := [(0, .agg #[.int .i64 1, .int .i64 0, .int .i64 0, .int .u32 0])]) (by kernel_rfl) (cons2 (pair2 (hρ _ _ rfl)) rfl)) (fun B => by kernel_rfl) ?_
      intro B4
      refine G_step [0, 3, 4, 5] 6 [13] (by kernel_rfl) (allM (all_cons (q_run (.agg #[.slice a ps.length cap, .int .u64 lost]) rfl rfl (wv_n rfl) rfl (fun _ _ hρ hm => r_loadA ag27 sz27 (hρ _ _ rfl) (hm.at 1 rfl) rfl rfl)) (all_cons (q_run (.pointer (some ⟨B1, 0, none⟩)) rfl rfl (wv_n rfl) rfl (fun _ _ hρ _ => r_fieldAddr fl27_0 sz22 (hρ _ _ rfl))) (all_cons (q_run (.slice a ps.length cap) rfl rfl (wv_n rfl) rfl (fun _ _ hρ hm => r_load ag22 (hρ _ _ rfl) (hm.at 1 rfl) rfl)) (all_cons (q_run (.int .i64 ((ps.length : Nat) : Int)) rfl rfl (wv_n rfl) rfl (fun _ _ hρ _ => r_len sl22 (hρ _ _ rfl))) all_nil))))) (allM (all_cons ?_ (all_cons ?_ all_nil)))
      · skip
        refine LOb_callN (fun (_ : Option Addr × Nat) => True) (fun (ar5, cr5) => .slice ar5 ((List.replicate ps.length (⟨1, 0, 0, 0#32⟩ : Trk)).length) cr5) (fun (ar5, cr5) => [(4, .row (.slice ar5 ((List.replicate ps.length (⟨1, 0, 0, 0#32⟩ : Trk)).length) cr5) 48 4 ((List.replicate ps.length (⟨1, 0, 0, 0#32⟩ : Trk)).length) ((List.replicate ps.length (⟨1, 0, 0, 0#32⟩ : Trk)).flatMap Trk.cells))]) (fun (ar5, cr5) => []) rfl (wv_n rfl) rfl rfl (fun _ _ hρ _ => r_call (args := [.slice (some ⟨B4, 0, none⟩) 1 1, .int .i64 ((ps.length : Nat) : Int)]) (enters_of Try.func67 (by kernel_rfl) rfl) (hρ _ _ rfl) ((cons2 (hρ _ _ rfl) (cons2 (hρ _ _ rfl) rfl))) rfl) (fun w hm => (rep_any (⟨1, 0, 0, 0#32⟩ : Trk) ps.length B4 w (by omega) (hm.at 3 rfl)).mono fun e w' ⟨a', cap', he, hb, hr⟩ => ⟨(a', cap'), trivial, he, hb, newOk1 4 hr⟩) (fun (ar5, cr5) => by kernel_rfl) ?_
        rintro ⟨ar5, cr5⟩ -
        refine G_step [0] 7 [13] (by kernel_rfl) (allM (all_cons (q_run (.agg #[.slice a ps.length cap, .int .u64 lost]) rfl rfl (wv_n rfl) rfl (fun _ _ hρ hm => r_loadA ag27 sz27 (hρ _ _ rfl) (hm.at 1 rfl) rfl rfl)) all_nil)) (allM (all_cons ?_ (all_cons ?_ all_nil)))
        · skip
          refine LOb_call (.tuple #[.agg #[.slice none 0 0, .int .u64 0], .slice none 0 0, .int .i64 0, .int .i64 350]) [(8, .tuple #[.agg #[.slice none 0 0, .int .u64 0], .slice none 0 0, .int .i64 0, .int .i64 350]), (9, .agg #[.slice none 0 0, .int .u64 0]), (10, .slice none 0 0), (11, .int .i64 0), (12, .int .i64 350)] rfl (wv_n rfl) rfl rfl (fun _ _ hρ _ => r_call (args := [.agg #[.slice a ps.length cap, .int .u64 lost], .slice ar5 ((List.replicate ps.length (⟨1, 0, 0, 0#32⟩ : Trk)).length) cr5]) (enters_of Try.func28 (by kernel_rfl) rfl) (hρ _ _ rfl) ((cons2 (hρ _ _ rfl) (cons2 (hρ _ _ rfl) rfl))) rfl) (fun w hm => run_net ps a cap lost (List.replicate ps.length (⟨1, 0, 0, 0#32⟩ : Trk)) ar5 cr5 w (hv.keep hm.ext) hcap (hb.keep hm.ext) (SliceAt.own Trk.cells_len (hm.row 4 rfl) rfl rfl) (row_cap (hm.row 4 rfl)) (by rw [List.length_replicate]; omega) hck) (by kernel_rfl) ?_
          refine G_step [8, 9, 10, 11, 12] 13 [] (by kernel_rfl) (allM (all_cons (q_run (.tuple #[.agg #[.slice none 0 0, .int .u64 0], .slice none 0 0, .int .i64 0, .int .i64 350]) rfl rfl (wv_n rfl) rfl (fun _ _ hρ _ => r_move (hρ _ _ rfl))) (all_cons (q_run (.agg #[.slice none 0 0, .int .u64 0]) rfl rfl (wv_n rfl) rfl (fun _ _ hρ _ => r_extract (hρ _ _ rfl) rfl)) (all_cons (q_run (.slice none 0 0) rfl rfl (wv_n rfl) rfl (fun _ _ hρ _ => r_extract (hρ _ _ rfl) rfl)) (all_cons (q_run (.int .i64 0) rfl rfl (wv_n rfl) rfl (fun _ _ hρ _ => r_extract (hρ _ _ rfl) rfl)) (all_cons (q_run (.int .i64 350) rfl rfl (wv_n rfl) rfl (fun _ _ hρ _ => r_extract (hρ _ _ rfl) rfl)) all_nil)))))) (allM (all_cons ?_ all_nil))
          refine LOb_new 5 (.cells #[.slice none 0 0, .int .u64 0] 27) (fun B => .pointer (some ⟨B, 0, none⟩)) (fun B => []) rfl (wv_n rfl) rfl rfl (fun _ _ _ _ => r_alloc (v := .agg #[.slice none 0 0, .int .u64 0]) (by kernel_rfl) rfl) (fun B => by kernel_rfl) ?_
          intro B6
          refine G_step [8, 9, 10, 11, 12] 14 [] (by kernel_rfl) (allM (all_cons (q_run (.tuple #[.agg #[.slice none 0 0, .int .u64 0], .slice none 0 0, .int .i64 0, .int .i64 350]) rfl rfl (wv_n rfl) rfl (fun _ _ hρ _ => r_move (hρ _ _ rfl))) (all_cons (q_run (.agg #[.slice none 0 0, .int .u64 0]) rfl rfl (wv_n rfl) rfl (fun _ _ hρ _ => r_extract (hρ _ _ rfl) rfl)) (all_cons (q_run (.slice none 0 0) rfl rfl (wv_n rfl) rfl (fun _ _ hρ _ => r_extract (hρ _ _ rfl) rfl)) (all_cons (q_run (.int .i64 0) rfl rfl (wv_n rfl) rfl (fun _ _ hρ _ => r_extract (hρ _ _ rfl) rfl)) (all_cons (q_run (.int .i64 350) rfl rfl (wv_n rfl) rfl (fun _ _ hρ _ => r_extract (hρ _ _ rfl) rfl)) all_nil)))))) (allM (all_cons ?_ all_nil))
          refine LOb_store 5 (.cells #[.slice none 0 0, .int .u64 0] 27) [(15, .slice none 0 0), (16, .int .i64 0), (17, .int .i64 350)] rfl (wv_n rfl) rfl rfl rfl (fun _ _ hρ hm => r_store sz27 (hρ _ _ rfl) (hρ _ _ rfl) (hm.at 5 rfl) rfl rfl rfl rfl) (by kernel_rfl) ?_
          exact G_lastQ [10, 11, 12, 15, 16, 17] [(2, .pointer (some ⟨B2, 0, none⟩)), (3, .slice none 0 0), (4, .int .i64 0), (5, .pointer (some ⟨B6, 0, none⟩)), (6, .slice none 0 0), (8, .int .i64 350)] (by kernel_rfl) (allM (all_cons (q_run (.slice none 0 0) rfl rfl (wv_n rfl) rfl (fun _ _ hρ _ => r_extract (hρ _ _ rfl) rfl)) (all_cons (q_run (.int .i64 0) rfl rfl (wv_n rfl) rfl (fun _ _ hρ _ => r_extract (hρ _ _ rfl) rfl)) (all_cons (q_run (.int .i64 350) rfl rfl (wv_n rfl) rfl (fun _ _ hρ _ => r_extract (hρ _ _ rfl) rfl)) (all_cons (q_run (.slice none 0 0) rfl rfl (wv_n rfl) rfl (fun _ _ hρ _ => r_assign (hρ _ _ rfl))) (all_cons (q_run (.int .i64 0) rfl rfl (wv_n rfl) rfl (fun _ _ hρ _ => r_assign (hρ _ _ rfl))) (all_cons (q_run (.int .i64 350) rfl rfl (wv_n rfl) rfl (fun _ _ hρ _ => r_assign (hρ _ _ rfl))) all_nil))))))) (end_old rfl rfl (end_old rfl rfl (end_old rfl rfl (end_new 13 rfl rfl (end_new 15 rfl rfl (end_new 17 rfl rfl end_nil)))))) (fun a w hf hm => At_intro (B4, ar5, cr5, B6) trivial hf hm (sub_cons rfl (sub_cons rfl (sub_cons rfl (sub_cons rfl (sub_cons rfl (sub_cons rfl sub_nil)))))) (sub_cons rfl (sub_cons rfl (sub_cons rfl (sub_cons rfl (sub_cons rfl sub_nil))))))
        · skip
          refine LOb_new 5 (.cells #[.slice none 0 0, .int .u64 0] 27) (fun B => .pointer (some ⟨B, 0, none⟩)) (fun B => []) rfl (wv_n rfl) rfl rfl (fun _ _ _ _ => r_alloc (v := .agg #[.slice none 0 0, .int .u64 0]) (by kernel_rfl) rfl) (fun B => by kernel_rfl) ?_
          intro B7
          refine G_step [0] 7 [] (by kernel_rfl) (allM (all_cons (q_run (.agg #[.slice a ps.length cap, .int .u64 lost]) rfl rfl (wv_n rfl) rfl (fun _ _ hρ hm => r_loadA ag27 sz27 (hρ _ _ rfl) (hm.at 1 rfl) rfl rfl)) all_nil)) (allM (all_cons ?_ all_nil))
          refine LOb_call (.tuple #[.agg #[.slice none 0 0, .int .u64 0], .slice none 0 0, .int .i64 0, .int .i64 350]) [(8, .tuple #[.agg #[.slice none 0 0, .int .u64 0], .slice none 0 0, .int .i64 0, .int .i64 350]), (9, .agg #[.slice none 0 0, .int .u64 0]), (10, .slice none 0 0), (11, .int .i64 0), (12, .int .i64 350)] rfl (wv_n rfl) rfl rfl (fun _ _ hρ _ => r_call (args := [.agg #[.slice a ps.length cap, .int .u64 lost], .slice ar5 ((List.replicate ps.length (⟨1, 0, 0, 0#32⟩ : Trk)).length) cr5]) (enters_of Try.func28 (by kernel_rfl) rfl) (hρ _ _ rfl) ((cons2 (hρ _ _ rfl) (cons2 (hρ _ _ rfl) rfl))) rfl) (fun w hm => run_net ps a cap lost (List.replicate ps.length (⟨1, 0, 0, 0#32⟩ : Trk)) ar5 cr5 w (hv.keep hm.ext) hcap (hb.keep hm.ext) (SliceAt.own Trk.cells_len (hm.row 4 rfl) rfl rfl) (row_cap (hm.row 4 rfl)) (by rw [List.length_replicate]; omega) hck) (by kernel_rfl) ?_
          refine G_step [8, 9, 10, 11, 12] 14 [] (by kernel_rfl) (allM (all_cons (q_run (.tuple #[.agg #[.slice none 0 0, .int .u64 0], .slice none 0 0, .int .i64 0, .int .i64 350]) rfl rfl (wv_n rfl) rfl (fun _ _ hρ _ => r_move (hρ _ _ rfl))) (all_cons (q_run (.agg #[.slice none 0 0, .int .u64 0]) rfl rfl (wv_n rfl) rfl (fun _ _ hρ _ => r_extract (hρ _ _ rfl) rfl)) (all_cons (q_run (.slice none 0 0) rfl rfl (wv_n rfl) rfl (fun _ _ hρ _ => r_extract (hρ _ _ rfl) rfl)) (all_cons (q_run (.int .i64 0) rfl rfl (wv_n rfl) rfl (fun _ _ hρ _ => r_extract (hρ _ _ rfl) rfl)) (all_cons (q_run (.int .i64 350) rfl rfl (wv_n rfl) rfl (fun _ _ hρ _ => r_extract (hρ _ _ rfl) rfl)) all_nil)))))) (allM (all_cons ?_ all_nil))
          refine LOb_store 5 (.cells #[.slice none 0 0, .int .u64 0] 27) [(15, .slice none 0 0), (16, .int .i64 0), (17, .int .i64 350)] rfl (wv_n rfl) rfl rfl rfl (fun _ _ hρ hm => r_store sz27 (hρ _ _ rfl) (hρ _ _ rfl) (hm.at 5 rfl) rfl rfl rfl rfl) (by kernel_rfl) ?_
          exact G_lastQ [10, 11, 12, 15, 16, 17] [(2, .pointer (some ⟨B2, 0, none⟩)), (3, .slice none 0 0), (4, .int .i64 0), (5, .pointer (some ⟨B7, 0, none⟩)), (6, .slice none 0 0), (8, .int .i64 350)] (by kernel_rfl) (allM (all_cons (q_run (.slice none 0 0) rfl rfl (wv_n rfl) rfl (fun _ _ hρ _ => r_extract (hρ _ _ rfl) rfl)) (all_cons (q_run (.int .i64 0) rfl rfl (wv_n rfl) rfl (fun _ _ hρ _ => r_extract (hρ _ _ rfl) rfl)) (all_cons (q_run (.int .i64 350) rfl rfl (wv_n rfl) rfl (fun _ _ hρ _ => r_extract (hρ _ _ rfl) rfl)) (all_cons (q_run (.slice none 0 0) rfl rfl (wv_n rfl) rfl (fun _ _ hρ _ => r_assign (hρ _ _ rfl))) (all_cons (q_run (.int .i64 0) rfl rfl (wv_n rfl) rfl (fun _ _ hρ _ => r_assign (hρ _ _ rfl))) (all_cons (q_run (.int .i64 350) rfl rfl (wv_n rfl) rfl (fun _ _ hρ _ => r_assign (hρ _ _ rfl))) all_nil))))))) (end_old rfl rfl (end_old rfl rfl (end_old rfl rfl (end_new 13 rfl rfl (end_new 15 rfl rfl (end_new 17 rfl rfl end_nil)))))) (fun a w hf hm => At_intro (B4, ar5, cr5, B7) trivial hf hm (sub_cons rfl (sub_cons rfl (sub_cons rfl (sub_cons rfl (sub_cons rfl (sub_cons rfl sub_nil)))))) (sub_cons rfl (sub_cons rfl (sub_cons rfl (sub_cons rfl (sub_cons rfl sub_nil))))))
      · skip
        refine LOb_new 5 (.cells #[.slice none 0 0, .int .u64 0] 27) (fun B => .pointer (some ⟨B, 0, none⟩)) (fun B => []) rfl (wv_n rfl) rfl rfl (fun _ _ _ _ => r_alloc (v := .agg #[.slice none 0 0, .int .u64 0]) (by kernel_rfl) rfl) (fun B => by kernel_rfl) ?_
        intro B8
        refine G_step [0, 3, 4, 5] 6 [] (by kernel_rfl) (allM (all_cons (q_run (.agg #[.slice a ps.length cap, .int .u64 lost]) rfl rfl (wv_n rfl) rfl (fun _ _ hρ hm => r_loadA ag27 sz27 (hρ _ _ rfl) (hm.at 1 rfl) rfl rfl)) (all_cons (q_run (.pointer (some ⟨B1, 0, none⟩)) rfl rfl (wv_n rfl) rfl (fun _ _ hρ _ => r_fieldAddr fl27_0 sz22 (hρ _ _ rfl))) (all_cons (q_run (.slice a ps.length cap) rfl rfl (wv_n rfl) rfl (fun _ _ hρ hm => r_load ag22 (hρ _ _ rfl) (hm.at 1 rfl) rfl)) (all_cons (q_run (.int .i64 ((ps.length : Nat) : Int)) rfl rfl (wv_n rfl) rfl (fun _ _ hρ _ => r_len sl22 (hρ _ _ rfl))) all_nil))))) (allM (all_cons ?_ all_nil))
        refine LOb_callN (fun (_ : Option Addr × Nat) => True) (fun (ar9, cr9) => .slice ar9 ((List.replicate ps.length (⟨1, 0, 0, 0#32⟩ : Trk)).length) cr9) (fun (ar9, cr9) => [(4, .row (.slice ar9 ((List.replicate ps.length (⟨1, 0, 0, 0#32⟩ : Trk)).length) cr9) 48 4 ((List.replicate ps.length (⟨1, 0, 0, 0#32⟩ : Trk)).length) ((List.replicate ps.length (⟨1, 0, 0, 0#32⟩ : Trk)).flatMap Trk.cells))]) (fun (ar9, cr9) => []) rfl (wv_n rfl) rfl rfl (fun _ _ hρ _ => r_call (args := [.slice (some ⟨B4, 0, none⟩) 1 1, .int .i64 ((ps.length : Nat) : Int)]) (enters_of Try.func67 (by kernel_rfl) rfl) (hρ _ _ rfl) ((cons2 (hρ _ _ rfl) (cons2 (hρ _ _ rfl) rfl))) rfl) (fun w hm => (rep_any (⟨1, 0, 0, 0#32⟩ : Trk) ps.length B4 w (by omega) (hm.at 3 rfl)).mono fun e w' ⟨a', cap', he, hb, hr⟩ => ⟨(a', cap'), trivial, he, hb, newOk1 4 hr⟩) (fun (ar9, cr9) => by kernel_rfl) ?_
        rintro ⟨ar9, cr9⟩ -
        refine G_step [0] 7 [] (by kernel_rfl) (allM (all_cons (q_run (.agg #[.slice a ps.length cap, .int .u64 lost]) rfl rfl (wv_n rfl) rfl (fun _ _ hρ hm => r_loadA ag27 sz27 (hρ _ _ rfl) (hm.at 1 rfl) rfl rfl)) all_nil)) (allM (all_cons ?_ all_nil))
        refine LOb_call (.tuple #[.agg #[.slice none 0 0, .int .u64 0], .slice none 0 0, .int .i64 0, .int .i64 350]) [(8, .tuple #[.agg #[.slice none 0 0, .int .u64 0], .slice none 0 0, .int .i64 0, .int .i64 350]), (9, .agg #[.slice none 0 0, .int .u64 0]), (10, .slice none 0 0), (11, .int .i64 0), (12, .int .i64 350)] rfl (wv_n rfl) rfl rfl (fun _ _ hρ _ => r_call (args := [.agg #[.slice a ps.length cap, .int .u64 lost], .slice ar9 ((List.replicate ps.length (⟨1, 0, 0, 0#32⟩ : Trk)).length) cr9]) (enters_of Try.func28 (by kernel_rfl) rfl) (hρ _ _ rfl) ((cons2 (hρ _ _ rfl) (cons2 (hρ _ _ rfl) rfl))) rfl) (fun w hm => run_net ps a cap lost (List.replicate ps.length (⟨1, 0, 0, 0#32⟩ : Trk)) ar9 cr9 w (hv.keep hm.ext) hcap (hb.keep hm.ext) (SliceAt.own Trk.cells_len (hm.row 4 rfl) rfl rfl) (row_cap (hm.row 4 rfl)) (by rw [List.length_replicate]; omega) hck) (by kernel_rfl) ?_
        refine G_step [8, 9, 10, 11, 12] 14 [] (by kernel_rfl) (allM (all_cons (q_run (.tuple #[.agg #[.slice none 0 0, .int .u64 0], .slice none 0 0, .int .i64 0, .int .i64 350]) rfl rfl (wv_n rfl) rfl (fun _ _ hρ _ => r_move (hρ _ _ rfl))) (all_cons (q_run (.agg #[.slice none 0 0, .int .u64 0]) rfl rfl (wv_n rfl) rfl (fun _ _ hρ _ => r_extract (hρ _ _ rfl) rfl)) (all_cons (q_run (.slice none 0 0) rfl rfl (wv_n rfl) rfl (fun _ _ hρ _ => r_extract (hρ _ _ rfl) rfl)) (all_cons (q_run (.int .i64 0) rfl rfl (wv_n rfl) rfl (fun _ _ hρ _ => r_extract (hρ _ _ rfl) rfl)) (all_cons (q_run (.int .i64 350) rfl rfl (wv_n rfl) rfl (fun _ _ hρ _ => r_extract (hρ _ _ rfl) rfl)) all_nil)))))) (allM (all_cons ?_ all_nil))
        refine LOb_store 5 (.cells #[.slice none 0 0, .int .u64 0] 27) [(15, .slice none 0 0), (16, .int .i64 0), (17, .int .i64 350)] rfl (wv_n rfl) rfl rfl rfl (fun _ _ hρ hm => r_store sz27 (hρ _ _ rfl) (hρ _ _ rfl) (hm.at 5 rfl) rfl rfl rfl rfl) (by kernel_rfl) ?_
        exact G_lastQ [10, 11, 12, 15, 16, 17] [(2, .pointer (some ⟨B2, 0, none⟩)), (3, .slice none 0 0), (4, .int .i64 0), (5, .pointer (some ⟨B8, 0, none⟩)), (6, .slice none 0 0), (8, .int .i64 350)] (by kernel_rfl) (allM (all_cons (q_run (.slice none 0 0) rfl rfl (wv_n rfl) rfl (fun _ _ hρ _ => r_extract (hρ _ _ rfl) rfl)) (all_cons (q_run (.int .i64 0) rfl rfl (wv_n rfl) rfl (fun _ _ hρ _ => r_extract (hρ _ _ rfl) rfl)) (all_cons (q_run (.int .i64 350) rfl rfl (wv_n rfl) rfl (fun _ _ hρ _ => r_extract (hρ _ _ rfl) rfl)) (all_cons (q_run (.slice none 0 0) rfl rfl (wv_n rfl) rfl (fun _ _ hρ _ => r_assign (hρ _ _ rfl))) (all_cons (q_run (.int .i64 0) rfl rfl (wv_n rfl) rfl (fun _ _ hρ _ => r_assign (hρ _ _ rfl))) (all_cons (q_run (.int .i64 350) rfl rfl (wv_n rfl) rfl (fun _ _ hρ _ => r_assign (hρ _ _ rfl))) all_nil))))))) (end_old rfl rfl (end_old rfl rfl (end_old rfl rfl (end_new 13 rfl rfl (end_new 15 rfl rfl (end_new 17 rfl rfl end_nil)))))) (fun a w hf hm => At_intro (B4, ar9, cr9, B8) trivial hf hm (sub_cons rfl (sub_cons rfl (sub_cons rfl (sub_cons rfl (sub_cons rfl (sub_cons rfl sub_nil)))))) (sub_cons rfl (sub_cons rfl (sub_cons rfl (sub_cons rfl (sub_cons rfl sub_nil))))))
    · skip
      refine LOb_new 5 (.cells #[.slice none 0 0, .int .u64 0] 27) (fun B => .pointer (some ⟨B, 0, none⟩)) (fun B => []) rfl (wv_n rfl) rfl rfl (fun _ _ _ _ => r_alloc (v := .agg #[.slice none 0 0, .int .u64 0]) (by kernel_rfl) rfl) (fun B => by kernel_rfl) ?_
      intro B10
      refine G_step [0, 1, 3, 4, 5] 2 [] (by kernel_rfl) (allM (all_cons (q_run (.agg #[.slice a ps.length cap, .int .u64 lost]) rfl rfl (wv_n rfl) rfl (fun _ _ hρ hm => r_loadA ag27 sz27 (hρ _ _ rfl) (hm.at 1 rfl) rfl rfl)) (all_cons (q_run (.agg #[.int .i64 1, .int .i64 0, .int .i64 0, .int .u32 0]) rfl rfl (wv_n rfl) rfl (fun _ _ hρ _ => r_build (vs := [(0, .int .i64 1)]) (by kernel_rfl) (cons2 (pair2 (hρ _ _ rfl)) rfl))) (all_cons (q_run (.pointer (some ⟨B1, 0, none⟩)) rfl rfl (wv_n rfl) rfl (fun _ _ hρ _ => r_fieldAddr fl27_0 sz22 (hρ _ _ rfl))) (all_cons (q_run (.slice a ps.length cap) rfl rfl (wv_n rfl) rfl (fun _ _ hρ hm => r_load ag22 (hρ _ _ rfl) (hm.at 1 rfl) rfl)) (all_cons (q_run (.int .i64 ((ps.length : Nat) : Int)) rfl rfl (wv_n rfl) rfl (fun _ _ hρ _ => r_len sl22 (hρ _ _ rfl))) all_nil)))))) (allM (all_cons ?_ all_nil))
      refine LOb_new 3 (.cells #[.int .i64 1, .int .i64 0, .int .i64 0, .int .u32 0] 48) (fun B => .slice (some ⟨B, 0, none⟩) 1 1) (fun B => []) rfl (wv_n rfl) rfl rfl (fun _ _ hρ _ => r_buildSlice (vs := [(0, .agg #[.int .i64 1, .int .i64 0, .int .i64 0, .int .u32 0])]) (by kernel_rfl) (cons2 (pair2 (hρ _ _ rfl)) rfl)) (fun B => by kernel_rfl) ?_
      intro B11
      refine G_step [0, 3, 4, 5] 6 [] (by kernel_rfl) (allM (all_cons (q_run (.agg #[.slice a ps.length cap, .int .u64 lost]) rfl rfl (wv_n rfl) rfl (fun _ _ hρ hm => r_loadA ag27 sz27 (hρ _ _ rfl) (hm.at 1 rfl) rfl rfl)) (all_cons (q_run (.pointer (some ⟨B1, 0, none⟩)) rfl rfl (wv_n rfl) rfl (fun _ _ hρ _ => r_fieldAddr fl27_0 sz22 (hρ _ _ rfl))) (all_cons (q_run (.slice a ps.length cap) rfl rfl (wv_n rfl) rfl (fun _ _ hρ hm => r_load ag22 (hρ _ _ rfl) (hm.at 1 rfl) rfl)) (all_cons (q_run (.int .i64 ((ps.length : Nat) : Int)) rfl rfl (wv_n rfl) rfl (fun _ _ hρ _ => r_len sl22 (hρ _ _ rfl))) all_nil))))) (allM (all_cons ?_ all_nil))
      refine LOb_callN (fun (_ : Option Addr × Nat) => True) (fun (ar12, cr12) => .slice ar12 ((List.replicate ps.length (⟨1, 0, 0, 0#32⟩ : Trk)).length) cr12) (fun (ar12, cr12) => [(4, .row (.slice ar12 ((List.replicate ps.length (⟨1, 0, 0, 0#32⟩ : Trk)).length) cr12) 48 4 ((List.replicate ps.length (⟨1, 0, 0, 0#32⟩ : Trk)).length) ((List.replicate ps.length (⟨1, 0, 0, 0#32⟩ : Trk)).flatMap Trk.cells))]) (fun (ar12, cr12) => []) rfl (wv_n rfl) rfl rfl (fun _ _ hρ _ => r_call (args := [.slice (some ⟨B11, 0, none⟩) 1 1, .int .i64 ((ps.length : Nat) : Int)]) (enters_of Try.func67 (by kernel_rfl) rfl) (hρ _ _ rfl) ((cons2 (hρ _ _ rfl) (cons2 (hρ _ _ rfl) rfl))) rfl) (fun w hm => (rep_any (⟨1, 0, 0, 0#32⟩ : Trk) ps.length B11 w (by omega) (hm.at 3 rfl)).mono fun e w' ⟨a', cap', he, hb, hr⟩ => ⟨(a', cap'), trivial, he, hb, newOk1 4 hr⟩) (fun (ar12, cr12) => by kernel_rfl) ?_
      rintro ⟨ar12, cr12⟩ -
      refine G_step [0] 7 [] (by kernel_rfl) (allM (all_cons (q_run (.agg #[.slice a ps.length cap, .int .u64 lost]) rfl rfl (wv_n rfl) rfl (fun _ _ hρ hm => r_loadA ag27 sz27 (hρ _ _ rfl) (hm.at 1 rfl) rfl rfl)) all_nil)) (allM (all_cons ?_ all_nil))
      refine LOb_call (.tuple #[.agg #[.slice none 0 0, .int .u64 0], .slice none 0 0, .int .i64 0, .int .i64 350]) [(8, .tuple #[.agg #[.slice none 0 0, .int .u64 0], .slice none 0 0, .int .i64 0, .int .i64 350]), (9, .agg #[.slice none 0 0, .int .u64 0]), (10, .slice none 0 0), (11, .int .i64 0), (12, .int .i64 350)] rfl (wv_n rfl) rfl rfl (fun _ _ hρ _ => r_call (args := [.agg #[.slice a ps.length cap, .int .u64 lost], .slice ar12 ((List.replicate ps.length (⟨1, 0, 0, 0#32⟩ : Trk)).length) cr12]) (enters_of Try.func28 (by kernel_rfl) rfl) (hρ _ _ rfl) ((cons2 (hρ _ _ rfl) (cons2 (hρ _ _ rfl) rfl))) rfl) (fun w hm => run_net ps a cap lost (List.replicate ps.length (⟨1, 0, 0, 0#32⟩ : Trk)) ar12 cr12 w (hv.keep hm.ext) hcap (hb.keep hm.ext) (SliceAt.own Trk.cells_len (hm.row 4 rfl) rfl rfl) (row_cap (hm.row 4 rfl)) (by rw [List.length_replicate]; omega) hck) (by kernel_rfl) ?_
      refine G_step [8, 9, 10, 11, 12] 14 [] (by kernel_rfl) (allM (all_cons (q_run (.tuple #[.agg #[.slice none 0 0, .int .u64 0], .slice none 0 0, .int .i64 0, .int .i64 350]) rfl rfl (wv_n rfl) rfl (fun _ _ hρ _ => r_move (hρ _ _ rfl))) (all_cons (q_run (.agg #[.slice none 0 0, .int .u64 0]) rfl rfl (wv_n rfl) rfl (fun _ _ hρ _ => r_extract (hρ _ _ rfl) rfl)) (all_cons (q_run (.slice none 0 0) rfl rfl (wv_n rfl) rfl (fun _ _ hρ _ => r_extract (hρ _ _ rfl) rfl)) (all_cons (q_run (.int .i64 0) rfl rfl (wv_n rfl) rfl (fun _ _ hρ _ => r_extract (hρ _ _ rfl) rfl)) (all_cons (q_run (.int .i64 350) rfl rfl (wv_n rfl) rfl (fun _ _ hρ _ => r_extract (hρ _ _ rfl) rfl)) all_nil)))))) (allM (all_cons ?_ all_nil))
      refine LOb_store 5 (.cells #[.slice none 0 0, .int .u64 0] 27) [(15, .slice none 0 0), (16, .int .i64 0), (17, .int .i64 350)] rfl (wv_n rfl) rfl rfl rfl (fun _ _ hρ hm => r_store sz27 (hρ _ _ rfl) (hρ _ _ rfl) (hm.at 5 rfl) rfl rfl rfl rfl) (by kernel_rfl) ?_
      exact G_lastQ [10, 11, 12, 15, 16, 17] [(2, .pointer (some ⟨B2, 0, none⟩)), (3, .slice none 0 0), (4, .int .i64 0), (5, .pointer (some ⟨B10, 0, none⟩)), (6, .slice none 0 0), (8, .int .i64 350)] (by kernel_rfl) (allM (all_cons (q_run (.slice none 0 0) rfl rfl (wv_n rfl) rfl (fun _ _ hρ _ => r_extract (hρ _ _ rfl) rfl)) (all_cons (q_run (.int .i64 0) rfl rfl (wv_n rfl) rfl (fun _ _ hρ _ => r_extract (hρ _ _ rfl) rfl)) (all_cons (q_run (.int .i64 350) rfl rfl (wv_n rfl) rfl (fun _ _ hρ _ => r_extract (hρ _ _ rfl) rfl)) (all_cons (q_run (.slice none 0 0) rfl rfl (wv_n rfl) rfl (fun _ _ hρ _ => r_assign (hρ _ _ rfl))) (all_cons (q_run (.int .i64 0) rfl rfl (wv_n rfl) rfl (fun _ _ hρ _ => r_assign (hρ _ _ rfl))) (all_cons (q_run (.int .i64 350) rfl rfl (wv_n rfl) rfl (fun _ _ hρ _ => r_assign (hρ _ _ rfl))) all_nil))))))) (end_old rfl rfl (end_old rfl rfl (end_old rfl rfl (end_new 13 rfl rfl (end_new 15 rfl rfl (end_new 17 rfl rfl end_nil)))))) (fun a w hf hm => At_intro (B11, ar12, cr12, B10) trivial hf hm (sub_cons rfl (sub_cons rfl (sub_cons rfl (sub_cons rfl (sub_cons rfl (sub_cons rfl sub_nil)))))) (sub_cons rfl (sub_cons rfl (sub_cons rfl (sub_cons rfl (sub_cons rfl sub_nil))))))
  · skip
    obtain ⟨Bx2, ar3, cr3, Bx13⟩ := z
    show T _ _ _ [(2, .pointer (some ⟨B2, 0, none⟩)), (3, .slice none 0 0), (4, .int .i64 0), (5, .pointer (some ⟨Bx13, 0, none⟩)), (6, .slice none 0 0), (8, .int .i64 350)] [(1, .blk B1 (.cells #[.slice a ps.length cap, .int .u64 lost] 27)), (2, .blk B2 (.cells #[.slice none 0 0, .int .u64 0] 27)), (3, .blk Bx2 (.cells #[.int .i64 1, .int .i64 0, .int .i64 0, .int .u32 0] 48)), (4, .row (.slice ar3 ((List.replicate ps.length (⟨1, 0, 0, 0#32⟩ : Trk)).length) cr3) 48 4 ((List.replicate ps.length (⟨1, 0, 0, 0#32⟩ : Trk)).length) ((List.replicate ps.length (⟨1, 0, 0, 0#32⟩ : Trk)).flatMap Trk.cells)), (5, .blk Bx13 (.cells #[.slice none 0 0, .int .u64 0] 27))]
    refine T_seq (T_region ?_)
    refine TL_q (.agg #[.slice none 0 0, .int .u64 0]) (fun _ _ hρ hm => r_loadA ag27 sz27 (hρ _ _ rfl) (hm.at 5 rfl) rfl rfl) rfl rfl rfl (w_n rfl) ?_
    refine TL_q (.slice none 0 0) (fun _ _ hρ _ => r_move (hρ _ _ rfl)) rfl rfl rfl (w_n rfl) ?_
    refine TL_q (.int .i64 350) (fun _ _ hρ _ => r_move (hρ _ _ rfl)) rfl rfl rfl (w_n rfl) ?_
    refine TL_store 2 (.cells #[.slice none 0 0, .int .u64 0] 27) rfl (fun _ _ hρ hm => r_store sz27 (hρ _ _ rfl) (hρ _ _ rfl) (hm.at 2 rfl) rfl rfl rfl rfl) rfl rfl (w_n rfl) ?_
    refine TL_q (.slice none 0 0) (fun _ _ hρ _ => r_assign (hρ _ _ rfl)) rfl rfl rfl (w_n rfl) ?_
    refine TL_q (.int .i64 350) (fun _ _ hρ _ => r_assign (hρ _ _ rfl)) rfl rfl rfl (w_n rfl) ?_
    refine TL_seq ?_
    refine T_ret' ?_
    refine ret_of rfl (.tuple #[.agg #[.slice none 0 0, .int .u64 0], .slice none 0 0, .int .i64 350]) (fun tmps w hk hm => res3 rfl (res_cell (hk 2 _ rfl) (run_loadVar_agg ag27 sz27 (hm.at 2 rfl) (Nat.le_of_ble_eq_true rfl) rfl)) (res_tmp (hk 3 _ rfl)) (res_tmp (hk 4 _ rfl))) (fun w hm => ?_)
    exact ⟨rfl, hm.ext⟩

theorem doV_no {n : NV} {t : Trk} (h : ¬ (doV n t).1 = 0) : (doV n t).2 = (n, []) := by
  revert h
  unfold doV
  split
  · exact fun _ => rfl
  · split
    · split
      · exact fun _ => rfl
      · split
        · exact fun h => absurd rfl h
        · split
          · exact fun h => absurd rfl h
          · split
            · exact fun h => absurd rfl h
            · split
              · exact fun _ => rfl
              · split
                · exact fun _ => rfl
                · exact fun h => absurd rfl h
    · exact fun _ => rfl
theorem putV_check {n : NV} {p : PV} (h : checkV n.1 n.2 = true) (hp : mayV p = true) : checkV (putV n p).1 (putV n p).2 = true := by
  have hc := checkV_len h
  unfold putV
  split
  · rename_i h1
    unfold checkV
    rw [Bool.and_eq_true]
    refine ⟨decide_eq_true ⟨by rw [List.length_append, List.length_singleton]; omega, hc.2.1⟩, List.all_eq_true.2 fun q hq => ?_⟩
    rcases List.mem_append.1 hq with h2 | h2
    · exact hc.2.2 q h2
    · rw [List.mem_singleton.1 h2]; exact hp
  · split
    · rename_i h2
      unfold checkV
      rw [Bool.and_eq_true]
      exact ⟨decide_eq_true ⟨hc.1, by dsimp only; omega⟩, List.all_eq_true.2 hc.2.2⟩
    · exact h
/-- What holds of each way a trick goes, holds of a trick. -/
theorem doV_cases {n : NV} {t : Trk} {Q : NV → Prop} (h0 : Q n) (h1 : ∀ i, Q (n.1.eraseIdx i, n.2)) (h3 : ∀ p ∈ n.1, Q (putV n p)) (h4 : ∀ (i : Nat) (p : PV) (b : List By), n.1[i]? = some p → b.length = p.l.length → Q (n.1.set i ⟨p.to, b, true⟩, n.2)) : Q (doV n t).2.1 := by
  unfold doV
  split
  · exact h0
  · split
    · split
      · exact h0
      · rename_i p hp
        split
        · exact h1 _
        · split
          · exact h1 _
          · split
            · exact h3 p (List.mem_of_getElem? hp)
            · split
              · exact h0
              · split
                · exact h0
                · rename_i b hb; exact h4 _ p b hp (spoilI_len hb)
    · exact h0
theorem doV_check {n : NV} {t : Trk} (h : checkV n.1 n.2 = true) : checkV (doV n t).2.1.1 (doV n t).2.1.2 = true := by
  have hc := checkV_len h
  refine doV_cases (Q := fun m => checkV m.1 m.2 = true) h (fun i => ?_) (fun p hp => putV_check h (hc.2.2 p hp)) (fun i p b hp hb => ?_)
  · unfold checkV
    rw [Bool.and_eq_true]
    exact ⟨decide_eq_true ⟨Nat.le_trans (List.length_eraseIdx_le _ _) hc.1, hc.2.1⟩, List.all_eq_true.2 fun q hq => hc.2.2 q (List.mem_of_mem_eraseIdx hq)⟩
  · unfold checkV
    rw [Bool.and_eq_true]
    refine ⟨decide_eq_true ⟨by dsimp only; rw [List.length_set]; exact hc.1, hc.2.1⟩, List.all_eq_true.2 fun q hq => ?_⟩
    rcases List.mem_or_eq_of_mem_set hq with h1 | rfl
    · exact hc.2.2 q h1
    · have := of_decide_eq_true (hc.2.2 p (List.mem_of_getElem? hp))
      exact decide_eq_true ⟨this.1, this.2.1, by dsimp only; rw [hb]; exact this.2.2⟩
theorem doV_lo {n : NV} {t : Trk} (h : 0 ≤ n.2) : 0 ≤ (doV n t).2.1.2 := by
  refine doV_cases (Q := fun m => 0 ≤ m.2) h (fun _ => h) (fun p _ => ?_) (fun _ _ _ _ _ => h)
  unfold putV
  split
  · exact h
  · split
    · show 0 ≤ n.2 + 1; omega
    · exact h
theorem told_none {n : NV} {t : Trk} (hk : ¬ t.kind = 1) : (doV n t).2.2 = [] := by
  unfold doV
  split
  · rfl
  · split
    · split
      · rfl
      · (first | rw [if_neg hk] | skip)
        split
        · rfl
        · split
          · rfl
          · split
            · rfl
            · split <;> rfl
    · rfl
theorem told_take {n : NV} {t : Trk} (h : (doV n t).1 = 0) (hk : t.kind = 1) : (doV n t).2.2 = [toldV (doV n t).2.2] := by
  revert h
  unfold doV
  split
  · exact fun h => nomatch h
  · split
    · split
      · exact fun h => nomatch h
      · exact fun _ => rfl
    · exact fun h => nomatch h
theorem runV_step {n m : NV} {l : List Trk} {k : Nat} {t : Trk} {ps : List PV} {ov : Int} (h : runV n (l.take k) = (m, ps, ov)) (ht : l[k]? = some t) : runV n (l.take (k + 1)) = ((doV m t).2.1, ps ++ (doV m t).2.2, if (doV m t).1 = 0 then ov else ov + 1) := by
  unfold runV at h ⊢
  rw [List.take_add_one, ht, List.foldl_append, h]; rfl
theorem run_no {n m : NV} {l : List Trk} {k : Nat} {t : Trk} {ps : List PV} {ov : Int} (h : runV n (l.take k) = (m, ps, ov)) (ht : l[k]? = some t) (hz : ¬ (doV m t).1 = 0) : runV n (l.take (k + 1)) = (m, ps, ov + 1) := by
  rw [runV_step h ht, if_neg hz, doV_no hz, List.append_nil]
theorem run_yes {n m : NV} {l : List Trk} {k : Nat} {t : Trk} {ps : List Pcl} {ov : Int} {ns : NV} (h : runV n (l.take k) = (m, pvs ps, ov)) (ht : l[k]? = some t) (hz : (doV m t).1 = 0) (hk : ¬ t.kind = 1) (hd : ns = (doV m t).2.1) : runV n (l.take (k + 1)) = (ns, pvs ps, ov) := by
  rw [runV_step h ht, if_pos hz, told_none hk, List.append_nil, hd]
theorem run_take {n m : NV} {l : List Trk} {k : Nat} {t : Trk} {ps : List Pcl} {q : Pcl} {ov : Int} {ns : NV} (h : runV n (l.take k) = (m, pvs ps, ov)) (ht : l[k]? = some t) (hz : (doV m t).1 = 0) (hk : t.kind = 1) (hd : ns = (doV m t).2.1) (hq : q.pv = toldV (doV m t).2.2) : runV n (l.take (k + 1)) = (ns, pvs (ps ++ [q]), ov) := by
  rw [runV_step h ht, if_pos hz, told_take hz hk, pvs_snoc, hq, hd]
theorem all_pcs {w : World} {ns : List NetR} {l : List Pcl} (h : ∀ m ∈ ns, NAt w m) (ha : ∀ p ∈ l, ∃ m ∈ ns, p ∈ m.l) : PcsAt w l := fun p hp => by
  obtain ⟨m, hm, hp2⟩ := ha p hp
  exact (h m hm).2.2 p hp2
theorem zero_ok (w : World) : (⟨0, ⟨none, 0, []⟩, false⟩ : Pcl).ok w := ⟨sliceNil w, by decide, Nat.zero_le _⟩
theorem told_ok {w : World} {bs : List (RowG By)} {q : Pcl} (h : poolH 5 1 byc bs w) (hq : q.r ∈ bs ∧ q.r.l.length ≤ 10000 ∨ q.r = ⟨none, 0, []⟩) : q.ok w := ⟨told_at h hq, told_cap h hq, hq.elim (fun h1 => h1.2) fun h1 => by rw [h1]; exact Nat.zero_le _⟩
theorem rtold_ok {w : World} {n : NetR} {q : Pcl} {Z : Prop} (h : NAt w n) (hq : q ∈ n.l ∨ q = ⟨0, ⟨none, 0, []⟩, false⟩ ∧ Z) : q.ok w := by
  rcases hq with h1 | ⟨rfl, _⟩
  · exact h.2.2 q h1
  · exact zero_ok w
theorem all_snoc {ns : List NetR} {l : List Pcl} {n d : NetR} {q : Pcl} (h : ∀ p ∈ l, ∃ m ∈ ns, p ∈ m.l) (hn : n ∈ ns) (hq : q ∈ n.l) : ∀ p ∈ l ++ [q], ∃ m ∈ d :: ns, p ∈ m.l := fun p hp => by
  rcases List.mem_append.1 hp with h1 | h1
  · obtain ⟨m, hm, hp2⟩ := h p h1
    exact ⟨m, List.mem_cons_of_mem _ hm, hp2⟩
  · rw [List.mem_singleton.1 h1]; exact ⟨n, List.mem_cons_of_mem _ hn, hq⟩
theorem all_more {ns : List NetR} {l : List Pcl} {d : NetR} (h : ∀ p ∈ l, ∃ m ∈ ns, p ∈ m.l) : ∀ p ∈ l, ∃ m ∈ d :: ns, p ∈ m.l := fun p hp => (h p hp).imp fun m hm => ⟨List.mem_cons_of_mem _ hm.1, hm.2⟩

theorem rdo_ok (ps : List Pcl) (a : Option Addr) (cap : Nat) (lost : Int) (t : Trk) (w : World) (hn : NAt w ⟨a, cap, ps⟩) (h0 : 0 ≤ lost) (hl9 : ps.length ≤ 1000) (hz : (doV (pvs ps, lost) t).1 = 0) : Calls Try.prog 24 #[.agg #[.slice a ps.length cap, .int .u64 lost], t.v] w fun e w' => ∃ (d : NetR) (lo : Int) (q : Pcl), (pvs d.l, lo) = (doV (pvs ps, lost) t).2.1 ∧ q.pv = toldV (doV (pvs ps, lost) t).2.2 ∧ (q ∈ ps ∨ q = ⟨0, ⟨none, 0, []⟩, false⟩ ∧ ¬ t.kind = 1) ∧ e = .returned (.tuple #[.agg #[.slice d.a d.l.length d.cap, .int .u64 lo], q.v, .int .i64 0]) ∧ NNew w w' [⟨a, cap, ps⟩] d :=
  (rdo_c ps a cap lost t.kind t.at' t.bit t.mask w hn h0 hl9).mono fun e w' ⟨d, lo, q, er, hr, he, hb⟩ => by
    have h1 : er = 0 := hr.is.symm.trans hz
    subst h1
    exact ⟨d, lo, q, (hr.ok rfl).1, (hr.ok rfl).2, hr.q.imp id fun h => ⟨h.1, h.2 rfl⟩, he, hb⟩
theorem rdo_err (ps : List Pcl) (a : Option Addr) (cap : Nat) (lost : Int) (t : Trk) (w : World) (hn : NAt w ⟨a, cap, ps⟩) (h0 : 0 ≤ lost) (hl9 : ps.length ≤ 1000) (hz : ¬ (doV (pvs ps, lost) t).1 = 0) : Calls Try.prog 24 #[.agg #[.slice a ps.length cap, .int .u64 lost], t.v] w fun e w' => e = .returned (.tuple #[.agg #[.slice none 0 0, .int .u64 0], .agg #[.int .i64 0, .slice none 0 0, .bool false], .int .i64 (doV (pvs ps, lost) t).1]) ∧ Below w.heap.size w w' :=
  (rdo_c ps a cap lost t.kind t.at' t.bit t.mask w hn h0 hl9).mono fun e w' ⟨d, lo, q, er, hr, he, hb⟩ => by
    have h1 : (doV (pvs ps, lost) t).1 = er := hr.is
    rw [h1] at hz ⊢
    obtain ⟨rfl, rfl, rfl⟩ := hr.no hz
    exact ⟨he, hb.below⟩

theorem tk_same {α : Type} {ys l m : List α} {n : Nat} (h : l = ys.take (min ys.length n)) (h2 : m = ys.take l.length) : l = m := by
  rw [h2, h, List.length_take, Nat.min_eq_left (Nat.min_le_left _ _)]

set_option maxHeartbeats 2000000 in
theorem ntricks_c (xs : List Pcl) (a : Option Addr) (cap : Nat) (lost : Int) (ys : List Trk) (b : Option Addr) (capb : Nat) (w : World) (hv : SliceAt w a cap 3 Pcl.cells xs) (hcap : cap ≤ Go.maxLen) (hx : PcsIn w xs) (hu : SliceAt w b capb 4 Trk.cells ys) (hcapb : capb ≤ Go.maxLen) (h0 : 0 ≤ lost) : Calls Try.prog 4 #[.agg #[.slice a xs.length cap, .int .u64 lost], .slice b ys.length capb] w fun e w' => e = .returned (.bool true) ∧ Below w.heap.size w w' := by
  have hvl := hv.1
  have hul := hu.1
  have hcp1 := hcap
  have hcp2 := hcapb
  unfold Go.maxLen at hcp1 hcp2
  refine calls_of_T (l := [.agg #[.slice a xs.length cap, .int .u64 lost], .slice b ys.length capb]) 185 Try.func4 rfl rfl rfl ?_
  show T _ _ _ [(0, .agg #[.slice a xs.length cap, .int .u64 lost]), (1, .slice b ys.length capb)] []
  refine T_seq (T_region ?_)
  refine TL_new 1 (.cells #[.slice a xs.length cap, .int .u64 lost] 27) (fun B => .pointer (some ⟨B, 0, none⟩)) (fun _ _ hρ _ => r_box (hρ _ _ rfl) rfl) rfl rfl rfl (w_n rfl) ?_
  intro B1
  refine TL_q (.bool false) (fun _ _ hρ _ => r_assign (hρ _ _ rfl)) rfl rfl rfl (w_n rfl) ?_
  refine TL_seq ?_
  refine T_seq ?_
  refine T_seq (T_region ?_)
  refine TL_call (.bool true) (fun _ _ hρ _ => r_call (args := []) (enters_of Try.func11 (by kernel_rfl) rfl) (hρ _ _ rfl) (by rfl) rfl) (fun w _ => nwakes_c w) rfl rfl rfl (w_n rfl) ?_
  refine TL_q (.bool false) (fun _ _ hρ _ => r_not (b := true) (hρ _ _ rfl)) rfl rfl rfl (w_n rfl) ?_
  refine TL_seq ?_
  refine T_cond_f rfl ?_
  refine T_skip' ?_
  refine p_seq ?_
  obtain ⟨l2, hl2, hn2⟩ : ∃ lz, lz = ys.take (min ys.length 12) ∧ lz.length = min ys.length 12 := ⟨_, rfl, by rw [List.length_take]; omega⟩
  have hs2 := SliceAt.front hu (n := min ys.length 12) (m := capb) (by omega) (by omega) (by omega)
  rw [← hl2] at hs2
  refine T_join (ι := NetR × (List (RowG By)) × (Option Addr) × Nat × Nat) (fun (z : NetR × (List (RowG By)) × (Option Addr) × Nat × Nat) => match z with | (n1, b1, at6, ct6, Bx8) => (pvs n1.l = fewV (pvs xs) ∧ InB b1 n1.l) ∧ True) (fun (z : NetR × (List (RowG By)) × (Option Addr) × Nat × Nat) => match z with | (n1, b1, at6, ct6, Bx8) => [(1, .slice b ys.length capb), (2, .pointer (some ⟨B1, 0, none⟩)), (4, .bool false), (5, .pointer (some ⟨Bx8, 0, none⟩)), (6, .slice at6 ((l2).length) ct6)]) (fun (z : NetR × (List (RowG By)) × (Option Addr) × Nat × Nat) => match z with | (n1, b1, at6, ct6, Bx8) => [(1, .blk B1 (.cells #[.slice a xs.length cap, .int .u64 lost] 27)), (2, .blk Bx8 (.cells #[.slice n1.a n1.l.length n1.cap, .int .u64 lost] 27)), (960, .row (.slice n1.a n1.l.length n1.cap) 36 3 n1.l.length (n1.l.flatMap Pcl.cells)), (961, .pool 5 1 byc b1), (962, .row (.slice at6 ((l2).length) ct6) 48 4 ((l2).length) ((l2).flatMap Trk.cells))]) (T_draw (V := [(0, .agg #[.slice a xs.length cap, .int .u64 lost]), (2, .slice b ys.length capb), (3, .slice b ys.length capb), (4, .int .i64 ((ys.length : Nat) : Int)), (5, .int .i64 ((min ys.length 12 : Nat) : Int)), (6, .slice b l2.length capb)]) [0, 1, 0, 0, 8, 24, 60, 127, 0, 511, 1023] [[(2, none)], [(28, some 0)], [(1, none)], [(1, none)], [(31, some 3)], [(32, some 4)], [(30, some 2), (33, some 5)], [(34, some 6)], [], [(5, some 8), (29, some 1)], [(35, some 7)]] 898 mixed (by kernel_rfl) ?_) (fun z hz => ?_)
  · skip
    refine G_step [0, 2, 3, 4, 5, 6] 1 [8] (by kernel_rfl) (allM (all_cons (q_run (.agg #[.slice a xs.length cap, .int .u64 lost]) rfl rfl (wv_n rfl) rfl (fun _ _ hρ hm => r_loadA ag27 sz27 (hρ _ _ rfl) (hm.at 1 rfl) rfl rfl)) (all_cons (q_run (.slice b ys.length capb) rfl rfl (wv_n rfl) rfl (fun _ _ hρ _ => r_move (hρ _ _ rfl))) (all_cons (q_run (.slice b ys.length capb) rfl rfl (wv_n rfl) rfl (fun _ _ hρ _ => r_move (hρ _ _ rfl))) (all_cons (q_run (.int .i64 ((ys.length : Nat) : Int)) rfl rfl (wv_n rfl) rfl (fun _ _ hρ _ => r_len sl43 (hρ _ _ rfl))) (all_cons (q_run (.int .i64 ((min ys.length 12 : Nat) : Int)) rfl rfl (wv_n rfl) rfl (fun _ _ hρ _ => r_as (r_min (hρ _ _ rfl) (hρ _ _ rfl)) (int_as (minI _ 12)))) (all_cons (q_run (.slice b l2.length capb) rfl rfl (wv_n rfl) rfl (fun ρ _ hρ _ => r_as (r_sliceO sl43 sz48 (hρ _ _ rfl) (bd_none ρ _) (bd_some (n := min ys.length 12) (hρ _ _ rfl)) (bd_none ρ _) (by simp) (by omega) (by omega) (by omega)) (by rw [hn2]; exact slo_zero _ _ _ _))) all_nil))))))) (allM (all_cons ?_ (all_cons ?_ all_nil)))
    · skip
      refine LOb_callN (fun ((n1, b1) : NetR × List (RowG By)) => pvs n1.l = fewV (pvs xs) ∧ InB b1 n1.l) (fun (n1, b1) => .agg #[.slice n1.a n1.l.length n1.cap, .int .u64 lost]) (fun (n1, b1) => [(960, .row (.slice n1.a n1.l.length n1.cap) 36 3 n1.l.length (n1.l.flatMap Pcl.cells)), (961, .pool 5 1 byc b1)]) (fun (n1, b1) => []) rfl (wv_n rfl) rfl rfl (fun _ _ hρ _ => r_call (args := [.agg #[.slice a xs.length cap, .int .u64 lost]]) (enters_of Try.func20 (by kernel_rfl) rfl) (hρ _ _ rfl) ((cons2 (hρ _ _ rfl) rfl)) rfl) (fun w hm => (own_c xs a cap lost w (hv.keep hm.ext) hcap (fun p hp => ⟨(hx p hp).1.keep hm.ext, (hx p hp).2⟩)).mono fun e w' ⟨n, bs, hf, hi, he, hb, r1, r2, hs⟩ => ⟨(n, bs), ⟨hf, hi⟩, he, hb, newOk2 960 961 r1 r2 hs⟩) (fun (n1, b1) => by kernel_rfl) ?_
      rintro ⟨n1, b1⟩ hfn1
      refine G_step [2, 3, 4, 5, 6] 7 [8] (by kernel_rfl) (allM (all_cons (q_run (.slice b ys.length capb) rfl rfl (wv_n rfl) rfl (fun _ _ hρ _ => r_move (hρ _ _ rfl))) (all_cons (q_run (.slice b ys.length capb) rfl rfl (wv_n rfl) rfl (fun _ _ hρ _ => r_move (hρ _ _ rfl))) (all_cons (q_run (.int .i64 ((ys.length : Nat) : Int)) rfl rfl (wv_n rfl) rfl (fun _ _ hρ _ => r_len sl43 (hρ _ _ rfl))) (all_cons (q_run (.int .i64 ((min ys.length 12 : Nat) : Int)) rfl rfl (wv_n rfl) rfl (fun _ _ hρ _ => r_as (r_min (hρ _ _ rfl) (hρ _ _ rfl)) (int_as (minI _ 12)))) (all_cons (q_run (.slice b l2.length capb) rfl rfl (wv_n rfl) rfl (fun ρ _ hρ _ => r_as (r_sliceO sl43 sz48 (hρ _ _ rfl) (bd_none ρ _) (bd_some (n := min ys.length 12) (hρ _ _ rfl)) (bd_none ρ _) (by simp) (by omega) (by omega) (by omega)) (by rw [hn2]; exact slo_zero _ _ _ _))) all_nil)))))) (allM (all_cons ?_ (all_cons ?_ all_nil)))
      · skip
        refine LOb_callN (fun (_ : Option Addr × Nat) => True) (fun (at6, ct6) => .slice at6 ((l2).length) ct6) (fun (at6, ct6) => [(962, .row (.slice at6 ((l2).length) ct6) 48 4 ((l2).length) ((l2).flatMap Trk.cells))]) (fun (at6, ct6) => []) rfl (wv_n rfl) rfl rfl (fun _ _ hρ _ => r_call (args := [.slice b l2.length capb]) (enters_of Try.func21 (by kernel_rfl) rfl) (hρ _ _ rfl) ((cons2 (hρ _ _ rfl) rfl)) rfl) (fun w hm => (clone_t Trk.cells Trk.cells_len Trk.cells_one l2 b capb w (hs2.keep hm.ext) (by omega)).mono fun e w' ⟨a', cap', he, hb, hr⟩ => ⟨(a', cap'), trivial, he, hb, newOk1 962 hr⟩) (fun (at6, ct6) => by kernel_rfl) ?_
        rintro ⟨at6, ct6⟩ -
        refine G_step [] 8 [] (by kernel_rfl) (allM all_nil) (allM (all_cons ?_ all_nil))
        refine LOb_new 2 (.cells #[.slice none 0 0, .int .u64 0] 27) (fun B => .pointer (some ⟨B, 0, none⟩)) (fun B => []) rfl (wv_n rfl) rfl rfl (fun _ _ _ _ => r_alloc (v := .agg #[.slice none 0 0, .int .u64 0]) (by kernel_rfl) rfl) (fun B => by kernel_rfl) ?_
        intro B3
        refine G_step [] 9 [] (by kernel_rfl) (allM all_nil) (allM (all_cons ?_ all_nil))
        refine LOb_store 2 (.cells #[.slice n1.a n1.l.length n1.cap, .int .u64 lost] 27) [(10, .slice at6 ((l2).length) ct6)] rfl (wv_n rfl) rfl rfl rfl (fun _ _ hρ hm => r_store sz27 (hρ _ _ rfl) (hρ _ _ rfl) (hm.at 2 rfl) rfl rfl rfl rfl) (by kernel_rfl) ?_
        exact G_lastQ [10] [(1, .slice b ys.length capb), (2, .pointer (some ⟨B1, 0, none⟩)), (4, .bool false), (5, .pointer (some ⟨B3, 0, none⟩)), (6, .slice at6 ((l2).length) ct6)] (by kernel_rfl) (allM (all_cons (q_run (.slice at6 ((l2).length) ct6) rfl rfl (wv_n rfl) rfl (fun _ _ hρ _ => r_assign (hρ _ _ rfl))) all_nil)) (end_old rfl rfl (end_old rfl rfl (end_old rfl rfl (end_new 8 rfl rfl (end_new 10 rfl rfl end_nil))))) (fun a w hf hm => At_intro (n1, b1, at6, ct6, B3) ⟨hfn1, trivial⟩ hf hm (sub_cons rfl (sub_cons rfl (sub_cons rfl (sub_cons rfl (sub_cons rfl sub_nil))))) (sub_cons rfl (sub_cons rfl (sub_cons rfl (sub_cons rfl (sub_cons rfl sub_nil))))))
      · skip
        refine LOb_new 2 (.cells #[.slice none 0 0, .int .u64 0] 27) (fun B => .pointer (some ⟨B, 0, none⟩)) (fun B => []) rfl (wv_n rfl) rfl rfl (fun _ _ _ _ => r_alloc (v := .agg #[.slice none 0 0, .int .u64 0]) (by kernel_rfl) rfl) (fun B => by kernel_rfl) ?_
        intro B4
        refine G_step [2, 3, 4, 5, 6] 7 [] (by kernel_rfl) (allM (all_cons (q_run (.slice b ys.length capb) rfl rfl (wv_n rfl) rfl (fun _ _ hρ _ => r_move (hρ _ _ rfl))) (all_cons (q_run (.slice b ys.length capb) rfl rfl (wv_n rfl) rfl (fun _ _ hρ _ => r_move (hρ _ _ rfl))) (all_cons (q_run (.int .i64 ((ys.length : Nat) : Int)) rfl rfl (wv_n rfl) rfl (fun _ _ hρ _ => r_len sl43 (hρ _ _ rfl))) (all_cons (q_run (.int .i64 ((min ys.length 12 : Nat) : Int)) rfl rfl (wv_n rfl) rfl (fun _ _ hρ _ => r_as (r_min (hρ _ _ rfl) (hρ _ _ rfl)) (int_as (minI _ 12)))) (all_cons (q_run (.slice b l2.length capb) rfl rfl (wv_n rfl) rfl (fun ρ _ hρ _ => r_as (r_sliceO sl43 sz48 (hρ _ _ rfl) (bd_none ρ _) (bd_some (n := min ys.length 12) (hρ _ _ rfl)) (bd_none ρ _) (by simp) (by omega) (by omega) (by omega)) (by rw [hn2]; exact slo_zero _ _ _ _))) all_nil)))))) (allM (all_cons ?_ all_nil))
        refine LOb_callN (fun (_ : Option Addr × Nat) => True) (fun (at6, ct6) => .slice at6 ((l2).length) ct6) (fun (at6, ct6) => [(962, .row (.slice at6 ((l2).length) ct6) 48 4 ((l2).length) ((l2).flatMap Trk.cells))]) (fun (at6, ct6) => []) rfl (wv_n rfl) rfl rfl (fun _ _ hρ _ => r_call (args := [.slice b l2.length capb]) (enters_of Try.func21 (by kernel_rfl) rfl) (hρ _ _ rfl) ((cons2 (hρ _ _ rfl) rfl)) rfl) (fun w hm => (clone_t Trk.cells Trk.cells_len Trk.cells_one l2 b capb w (hs2.keep hm.ext) (by omega)).mono fun e w' ⟨a', cap', he, hb, hr⟩ => ⟨(a', cap'), trivial, he, hb, newOk1 962 hr⟩) (fun (at6, ct6) => by kernel_rfl) ?_
        rintro ⟨at6, ct6⟩ -
        refine G_step [] 9 [] (by kernel_rfl) (allM all_nil) (allM (all_cons ?_ all_nil))
        refine LOb_store 2 (.cells #[.slice n1.a n1.l.length n1.cap, .int .u64 lost] 27) [(10, .slice at6 ((l2).length) ct6)] rfl (wv_n rfl) rfl rfl rfl (fun _ _ hρ hm => r_store sz27 (hρ _ _ rfl) (hρ _ _ rfl) (hm.at 2 rfl) rfl rfl rfl rfl) (by kernel_rfl) ?_
        exact G_lastQ [10] [(1, .slice b ys.length capb), (2, .pointer (some ⟨B1, 0, none⟩)), (4, .bool false), (5, .pointer (some ⟨B4, 0, none⟩)), (6, .slice at6 ((l2).length) ct6)] (by kernel_rfl) (allM (all_cons (q_run (.slice at6 ((l2).length) ct6) rfl rfl (wv_n rfl) rfl (fun _ _ hρ _ => r_assign (hρ _ _ rfl))) all_nil)) (end_old rfl rfl (end_old rfl rfl (end_old rfl rfl (end_new 8 rfl rfl (end_new 10 rfl rfl end_nil))))) (fun a w hf hm => At_intro (n1, b1, at6, ct6, B4) ⟨hfn1, trivial⟩ hf hm (sub_cons rfl (sub_cons rfl (sub_cons rfl (sub_cons rfl (sub_cons rfl sub_nil))))) (sub_cons rfl (sub_cons rfl (sub_cons rfl (sub_cons rfl (sub_cons rfl sub_nil))))))
    · skip
      refine LOb_new 2 (.cells #[.slice none 0 0, .int .u64 0] 27) (fun B => .pointer (some ⟨B, 0, none⟩)) (fun B => []) rfl (wv_n rfl) rfl rfl (fun _ _ _ _ => r_alloc (v := .agg #[.slice none 0 0, .int .u64 0]) (by kernel_rfl) rfl) (fun B => by kernel_rfl) ?_
      intro B5
      refine G_step [0, 2, 3, 4, 5, 6] 1 [] (by kernel_rfl) (allM (all_cons (q_run (.agg #[.slice a xs.length cap, .int .u64 lost]) rfl rfl (wv_n rfl) rfl (fun _ _ hρ hm => r_loadA ag27 sz27 (hρ _ _ rfl) (hm.at 1 rfl) rfl rfl)) (all_cons (q_run (.slice b ys.length capb) rfl rfl (wv_n rfl) rfl (fun _ _ hρ _ => r_move (hρ _ _ rfl))) (all_cons (q_run (.slice b ys.length capb) rfl rfl (wv_n rfl) rfl (fun _ _ hρ _ => r_move (hρ _ _ rfl))) (all_cons (q_run (.int .i64 ((ys.length : Nat) : Int)) rfl rfl (wv_n rfl) rfl (fun _ _ hρ _ => r_len sl43 (hρ _ _ rfl))) (all_cons (q_run (.int .i64 ((min ys.length 12 : Nat) : Int)) rfl rfl (wv_n rfl) rfl (fun _ _ hρ _ => r_as (r_min (hρ _ _ rfl) (hρ _ _ rfl)) (int_as (minI _ 12)))) (all_cons (q_run (.slice b l2.length capb) rfl rfl (wv_n rfl) rfl (fun ρ _ hρ _ => r_as (r_sliceO sl43 sz48 (hρ _ _ rfl) (bd_none ρ _) (bd_some (n := min ys.length 12) (hρ _ _ rfl)) (bd_none ρ _) (by simp) (by omega) (by omega) (by omega)) (by rw [hn2]; exact slo_zero _ _ _ _))) all_nil))))))) (allM (all_cons ?_ all_nil))
      refine LOb_callN (fun ((n1, b1) : NetR × List (RowG By)) => pvs n1.l = fewV (pvs xs) ∧ InB b1 n1.l) (fun (n1, b1) => .agg #[.slice n1.a n1.l.length n1.cap, .int .u64 lost]) (fun (n1, b1) => [(960, .row (.slice n1.a n1.l.length n1.cap) 36 3 n1.l.length (n1.l.flatMap Pcl.cells)), (961, .pool 5 1 byc b1)]) (fun (n1, b1) => []) rfl (wv_n rfl) rfl rfl (fun _ _ hρ _ => r_call (args := [.agg #[.slice a xs.length cap, .int .u64 lost]]) (enters_of Try.func20 (by kernel_rfl) rfl) (hρ _ _ rfl) ((cons2 (hρ _ _ rfl) rfl)) rfl) (fun w hm => (own_c xs a cap lost w (hv.keep hm.ext) hcap (fun p hp => ⟨(hx p hp).1.keep hm.ext, (hx p hp).2⟩)).mono fun e w' ⟨n, bs, hf, hi, he, hb, r1, r2, hs⟩ => ⟨(n, bs), ⟨hf, hi⟩, he, hb, newOk2 960 961 r1 r2 hs⟩) (fun (n1, b1) => by kernel_rfl) ?_
      rintro ⟨n1, b1⟩ hfn1
      refine G_step [2, 3, 4, 5, 6] 7 [] (by kernel_rfl) (allM (all_cons (q_run (.slice b ys.length capb) rfl rfl (wv_n rfl) rfl (fun _ _ hρ _ => r_move (hρ _ _ rfl))) (all_cons (q_run (.slice b ys.length capb) rfl rfl (wv_n rfl) rfl (fun _ _ hρ _ => r_move (hρ _ _ rfl))) (all_cons (q_run (.int .i64 ((ys.length : Nat) : Int)) rfl rfl (wv_n rfl) rfl (fun _ _ hρ _ => r_len sl43 (hρ _ _ rfl))) (all_cons (q_run (.int .i64 ((min ys.length 12 : Nat) : Int)) rfl rfl (wv_n rfl) rfl (fun _ _ hρ _ => r_as (r_min (hρ _ _ rfl) (hρ _ _ rfl)) (int_as (minI _ 12)))) (all_cons (q_run (.slice b l2.length capb) rfl rfl (wv_n rfl) rfl (fun ρ _ hρ _ => r_as (r_sliceO sl43 sz48 (hρ _ _ rfl) (bd_none ρ _) (bd_some (n := min ys.length 12) (hρ _ _ rfl)) (bd_none ρ _) (by simp) (by omega) (by omega) (by omega)) (by rw [hn2]; exact slo_zero _ _ _ _))) all_nil)))))) (allM (all_cons ?_ all_nil))
      refine LOb_callN (fun (_ : Option Addr × Nat) => True) (fun (at6, ct6) => .slice at6 ((l2).length) ct6) (fun (at6, ct6) => [(962, .row (.slice at6 ((l2).length) ct6) 48 4 ((l2).length) ((l2).flatMap Trk.cells))]) (fun (at6, ct6) => []) rfl (wv_n rfl) rfl rfl (fun _ _ hρ _ => r_call (args := [.slice b l2.length capb]) (enters_of Try.func21 (by kernel_rfl) rfl) (hρ _ _ rfl) ((cons2 (hρ _ _ rfl) rfl)) rfl) (fun w hm => (clone_t Trk.cells Trk.cells_len Trk.cells_one l2 b capb w (hs2.keep hm.ext) (by omega)).mono fun e w' ⟨a', cap', he, hb, hr⟩ => ⟨(a', cap'), trivial, he, hb, newOk1 962 hr⟩) (fun (at6, ct6) => by kernel_rfl) ?_
      rintro ⟨at6, ct6⟩ -
      refine G_step [] 9 [] (by kernel_rfl) (allM all_nil) (allM (all_cons ?_ all_nil))
      refine LOb_store 2 (.cells #[.slice n1.a n1.l.length n1.cap, .int .u64 lost] 27) [(10, .slice at6 ((l2).length) ct6)] rfl (wv_n rfl) rfl rfl rfl (fun _ _ hρ hm => r_store sz27 (hρ _ _ rfl) (hρ _ _ rfl) (hm.at 2 rfl) rfl rfl rfl rfl) (by kernel_rfl) ?_
      exact G_lastQ [10] [(1, .slice b ys.length capb), (2, .pointer (some ⟨B1, 0, none⟩)), (4, .bool false), (5, .pointer (some ⟨B5, 0, none⟩)), (6, .slice at6 ((l2).length) ct6)] (by kernel_rfl) (allM (all_cons (q_run (.slice at6 ((l2).length) ct6) rfl rfl (wv_n rfl) rfl (fun _ _ hρ _ => r_assign (hρ _ _ rfl))) all_nil)) (end_old rfl rfl (end_old rfl rfl (end_old rfl rfl (end_new 8 rfl rfl (end_new 10 rfl rfl end_nil))))) (fun a w hf hm => At_intro (n1, b1, at6, ct6, B5) ⟨hfn1, trivial⟩ hf hm (sub_cons rfl (sub_cons rfl (sub_cons rfl (sub_cons rfl (sub_cons rfl sub_nil))))) (sub_cons rfl (sub_cons rfl (sub_cons rfl (sub_cons rfl (sub_cons rfl sub_nil))))))
  · skip
    obtain ⟨n1, b1, at6, ct6, Bx8⟩ := z
    obtain ⟨hfn1, _⟩ := hz
    show T _ _ _ [(1, .slice b ys.length capb), (2, .pointer (some ⟨B1, 0, none⟩)), (4, .bool false), (5, .pointer (some ⟨Bx8, 0, none⟩)), (6, .slice at6 ((l2).length) ct6)] [(1, .blk B1 (.cells #[.slice a xs.length cap, .int .u64 lost] 27)), (2, .blk Bx8 (.cells #[.slice n1.a n1.l.length n1.cap, .int .u64 lost] 27)), (960, .row (.slice n1.a n1.l.length n1.cap) 36 3 n1.l.length (n1.l.flatMap Pcl.cells)), (961, .pool 5 1 byc b1), (962, .row (.slice at6 ((l2).length) ct6) 48 4 ((l2).length) ((l2).flatMap Trk.cells))]
    refine T_mem (_ :: _ :: _) (fun _ hm => hm.netShelf 960 961 rfl rfl rfl hfn1.2) ?_
    obtain ⟨ns, hns⟩ : ∃ l, l = [n1] := ⟨_, rfl⟩
    rw [← hns]
    have hA : n1 ∈ ns := by rw [hns]; exact List.mem_singleton.2 rfl
    have hn1l := few_le hfn1.1
    by_cases hck : checkV (pvs n1.l) lost = true
    · skip
      refine T_seq (T_region ?_)
      refine TL_q (.agg #[.slice n1.a n1.l.length n1.cap, .int .u64 lost]) (fun _ _ hρ hm => r_loadA ag27 sz27 (hρ _ _ rfl) (hm.at 2 rfl) rfl rfl) rfl rfl rfl (w_n rfl) ?_
      refine TL_call (.bool true) (fun _ _ hρ _ => r_call (args := [.agg #[.slice n1.a n1.l.length n1.cap, .int .u64 lost]]) (enters_of Try.func22 (by kernel_rfl) rfl) (hρ _ _ rfl) ((cons2 (hρ _ _ rfl) rfl)) rfl) (fun w hm => (nright_c n1.l n1.a n1.cap lost w (hm.netAt 960 rfl hA).1 (hm.netAt 960 rfl hA).2.1 (hm.netAt 960 rfl hA).2.2).mono fun _ _ h => ⟨h.1.trans (congrArg Ending.returned (bool_as hck)), h.2⟩) rfl rfl rfl (w_n rfl) ?_
      refine TL_q (.bool true) (fun _ _ hρ _ => r_assign (hρ _ _ rfl)) rfl rfl rfl (w_n rfl) ?_
      refine TL_seq ?_
      refine T_seq (T_region ?_)
      refine TL_q (.agg #[.slice n1.a n1.l.length n1.cap, .int .u64 lost]) (fun _ _ hρ hm => r_loadA ag27 sz27 (hρ _ _ rfl) (hm.at 2 rfl) rfl rfl) rfl rfl rfl (w_n rfl) ?_
      refine TL_new 3 (.cells #[.slice none 0 0, .int .u64 0] 27) (fun B => .pointer (some ⟨B, 0, none⟩)) (fun _ _ _ _ => r_alloc (v := .agg #[.slice none 0 0, .int .u64 0]) (by kernel_rfl) rfl) rfl rfl rfl (w_n rfl) ?_
      intro B6
      refine TL_store 3 (.cells #[.slice n1.a n1.l.length n1.cap, .int .u64 lost] 27) rfl (fun _ _ hρ hm => r_store sz27 (hρ _ _ rfl) (hρ _ _ rfl) (hm.at 3 rfl) rfl rfl rfl rfl) rfl rfl (w_n rfl) ?_
      refine TL_q (.int .i64 0) (fun _ _ hρ _ => r_assign (hρ _ _ rfl)) rfl rfl rfl (w_n rfl) ?_
      refine TL_seq ?_
      refine T_seq (T_region ?_)
      refine TL_q (.slice none 0 0) (fun _ _ hρ _ => r_assign (hρ _ _ rfl)) rfl rfl rfl (w_n rfl) ?_
      refine TL_seq ?_
      refine T_seq ?_
      refine T_seq (T_region ?_)
      refine TL_q (.slice at6 ((l2).length) ct6) (fun _ _ hρ _ => r_move (hρ _ _ rfl)) rfl rfl rfl (w_n rfl) ?_
      refine TL_q (.int .i64 (((l2).length : Nat) : Int)) (fun _ _ hρ _ => r_len sl43 (hρ _ _ rfl)) rfl rfl rfl (w_n rfl) ?_
      refine TL_q (.int .i64 0) (fun _ _ hρ _ => r_move (hρ _ _ rfl)) rfl rfl rfl (w_n rfl) ?_
      refine TL_seq ?_
      refine T_block ?_
      refine T_mem (_ :: _) (fun _ hm => hm.nilRow 963 36 3) ?_
      refine T_loop (ι := Nat × Option Addr × Nat × List Pcl × Int × Option Addr × Nat × List Pcl × List NetR × Int) (fun (z : Nat × Option Addr × Nat × List Pcl × Int × Option Addr × Nat × List Pcl × List NetR × Int) => match z with | (k, aa, ac, al, alo, la, lc, als, ns, ov) => k ≤ l2.length ∧ (⟨aa, ac, al⟩ : NetR) ∈ ns ∧ n1 ∈ ns ∧ checkV (pvs al) alo = true ∧ 0 ≤ alo ∧ runV (pvs n1.l, lost) (l2.take k) = ((pvs al, alo), pvs als, ov) ∧ (∀ p ∈ als, ∃ m ∈ ns, p ∈ m.l) ∧ als.length ≤ k ∧ 0 ≤ ov ∧ ov ≤ k) (fun (z : Nat × Option Addr × Nat × List Pcl × Int × Option Addr × Nat × List Pcl × List NetR × Int) => match z with | (k, aa, ac, al, alo, la, lc, als, ns, ov) => [(1, .slice b ys.length capb), (2, .pointer (some ⟨B1, 0, none⟩)), (5, .pointer (some ⟨Bx8, 0, none⟩)), (6, .slice at6 ((l2).length) ct6), (7, .bool true), (8, .pointer (some ⟨B6, 0, none⟩)), (39, .slice at6 ((l2).length) ct6), (40, .int .i64 (((l2).length : Nat) : Int)), (41, .int .i64 ((k : Nat) : Int)), (9, .int .i64 ov), (10, .slice la als.length lc)]) (fun (z : Nat × Option Addr × Nat × List Pcl × Int × Option Addr × Nat × List Pcl × List NetR × Int) => match z with | (k, aa, ac, al, alo, la, lc, als, ns, ov) => [(961, .no), (1, .blk B1 (.cells #[.slice a xs.length cap, .int .u64 lost] 27)), (2, .blk Bx8 (.cells #[.slice n1.a n1.l.length n1.cap, .int .u64 lost] 27)), (962, .row (.slice at6 ((l2).length) ct6) 48 4 ((l2).length) ((l2).flatMap Trk.cells)), (3, .blk B6 (.cells #[.slice aa al.length ac, .int .u64 alo] 27)), (960, .nets ns), (963, .row (.slice la als.length lc) 36 3 als.length (als.flatMap Pcl.cells))]) (fun (z : Nat × Option Addr × Nat × List Pcl × Int × Option Addr × Nat × List Pcl × List NetR × Int) => match z with | (k, aa, ac, al, alo, la, lc, als, ns, ov) => l2.length - k) (0, n1.a, n1.cap, n1.l, lost, none, 0, [], ns, 0) ⟨Nat.zero_le _, hA, hA, hck, h0, rfl, (fun _ h => nomatch h), Nat.le_refl _, Int.le_refl _, Int.le_refl _⟩ (sub_cons rfl (sub_cons rfl (sub_cons rfl (sub_cons rfl (sub_cons rfl (sub_cons rfl (sub_cons rfl (sub_cons rfl (sub_cons rfl (sub_cons rfl (sub_cons rfl sub_nil))))))))))) (sub_cons rfl (sub_cons rfl (sub_cons rfl (sub_cons rfl (sub_cons rfl (sub_cons rfl (sub_cons rfl sub_nil))))))) ?_
      rintro ⟨k, aa, ac, al, alo, la, lc, als, ns, ov⟩ hp
      obtain ⟨hk, ha, hA, hck9, halo, hrun, hals, hlal, hov1, hov2⟩ := hp
      have hal9 := (checkV_len hck9).1
      rw [pvs_len] at hal9
      show T _ _ _ [(1, .slice b ys.length capb), (2, .pointer (some ⟨B1, 0, none⟩)), (5, .pointer (some ⟨Bx8, 0, none⟩)), (6, .slice at6 ((l2).length) ct6), (7, .bool true), (8, .pointer (some ⟨B6, 0, none⟩)), (39, .slice at6 ((l2).length) ct6), (40, .int .i64 (((l2).length : Nat) : Int)), (41, .int .i64 ((k : Nat) : Int)), (9, .int .i64 ov), (10, .slice la als.length lc)] [(961, .no), (1, .blk B1 (.cells #[.slice a xs.length cap, .int .u64 lost] 27)), (2, .blk Bx8 (.cells #[.slice n1.a n1.l.length n1.cap, .int .u64 lost] 27)), (962, .row (.slice at6 ((l2).length) ct6) 48 4 ((l2).length) ((l2).flatMap Trk.cells)), (3, .blk B6 (.cells #[.slice aa al.length ac, .int .u64 alo] 27)), (960, .nets ns), (963, .row (.slice la als.length lc) 36 3 als.length (als.flatMap Pcl.cells))]
      refine T_seq (T_region ?_)
      refine TL_q (.bool (decide (((k : Nat) : Int) < (((l2).length : Nat) : Int)))) (fun _ _ hρ _ => r_lss (hρ _ _ rfl) (hρ _ _ rfl)) rfl rfl rfl (w_n rfl) ?_
      refine TL_seq ?_
      refine T_seq ?_
      refine T_cond rfl (fun h1 => ?_) (fun h1 => ?_)
      · replace h1 := of_decide_eq_true h1
        refine T_skip' ?_
        refine p_seq ?_
        refine T_seq ?_
        refine T_block ?_
        obtain ⟨t, ht⟩ : ∃ x, l2[k]? = some x := ⟨_, List.getElem?_eq_getElem (by omega)⟩
        refine T_open (fun _ hm => (SliceAt.own Trk.cells_len (hm.row 962 rfl) rfl rfl)) (by omega) (fun b7 of7 ha7 => ?_)
        subst ha7
        refine T_seq (T_region ?_)
        refine TL_q (.pointer (some ⟨b7, of7 + k * 4, none⟩)) (fun _ _ hρ _ => r_indexAddrS (i := k) sl43 sz48 (hρ _ _ rfl) (hρ _ _ rfl) (by omega)) rfl rfl rfl (w_n rfl) ?_
        refine TL_q (.agg #[.int .i64 t.kind, .int .i64 t.at', .int .i64 t.bit, .int .u32 ((t.mask).toNat : Int)]) (fun _ _ hρ hm => r_loadS (f := Trk.cells) (u := t) (l := l2) (i := k) ag48 sz48 (hρ _ _ rfl) (SliceAt.own Trk.cells_len (hm.row 962 rfl) rfl rfl) ht) rfl rfl rfl (w_n rfl) ?_
        refine TL_new 4 (.cells #[.int .i64 0, .int .i64 0, .int .i64 0, .int .u32 0] 48) (fun B => .pointer (some ⟨B, 0, none⟩)) (fun _ _ _ _ => r_alloc (v := .agg #[.int .i64 0, .int .i64 0, .int .i64 0, .int .u32 0]) (by kernel_rfl) rfl) rfl rfl rfl (w_n rfl) ?_
        intro B8
        refine TL_store 4 (.cells #[.int .i64 t.kind, .int .i64 t.at', .int .i64 t.bit, .int .u32 ((t.mask).toNat : Int)] 48) rfl (fun _ _ hρ hm => r_store sz48 (hρ _ _ rfl) (hρ _ _ rfl) (hm.at 4 rfl) rfl rfl rfl rfl) rfl rfl (w_n rfl) ?_
        refine TL_seq ?_
        by_cases hz : (doV (pvs al, alo) t).1 = 0
        · skip
          refine T_seq (T_region ?_)
          refine TL_q (.agg #[.slice aa al.length ac, .int .u64 alo]) (fun _ _ hρ hm => r_loadA ag27 sz27 (hρ _ _ rfl) (hm.at 3 rfl) rfl rfl) rfl rfl rfl (w_n rfl) ?_
          refine TL_q (.agg #[.int .i64 t.kind, .int .i64 t.at', .int .i64 t.bit, .int .u32 ((t.mask).toNat : Int)]) (fun _ _ hρ hm => r_loadA ag48 sz48 (hρ _ _ rfl) (hm.at 4 rfl) rfl rfl) rfl rfl rfl (w_n rfl) ?_
          refine TL_callN (fun x : Hd × List (RowG By) × Pcl => NetIs (doV (pvs al, alo) t).2.1 (x.1, x.2.1) ∧ x.2.2.pv = toldV (doV (pvs al, alo) t).2.2 ∧ (x.2.2.r ∈ x.2.1 ∧ x.2.2.r.l.length ≤ 10000 ∨ x.2.2.r = ⟨none, 0, []⟩)) (fun (h8, b8, q8) => .tuple #[.agg #[.slice h8.n.a h8.n.l.length h8.n.cap, .int .u64 h8.lost], .agg #[.int .i64 q8.to, .slice q8.r.a q8.r.l.length q8.r.cap, .bool q8.sp], .int .i64 0]) (fun (h8, b8, q8) => [(901, .row (.slice h8.n.a h8.n.l.length h8.n.cap) 36 3 h8.n.l.length (h8.n.l.flatMap Pcl.cells)), (903, .pool 5 1 byc b8)]) (fun _ _ hρ _ => r_call (args := [.agg #[.slice aa al.length ac, .int .u64 alo], .agg #[.int .i64 t.kind, .int .i64 t.at', .int .i64 t.bit, .int .u32 ((t.mask).toNat : Int)]]) (enters_of Try.func23 (by kernel_rfl) rfl) (hρ _ _ rfl) ((cons2 (hρ _ _ rfl) (cons2 (hρ _ _ rfl) rfl))) rfl) (fun w hm => (do_ok al aa ac alo t.kind t.at' t.bit t.mask w (hm.netAt 960 rfl ha).1 (hm.netAt 960 rfl ha).2.1 (hm.netAt 960 rfl ha).2.2 halo hck9 hz).mono fun e w' ⟨⟨h, bs⟩, q, hk, ht, hi, he, hb, hn⟩ => ⟨(h, bs, q), ⟨hk, ht, hi⟩, he, hb, newOk2 901 903 hn.row hn.pool hn.sep⟩) rfl rfl rfl (w_n rfl) ?_
          rintro ⟨h8, b8, q8⟩ ⟨hk8, hq8, hi8⟩
          refine TL_q (.tuple #[.agg #[.slice h8.n.a h8.n.l.length h8.n.cap, .int .u64 h8.lost], .agg #[.int .i64 q8.to, .slice q8.r.a q8.r.l.length q8.r.cap, .bool q8.sp], .int .i64 0]) (fun _ _ hρ _ => r_move (hρ _ _ rfl)) rfl rfl rfl (w_n rfl) ?_
          refine TL_q (.agg #[.slice h8.n.a h8.n.l.length h8.n.cap, .int .u64 h8.lost]) (fun _ _ hρ _ => r_extract (hρ _ _ rfl) rfl) rfl rfl rfl (w_n rfl) ?_
          refine TL_q (.agg #[.int .i64 q8.to, .slice q8.r.a q8.r.l.length q8.r.cap, .bool q8.sp]) (fun _ _ hρ _ => r_extract (hρ _ _ rfl) rfl) rfl rfl rfl (w_n rfl) ?_
          refine TL_q (.int .i64 0) (fun _ _ hρ _ => r_extract (hρ _ _ rfl) rfl) rfl rfl rfl (w_n rfl) ?_
          refine TL_new 5 (.cells #[.slice none 0 0, .int .u64 0] 27) (fun B => .pointer (some ⟨B, 0, none⟩)) (fun _ _ _ _ => r_alloc (v := .agg #[.slice none 0 0, .int .u64 0]) (by kernel_rfl) rfl) rfl rfl rfl (w_n rfl) ?_
          intro B9
          refine TL_new 6 (.cells #[.int .i64 0, .slice none 0 0, .bool false] 36) (fun B => .pointer (some ⟨B, 0, none⟩)) (fun _ _ _ _ => r_alloc (v := .agg #[.int .i64 0, .slice none 0 0, .bool false]) (by kernel_rfl) rfl) rfl rfl rfl (w_n rfl) ?_
          intro B10
          refine TL_store 5 (.cells #[.slice h8.n.a h8.n.l.length h8.n.cap, .int .u64 h8.lost] 27) rfl (fun _ _ hρ hm => r_store sz27 (hρ _ _ rfl) (hρ _ _ rfl) (hm.at 5 rfl) rfl rfl rfl rfl) rfl rfl (w_n rfl) ?_
          refine TL_store 6 (.cells #[.int .i64 q8.to, .slice q8.r.a q8.r.l.length q8.r.cap, .bool q8.sp] 36) rfl (fun _ _ hρ hm => r_store sz36 (hρ _ _ rfl) (hρ _ _ rfl) (hm.at 6 rfl) rfl rfl rfl rfl) rfl rfl (w_n rfl) ?_
          refine TL_q (.int .i64 0) (fun _ _ hρ _ => r_assign (hρ _ _ rfl)) rfl rfl rfl (w_n rfl) ?_
          refine TL_seq ?_
          refine T_seq (T_region ?_)
          refine TL_new 7 (.cells #[.slice none 0 0, .int .u64 0] 27) (fun B => .pointer (some ⟨B, 0, none⟩)) (fun _ _ _ _ => r_alloc (v := .agg #[.slice none 0 0, .int .u64 0]) (by kernel_rfl) rfl) rfl rfl rfl (w_n rfl) ?_
          intro B11
          refine TL_seq ?_
          refine T_seq (T_region ?_)
          refine TL_new 8 (.cells #[.int .i64 0, .slice none 0 0, .bool false] 36) (fun B => .pointer (some ⟨B, 0, none⟩)) (fun _ _ _ _ => r_alloc (v := .agg #[.int .i64 0, .slice none 0 0, .bool false]) (by kernel_rfl) rfl) rfl rfl rfl (w_n rfl) ?_
          intro B12
          refine TL_seq ?_
          refine T_seq (T_region ?_)
          refine TL_q (.int .i64 350) (fun _ _ hρ _ => r_assign (hρ _ _ rfl)) rfl rfl rfl (w_n rfl) ?_
          refine TL_seq ?_
          refine T_seq ?_
          refine T_seq (T_region ?_)
          refine TL_q (.bool true) (fun _ _ hρ _ => r_move (hρ _ _ rfl)) rfl rfl rfl (w_n rfl) ?_
          refine TL_seq ?_
          refine T_cond_t rfl ?_
          refine T_region ?_
          refine TL_q (.agg #[.slice aa al.length ac, .int .u64 alo]) (fun _ _ hρ hm => r_loadA ag27 sz27 (hρ _ _ rfl) (hm.at 3 rfl) rfl rfl) rfl rfl rfl (w_n rfl) ?_
          refine TL_q (.agg #[.int .i64 t.kind, .int .i64 t.at', .int .i64 t.bit, .int .u32 ((t.mask).toNat : Int)]) (fun _ _ hρ hm => r_loadA ag48 sz48 (hρ _ _ rfl) (hm.at 4 rfl) rfl rfl) rfl rfl rfl (w_n rfl) ?_
          refine TL_callH (fun x : NetR × Int × Pcl => (pvs x.1.l, x.2.1) = (doV (pvs al, alo) t).2.1 ∧ x.2.2.pv = toldV (doV (pvs al, alo) t).2.2 ∧ (x.2.2 ∈ al ∨ x.2.2 = ⟨0, ⟨none, 0, []⟩, false⟩ ∧ ¬ t.kind = 1)) (fun x => .tuple #[.agg #[.slice x.1.a x.1.l.length x.1.cap, .int .u64 x.2.1], x.2.2.v, .int .i64 0]) (fun x => (960, .nets (x.1 :: ns)) :: _) (fun _ _ hρ _ => r_call (args := [.agg #[.slice aa al.length ac, .int .u64 alo], .agg #[.int .i64 t.kind, .int .i64 t.at', .int .i64 t.bit, .int .u32 ((t.mask).toNat : Int)]]) (enters_of Try.func24 (by kernel_rfl) rfl) (hρ _ _ rfl) ((cons2 (hρ _ _ rfl) (cons2 (hρ _ _ rfl) rfl))) rfl) (fun w hm => (rdo_ok al aa ac alo t w (hm.netAt 960 rfl ha) halo (by omega) hz).mono fun e w' ⟨d, lo, q, h1, h2, h3, he, hn⟩ => ⟨(d, lo, q), ⟨h1, h2, h3⟩, he, MemOk.shAdd (K := netK) hm 960 rfl hn (fun c hc => by rw [List.mem_singleton.1 hc]; exact ha)⟩) rfl rfl rfl (w_n rfl) ?_
          rintro ⟨d13, lo13, q13⟩ hrd13
          have hsm13 : h8.lost = lo13 ∧ pvs h8.n.l = pvs d13.l := ⟨congrArg (·.2) (hk8.nv.trans hrd13.1.symm), congrArg (·.1) (hk8.nv.trans hrd13.1.symm)⟩
          have hsq13 : q8.pv = q13.pv := hq8.trans hrd13.2.1.symm
          refine TL_q (.tuple #[.agg #[.slice d13.a d13.l.length d13.cap, .int .u64 lo13], .agg #[.int .i64 q13.to, .slice q13.r.a q13.r.l.length q13.r.cap, .bool q13.sp], .int .i64 0]) (fun _ _ hρ _ => r_move (hρ _ _ rfl)) rfl rfl rfl (w_n rfl) ?_
          refine TL_q (.agg #[.slice d13.a d13.l.length d13.cap, .int .u64 lo13]) (fun _ _ hρ _ => r_extract (hρ _ _ rfl) rfl) rfl rfl rfl (w_n rfl) ?_
          refine TL_q (.agg #[.int .i64 q13.to, .slice q13.r.a q13.r.l.length q13.r.cap, .bool q13.sp]) (fun _ _ hρ _ => r_extract (hρ _ _ rfl) rfl) rfl rfl rfl (w_n rfl) ?_
          refine TL_q (.int .i64 0) (fun _ _ hρ _ => r_extract (hρ _ _ rfl) rfl) rfl rfl rfl (w_n rfl) ?_
          refine TL_store 7 (.cells #[.slice d13.a d13.l.length d13.cap, .int .u64 lo13] 27) rfl (fun _ _ hρ hm => r_store sz27 (hρ _ _ rfl) (hρ _ _ rfl) (hm.at 7 rfl) rfl rfl rfl rfl) rfl rfl (w_n rfl) ?_
          refine TL_store 8 (.cells #[.int .i64 q13.to, .slice q13.r.a q13.r.l.length q13.r.cap, .bool q13.sp] 36) rfl (fun _ _ hρ hm => r_store sz36 (hρ _ _ rfl) (hρ _ _ rfl) (hm.at 8 rfl) rfl rfl rfl rfl) rfl rfl (w_n rfl) ?_
          refine TL_q (.int .i64 0) (fun _ _ hρ _ => r_assign (hρ _ _ rfl)) rfl rfl rfl (w_n rfl) ?_
          refine TL_nil ?_
          refine p_seq ?_
          refine T_seq ?_
          refine T_seq (T_region ?_)
          refine TL_q (.int .i64 0) (fun _ _ hρ _ => r_move (hρ _ _ rfl)) rfl rfl rfl (w_n rfl) ?_
          refine TL_q (.int .i64 0) (fun _ _ hρ _ => r_move (hρ _ _ rfl)) rfl rfl rfl (w_n rfl) ?_
          refine TL_q (.bool false) (fun _ _ hρ _ => r_as (r_neq (hρ _ _ rfl) (hρ _ _ rfl)) (by rfl)) rfl rfl rfl (w_n rfl) ?_
          refine TL_q (.bool false) (fun _ _ hρ _ => r_move (hρ _ _ rfl)) rfl rfl rfl (w_n rfl) ?_
          refine TL_q (.agg #[.slice h8.n.a h8.n.l.length h8.n.cap, .int .u64 h8.lost]) (fun _ _ hρ hm => r_loadA ag27 sz27 (hρ _ _ rfl) (hm.at 5 rfl) rfl rfl) rfl rfl rfl (want_y 63 rfl rfl rfl) ?_
          refine TL_q (.agg #[.slice d13.a d13.l.length d13.cap, .int .u64 lo13]) (fun _ _ hρ hm => r_loadA ag27 sz27 (hρ _ _ rfl) (hm.at 7 rfl) rfl rfl) rfl rfl rfl (want_y 63 rfl rfl rfl) ?_
          refine TL_call (.bool true) (fun _ _ hρ _ => r_call (args := [.agg #[.slice h8.n.a h8.n.l.length h8.n.cap, .int .u64 h8.lost], .agg #[.slice d13.a d13.l.length d13.cap, .int .u64 lo13]]) (enters_of Try.func25 (by kernel_rfl) rfl) (hρ _ _ rfl) ((cons2 (hρ _ _ rfl) (cons2 (hρ _ _ rfl) rfl))) rfl) (fun w hm => (nrsame_c h8.n.l h8.n.a h8.n.cap h8.lost d13.l d13.a d13.cap lo13 w (SliceAt.own Pcl.cells_len (hm.row 901 rfl) rfl rfl) (row_cap (hm.row 901 rfl)) (pcs_pool (hm.pool 903 rfl) hk8.ok.inN) (hm.netAt 960 rfl List.mem_cons_self).1 (hm.netAt 960 rfl List.mem_cons_self).2.1 (hm.netAt 960 rfl List.mem_cons_self).2.2).mono fun _ _ h => ⟨h.1.trans (congrArg Ending.returned (bool_as (decide_eq_true hsm13))), h.2⟩) rfl rfl rfl (want_y 63 rfl rfl rfl) ?_
          refine TL_q (.bool false) (fun _ _ hρ _ => r_not (b := true) (hρ _ _ rfl)) rfl rfl rfl (want_y 63 rfl rfl rfl) ?_
          refine TL_q (.bool false) (fun _ _ hρ _ => r_pick_f (hρ _ _ rfl) (hρ _ _ rfl)) rfl rfl rfl (w_n rfl) ?_
          refine TL_q (.bool false) (fun _ _ hρ _ => r_move (hρ _ _ rfl)) rfl rfl rfl (w_n rfl) ?_
          refine TL_q (.agg #[.int .i64 q8.to, .slice q8.r.a q8.r.l.length q8.r.cap, .bool q8.sp]) (fun _ _ hρ hm => r_loadA ag36 sz36 (hρ _ _ rfl) (hm.at 6 rfl) rfl rfl) rfl rfl rfl (want_y 69 rfl rfl rfl) ?_
          refine TL_q (.agg #[.int .i64 q13.to, .slice q13.r.a q13.r.l.length q13.r.cap, .bool q13.sp]) (fun _ _ hρ hm => r_loadA ag36 sz36 (hρ _ _ rfl) (hm.at 8 rfl) rfl rfl) rfl rfl rfl (want_y 69 rfl rfl rfl) ?_
          refine TL_call (.bool true) (fun _ _ hρ _ => r_call (args := [.agg #[.int .i64 q8.to, .slice q8.r.a q8.r.l.length q8.r.cap, .bool q8.sp], .agg #[.int .i64 q13.to, .slice q13.r.a q13.r.l.length q13.r.cap, .bool q13.sp]]) (enters_of Try.func26 (by kernel_rfl) rfl) (hρ _ _ rfl) ((cons2 (hρ _ _ rfl) (cons2 (hρ _ _ rfl) rfl))) rfl) (fun w hm => (rpsame_c q8 q13 w (told_ok (hm.pool 903 rfl) hi8) (rtold_ok (hm.netAt 960 rfl (List.mem_cons_of_mem _ ha)) hrd13.2.2)).mono fun _ _ h => ⟨h.1.trans (congrArg Ending.returned (bool_as (decide_eq_true hsq13))), h.2⟩) rfl rfl rfl (want_y 69 rfl rfl rfl) ?_
          refine TL_q (.bool false) (fun _ _ hρ _ => r_not (b := true) (hρ _ _ rfl)) rfl rfl rfl (want_y 69 rfl rfl rfl) ?_
          refine TL_q (.bool false) (fun _ _ hρ _ => r_pick_f (hρ _ _ rfl) (hρ _ _ rfl)) rfl rfl rfl (w_n rfl) ?_
          refine TL_seq ?_
          refine T_sub [(1, .slice b ys.length capb), (2, .pointer (some ⟨B1, 0, none⟩)), (5, .pointer (some ⟨Bx8, 0, none⟩)), (6, .slice (some ⟨b7, of7, none⟩) ((l2).length) ct6), (7, .bool true), (8, .pointer (some ⟨B6, 0, none⟩)), (39, .slice (some ⟨b7, of7, none⟩) ((l2).length) ct6), (40, .int .i64 (((l2).length : Nat) : Int)), (41, .int .i64 ((k : Nat) : Int)), (9, .int .i64 ov), (10, .slice la als.length lc), (42, .bool (decide (((k : Nat) : Int) < (((l2).length : Nat) : Int)))), (43, .pointer (some ⟨b7, of7 + k * 4, none⟩)), (44, .agg #[.int .i64 t.kind, .int .i64 t.at', .int .i64 t.bit, .int .u32 ((t.mask).toNat : Int)]), (12, .pointer (some ⟨B8, 0, none⟩)), (46, .agg #[.slice aa al.length ac, .int .u64 alo]), (47, .agg #[.int .i64 t.kind, .int .i64 t.at', .int .i64 t.bit, .int .u32 ((t.mask).toNat : Int)]), (48, .tuple #[.agg #[.slice h8.n.a h8.n.l.length h8.n.cap, .int .u64 h8.lost], .agg #[.int .i64 q8.to, .slice q8.r.a q8.r.l.length q8.r.cap, .bool q8.sp], .int .i64 0]), (45, .tuple #[.agg #[.slice h8.n.a h8.n.l.length h8.n.cap, .int .u64 h8.lost], .agg #[.int .i64 q8.to, .slice q8.r.a q8.r.l.length q8.r.cap, .bool q8.sp], .int .i64 0]), (49, .agg #[.slice h8.n.a h8.n.l.length h8.n.cap, .int .u64 h8.lost]), (50, .agg #[.int .i64 q8.to, .slice q8.r.a q8.r.l.length q8.r.cap, .bool q8.sp]), (51, .int .i64 0), (13, .pointer (some ⟨B9, 0, none⟩)), (14, .pointer (some ⟨B10, 0, none⟩)), (15, .int .i64 0), (16, .pointer (some ⟨B11, 0, none⟩)), (17, .pointer (some ⟨B12, 0, none⟩)), (52, .bool true), (54, .agg #[.slice aa al.length ac, .int .u64 alo]), (55, .agg #[.int .i64 t.kind, .int .i64 t.at', .int .i64 t.bit, .int .u32 ((t.mask).toNat : Int)]), (56, .tuple #[.agg #[.slice d13.a d13.l.length d13.cap, .int .u64 lo13], .agg #[.int .i64 q13.to, .slice q13.r.a q13.r.l.length q13.r.cap, .bool q13.sp], .int .i64 0]), (53, .tuple #[.agg #[.slice d13.a d13.l.length d13.cap, .int .u64 lo13], .agg #[.int .i64 q13.to, .slice q13.r.a q13.r.l.length q13.r.cap, .bool q13.sp], .int .i64 0]), (57, .agg #[.slice d13.a d13.l.length d13.cap, .int .u64 lo13]), (58, .agg #[.int .i64 q13.to, .slice q13.r.a q13.r.l.length q13.r.cap, .bool q13.sp]), (59, .int .i64 0), (18, .int .i64 0), (60, .int .i64 0), (61, .int .i64 0), (62, .bool false), (63, .bool false), (64, .agg #[.slice h8.n.a h8.n.l.length h8.n.cap, .int .u64 h8.lost]), (65, .agg #[.slice d13.a d13.l.length d13.cap, .int .u64 lo13]), (66, .bool true), (67, .bool false), (68, .bool false), (69, .bool false), (70, .agg #[.int .i64 q8.to, .slice q8.r.a q8.r.l.length q8.r.cap, .bool q8.sp]), (71, .agg #[.int .i64 q13.to, .slice q13.r.a q13.r.l.length q13.r.cap, .bool q13.sp]), (72, .bool true), (73, .bool false), (74, .bool false)] [(960, .nets (d13 :: ns)), (901, .row (.slice h8.n.a h8.n.l.length h8.n.cap) 36 3 h8.n.l.length (h8.n.l.flatMap Pcl.cells)), (903, .pool 5 1 byc b8), (961, .no), (1, .blk B1 (.cells #[.slice a xs.length cap, .int .u64 lost] 27)), (2, .blk Bx8 (.cells #[.slice n1.a n1.l.length n1.cap, .int .u64 lost] 27)), (962, .row (.slice (some ⟨b7, of7, none⟩) ((l2).length) ct6) 48 4 ((l2).length) ((l2).flatMap Trk.cells)), (3, .blk B6 (.cells #[.slice aa al.length ac, .int .u64 alo] 27)), (963, .row (.slice la als.length lc) 36 3 als.length (als.flatMap Pcl.cells)), (4, .blk B8 (.cells #[.int .i64 t.kind, .int .i64 t.at', .int .i64 t.bit, .int .u32 ((t.mask).toNat : Int)] 48)), (5, .blk B9 (.cells #[.slice h8.n.a h8.n.l.length h8.n.cap, .int .u64 h8.lost] 27)), (6, .blk B10 (.cells #[.int .i64 q8.to, .slice q8.r.a q8.r.l.length q8.r.cap, .bool q8.sp] 36)), (7, .blk B11 (.cells #[.slice d13.a d13.l.length d13.cap, .int .u64 lo13] 27)), (8, .blk B12 (.cells #[.int .i64 q13.to, .slice q13.r.a q13.r.l.length q13.r.cap, .bool q13.sp] 36))] (sub_cons rfl (sub_cons rfl (sub_cons rfl (sub_cons rfl (sub_cons rfl (sub_cons rfl (sub_cons rfl (sub_cons rfl (sub_cons rfl (sub_cons rfl (sub_cons rfl (sub_cons rfl (sub_cons rfl (sub_cons rfl (sub_cons rfl (sub_cons rfl (sub_cons rfl (sub_cons rfl (sub_cons rfl (sub_cons rfl (sub_cons rfl (sub_cons rfl (sub_cons rfl (sub_cons rfl (sub_cons rfl (sub_cons rfl (sub_cons rfl (sub_cons rfl (sub_cons rfl (sub_cons rfl (sub_cons rfl (sub_cons rfl (sub_cons rfl (sub_cons rfl (sub_cons rfl (sub_cons rfl (sub_cons rfl (sub_cons rfl (sub_cons rfl (sub_cons rfl (sub_cons rfl (sub_cons rfl (sub_cons rfl (sub_cons rfl (sub_cons rfl (sub_cons rfl (sub_cons rfl (sub_cons rfl (sub_cons rfl (sub_cons rfl (sub_cons rfl sub_nil))))))))))))))))))))))))))))))))))))))))))))))))))) (sub_cons rfl (sub_cons rfl (sub_cons rfl (sub_cons rfl (sub_cons rfl (sub_cons rfl (sub_cons rfl (sub_cons rfl (sub_cons rfl (sub_cons rfl (sub_cons rfl (sub_cons rfl (sub_cons rfl (sub_cons rfl sub_nil)))))))))))))) ?_
          refine T_cond_f rfl ?_
          refine T_skip' ?_
          refine p_seq ?_
          refine T_seq ?_
          refine T_seq (T_region ?_)
          refine TL_q (.int .i64 0) (fun _ _ hρ _ => r_move (hρ _ _ rfl)) rfl rfl rfl (w_n rfl) ?_
          refine TL_q (.bool false) (fun _ _ hρ _ => r_as (r_neq (hρ _ _ rfl) (hρ _ _ rfl)) (by rfl)) rfl rfl rfl (w_n rfl) ?_
          refine TL_seq ?_
          refine T_cond_f rfl ?_
          refine T_skip' ?_
          refine p_seq ?_
          refine T_mem (_ :: _) (fun _ hm => hm.poolScr 903 byc_len rfl isB_byc) ?_
          refine T_seq (T_region ?_)
          refine TL_q (.agg #[.slice h8.n.a h8.n.l.length h8.n.cap, .int .u64 h8.lost]) (fun _ _ hρ hm => r_loadA ag27 sz27 (hρ _ _ rfl) (hm.at 5 rfl) rfl rfl) rfl rfl rfl (w_n rfl) ?_
          refine TL_callH _ _ _ (fun _ _ hρ _ => r_call (args := [.agg #[.slice h8.n.a h8.n.l.length h8.n.cap, .int .u64 h8.lost]]) (enters_of Try.func27 (by kernel_rfl) rfl) (hρ _ _ rfl) ((cons2 (hρ _ _ rfl) rfl)) rfl) (fun w hm => lspoil_ht h8.n b8 h8.lost (by repeat (first | exact noIds_nil _ _ | refine noIds_cons rfl ?_)) hk8.ok.inN (Nat.le_trans hk8.ok.len (by decide)) w (hm.of (lk_dups (A := [(901, rowP h8.n), (903, .scr 5 1 isB b8)]) (sub_cons rfl (sub_cons rfl sub_nil))))) rfl rfl rfl (w_n rfl) ?_
          rintro ⟨⟩ -
          refine TL_seq ?_
          refine T_seq (T_region ?_)
          refine TL_q (.agg #[.slice d13.a d13.l.length d13.cap, .int .u64 lo13]) (fun _ _ hρ hm => r_loadA ag27 sz27 (hρ _ _ rfl) (hm.at 7 rfl) rfl rfl) rfl rfl rfl (w_n rfl) ?_
          refine TL_store 3 (.cells #[.slice d13.a d13.l.length d13.cap, .int .u64 lo13] 27) rfl (fun _ _ hρ hm => r_store sz27 (hρ _ _ rfl) (hρ _ _ rfl) (hm.at 3 rfl) rfl rfl rfl rfl) rfl rfl (w_n rfl) ?_
          refine TL_seq ?_
          refine T_seq (T_region ?_)
          refine TL_q (.pointer (some ⟨B8, 0, none⟩)) (fun _ _ hρ _ => r_fieldAddr fl48_0 sz3 (hρ _ _ rfl)) rfl rfl rfl (w_n rfl) ?_
          refine TL_q (.int .i64 t.kind) (fun _ _ hρ hm => r_load ag3 (hρ _ _ rfl) (hm.at 4 rfl) rfl) rfl rfl rfl (w_n rfl) ?_
          refine TL_q (.bool (decide (t.kind = 1))) (fun _ _ hρ _ => r_eql (hρ _ _ rfl) (hρ _ _ rfl)) rfl rfl rfl (w_n rfl) ?_
          refine TL_seq ?_
          refine T_cond rfl (fun h2 => ?_) (fun h2 => ?_)
          · replace h2 := of_decide_eq_true h2
            have hkd : t.kind = 1 := h2
            refine T_region ?_
            refine TL_q (.slice la als.length lc) (fun _ _ hρ _ => r_move (hρ _ _ rfl)) rfl rfl rfl (w_n rfl) ?_
            refine TL_q (.agg #[.int .i64 q13.to, .slice q13.r.a q13.r.l.length q13.r.cap, .bool q13.sp]) (fun _ _ hρ hm => r_loadA ag36 sz36 (hρ _ _ rfl) (hm.at 8 rfl) rfl rfl) rfl rfl rfl (w_n rfl) ?_
            refine TL_new 9 (.cells #[.int .i64 q13.to, .slice q13.r.a q13.r.l.length q13.r.cap, .bool q13.sp] 36) (fun B => .slice (some ⟨B, 0, none⟩) 1 1) (fun _ _ hρ _ => r_buildSlice (vs := [(0, .agg #[.int .i64 q13.to, .slice q13.r.a q13.r.l.length q13.r.cap, .bool q13.sp])]) (by kernel_rfl) (cons2 (pair2 (hρ _ _ rfl)) rfl)) rfl rfl rfl (w_n rfl) ?_
            intro B14
            refine TL_append (n := als.length) (m := 1) (xs := (als.flatMap Pcl.cells)) (news := [.int .i64 q13.to, .slice q13.r.a q13.r.l.length q13.r.cap, .bool q13.sp]) (z := .agg #[.int .i64 0, .slice none 0 0, .bool false]) 963 rfl rfl rfl sl22 sz36 by36 (by kernel_rfl) rfl rfl (.inl rfl) (fun _ hm => src_blk (news := [.int .i64 q13.to, .slice q13.r.a q13.r.l.length q13.r.cap, .bool q13.sp]) (hm.at 9 rfl) rfl) (by first | exact rows_oneG Pcl.cells_one | simp [Value.oneCell']) (by omega) (by omega) rfl (w_n rfl) ?_
            intro a15 cap15
            refine TL_q (.slice a15 (als.length + 1) cap15) (fun _ _ hρ _ => r_assign (hρ _ _ rfl)) rfl rfl rfl (w_n rfl) ?_
            refine TL_nil ?_
            refine p_blk_n ?_
            refine p_seq ?_
            refine T_region ?_
            refine TL_q (.int .i64 ((k + 1 : Nat) : Int)) (fun _ _ hρ _ => r_as (r_add (hρ _ _ rfl) (hρ _ _ rfl)) (int_as ((wrap64 (by omega) (by omega)).trans (by omega)))) rfl rfl rfl (w_n rfl) ?_
            refine TL_q (.int .i64 ((k + 1 : Nat) : Int)) (fun _ _ hρ _ => r_move (hρ _ _ rfl)) rfl rfl rfl (w_n rfl) ?_
            refine TL_nil ?_
            have hn16 : (als.length + 1) = (als ++ [q13]).length := by simp
            have hx16 : ((als.flatMap Pcl.cells) ++ [.int .i64 q13.to, .slice q13.r.a q13.r.l.length q13.r.cap, .bool q13.sp]) = (als ++ [q13]).flatMap Pcl.cells := by simp [Pcl.cells]
            rw [hx16, hn16]
            exact p_at (k + 1, d13.a, d13.cap, d13.l, lo13, a15, cap15, als ++ [q13], d13 :: ns, ov) ⟨⟨by omega, List.mem_cons_self, List.mem_cons_of_mem _ hA, (show checkV (pvs d13.l) lo13 = true from (congrArg (fun n : NV => checkV n.1 n.2) hrd13.1).trans (doV_check hck9)), (show 0 ≤ lo13 from (congrArg (fun n : NV => 0 ≤ n.2) hrd13.1).mpr (doV_lo halo)), run_take hrun ht hz hkd hrd13.1 hrd13.2.1, all_snoc hals ha (hrd13.2.2.resolve_right fun h => h.2 hkd), by rw [List.length_append, List.length_singleton]; omega, by omega, by omega⟩, by dsimp only; omega⟩ (sub_cons rfl (sub_cons rfl (sub_cons rfl (sub_cons rfl (sub_cons rfl (sub_cons rfl (sub_cons rfl (sub_cons rfl (sub_cons rfl (sub_cons rfl (sub_cons rfl sub_nil))))))))))) (sub_cons rfl (sub_cons rfl (sub_cons rfl (sub_cons rfl (sub_cons rfl (sub_cons rfl (sub_cons rfl sub_nil)))))))
          · replace h2 := of_decide_eq_false h2
            have hkd : ¬ t.kind = 1 := h2
            refine T_skip' ?_
            refine p_blk_n ?_
            refine p_seq ?_
            refine T_region ?_
            refine TL_q (.int .i64 ((k + 1 : Nat) : Int)) (fun _ _ hρ _ => r_as (r_add (hρ _ _ rfl) (hρ _ _ rfl)) (int_as ((wrap64 (by omega) (by omega)).trans (by omega)))) rfl rfl rfl (w_n rfl) ?_
            refine TL_q (.int .i64 ((k + 1 : Nat) : Int)) (fun _ _ hρ _ => r_move (hρ _ _ rfl)) rfl rfl rfl (w_n rfl) ?_
            refine TL_nil ?_
            exact p_at (k + 1, d13.a, d13.cap, d13.l, lo13, la, lc, als, d13 :: ns, ov) ⟨⟨by omega, List.mem_cons_self, List.mem_cons_of_mem _ hA, (show checkV (pvs d13.l) lo13 = true from (congrArg (fun n : NV => checkV n.1 n.2) hrd13.1).trans (doV_check hck9)), (show 0 ≤ lo13 from (congrArg (fun n : NV => 0 ≤ n.2) hrd13.1).mpr (doV_lo halo)), run_yes hrun ht hz hkd hrd13.1, all_more hals, by omega, by omega, by omega⟩, by dsimp only; omega⟩ (sub_cons rfl (sub_cons rfl (sub_cons rfl (sub_cons rfl (sub_cons rfl (sub_cons rfl (sub_cons rfl (sub_cons rfl (sub_cons rfl (sub_cons rfl (sub_cons rfl sub_nil))))))))))) (sub_cons rfl (sub_cons rfl (sub_cons rfl (sub_cons rfl (sub_cons rfl (sub_cons rfl (sub_cons rfl sub_nil)))))))
        · skip
          refine T_seq (T_region ?_)
          refine TL_q (.agg #[.slice aa al.length ac, .int .u64 alo]) (fun _ _ hρ hm => r_loadA ag27 sz27 (hρ _ _ rfl) (hm.at 3 rfl) rfl rfl) rfl rfl rfl (w_n rfl) ?_
          refine TL_q (.agg #[.int .i64 t.kind, .int .i64 t.at', .int .i64 t.bit, .int .u32 ((t.mask).toNat : Int)]) (fun _ _ hρ hm => r_loadA ag48 sz48 (hρ _ _ rfl) (hm.at 4 rfl) rfl rfl) rfl rfl rfl (w_n rfl) ?_
          refine TL_call (.tuple #[.agg #[.slice none 0 0, .int .u64 0], .agg #[.int .i64 0, .slice none 0 0, .bool false], .int .i64 ((doV (pvs al, alo) t).1)]) (fun _ _ hρ _ => r_call (args := [.agg #[.slice aa al.length ac, .int .u64 alo], .agg #[.int .i64 t.kind, .int .i64 t.at', .int .i64 t.bit, .int .u32 ((t.mask).toNat : Int)]]) (enters_of Try.func23 (by kernel_rfl) rfl) (hρ _ _ rfl) ((cons2 (hρ _ _ rfl) (cons2 (hρ _ _ rfl) rfl))) rfl) (fun w hm => do_err al aa ac alo t.kind t.at' t.bit t.mask w (hm.netAt 960 rfl ha).1 (hm.netAt 960 rfl ha).2.1 (hm.netAt 960 rfl ha).2.2 (doV (pvs al, alo) t).1 halo hck9 rfl hz) rfl rfl rfl (w_n rfl) ?_
          refine TL_q (.tuple #[.agg #[.slice none 0 0, .int .u64 0], .agg #[.int .i64 0, .slice none 0 0, .bool false], .int .i64 ((doV (pvs al, alo) t).1)]) (fun _ _ hρ _ => r_move (hρ _ _ rfl)) rfl rfl rfl (w_n rfl) ?_
          refine TL_q (.agg #[.slice none 0 0, .int .u64 0]) (fun _ _ hρ _ => r_extract (hρ _ _ rfl) rfl) rfl rfl rfl (w_n rfl) ?_
          refine TL_q (.agg #[.int .i64 0, .slice none 0 0, .bool false]) (fun _ _ hρ _ => r_extract (hρ _ _ rfl) rfl) rfl rfl rfl (w_n rfl) ?_
          refine TL_q (.int .i64 ((doV (pvs al, alo) t).1)) (fun _ _ hρ _ => r_extract (hρ _ _ rfl) rfl) rfl rfl rfl (w_n rfl) ?_
          refine TL_new 10 (.cells #[.slice none 0 0, .int .u64 0] 27) (fun B => .pointer (some ⟨B, 0, none⟩)) (fun _ _ _ _ => r_alloc (v := .agg #[.slice none 0 0, .int .u64 0]) (by kernel_rfl) rfl) rfl rfl rfl (w_n rfl) ?_
          intro B17
          refine TL_new 11 (.cells #[.int .i64 0, .slice none 0 0, .bool false] 36) (fun B => .pointer (some ⟨B, 0, none⟩)) (fun _ _ _ _ => r_alloc (v := .agg #[.int .i64 0, .slice none 0 0, .bool false]) (by kernel_rfl) rfl) rfl rfl rfl (w_n rfl) ?_
          intro B18
          refine TL_store 10 (.cells #[.slice none 0 0, .int .u64 0] 27) rfl (fun _ _ hρ hm => r_store sz27 (hρ _ _ rfl) (hρ _ _ rfl) (hm.at 10 rfl) rfl rfl rfl rfl) rfl rfl (w_n rfl) ?_
          refine TL_store 11 (.cells #[.int .i64 0, .slice none 0 0, .bool false] 36) rfl (fun _ _ hρ hm => r_store sz36 (hρ _ _ rfl) (hρ _ _ rfl) (hm.at 11 rfl) rfl rfl rfl rfl) rfl rfl (w_n rfl) ?_
          refine TL_q (.int .i64 ((doV (pvs al, alo) t).1)) (fun _ _ hρ _ => r_assign (hρ _ _ rfl)) rfl rfl rfl (w_n rfl) ?_
          refine TL_seq ?_
          refine T_seq (T_region ?_)
          refine TL_new 12 (.cells #[.slice none 0 0, .int .u64 0] 27) (fun B => .pointer (some ⟨B, 0, none⟩)) (fun _ _ _ _ => r_alloc (v := .agg #[.slice none 0 0, .int .u64 0]) (by kernel_rfl) rfl) rfl rfl rfl (w_n rfl) ?_
          intro B19
          refine TL_seq ?_
          refine T_seq (T_region ?_)
          refine TL_new 13 (.cells #[.int .i64 0, .slice none 0 0, .bool false] 36) (fun B => .pointer (some ⟨B, 0, none⟩)) (fun _ _ _ _ => r_alloc (v := .agg #[.int .i64 0, .slice none 0 0, .bool false]) (by kernel_rfl) rfl) rfl rfl rfl (w_n rfl) ?_
          intro B20
          refine TL_seq ?_
          refine T_seq (T_region ?_)
          refine TL_q (.int .i64 350) (fun _ _ hρ _ => r_assign (hρ _ _ rfl)) rfl rfl rfl (w_n rfl) ?_
          refine TL_seq ?_
          refine T_seq ?_
          refine T_seq (T_region ?_)
          refine TL_q (.bool true) (fun _ _ hρ _ => r_move (hρ _ _ rfl)) rfl rfl rfl (w_n rfl) ?_
          refine TL_seq ?_
          refine T_cond_t rfl ?_
          refine T_region ?_
          refine TL_q (.agg #[.slice aa al.length ac, .int .u64 alo]) (fun _ _ hρ hm => r_loadA ag27 sz27 (hρ _ _ rfl) (hm.at 3 rfl) rfl rfl) rfl rfl rfl (w_n rfl) ?_
          refine TL_q (.agg #[.int .i64 t.kind, .int .i64 t.at', .int .i64 t.bit, .int .u32 ((t.mask).toNat : Int)]) (fun _ _ hρ hm => r_loadA ag48 sz48 (hρ _ _ rfl) (hm.at 4 rfl) rfl rfl) rfl rfl rfl (w_n rfl) ?_
          refine TL_call (.tuple #[.agg #[.slice none 0 0, .int .u64 0], .agg #[.int .i64 0, .slice none 0 0, .bool false], .int .i64 ((doV (pvs al, alo) t).1)]) (fun _ _ hρ _ => r_call (args := [.agg #[.slice aa al.length ac, .int .u64 alo], .agg #[.int .i64 t.kind, .int .i64 t.at', .int .i64 t.bit, .int .u32 ((t.mask).toNat : Int)]]) (enters_of Try.func24 (by kernel_rfl) rfl) (hρ _ _ rfl) ((cons2 (hρ _ _ rfl) (cons2 (hρ _ _ rfl) rfl))) rfl) (fun w hm => rdo_err al aa ac alo t w (hm.netAt 960 rfl ha) halo (by omega) hz) rfl rfl rfl (w_n rfl) ?_
          refine TL_q (.tuple #[.agg #[.slice none 0 0, .int .u64 0], .agg #[.int .i64 0, .slice none 0 0, .bool false], .int .i64 ((doV (pvs al, alo) t).1)]) (fun _ _ hρ _ => r_move (hρ _ _ rfl)) rfl rfl rfl (w_n rfl) ?_
          refine TL_q (.agg #[.slice none 0 0, .int .u64 0]) (fun _ _ hρ _ => r_extract (hρ _ _ rfl) rfl) rfl rfl rfl (w_n rfl) ?_
          refine TL_q (.agg #[.int .i64 0, .slice none 0 0, .bool false]) (fun _ _ hρ _ => r_extract (hρ _ _ rfl) rfl) rfl rfl rfl (w_n rfl) ?_
          refine TL_q (.int .i64 ((doV (pvs al, alo) t).1)) (fun _ _ hρ _ => r_extract (hρ _ _ rfl) rfl) rfl rfl rfl (w_n rfl) ?_
          refine TL_store 12 (.cells #[.slice none 0 0, .int .u64 0] 27) rfl (fun _ _ hρ hm => r_store sz27 (hρ _ _ rfl) (hρ _ _ rfl) (hm.at 12 rfl) rfl rfl rfl rfl) rfl rfl (w_n rfl) ?_
          refine TL_store 13 (.cells #[.int .i64 0, .slice none 0 0, .bool false] 36) rfl (fun _ _ hρ hm => r_store sz36 (hρ _ _ rfl) (hρ _ _ rfl) (hm.at 13 rfl) rfl rfl rfl rfl) rfl rfl (w_n rfl) ?_
          refine TL_q (.int .i64 ((doV (pvs al, alo) t).1)) (fun _ _ hρ _ => r_assign (hρ _ _ rfl)) rfl rfl rfl (w_n rfl) ?_
          refine TL_nil ?_
          refine p_seq ?_
          refine T_seq ?_
          refine T_seq (T_region ?_)
          refine TL_q (.int .i64 ((doV (pvs al, alo) t).1)) (fun _ _ hρ _ => r_move (hρ _ _ rfl)) rfl rfl rfl (w_n rfl) ?_
          refine TL_q (.int .i64 ((doV (pvs al, alo) t).1)) (fun _ _ hρ _ => r_move (hρ _ _ rfl)) rfl rfl rfl (w_n rfl) ?_
          refine TL_q (.bool false) (fun _ _ hρ _ => r_as (r_neq (hρ _ _ rfl) (hρ _ _ rfl)) (bool_as (by simp))) rfl rfl rfl (w_n rfl) ?_
          refine TL_q (.bool false) (fun _ _ hρ _ => r_move (hρ _ _ rfl)) rfl rfl rfl (w_n rfl) ?_
          refine TL_q (.agg #[.slice none 0 0, .int .u64 0]) (fun _ _ hρ hm => r_loadA ag27 sz27 (hρ _ _ rfl) (hm.at 10 rfl) rfl rfl) rfl rfl rfl (want_y 63 rfl rfl rfl) ?_
          refine TL_q (.agg #[.slice none 0 0, .int .u64 0]) (fun _ _ hρ hm => r_loadA ag27 sz27 (hρ _ _ rfl) (hm.at 12 rfl) rfl rfl) rfl rfl rfl (want_y 63 rfl rfl rfl) ?_
          refine TL_call (.bool true) (fun _ _ hρ _ => r_call (args := [.agg #[.slice none 0 0, .int .u64 0], .agg #[.slice none 0 0, .int .u64 0]]) (enters_of Try.func25 (by kernel_rfl) rfl) (hρ _ _ rfl) ((cons2 (hρ _ _ rfl) (cons2 (hρ _ _ rfl) rfl))) rfl) (fun w _ => (nrsame_c [] none 0 (0 : Int) [] none 0 (0 : Int) w (sliceNil w) (by decide) (pcsNil _) (sliceNil w) (by decide) (pcsNil _)).mono fun _ _ h => ⟨h.1.trans (congrArg Ending.returned (bool_as (decide_eq_true ⟨rfl, rfl⟩))), h.2⟩) rfl rfl rfl (want_y 63 rfl rfl rfl) ?_
          refine TL_q (.bool false) (fun _ _ hρ _ => r_not (b := true) (hρ _ _ rfl)) rfl rfl rfl (want_y 63 rfl rfl rfl) ?_
          refine TL_q (.bool false) (fun _ _ hρ _ => r_pick_f (hρ _ _ rfl) (hρ _ _ rfl)) rfl rfl rfl (w_n rfl) ?_
          refine TL_q (.bool false) (fun _ _ hρ _ => r_move (hρ _ _ rfl)) rfl rfl rfl (w_n rfl) ?_
          refine TL_q (.agg #[.int .i64 0, .slice none 0 0, .bool false]) (fun _ _ hρ hm => r_loadA ag36 sz36 (hρ _ _ rfl) (hm.at 11 rfl) rfl rfl) rfl rfl rfl (want_y 69 rfl rfl rfl) ?_
          refine TL_q (.agg #[.int .i64 0, .slice none 0 0, .bool false]) (fun _ _ hρ hm => r_loadA ag36 sz36 (hρ _ _ rfl) (hm.at 13 rfl) rfl rfl) rfl rfl rfl (want_y 69 rfl rfl rfl) ?_
          refine TL_call (.bool true) (fun _ _ hρ _ => r_call (args := [.agg #[.int .i64 0, .slice none 0 0, .bool false], .agg #[.int .i64 0, .slice none 0 0, .bool false]]) (enters_of Try.func26 (by kernel_rfl) rfl) (hρ _ _ rfl) ((cons2 (hρ _ _ rfl) (cons2 (hρ _ _ rfl) rfl))) rfl) (fun w _ => (rpsame_c (⟨0, ⟨none, 0, []⟩, false⟩ : Pcl) (⟨0, ⟨none, 0, []⟩, false⟩ : Pcl) w (zero_ok w) (zero_ok w)).mono fun _ _ h => ⟨h.1.trans (congrArg Ending.returned (bool_as (decide_eq_true rfl))), h.2⟩) rfl rfl rfl (want_y 69 rfl rfl rfl) ?_
          refine TL_q (.bool false) (fun _ _ hρ _ => r_not (b := true) (hρ _ _ rfl)) rfl rfl rfl (want_y 69 rfl rfl rfl) ?_
          refine TL_q (.bool false) (fun _ _ hρ _ => r_pick_f (hρ _ _ rfl) (hρ _ _ rfl)) rfl rfl rfl (w_n rfl) ?_
          refine TL_seq ?_
          refine T_sub [(1, .slice b ys.length capb), (2, .pointer (some ⟨B1, 0, none⟩)), (5, .pointer (some ⟨Bx8, 0, none⟩)), (6, .slice (some ⟨b7, of7, none⟩) ((l2).length) ct6), (7, .bool true), (8, .pointer (some ⟨B6, 0, none⟩)), (39, .slice (some ⟨b7, of7, none⟩) ((l2).length) ct6), (40, .int .i64 (((l2).length : Nat) : Int)), (41, .int .i64 ((k : Nat) : Int)), (9, .int .i64 ov), (10, .slice la als.length lc), (42, .bool (decide (((k : Nat) : Int) < (((l2).length : Nat) : Int)))), (43, .pointer (some ⟨b7, of7 + k * 4, none⟩)), (44, .agg #[.int .i64 t.kind, .int .i64 t.at', .int .i64 t.bit, .int .u32 ((t.mask).toNat : Int)]), (12, .pointer (some ⟨B8, 0, none⟩)), (46, .agg #[.slice aa al.length ac, .int .u64 alo]), (47, .agg #[.int .i64 t.kind, .int .i64 t.at', .int .i64 t.bit, .int .u32 ((t.mask).toNat : Int)]), (48, .tuple #[.agg #[.slice none 0 0, .int .u64 0], .agg #[.int .i64 0, .slice none 0 0, .bool false], .int .i64 ((doV (pvs al, alo) t).1)]), (45, .tuple #[.agg #[.slice none 0 0, .int .u64 0], .agg #[.int .i64 0, .slice none 0 0, .bool false], .int .i64 ((doV (pvs al, alo) t).1)]), (49, .agg #[.slice none 0 0, .int .u64 0]), (50, .agg #[.int .i64 0, .slice none 0 0, .bool false]), (51, .int .i64 ((doV (pvs al, alo) t).1)), (13, .pointer (some ⟨B17, 0, none⟩)), (14, .pointer (some ⟨B18, 0, none⟩)), (15, .int .i64 ((doV (pvs al, alo) t).1)), (16, .pointer (some ⟨B19, 0, none⟩)), (17, .pointer (some ⟨B20, 0, none⟩)), (52, .bool true), (54, .agg #[.slice aa al.length ac, .int .u64 alo]), (55, .agg #[.int .i64 t.kind, .int .i64 t.at', .int .i64 t.bit, .int .u32 ((t.mask).toNat : Int)]), (56, .tuple #[.agg #[.slice none 0 0, .int .u64 0], .agg #[.int .i64 0, .slice none 0 0, .bool false], .int .i64 ((doV (pvs al, alo) t).1)]), (53, .tuple #[.agg #[.slice none 0 0, .int .u64 0], .agg #[.int .i64 0, .slice none 0 0, .bool false], .int .i64 ((doV (pvs al, alo) t).1)]), (57, .agg #[.slice none 0 0, .int .u64 0]), (58, .agg #[.int .i64 0, .slice none 0 0, .bool false]), (59, .int .i64 ((doV (pvs al, alo) t).1)), (18, .int .i64 ((doV (pvs al, alo) t).1)), (60, .int .i64 ((doV (pvs al, alo) t).1)), (61, .int .i64 ((doV (pvs al, alo) t).1)), (62, .bool false), (63, .bool false), (64, .agg #[.slice none 0 0, .int .u64 0]), (65, .agg #[.slice none 0 0, .int .u64 0]), (66, .bool true), (67, .bool false), (68, .bool false), (69, .bool false), (70, .agg #[.int .i64 0, .slice none 0 0, .bool false]), (71, .agg #[.int .i64 0, .slice none 0 0, .bool false]), (72, .bool true), (73, .bool false), (74, .bool false)] [(961, .no), (1, .blk B1 (.cells #[.slice a xs.length cap, .int .u64 lost] 27)), (2, .blk Bx8 (.cells #[.slice n1.a n1.l.length n1.cap, .int .u64 lost] 27)), (962, .row (.slice (some ⟨b7, of7, none⟩) ((l2).length) ct6) 48 4 ((l2).length) ((l2).flatMap Trk.cells)), (3, .blk B6 (.cells #[.slice aa al.length ac, .int .u64 alo] 27)), (960, .nets ns), (963, .row (.slice la als.length lc) 36 3 als.length (als.flatMap Pcl.cells)), (4, .blk B8 (.cells #[.int .i64 t.kind, .int .i64 t.at', .int .i64 t.bit, .int .u32 ((t.mask).toNat : Int)] 48)), (10, .blk B17 (.cells #[.slice none 0 0, .int .u64 0] 27)), (11, .blk B18 (.cells #[.int .i64 0, .slice none 0 0, .bool false] 36)), (12, .blk B19 (.cells #[.slice none 0 0, .int .u64 0] 27)), (13, .blk B20 (.cells #[.int .i64 0, .slice none 0 0, .bool false] 36))] (sub_cons rfl (sub_cons rfl (sub_cons rfl (sub_cons rfl (sub_cons rfl (sub_cons rfl (sub_cons rfl (sub_cons rfl (sub_cons rfl (sub_cons rfl (sub_cons rfl (sub_cons rfl (sub_cons rfl (sub_cons rfl (sub_cons rfl (sub_cons rfl (sub_cons rfl (sub_cons rfl (sub_cons rfl (sub_cons rfl (sub_cons rfl (sub_cons rfl (sub_cons rfl (sub_cons rfl (sub_cons rfl (sub_cons rfl (sub_cons rfl (sub_cons rfl (sub_cons rfl (sub_cons rfl (sub_cons rfl (sub_cons rfl (sub_cons rfl (sub_cons rfl (sub_cons rfl (sub_cons rfl (sub_cons rfl (sub_cons rfl (sub_cons rfl (sub_cons rfl (sub_cons rfl (sub_cons rfl (sub_cons rfl (sub_cons rfl (sub_cons rfl (sub_cons rfl (sub_cons rfl (sub_cons rfl (sub_cons rfl (sub_cons rfl (sub_cons rfl sub_nil))))))))))))))))))))))))))))))))))))))))))))))))))) (sub_cons rfl (sub_cons rfl (sub_cons rfl (sub_cons rfl (sub_cons rfl (sub_cons rfl (sub_cons rfl (sub_cons rfl (sub_cons rfl (sub_cons rfl (sub_cons rfl (sub_cons rfl sub_nil)))))))))))) ?_
          refine T_cond_f rfl ?_
          refine T_skip' ?_
          refine p_seq ?_
          refine T_seq ?_
          refine T_seq (T_region ?_)
          refine TL_q (.int .i64 ((doV (pvs al, alo) t).1)) (fun _ _ hρ _ => r_move (hρ _ _ rfl)) rfl rfl rfl (w_n rfl) ?_
          refine TL_q (.bool true) (fun _ _ hρ _ => r_as (r_neq (hρ _ _ rfl) (hρ _ _ rfl)) (bool_as (by rw [decide_eq_false hz]; rfl))) rfl rfl rfl (w_n rfl) ?_
          refine TL_seq ?_
          refine T_cond_t rfl ?_
          refine T_seq (T_region ?_)
          refine TL_q (.int .i64 ov) (fun _ _ hρ _ => r_move (hρ _ _ rfl)) rfl rfl rfl (w_n rfl) ?_
          refine TL_q (.int .i64 (ov + 1)) (fun _ _ hρ _ => r_as (r_add (hρ _ _ rfl) (hρ _ _ rfl)) (int_as (wrap64 (by omega) (by omega)))) rfl rfl rfl (w_n rfl) ?_
          refine TL_q (.int .i64 (ov + 1)) (fun _ _ hρ _ => r_assign (hρ _ _ rfl)) rfl rfl rfl (w_n rfl) ?_
          refine TL_seq ?_
          refine T_exit' ?_
          refine p_then_x ?_
          refine p_blk_x ?_
          refine p_seq ?_
          refine T_region ?_
          refine TL_q (.int .i64 ((k + 1 : Nat) : Int)) (fun _ _ hρ _ => r_as (r_add (hρ _ _ rfl) (hρ _ _ rfl)) (int_as ((wrap64 (by omega) (by omega)).trans (by omega)))) rfl rfl rfl (w_n rfl) ?_
          refine TL_q (.int .i64 ((k + 1 : Nat) : Int)) (fun _ _ hρ _ => r_move (hρ _ _ rfl)) rfl rfl rfl (w_n rfl) ?_
          refine TL_nil ?_
          exact p_at (k + 1, aa, ac, al, alo, la, lc, als, ns, ov + 1) ⟨⟨by omega, ha, hA, hck9, halo, run_no hrun ht hz, hals, by omega, by omega, by omega⟩, by dsimp only; omega⟩ (sub_cons rfl (sub_cons rfl (sub_cons rfl (sub_cons rfl (sub_cons rfl (sub_cons rfl (sub_cons rfl (sub_cons rfl (sub_cons rfl (sub_cons rfl (sub_cons rfl sub_nil))))))))))) (sub_cons rfl (sub_cons rfl (sub_cons rfl (sub_cons rfl (sub_cons rfl (sub_cons rfl (sub_cons rfl sub_nil)))))))
      · replace h1 := of_decide_eq_false h1
        refine T_exit' ?_
        refine p_then_x ?_
        refine p_then_x ?_
        refine p_blk_x ?_
        refine p_seq ?_
        have hke : k = l2.length := by omega
        subst hke
        rw [List.take_length] at hrun
        refine T_seq (T_region ?_)
        refine TL_q (.agg #[.slice n1.a n1.l.length n1.cap, .int .u64 lost]) (fun _ _ hρ hm => r_loadA ag27 sz27 (hρ _ _ rfl) (hm.at 2 rfl) rfl rfl) rfl rfl rfl (w_n rfl) ?_
        refine TL_q (.slice at6 ((l2).length) ct6) (fun _ _ hρ _ => r_move (hρ _ _ rfl)) rfl rfl rfl (w_n rfl) ?_
        refine TL_callN (fun x : Hd × List (RowG By) × Int => RunIs (pvs n1.l, lost) l2 (x.1, x.2.1) x.2.2) (fun (hR, bR, oR) => .tuple #[.agg #[.slice hR.n.a hR.n.l.length hR.n.cap, .int .u64 hR.lost], .slice hR.t.a hR.t.l.length hR.t.cap, .int .i64 oR, .int .i64 0]) (fun (hR, bR, oR) => [(901, .row (.slice hR.n.a hR.n.l.length hR.n.cap) 36 3 hR.n.l.length (hR.n.l.flatMap Pcl.cells)), (902, .row (.slice hR.t.a hR.t.l.length hR.t.cap) 36 3 hR.t.l.length (hR.t.l.flatMap Pcl.cells)), (903, .pool 5 1 byc bR)]) (fun _ _ hρ _ => r_call (args := [.agg #[.slice n1.a n1.l.length n1.cap, .int .u64 lost], .slice at6 ((l2).length) ct6]) (enters_of Try.func28 (by kernel_rfl) rfl) (hρ _ _ rfl) ((cons2 (hρ _ _ rfl) (cons2 (hρ _ _ rfl) rfl))) rfl) (fun w hm => (run_ok n1.l n1.a n1.cap lost l2 at6 ct6 w (hm.netAt 960 rfl hA).1 (hm.netAt 960 rfl hA).2.1 (hm.netAt 960 rfl hA).2.2 (SliceAt.own Trk.cells_len (hm.row 962 rfl) rfl rfl) (row_cap (hm.row 962 rfl)) (by omega) h0 hck).mono fun e w' ⟨⟨h, bs⟩, ov, hx, he, hb, r1, r2, r3, s1, s2, s3⟩ => ⟨(h, bs, ov), hx, he, hb, newOk3 901 902 903 r1 r2 r3 s1 s2 s3⟩) rfl rfl rfl (w_n rfl) ?_
        rintro ⟨hR, bR, oR⟩ hrR
        refine TL_q (.tuple #[.agg #[.slice hR.n.a hR.n.l.length hR.n.cap, .int .u64 hR.lost], .slice hR.t.a hR.t.l.length hR.t.cap, .int .i64 oR, .int .i64 0]) (fun _ _ hρ _ => r_move (hρ _ _ rfl)) rfl rfl rfl (w_n rfl) ?_
        refine TL_q (.agg #[.slice hR.n.a hR.n.l.length hR.n.cap, .int .u64 hR.lost]) (fun _ _ hρ _ => r_extract (hρ _ _ rfl) rfl) rfl rfl rfl (w_n rfl) ?_
        refine TL_q (.slice hR.t.a hR.t.l.length hR.t.cap) (fun _ _ hρ _ => r_extract (hρ _ _ rfl) rfl) rfl rfl rfl (w_n rfl) ?_
        refine TL_q (.int .i64 oR) (fun _ _ hρ _ => r_extract (hρ _ _ rfl) rfl) rfl rfl rfl (w_n rfl) ?_
        refine TL_q (.int .i64 0) (fun _ _ hρ _ => r_extract (hρ _ _ rfl) rfl) rfl rfl rfl (w_n rfl) ?_
        refine TL_new 14 (.cells #[.slice none 0 0, .int .u64 0] 27) (fun B => .pointer (some ⟨B, 0, none⟩)) (fun _ _ _ _ => r_alloc (v := .agg #[.slice none 0 0, .int .u64 0]) (by kernel_rfl) rfl) rfl rfl rfl (w_n rfl) ?_
        intro B21
        refine TL_store 14 (.cells #[.slice hR.n.a hR.n.l.length hR.n.cap, .int .u64 hR.lost] 27) rfl (fun _ _ hρ hm => r_store sz27 (hρ _ _ rfl) (hρ _ _ rfl) (hm.at 14 rfl) rfl rfl rfl rfl) rfl rfl (w_n rfl) ?_
        refine TL_q (.slice hR.t.a hR.t.l.length hR.t.cap) (fun _ _ hρ _ => r_assign (hρ _ _ rfl)) rfl rfl rfl (w_n rfl) ?_
        refine TL_q (.int .i64 oR) (fun _ _ hρ _ => r_assign (hρ _ _ rfl)) rfl rfl rfl (w_n rfl) ?_
        refine TL_q (.int .i64 0) (fun _ _ hρ _ => r_assign (hρ _ _ rfl)) rfl rfl rfl (w_n rfl) ?_
        refine TL_seq ?_
        refine T_seq (T_region ?_)
        refine TL_q (.agg #[.slice n1.a n1.l.length n1.cap, .int .u64 lost]) (fun _ _ hρ hm => r_loadA ag27 sz27 (hρ _ _ rfl) (hm.at 2 rfl) rfl rfl) rfl rfl rfl (w_n rfl) ?_
        refine TL_callN (fun x : Hd × List (RowG By) => Emptied n1.l lost x) (fun (hE, bE) => .tuple #[.agg #[.slice hE.n.a hE.n.l.length hE.n.cap, .int .u64 hE.lost], .slice hE.t.a hE.t.l.length hE.t.cap, .int .i64 0]) (fun (hE, bE) => [(951, .row (.slice hE.n.a hE.n.l.length hE.n.cap) 36 3 hE.n.l.length (hE.n.l.flatMap Pcl.cells)), (952, .row (.slice hE.t.a hE.t.l.length hE.t.cap) 36 3 hE.t.l.length (hE.t.l.flatMap Pcl.cells)), (953, .pool 5 1 byc bE)]) (fun _ _ hρ _ => r_call (args := [.agg #[.slice n1.a n1.l.length n1.cap, .int .u64 lost]]) (enters_of Try.func15 (by kernel_rfl) rfl) (hρ _ _ rfl) ((cons2 (hρ _ _ rfl) rfl)) rfl) (fun w hm => (empty_ok n1.l n1.a n1.cap lost w (hm.netAt 960 rfl hA).1 (hm.netAt 960 rfl hA).2.1 (hm.netAt 960 rfl hA).2.2 h0 hck).mono fun e w' ⟨x, hx, he, hb, r1, r2, r3, s1, s2, s3⟩ => ⟨x, hx, he, hb, newOk3 951 952 953 r1 r2 r3 s1 s2 s3⟩) rfl rfl rfl (w_n rfl) ?_
        rintro ⟨hE, bE⟩ hemE
        refine TL_q (.tuple #[.agg #[.slice hE.n.a hE.n.l.length hE.n.cap, .int .u64 hE.lost], .slice hE.t.a hE.t.l.length hE.t.cap, .int .i64 0]) (fun _ _ hρ _ => r_move (hρ _ _ rfl)) rfl rfl rfl (w_n rfl) ?_
        refine TL_q (.agg #[.slice hE.n.a hE.n.l.length hE.n.cap, .int .u64 hE.lost]) (fun _ _ hρ _ => r_extract (hρ _ _ rfl) rfl) rfl rfl rfl (w_n rfl) ?_
        refine TL_q (.slice hE.t.a hE.t.l.length hE.t.cap) (fun _ _ hρ _ => r_extract (hρ _ _ rfl) rfl) rfl rfl rfl (w_n rfl) ?_
        refine TL_q (.int .i64 0) (fun _ _ hρ _ => r_extract (hρ _ _ rfl) rfl) rfl rfl rfl (w_n rfl) ?_
        refine TL_new 15 (.cells #[.slice none 0 0, .int .u64 0] 27) (fun B => .pointer (some ⟨B, 0, none⟩)) (fun _ _ _ _ => r_alloc (v := .agg #[.slice none 0 0, .int .u64 0]) (by kernel_rfl) rfl) rfl rfl rfl (w_n rfl) ?_
        intro B22
        refine TL_store 15 (.cells #[.slice hE.n.a hE.n.l.length hE.n.cap, .int .u64 hE.lost] 27) rfl (fun _ _ hρ hm => r_store sz27 (hρ _ _ rfl) (hρ _ _ rfl) (hm.at 15 rfl) rfl rfl rfl rfl) rfl rfl (w_n rfl) ?_
        refine TL_q (.slice hE.t.a hE.t.l.length hE.t.cap) (fun _ _ hρ _ => r_assign (hρ _ _ rfl)) rfl rfl rfl (w_n rfl) ?_
        refine TL_q (.int .i64 0) (fun _ _ hρ _ => r_assign (hρ _ _ rfl)) rfl rfl rfl (w_n rfl) ?_
        refine TL_seq ?_
        refine T_seq ?_
        refine T_seq (T_region ?_)
        refine TL_q (.bool true) (fun _ _ hρ _ => r_move (hρ _ _ rfl)) rfl rfl rfl (w_n rfl) ?_
        refine TL_q (.bool false) (fun _ _ hρ _ => r_not (b := true) (hρ _ _ rfl)) rfl rfl rfl (w_n rfl) ?_
        refine TL_seq ?_
        refine T_cond_f rfl ?_
        refine T_skip' ?_
        refine p_seq ?_
        refine T_seq ?_
        have h29 := hrR.is.trans hrun
        have hsA : hR.lost = alo ∧ pvs hR.n.l = pvs al := ⟨congrArg (·.1.2) h29, congrArg (·.1.1) h29⟩
        have hsB : pvs hR.t.l = pvs als := congrArg (·.2.1) h29
        have hsO : oR = ov := congrArg (·.2.2) h29
        subst hsO
        have hsC : pvs hE.t.l = pvs n1.l := hemE.told
        have hsD : hE.lost = lost ∧ pvs hE.n.l = pvs [] := ⟨congrArg (·.2) hemE.nv, congrArg (·.1) hemE.nv⟩
        refine T_seq (T_region ?_)
        refine TL_q (.int .i64 0) (fun _ _ hρ _ => r_move (hρ _ _ rfl)) rfl rfl rfl (w_n rfl) ?_
        refine TL_q (.bool false) (fun _ _ hρ _ => r_as (r_neq (hρ _ _ rfl) (hρ _ _ rfl)) (by rfl)) rfl rfl rfl (w_n rfl) ?_
        refine TL_q (.bool false) (fun _ _ hρ _ => r_move (hρ _ _ rfl)) rfl rfl rfl (w_n rfl) ?_
        refine TL_q (.int .i64 0) (fun _ _ hρ _ => r_move (hρ _ _ rfl)) rfl rfl rfl (want_y 132 rfl rfl rfl) ?_
        refine TL_q (.bool false) (fun _ _ hρ _ => r_as (r_neq (hρ _ _ rfl) (hρ _ _ rfl)) (by rfl)) rfl rfl rfl (want_y 132 rfl rfl rfl) ?_
        refine TL_q (.bool false) (fun _ _ hρ _ => r_pick_f (hρ _ _ rfl) (hρ _ _ rfl)) rfl rfl rfl (w_n rfl) ?_
        refine TL_q (.bool false) (fun _ _ hρ _ => r_move (hρ _ _ rfl)) rfl rfl rfl (w_n rfl) ?_
        refine TL_q (.int .i64 oR) (fun _ _ hρ _ => r_move (hρ _ _ rfl)) rfl rfl rfl (want_y 136 rfl rfl rfl) ?_
        refine TL_q (.int .i64 oR) (fun _ _ hρ _ => r_move (hρ _ _ rfl)) rfl rfl rfl (want_y 136 rfl rfl rfl) ?_
        refine TL_q (.bool false) (fun _ _ hρ _ => r_as (r_neq (hρ _ _ rfl) (hρ _ _ rfl)) (bool_as (by simp))) rfl rfl rfl (want_y 136 rfl rfl rfl) ?_
        refine TL_q (.bool false) (fun _ _ hρ _ => r_pick_f (hρ _ _ rfl) (hρ _ _ rfl)) rfl rfl rfl (w_n rfl) ?_
        refine TL_q (.bool false) (fun _ _ hρ _ => r_move (hρ _ _ rfl)) rfl rfl rfl (w_n rfl) ?_
        refine TL_q (.agg #[.slice hR.n.a hR.n.l.length hR.n.cap, .int .u64 hR.lost]) (fun _ _ hρ hm => r_loadA ag27 sz27 (hρ _ _ rfl) (hm.at 14 rfl) rfl rfl) rfl rfl rfl (want_y 141 rfl rfl rfl) ?_
        refine TL_q (.agg #[.slice aa al.length ac, .int .u64 alo]) (fun _ _ hρ hm => r_loadA ag27 sz27 (hρ _ _ rfl) (hm.at 3 rfl) rfl rfl) rfl rfl rfl (want_y 141 rfl rfl rfl) ?_
        refine TL_call (.bool true) (fun _ _ hρ _ => r_call (args := [.agg #[.slice hR.n.a hR.n.l.length hR.n.cap, .int .u64 hR.lost], .agg #[.slice aa al.length ac, .int .u64 alo]]) (enters_of Try.func25 (by kernel_rfl) rfl) (hρ _ _ rfl) ((cons2 (hρ _ _ rfl) (cons2 (hρ _ _ rfl) rfl))) rfl) (fun w hm => (nrsame_c hR.n.l hR.n.a hR.n.cap hR.lost al aa ac alo w (SliceAt.own Pcl.cells_len (hm.row 901 rfl) rfl rfl) (row_cap (hm.row 901 rfl)) (pcs_pool (hm.pool 903 rfl) hrR.ok.inN) (hm.netAt 960 rfl ha).1 (hm.netAt 960 rfl ha).2.1 (hm.netAt 960 rfl ha).2.2).mono fun _ _ h => ⟨h.1.trans (congrArg Ending.returned (bool_as (decide_eq_true hsA))), h.2⟩) rfl rfl rfl (want_y 141 rfl rfl rfl) ?_
        refine TL_q (.bool false) (fun _ _ hρ _ => r_not (b := true) (hρ _ _ rfl)) rfl rfl rfl (want_y 141 rfl rfl rfl) ?_
        refine TL_q (.bool false) (fun _ _ hρ _ => r_pick_f (hρ _ _ rfl) (hρ _ _ rfl)) rfl rfl rfl (w_n rfl) ?_
        refine TL_q (.bool false) (fun _ _ hρ _ => r_move (hρ _ _ rfl)) rfl rfl rfl (w_n rfl) ?_
        refine TL_q (.slice hR.t.a hR.t.l.length hR.t.cap) (fun _ _ hρ _ => r_move (hρ _ _ rfl)) rfl rfl rfl (want_y 147 rfl rfl rfl) ?_
        refine TL_q (.slice la als.length lc) (fun _ _ hρ _ => r_move (hρ _ _ rfl)) rfl rfl rfl (want_y 147 rfl rfl rfl) ?_
        refine TL_call (.bool true) (fun _ _ hρ _ => r_call (args := [.slice hR.t.a hR.t.l.length hR.t.cap, .slice la als.length lc, .func (.func 26) #[] #[]]) (enters_of Try.func29 (by kernel_rfl) rfl) (hρ _ _ rfl) ((cons2 (hρ _ _ rfl) (cons2 (hρ _ _ rfl) (cons2 (hρ _ _ rfl) rfl)))) rfl) (fun w hm => (peqf_c hR.t.l hR.t.a hR.t.cap als la lc w (SliceAt.own Pcl.cells_len (hm.row 902 rfl) rfl rfl) (row_cap (hm.row 902 rfl)) (pcs_pool (hm.pool 903 rfl) hrR.ok.inT) (SliceAt.own Pcl.cells_len (hm.row 963 rfl) rfl rfl) (row_cap (hm.row 963 rfl)) (all_pcs (fun m hm1 => hm.netAt 960 rfl hm1) hals) 26 (enters_of Try.func26 (by kernel_rfl) rfl) (fun w2 hbw x hx y hy => rpsame_c x y w2 (((pcs_pool (hm.pool 903 rfl) hrR.ok.inT).keep hbw) x hx) (((all_pcs (fun m hm1 => hm.netAt 960 rfl hm1) hals).keep hbw) y hy))).mono fun _ _ h => ⟨h.1.trans (congrArg Ending.returned (bool_as (decide_eq_true hsB))), h.2⟩) rfl rfl rfl (want_y 147 rfl rfl rfl) ?_
        refine TL_q (.bool false) (fun _ _ hρ _ => r_not (b := true) (hρ _ _ rfl)) rfl rfl rfl (want_y 147 rfl rfl rfl) ?_
        refine TL_q (.bool false) (fun _ _ hρ _ => r_pick_f (hρ _ _ rfl) (hρ _ _ rfl)) rfl rfl rfl (w_n rfl) ?_
        refine TL_q (.bool false) (fun _ _ hρ _ => r_move (hρ _ _ rfl)) rfl rfl rfl (w_n rfl) ?_
        refine TL_q (.slice hE.t.a hE.t.l.length hE.t.cap) (fun _ _ hρ _ => r_move (hρ _ _ rfl)) rfl rfl rfl (want_y 153 rfl rfl rfl) ?_
        refine TL_q (.pointer (some ⟨Bx8, 0, none⟩)) (fun _ _ hρ _ => r_fieldAddr fl27_0 sz22 (hρ _ _ rfl)) rfl rfl rfl (want_y 153 rfl rfl rfl) ?_
        refine TL_q (.slice n1.a n1.l.length n1.cap) (fun _ _ hρ hm => r_load ag22 (hρ _ _ rfl) (hm.at 2 rfl) rfl) rfl rfl rfl (want_y 153 rfl rfl rfl) ?_
        refine TL_call (.bool true) (fun _ _ hρ _ => r_call (args := [.slice hE.t.a hE.t.l.length hE.t.cap, .slice n1.a n1.l.length n1.cap, .func (.func 26) #[] #[]]) (enters_of Try.func29 (by kernel_rfl) rfl) (hρ _ _ rfl) ((cons2 (hρ _ _ rfl) (cons2 (hρ _ _ rfl) (cons2 (hρ _ _ rfl) rfl)))) rfl) (fun w hm => (peqf_c hE.t.l hE.t.a hE.t.cap n1.l n1.a n1.cap w (SliceAt.own Pcl.cells_len (hm.row 952 rfl) rfl rfl) (row_cap (hm.row 952 rfl)) (pcs_pool (hm.pool 953 rfl) hemE.ok.inT) (hm.netAt 960 rfl hA).1 (hm.netAt 960 rfl hA).2.1 (hm.netAt 960 rfl hA).2.2 26 (enters_of Try.func26 (by kernel_rfl) rfl) (fun w2 hbw x hx y hy => rpsame_c x y w2 (((pcs_pool (hm.pool 953 rfl) hemE.ok.inT).keep hbw) x hx) (((hm.netAt 960 rfl hA).2.2.keep hbw) y hy))).mono fun _ _ h => ⟨h.1.trans (congrArg Ending.returned (bool_as (decide_eq_true hsC))), h.2⟩) rfl rfl rfl (want_y 153 rfl rfl rfl) ?_
        refine TL_q (.bool false) (fun _ _ hρ _ => r_not (b := true) (hρ _ _ rfl)) rfl rfl rfl (want_y 153 rfl rfl rfl) ?_
        refine TL_q (.bool false) (fun _ _ hρ _ => r_pick_f (hρ _ _ rfl) (hρ _ _ rfl)) rfl rfl rfl (w_n rfl) ?_
        refine TL_q (.bool false) (fun _ _ hρ _ => r_move (hρ _ _ rfl)) rfl rfl rfl (w_n rfl) ?_
        refine TL_q (.agg #[.slice hE.n.a hE.n.l.length hE.n.cap, .int .u64 hE.lost]) (fun _ _ hρ hm => r_loadA ag27 sz27 (hρ _ _ rfl) (hm.at 15 rfl) rfl rfl) rfl rfl rfl (want_y 160 rfl rfl rfl) ?_
        refine TL_q (.pointer (some ⟨Bx8, 1, none⟩)) (fun _ _ hρ _ => r_fieldAddr fl27_1 sz25 (hρ _ _ rfl)) rfl rfl rfl (want_y 160 rfl rfl rfl) ?_
        refine TL_q (.int .u64 lost) (fun _ _ hρ hm => r_load ag25 (hρ _ _ rfl) (hm.at 2 rfl) rfl) rfl rfl rfl (want_y 160 rfl rfl rfl) ?_
        refine TL_q (.agg #[.slice none 0 0, .int .u64 lost]) (fun _ _ hρ _ => r_build (vs := [(1, .int .u64 lost)]) (by kernel_rfl) (cons2 (pair2 (hρ _ _ rfl)) rfl)) rfl rfl rfl (want_y 160 rfl rfl rfl) ?_
        refine TL_call (.bool true) (fun _ _ hρ _ => r_call (args := [.agg #[.slice hE.n.a hE.n.l.length hE.n.cap, .int .u64 hE.lost], .agg #[.slice none 0 0, .int .u64 lost]]) (enters_of Try.func25 (by kernel_rfl) rfl) (hρ _ _ rfl) ((cons2 (hρ _ _ rfl) (cons2 (hρ _ _ rfl) rfl))) rfl) (fun w hm => (nrsame_c hE.n.l hE.n.a hE.n.cap hE.lost [] none 0 lost w (SliceAt.own Pcl.cells_len (hm.row 951 rfl) rfl rfl) (row_cap (hm.row 951 rfl)) (pcs_pool (hm.pool 953 rfl) hemE.ok.inN) (sliceNil w) (by decide) (pcsNil _)).mono fun _ _ h => ⟨h.1.trans (congrArg Ending.returned (bool_as (decide_eq_true hsD))), h.2⟩) rfl rfl rfl (want_y 160 rfl rfl rfl) ?_
        refine TL_q (.bool false) (fun _ _ hρ _ => r_not (b := true) (hρ _ _ rfl)) rfl rfl rfl (want_y 160 rfl rfl rfl) ?_
        refine TL_q (.bool false) (fun _ _ hρ _ => r_pick_f (hρ _ _ rfl) (hρ _ _ rfl)) rfl rfl rfl (w_n rfl) ?_
        refine TL_seq ?_
        refine T_sub [(1, .slice b ys.length capb), (2, .pointer (some ⟨B1, 0, none⟩)), (5, .pointer (some ⟨Bx8, 0, none⟩)), (6, .slice at6 ((l2).length) ct6), (19, .pointer (some ⟨B21, 0, none⟩)), (24, .slice hE.t.a hE.t.l.length hE.t.cap), (167, .bool false)] [(951, .row (.slice hE.n.a hE.n.l.length hE.n.cap) 36 3 hE.n.l.length (hE.n.l.flatMap Pcl.cells)), (952, .row (.slice hE.t.a hE.t.l.length hE.t.cap) 36 3 hE.t.l.length (hE.t.l.flatMap Pcl.cells)), (953, .pool 5 1 byc bE), (901, .row (.slice hR.n.a hR.n.l.length hR.n.cap) 36 3 hR.n.l.length (hR.n.l.flatMap Pcl.cells)), (902, .row (.slice hR.t.a hR.t.l.length hR.t.cap) 36 3 hR.t.l.length (hR.t.l.flatMap Pcl.cells)), (903, .pool 5 1 byc bR), (961, .no), (1, .blk B1 (.cells #[.slice a xs.length cap, .int .u64 lost] 27)), (2, .blk Bx8 (.cells #[.slice n1.a n1.l.length n1.cap, .int .u64 lost] 27)), (962, .row (.slice at6 ((l2).length) ct6) 48 4 ((l2).length) ((l2).flatMap Trk.cells)), (3, .blk B6 (.cells #[.slice aa al.length ac, .int .u64 alo] 27)), (960, .nets ns), (963, .row (.slice la als.length lc) 36 3 als.length (als.flatMap Pcl.cells)), (14, .blk B21 (.cells #[.slice hR.n.a hR.n.l.length hR.n.cap, .int .u64 hR.lost] 27)), (15, .blk B22 (.cells #[.slice hE.n.a hE.n.l.length hE.n.cap, .int .u64 hE.lost] 27))] (sub_cons rfl (sub_cons rfl (sub_cons rfl (sub_cons rfl (sub_cons rfl (sub_cons rfl (sub_cons rfl sub_nil))))))) (sub_cons rfl (sub_cons rfl (sub_cons rfl (sub_cons rfl (sub_cons rfl (sub_cons rfl (sub_cons rfl (sub_cons rfl (sub_cons rfl (sub_cons rfl (sub_cons rfl (sub_cons rfl (sub_cons rfl (sub_cons rfl (sub_cons rfl sub_nil))))))))))))))) ?_
        refine T_cond_f rfl ?_
        refine T_skip' ?_
        refine p_seq ?_
        refine T_mem (_ :: _) (fun _ hm => hm.poolScr 903 byc_len rfl isB_byc) ?_
        refine T_seq (T_region ?_)
        refine TL_q (.agg #[.slice hR.n.a hR.n.l.length hR.n.cap, .int .u64 hR.lost]) (fun _ _ hρ hm => r_loadA ag27 sz27 (hρ _ _ rfl) (hm.at 14 rfl) rfl rfl) rfl rfl rfl (w_n rfl) ?_
        refine TL_callH _ _ _ (fun _ _ hρ _ => r_call (args := [.agg #[.slice hR.n.a hR.n.l.length hR.n.cap, .int .u64 hR.lost]]) (enters_of Try.func27 (by kernel_rfl) rfl) (hρ _ _ rfl) ((cons2 (hρ _ _ rfl) rfl)) rfl) (fun w hm => lspoil_ht hR.n bR hR.lost (by repeat (first | exact noIds_nil _ _ | refine noIds_cons rfl ?_)) hrR.ok.inN (Nat.le_trans hrR.ok.len (by decide)) w (hm.of (lk_dups (A := [(901, rowP hR.n), (903, .scr 5 1 isB bR)]) (sub_cons rfl (sub_cons rfl sub_nil))))) rfl rfl rfl (w_n rfl) ?_
        rintro ⟨⟩ -
        refine TL_seq ?_
        refine T_mem (_ :: _ :: _) (fun _ hm => hm.move 901 952 rfl rfl) ?_
        refine T_mem (_ :: _ :: _) (fun _ hm => hm.move 903 953 rfl rfl) ?_
        refine T_mem (_ :: _) (fun _ hm => hm.poolScr 903 byc_len rfl isB_byc) ?_
        refine T_seq (T_region ?_)
        refine TL_q (.slice hE.t.a hE.t.l.length hE.t.cap) (fun _ _ hρ _ => r_move (hρ _ _ rfl)) rfl rfl rfl (w_n rfl) ?_
        refine TL_q (.agg #[.slice hE.t.a hE.t.l.length hE.t.cap, .int .u64 0]) (fun _ _ hρ _ => r_build (vs := [(0, .slice hE.t.a hE.t.l.length hE.t.cap)]) (by kernel_rfl) (cons2 (pair2 (hρ _ _ rfl)) rfl)) rfl rfl rfl (w_n rfl) ?_
        refine TL_callH _ _ _ (fun _ _ hρ _ => r_call (args := [.agg #[.slice hE.t.a hE.t.l.length hE.t.cap, .int .u64 0]]) (enters_of Try.func27 (by kernel_rfl) rfl) (hρ _ _ rfl) ((cons2 (hρ _ _ rfl) rfl)) rfl) (fun w hm => lspoil_ht hE.t bE 0 (by repeat (first | exact noIds_nil _ _ | refine noIds_cons rfl ?_)) hemE.ok.inT (by rw [← pvs_len, hemE.told, pvs_len]; omega) w (hm.of (lk_dups (A := [(901, rowP hE.t), (903, .scr 5 1 isB bE)]) (sub_cons rfl (sub_cons rfl sub_nil))))) rfl rfl rfl (w_n rfl) ?_
        rintro ⟨⟩ -
        refine TL_seq ?_
        obtain ⟨l23, hl23, hn23⟩ : ∃ lz, lz = ys.take ((l2).length) ∧ lz.length = (l2).length := ⟨_, rfl, by rw [List.length_take]; omega⟩
        have hs23 := SliceAt.front hu (n := (l2).length) (m := capb) (by omega) (by omega) (by omega)
        rw [← hl23] at hs23
        refine T_seq (T_draw (V := [(0, .agg #[.slice n1.a n1.l.length n1.cap, .int .u64 lost]), (1, .agg #[.slice a xs.length cap, .int .u64 lost])]) [0, 0, 2, 7, 15, 31, 31, 31, 159, 479, 1023, 2047, 4095] [[(5, none)], [(2, none)], [(174, some 1)], [(173, some 0), (175, some 2)], [(176, some 3)], [(6, none)], [(1, none)], [(6, none)], [(180, some 7)], [(179, some 6), (181, some 8)], [(178, some 5), (182, some 9)], [(183, some 10), (177, some 4)], [(184, some 11)]] 1036 mixed (by kernel_rfl) ?_)
        refine G_step [0, 1] 2 [] (by kernel_rfl) (allM (all_cons (q_run (.agg #[.slice n1.a n1.l.length n1.cap, .int .u64 lost]) rfl rfl (wv_n rfl) rfl (fun _ _ hρ hm => r_loadA ag27 sz27 (hρ _ _ rfl) (hm.at 2 rfl) rfl rfl)) (all_cons (q_run (.agg #[.slice a xs.length cap, .int .u64 lost]) rfl rfl (wv_n rfl) rfl (fun _ _ hρ hm => r_loadA ag27 sz27 (hρ _ _ rfl) (hm.at 1 rfl) rfl rfl)) all_nil))) (allM (all_cons ?_ all_nil))
        refine LOb_callN (fun ((n5, b5) : NetR × List (RowG By)) => pvs n5.l = fewV (pvs xs) ∧ InB b5 n5.l) (fun (n5, b5) => .agg #[.slice n5.a n5.l.length n5.cap, .int .u64 lost]) (fun (n5, b5) => [(968, .row (.slice n5.a n5.l.length n5.cap) 36 3 n5.l.length (n5.l.flatMap Pcl.cells)), (969, .pool 5 1 byc b5)]) (fun (n5, b5) => []) rfl (wv_n rfl) rfl rfl (fun _ _ hρ _ => r_call (args := [.agg #[.slice a xs.length cap, .int .u64 lost]]) (enters_of Try.func20 (by kernel_rfl) rfl) (hρ _ _ rfl) ((cons2 (hρ _ _ rfl) rfl)) rfl) (fun w hm => (own_c xs a cap lost w (hv.keep hm.ext) hcap (fun p hp => ⟨(hx p hp).1.keep hm.ext, (hx p hp).2⟩)).mono fun e w' ⟨n, bs, hf, hi, he, hb, r1, r2, hs⟩ => ⟨(n, bs), ⟨hf, hi⟩, he, hb, newOk2 968 969 r1 r2 hs⟩) (fun (n5, b5) => by kernel_rfl) ?_
        rintro ⟨n5, b5⟩ hfn5
        refine G_step [0] 3 [] (by kernel_rfl) (allM (all_cons (q_run (.agg #[.slice n1.a n1.l.length n1.cap, .int .u64 lost]) rfl rfl (wv_n rfl) rfl (fun _ _ hρ hm => r_loadA ag27 sz27 (hρ _ _ rfl) (hm.at 2 rfl) rfl rfl)) all_nil)) (allM (all_cons ?_ all_nil))
        refine LOb_call (.bool true) [(4, .bool true), (5, .slice at6 ((l2).length) ct6), (6, .slice b ys.length capb), (7, .slice at6 ((l2).length) ct6), (8, .int .i64 (((l2).length : Nat) : Int)), (9, .slice b l23.length capb)] rfl (wv_n rfl) rfl rfl (fun _ _ hρ _ => r_call (args := [.agg #[.slice n1.a n1.l.length n1.cap, .int .u64 lost], .agg #[.slice n5.a n5.l.length n5.cap, .int .u64 lost]]) (enters_of Try.func25 (by kernel_rfl) rfl) (hρ _ _ rfl) ((cons2 (hρ _ _ rfl) (cons2 (hρ _ _ rfl) rfl))) rfl) (fun w hm => (nrsame_c n1.l n1.a n1.cap lost n5.l n5.a n5.cap lost w (hm.netAt 960 rfl hA).1 (hm.netAt 960 rfl hA).2.1 (hm.netAt 960 rfl hA).2.2 (SliceAt.own Pcl.cells_len (hm.row 968 rfl) rfl rfl) (row_cap (hm.row 968 rfl)) (pcs_pool (hm.pool 969 rfl) hfn5.2)).mono fun _ _ h => ⟨h.1.trans (congrArg Ending.returned (bool_as (decide_eq_true ⟨rfl, hfn1.1.trans hfn5.1.symm⟩))), h.2⟩) (by kernel_rfl) ?_
        refine G_step [4, 5, 6, 7, 8, 9] 10 [] (by kernel_rfl) (allM (all_cons (q_run (.bool true) rfl rfl (wv_n rfl) rfl (fun _ _ hρ _ => r_move (hρ _ _ rfl))) (all_cons (q_run (.slice at6 ((l2).length) ct6) rfl rfl (wv_y rfl rfl) rfl (fun _ _ hρ _ => r_move (hρ _ _ rfl))) (all_cons (q_run (.slice b ys.length capb) rfl rfl (wv_y rfl rfl) rfl (fun _ _ hρ _ => r_move (hρ _ _ rfl))) (all_cons (q_run (.slice at6 ((l2).length) ct6) rfl rfl (wv_y rfl rfl) rfl (fun _ _ hρ _ => r_move (hρ _ _ rfl))) (all_cons (q_run (.int .i64 (((l2).length : Nat) : Int)) rfl rfl (wv_y rfl rfl) rfl (fun _ _ hρ _ => r_len sl43 (hρ _ _ rfl))) (all_cons (q_run (.slice b l23.length capb) rfl rfl (wv_y rfl rfl) rfl (fun ρ _ hρ _ => r_as (r_sliceO sl43 sz48 (hρ _ _ rfl) (bd_none ρ _) (bd_some (n := (l2).length) (hρ _ _ rfl)) (bd_none ρ _) (by simp) (by omega) (by omega) (by omega)) (by rw [hn23]; exact slo_zero _ _ _ _))) all_nil))))))) (allM (all_cons ?_ all_nil))
        refine LOb_call (.bool true) [(11, .bool true), (12, .bool true)] rfl (wv_y rfl rfl) rfl rfl (fun _ _ hρ _ => r_call (args := [.slice at6 ((l2).length) ct6, .slice b l23.length capb]) (enters_of Try.func30 (by kernel_rfl) rfl) (hρ _ _ rfl) ((cons2 (hρ _ _ rfl) (cons2 (hρ _ _ rfl) rfl))) rfl) (fun w hm => (equal_t l2 l23 at6 b ct6 capb w (SliceAt.own Trk.cells_len (hm.row 962 rfl) rfl rfl) (hs23.keep hm.ext) (by omega) (by omega)).mono fun _ _ h => ⟨h.1.trans (congrArg Ending.returned (bool_as (decide_eq_true (tk_same hl2 hl23)))), h.2⟩) (by kernel_rfl) ?_
        refine G_last [11, 12] [(4, .bool true)] (by kernel_rfl) (allM (all_cons (q_run (.bool true) rfl rfl (wv_n rfl) rfl (fun _ _ hρ _ => r_pick_t (hρ _ _ rfl) (hρ _ _ rfl))) (all_cons (q_run (.bool true) rfl rfl (wv_n rfl) rfl (fun _ _ hρ _ => r_assign (hρ _ _ rfl))) all_nil))) (end_new 12 rfl rfl end_nil) ?_
        refine T_ret' ?_
        refine ret_of rfl (.bool true) (fun tmps w hk hm => res1 rfl (res_tmp (hk 4 _ rfl))) (fun w hm => ?_)
        exact ⟨rfl, hm.ext⟩
    · skip
      refine T_seq (T_region ?_)
      refine TL_q (.agg #[.slice n1.a n1.l.length n1.cap, .int .u64 lost]) (fun _ _ hρ hm => r_loadA ag27 sz27 (hρ _ _ rfl) (hm.at 2 rfl) rfl rfl) rfl rfl rfl (w_n rfl) ?_
      refine TL_call (.bool false) (fun _ _ hρ _ => r_call (args := [.agg #[.slice n1.a n1.l.length n1.cap, .int .u64 lost]]) (enters_of Try.func22 (by kernel_rfl) rfl) (hρ _ _ rfl) ((cons2 (hρ _ _ rfl) rfl)) rfl) (fun w hm => (nright_c n1.l n1.a n1.cap lost w (hm.netAt 960 rfl hA).1 (hm.netAt 960 rfl hA).2.1 (hm.netAt 960 rfl hA).2.2).mono fun _ _ h => ⟨h.1.trans (congrArg Ending.returned (bool_as (eq_false_of_ne_true hck))), h.2⟩) rfl rfl rfl (w_n rfl) ?_
      refine TL_q (.bool false) (fun _ _ hρ _ => r_assign (hρ _ _ rfl)) rfl rfl rfl (w_n rfl) ?_
      refine TL_seq ?_
      refine T_seq (T_region ?_)
      refine TL_q (.agg #[.slice n1.a n1.l.length n1.cap, .int .u64 lost]) (fun _ _ hρ hm => r_loadA ag27 sz27 (hρ _ _ rfl) (hm.at 2 rfl) rfl rfl) rfl rfl rfl (w_n rfl) ?_
      refine TL_new 16 (.cells #[.slice none 0 0, .int .u64 0] 27) (fun B => .pointer (some ⟨B, 0, none⟩)) (fun _ _ _ _ => r_alloc (v := .agg #[.slice none 0 0, .int .u64 0]) (by kernel_rfl) rfl) rfl rfl rfl (w_n rfl) ?_
      intro B24
      refine TL_store 16 (.cells #[.slice n1.a n1.l.length n1.cap, .int .u64 lost] 27) rfl (fun _ _ hρ hm => r_store sz27 (hρ _ _ rfl) (hρ _ _ rfl) (hm.at 16 rfl) rfl rfl rfl rfl) rfl rfl (w_n rfl) ?_
      refine TL_q (.int .i64 0) (fun _ _ hρ _ => r_assign (hρ _ _ rfl)) rfl rfl rfl (w_n rfl) ?_
      refine TL_seq ?_
      refine T_seq (T_region ?_)
      refine TL_q (.slice none 0 0) (fun _ _ hρ _ => r_assign (hρ _ _ rfl)) rfl rfl rfl (w_n rfl) ?_
      refine TL_seq ?_
      refine T_seq ?_
      refine T_seq (T_region ?_)
      refine TL_q (.slice at6 ((l2).length) ct6) (fun _ _ hρ _ => r_move (hρ _ _ rfl)) rfl rfl rfl (w_n rfl) ?_
      refine TL_q (.int .i64 (((l2).length : Nat) : Int)) (fun _ _ hρ _ => r_len sl43 (hρ _ _ rfl)) rfl rfl rfl (w_n rfl) ?_
      refine TL_q (.int .i64 0) (fun _ _ hρ _ => r_move (hρ _ _ rfl)) rfl rfl rfl (w_n rfl) ?_
      refine TL_seq ?_
      refine T_block ?_
      refine T_loop (ι := Nat × Int) (fun (z : Nat × Int) => match z with | (k, ov) => k ≤ l2.length ∧ 0 ≤ ov ∧ ov ≤ k) (fun (z : Nat × Int) => match z with | (k, ov) => [(1, .slice b ys.length capb), (2, .pointer (some ⟨B1, 0, none⟩)), (5, .pointer (some ⟨Bx8, 0, none⟩)), (6, .slice at6 ((l2).length) ct6), (7, .bool false), (8, .pointer (some ⟨B24, 0, none⟩)), (39, .slice at6 ((l2).length) ct6), (40, .int .i64 (((l2).length : Nat) : Int)), (41, .int .i64 ((k : Nat) : Int)), (9, .int .i64 ov), (10, .slice none 0 0)]) (fun (z : Nat × Int) => match z with | (k, ov) => [(960, .nets ns), (961, .no), (1, .blk B1 (.cells #[.slice a xs.length cap, .int .u64 lost] 27)), (2, .blk Bx8 (.cells #[.slice n1.a n1.l.length n1.cap, .int .u64 lost] 27)), (962, .row (.slice at6 ((l2).length) ct6) 48 4 ((l2).length) ((l2).flatMap Trk.cells)), (16, .blk B24 (.cells #[.slice n1.a n1.l.length n1.cap, .int .u64 lost] 27))]) (fun (z : Nat × Int) => match z with | (k, ov) => l2.length - k) (0, 0) ⟨Nat.zero_le _, by decide, by decide⟩ (sub_cons rfl (sub_cons rfl (sub_cons rfl (sub_cons rfl (sub_cons rfl (sub_cons rfl (sub_cons rfl (sub_cons rfl (sub_cons rfl (sub_cons rfl (sub_cons rfl sub_nil))))))))))) (sub_cons rfl (sub_cons rfl (sub_cons rfl (sub_cons rfl (sub_cons rfl (sub_cons rfl sub_nil)))))) ?_
      rintro ⟨k, ov⟩ hp
      obtain ⟨hk, hov1, hov2⟩ := hp
      show T _ _ _ [(1, .slice b ys.length capb), (2, .pointer (some ⟨B1, 0, none⟩)), (5, .pointer (some ⟨Bx8, 0, none⟩)), (6, .slice at6 ((l2).length) ct6), (7, .bool false), (8, .pointer (some ⟨B24, 0, none⟩)), (39, .slice at6 ((l2).length) ct6), (40, .int .i64 (((l2).length : Nat) : Int)), (41, .int .i64 ((k : Nat) : Int)), (9, .int .i64 ov), (10, .slice none 0 0)] [(960, .nets ns), (961, .no), (1, .blk B1 (.cells #[.slice a xs.length cap, .int .u64 lost] 27)), (2, .blk Bx8 (.cells #[.slice n1.a n1.l.length n1.cap, .int .u64 lost] 27)), (962, .row (.slice at6 ((l2).length) ct6) 48 4 ((l2).length) ((l2).flatMap Trk.cells)), (16, .blk B24 (.cells #[.slice n1.a n1.l.length n1.cap, .int .u64 lost] 27))]
      refine T_seq (T_region ?_)
      refine TL_q (.bool (decide (((k : Nat) : Int) < (((l2).length : Nat) : Int)))) (fun _ _ hρ _ => r_lss (hρ _ _ rfl) (hρ _ _ rfl)) rfl rfl rfl (w_n rfl) ?_
      refine TL_seq ?_
      refine T_seq ?_
      refine T_cond rfl (fun h3 => ?_) (fun h3 => ?_)
      · replace h3 := of_decide_eq_true h3
        refine T_skip' ?_
        refine p_seq ?_
        refine T_seq ?_
        refine T_block ?_
        obtain ⟨t, ht⟩ : ∃ x, l2[k]? = some x := ⟨_, List.getElem?_eq_getElem (by omega)⟩
        refine T_open (fun _ hm => (SliceAt.own Trk.cells_len (hm.row 962 rfl) rfl rfl)) (by omega) (fun b25 of25 ha25 => ?_)
        subst ha25
        refine T_seq (T_region ?_)
        refine TL_q (.pointer (some ⟨b25, of25 + k * 4, none⟩)) (fun _ _ hρ _ => r_indexAddrS (i := k) sl43 sz48 (hρ _ _ rfl) (hρ _ _ rfl) (by omega)) rfl rfl rfl (w_n rfl) ?_
        refine TL_q (.agg #[.int .i64 t.kind, .int .i64 t.at', .int .i64 t.bit, .int .u32 ((t.mask).toNat : Int)]) (fun _ _ hρ hm => r_loadS (f := Trk.cells) (u := t) (l := l2) (i := k) ag48 sz48 (hρ _ _ rfl) (SliceAt.own Trk.cells_len (hm.row 962 rfl) rfl rfl) ht) rfl rfl rfl (w_n rfl) ?_
        refine TL_new 17 (.cells #[.int .i64 0, .int .i64 0, .int .i64 0, .int .u32 0] 48) (fun B => .pointer (some ⟨B, 0, none⟩)) (fun _ _ _ _ => r_alloc (v := .agg #[.int .i64 0, .int .i64 0, .int .i64 0, .int .u32 0]) (by kernel_rfl) rfl) rfl rfl rfl (w_n rfl) ?_
        intro B26
        refine TL_store 17 (.cells #[.int .i64 t.kind, .int .i64 t.at', .int .i64 t.bit, .int .u32 ((t.mask).toNat : Int)] 48) rfl (fun _ _ hρ hm => r_store sz48 (hρ _ _ rfl) (hρ _ _ rfl) (hm.at 17 rfl) rfl rfl rfl rfl) rfl rfl (w_n rfl) ?_
        refine TL_seq ?_
        refine T_seq (T_region ?_)
        refine TL_q (.agg #[.slice n1.a n1.l.length n1.cap, .int .u64 lost]) (fun _ _ hρ hm => r_loadA ag27 sz27 (hρ _ _ rfl) (hm.at 16 rfl) rfl rfl) rfl rfl rfl (w_n rfl) ?_
        refine TL_q (.agg #[.int .i64 t.kind, .int .i64 t.at', .int .i64 t.bit, .int .u32 ((t.mask).toNat : Int)]) (fun _ _ hρ hm => r_loadA ag48 sz48 (hρ _ _ rfl) (hm.at 17 rfl) rfl rfl) rfl rfl rfl (w_n rfl) ?_
        refine TL_call (.tuple #[.agg #[.slice none 0 0, .int .u64 0], .agg #[.int .i64 0, .slice none 0 0, .bool false], .int .i64 350]) (fun _ _ hρ _ => r_call (args := [.agg #[.slice n1.a n1.l.length n1.cap, .int .u64 lost], .agg #[.int .i64 t.kind, .int .i64 t.at', .int .i64 t.bit, .int .u32 ((t.mask).toNat : Int)]]) (enters_of Try.func23 (by kernel_rfl) rfl) (hρ _ _ rfl) ((cons2 (hρ _ _ rfl) (cons2 (hρ _ _ rfl) rfl))) rfl) (fun w hm => do_net n1.l n1.a n1.cap lost t.kind t.at' t.bit t.mask w (hm.netAt 960 rfl hA).1 (hm.netAt 960 rfl hA).2.1 (hm.netAt 960 rfl hA).2.2 hck) rfl rfl rfl (w_n rfl) ?_
        refine TL_q (.tuple #[.agg #[.slice none 0 0, .int .u64 0], .agg #[.int .i64 0, .slice none 0 0, .bool false], .int .i64 350]) (fun _ _ hρ _ => r_move (hρ _ _ rfl)) rfl rfl rfl (w_n rfl) ?_
        refine TL_q (.agg #[.slice none 0 0, .int .u64 0]) (fun _ _ hρ _ => r_extract (hρ _ _ rfl) rfl) rfl rfl rfl (w_n rfl) ?_
        refine TL_q (.agg #[.int .i64 0, .slice none 0 0, .bool false]) (fun _ _ hρ _ => r_extract (hρ _ _ rfl) rfl) rfl rfl rfl (w_n rfl) ?_
        refine TL_q (.int .i64 350) (fun _ _ hρ _ => r_extract (hρ _ _ rfl) rfl) rfl rfl rfl (w_n rfl) ?_
        refine TL_new 18 (.cells #[.slice none 0 0, .int .u64 0] 27) (fun B => .pointer (some ⟨B, 0, none⟩)) (fun _ _ _ _ => r_alloc (v := .agg #[.slice none 0 0, .int .u64 0]) (by kernel_rfl) rfl) rfl rfl rfl (w_n rfl) ?_
        intro B27
        refine TL_new 19 (.cells #[.int .i64 0, .slice none 0 0, .bool false] 36) (fun B => .pointer (some ⟨B, 0, none⟩)) (fun _ _ _ _ => r_alloc (v := .agg #[.int .i64 0, .slice none 0 0, .bool false]) (by kernel_rfl) rfl) rfl rfl rfl (w_n rfl) ?_
        intro B28
        refine TL_store 18 (.cells #[.slice none 0 0, .int .u64 0] 27) rfl (fun _ _ hρ hm => r_store sz27 (hρ _ _ rfl) (hρ _ _ rfl) (hm.at 18 rfl) rfl rfl rfl rfl) rfl rfl (w_n rfl) ?_
        refine TL_store 19 (.cells #[.int .i64 0, .slice none 0 0, .bool false] 36) rfl (fun _ _ hρ hm => r_store sz36 (hρ _ _ rfl) (hρ _ _ rfl) (hm.at 19 rfl) rfl rfl rfl rfl) rfl rfl (w_n rfl) ?_
        refine TL_q (.int .i64 350) (fun _ _ hρ _ => r_assign (hρ _ _ rfl)) rfl rfl rfl (w_n rfl) ?_
        refine TL_seq ?_
        refine T_seq (T_region ?_)
        refine TL_new 20 (.cells #[.slice none 0 0, .int .u64 0] 27) (fun B => .pointer (some ⟨B, 0, none⟩)) (fun _ _ _ _ => r_alloc (v := .agg #[.slice none 0 0, .int .u64 0]) (by kernel_rfl) rfl) rfl rfl rfl (w_n rfl) ?_
        intro B29
        refine TL_seq ?_
        refine T_seq (T_region ?_)
        refine TL_new 21 (.cells #[.int .i64 0, .slice none 0 0, .bool false] 36) (fun B => .pointer (some ⟨B, 0, none⟩)) (fun _ _ _ _ => r_alloc (v := .agg #[.int .i64 0, .slice none 0 0, .bool false]) (by kernel_rfl) rfl) rfl rfl rfl (w_n rfl) ?_
        intro B30
        refine TL_seq ?_
        refine T_seq (T_region ?_)
        refine TL_q (.int .i64 350) (fun _ _ hρ _ => r_assign (hρ _ _ rfl)) rfl rfl rfl (w_n rfl) ?_
        refine TL_seq ?_
        refine T_seq ?_
        refine T_seq (T_region ?_)
        refine TL_q (.bool false) (fun _ _ hρ _ => r_move (hρ _ _ rfl)) rfl rfl rfl (w_n rfl) ?_
        refine TL_seq ?_
        refine T_cond_f rfl ?_
        refine T_skip' ?_
        refine p_seq ?_
        refine T_seq ?_
        refine T_seq (T_region ?_)
        refine TL_q (.int .i64 350) (fun _ _ hρ _ => r_move (hρ _ _ rfl)) rfl rfl rfl (w_n rfl) ?_
        refine TL_q (.int .i64 350) (fun _ _ hρ _ => r_move (hρ _ _ rfl)) rfl rfl rfl (w_n rfl) ?_
        refine TL_q (.bool false) (fun _ _ hρ _ => r_as (r_neq (hρ _ _ rfl) (hρ _ _ rfl)) (by rfl)) rfl rfl rfl (w_n rfl) ?_
        refine TL_q (.bool false) (fun _ _ hρ _ => r_move (hρ _ _ rfl)) rfl rfl rfl (w_n rfl) ?_
        refine TL_q (.agg #[.slice none 0 0, .int .u64 0]) (fun _ _ hρ hm => r_loadA ag27 sz27 (hρ _ _ rfl) (hm.at 18 rfl) rfl rfl) rfl rfl rfl (want_y 63 rfl rfl rfl) ?_
        refine TL_q (.agg #[.slice none 0 0, .int .u64 0]) (fun _ _ hρ hm => r_loadA ag27 sz27 (hρ _ _ rfl) (hm.at 20 rfl) rfl rfl) rfl rfl rfl (want_y 63 rfl rfl rfl) ?_
        refine TL_call (.bool true) (fun _ _ hρ _ => r_call (args := [.agg #[.slice none 0 0, .int .u64 0], .agg #[.slice none 0 0, .int .u64 0]]) (enters_of Try.func25 (by kernel_rfl) rfl) (hρ _ _ rfl) ((cons2 (hρ _ _ rfl) (cons2 (hρ _ _ rfl) rfl))) rfl) (fun w _ => (nrsame_c [] none 0 (0 : Int) [] none 0 (0 : Int) w (sliceNil w) (by decide) (pcsNil _) (sliceNil w) (by decide) (pcsNil _)).mono fun _ _ h => ⟨h.1.trans (congrArg Ending.returned (bool_as (decide_eq_true ⟨rfl, rfl⟩))), h.2⟩) rfl rfl rfl (want_y 63 rfl rfl rfl) ?_
        refine TL_q (.bool false) (fun _ _ hρ _ => r_not (b := true) (hρ _ _ rfl)) rfl rfl rfl (want_y 63 rfl rfl rfl) ?_
        refine TL_q (.bool false) (fun _ _ hρ _ => r_pick_f (hρ _ _ rfl) (hρ _ _ rfl)) rfl rfl rfl (w_n rfl) ?_
        refine TL_q (.bool false) (fun _ _ hρ _ => r_move (hρ _ _ rfl)) rfl rfl rfl (w_n rfl) ?_
        refine TL_q (.agg #[.int .i64 0, .slice none 0 0, .bool false]) (fun _ _ hρ hm => r_loadA ag36 sz36 (hρ _ _ rfl) (hm.at 19 rfl) rfl rfl) rfl rfl rfl (want_y 69 rfl rfl rfl) ?_
        refine TL_q (.agg #[.int .i64 0, .slice none 0 0, .bool false]) (fun _ _ hρ hm => r_loadA ag36 sz36 (hρ _ _ rfl) (hm.at 21 rfl) rfl rfl) rfl rfl rfl (want_y 69 rfl rfl rfl) ?_
        refine TL_call (.bool true) (fun _ _ hρ _ => r_call (args := [.agg #[.int .i64 0, .slice none 0 0, .bool false], .agg #[.int .i64 0, .slice none 0 0, .bool false]]) (enters_of Try.func26 (by kernel_rfl) rfl) (hρ _ _ rfl) ((cons2 (hρ _ _ rfl) (cons2 (hρ _ _ rfl) rfl))) rfl) (fun w _ => (rpsame_c (⟨0, ⟨none, 0, []⟩, false⟩ : Pcl) (⟨0, ⟨none, 0, []⟩, false⟩ : Pcl) w (zero_ok w) (zero_ok w)).mono fun _ _ h => ⟨h.1.trans (congrArg Ending.returned (bool_as (decide_eq_true rfl))), h.2⟩) rfl rfl rfl (want_y 69 rfl rfl rfl) ?_
        refine TL_q (.bool false) (fun _ _ hρ _ => r_not (b := true) (hρ _ _ rfl)) rfl rfl rfl (want_y 69 rfl rfl rfl) ?_
        refine TL_q (.bool false) (fun _ _ hρ _ => r_pick_f (hρ _ _ rfl) (hρ _ _ rfl)) rfl rfl rfl (w_n rfl) ?_
        refine TL_seq ?_
        refine T_sub [(1, .slice b ys.length capb), (2, .pointer (some ⟨B1, 0, none⟩)), (5, .pointer (some ⟨Bx8, 0, none⟩)), (6, .slice (some ⟨b25, of25, none⟩) ((l2).length) ct6), (7, .bool false), (8, .pointer (some ⟨B24, 0, none⟩)), (39, .slice (some ⟨b25, of25, none⟩) ((l2).length) ct6), (40, .int .i64 (((l2).length : Nat) : Int)), (41, .int .i64 ((k : Nat) : Int)), (9, .int .i64 ov), (10, .slice none 0 0), (42, .bool (decide (((k : Nat) : Int) < (((l2).length : Nat) : Int)))), (43, .pointer (some ⟨b25, of25 + k * 4, none⟩)), (44, .agg #[.int .i64 t.kind, .int .i64 t.at', .int .i64 t.bit, .int .u32 ((t.mask).toNat : Int)]), (12, .pointer (some ⟨B26, 0, none⟩)), (46, .agg #[.slice n1.a n1.l.length n1.cap, .int .u64 lost]), (47, .agg #[.int .i64 t.kind, .int .i64 t.at', .int .i64 t.bit, .int .u32 ((t.mask).toNat : Int)]), (48, .tuple #[.agg #[.slice none 0 0, .int .u64 0], .agg #[.int .i64 0, .slice none 0 0, .bool false], .int .i64 350]), (45, .tuple #[.agg #[.slice none 0 0, .int .u64 0], .agg #[.int .i64 0, .slice none 0 0, .bool false], .int .i64 350]), (49, .agg #[.slice none 0 0, .int .u64 0]), (50, .agg #[.int .i64 0, .slice none 0 0, .bool false]), (51, .int .i64 350), (13, .pointer (some ⟨B27, 0, none⟩)), (14, .pointer (some ⟨B28, 0, none⟩)), (15, .int .i64 350), (16, .pointer (some ⟨B29, 0, none⟩)), (17, .pointer (some ⟨B30, 0, none⟩)), (18, .int .i64 350), (52, .bool false), (60, .int .i64 350), (61, .int .i64 350), (62, .bool false), (63, .bool false), (64, .agg #[.slice none 0 0, .int .u64 0]), (65, .agg #[.slice none 0 0, .int .u64 0]), (66, .bool true), (67, .bool false), (68, .bool false), (69, .bool false), (70, .agg #[.int .i64 0, .slice none 0 0, .bool false]), (71, .agg #[.int .i64 0, .slice none 0 0, .bool false]), (72, .bool true), (73, .bool false), (74, .bool false)] [(960, .nets ns), (961, .no), (1, .blk B1 (.cells #[.slice a xs.length cap, .int .u64 lost] 27)), (2, .blk Bx8 (.cells #[.slice n1.a n1.l.length n1.cap, .int .u64 lost] 27)), (962, .row (.slice (some ⟨b25, of25, none⟩) ((l2).length) ct6) 48 4 ((l2).length) ((l2).flatMap Trk.cells)), (16, .blk B24 (.cells #[.slice n1.a n1.l.length n1.cap, .int .u64 lost] 27)), (17, .blk B26 (.cells #[.int .i64 t.kind, .int .i64 t.at', .int .i64 t.bit, .int .u32 ((t.mask).toNat : Int)] 48)), (18, .blk B27 (.cells #[.slice none 0 0, .int .u64 0] 27)), (19, .blk B28 (.cells #[.int .i64 0, .slice none 0 0, .bool false] 36)), (20, .blk B29 (.cells #[.slice none 0 0, .int .u64 0] 27)), (21, .blk B30 (.cells #[.int .i64 0, .slice none 0 0, .bool false] 36))] (sub_cons rfl (sub_cons rfl (sub_cons rfl (sub_cons rfl (sub_cons rfl (sub_cons rfl (sub_cons rfl (sub_cons rfl (sub_cons rfl (sub_cons rfl (sub_cons rfl (sub_cons rfl (sub_cons rfl (sub_cons rfl (sub_cons rfl (sub_cons rfl (sub_cons rfl (sub_cons rfl (sub_cons rfl (sub_cons rfl (sub_cons rfl (sub_cons rfl (sub_cons rfl (sub_cons rfl (sub_cons rfl (sub_cons rfl (sub_cons rfl (sub_cons rfl (sub_cons rfl (sub_cons rfl (sub_cons rfl (sub_cons rfl (sub_cons rfl (sub_cons rfl (sub_cons rfl (sub_cons rfl (sub_cons rfl (sub_cons rfl (sub_cons rfl (sub_cons rfl (sub_cons rfl (sub_cons rfl (sub_cons rfl (sub_cons rfl sub_nil)))))))))))))))))))))))))))))))))))))))))))) (sub_cons rfl (sub_cons rfl (sub_cons rfl (sub_cons rfl (sub_cons rfl (sub_cons rfl (sub_cons rfl (sub_cons rfl (sub_cons rfl (sub_cons rfl (sub_cons rfl sub_nil))))))))))) ?_
        refine T_cond_f rfl ?_
        refine T_skip' ?_
        refine p_seq ?_
        refine T_seq ?_
        refine T_seq (T_region ?_)
        refine TL_q (.int .i64 350) (fun _ _ hρ _ => r_move (hρ _ _ rfl)) rfl rfl rfl (w_n rfl) ?_
        refine TL_q (.bool true) (fun _ _ hρ _ => r_as (r_neq (hρ _ _ rfl) (hρ _ _ rfl)) (by rfl)) rfl rfl rfl (w_n rfl) ?_
        refine TL_seq ?_
        refine T_cond_t rfl ?_
        refine T_seq (T_region ?_)
        refine TL_q (.int .i64 ov) (fun _ _ hρ _ => r_move (hρ _ _ rfl)) rfl rfl rfl (w_n rfl) ?_
        refine TL_q (.int .i64 (ov + 1)) (fun _ _ hρ _ => r_as (r_add (hρ _ _ rfl) (hρ _ _ rfl)) (int_as (wrap64 (by omega) (by omega)))) rfl rfl rfl (w_n rfl) ?_
        refine TL_q (.int .i64 (ov + 1)) (fun _ _ hρ _ => r_assign (hρ _ _ rfl)) rfl rfl rfl (w_n rfl) ?_
        refine TL_seq ?_
        refine T_exit' ?_
        refine p_then_x ?_
        refine p_blk_x ?_
        refine p_seq ?_
        refine T_region ?_
        refine TL_q (.int .i64 ((k + 1 : Nat) : Int)) (fun _ _ hρ _ => r_as (r_add (hρ _ _ rfl) (hρ _ _ rfl)) (int_as ((wrap64 (by omega) (by omega)).trans (by omega)))) rfl rfl rfl (w_n rfl) ?_
        refine TL_q (.int .i64 ((k + 1 : Nat) : Int)) (fun _ _ hρ _ => r_move (hρ _ _ rfl)) rfl rfl rfl (w_n rfl) ?_
        refine TL_nil ?_
        exact p_at (k + 1, ov + 1) ⟨⟨by omega, by omega, by omega⟩, by dsimp only; omega⟩ (sub_cons rfl (sub_cons rfl (sub_cons rfl (sub_cons rfl (sub_cons rfl (sub_cons rfl (sub_cons rfl (sub_cons rfl (sub_cons rfl (sub_cons rfl (sub_cons rfl sub_nil))))))))))) (sub_cons rfl (sub_cons rfl (sub_cons rfl (sub_cons rfl (sub_cons rfl (sub_cons rfl sub_nil))))))
      · replace h3 := of_decide_eq_false h3
        refine T_exit' ?_
        refine p_then_x ?_
        refine p_then_x ?_
        refine p_blk_x ?_
        refine p_seq ?_
        refine T_seq (T_region ?_)
        refine TL_q (.agg #[.slice n1.a n1.l.length n1.cap, .int .u64 lost]) (fun _ _ hρ hm => r_loadA ag27 sz27 (hρ _ _ rfl) (hm.at 2 rfl) rfl rfl) rfl rfl rfl (w_n rfl) ?_
        refine TL_q (.slice at6 ((l2).length) ct6) (fun _ _ hρ _ => r_move (hρ _ _ rfl)) rfl rfl rfl (w_n rfl) ?_
        refine TL_call (.tuple #[.agg #[.slice none 0 0, .int .u64 0], .slice none 0 0, .int .i64 0, .int .i64 350]) (fun _ _ hρ _ => r_call (args := [.agg #[.slice n1.a n1.l.length n1.cap, .int .u64 lost], .slice at6 ((l2).length) ct6]) (enters_of Try.func28 (by kernel_rfl) rfl) (hρ _ _ rfl) ((cons2 (hρ _ _ rfl) (cons2 (hρ _ _ rfl) rfl))) rfl) (fun w hm => run_net n1.l n1.a n1.cap lost l2 at6 ct6 w (hm.netAt 960 rfl hA).1 (hm.netAt 960 rfl hA).2.1 (hm.netAt 960 rfl hA).2.2 (SliceAt.own Trk.cells_len (hm.row 962 rfl) rfl rfl) (row_cap (hm.row 962 rfl)) (by omega) hck) rfl rfl rfl (w_n rfl) ?_
        refine TL_q (.tuple #[.agg #[.slice none 0 0, .int .u64 0], .slice none 0 0, .int .i64 0, .int .i64 350]) (fun _ _ hρ _ => r_move (hρ _ _ rfl)) rfl rfl rfl (w_n rfl) ?_
        refine TL_q (.agg #[.slice none 0 0, .int .u64 0]) (fun _ _ hρ _ => r_extract (hρ _ _ rfl) rfl) rfl rfl rfl (w_n rfl) ?_
        refine TL_q (.slice none 0 0) (fun _ _ hρ _ => r_extract (hρ _ _ rfl) rfl) rfl rfl rfl (w_n rfl) ?_
        refine TL_q (.int .i64 0) (fun _ _ hρ _ => r_extract (hρ _ _ rfl) rfl) rfl rfl rfl (w_n rfl) ?_
        refine TL_q (.int .i64 350) (fun _ _ hρ _ => r_extract (hρ _ _ rfl) rfl) rfl rfl rfl (w_n rfl) ?_
        refine TL_new 22 (.cells #[.slice none 0 0, .int .u64 0] 27) (fun B => .pointer (some ⟨B, 0, none⟩)) (fun _ _ _ _ => r_alloc (v := .agg #[.slice none 0 0, .int .u64 0]) (by kernel_rfl) rfl) rfl rfl rfl (w_n rfl) ?_
        intro B31
        refine TL_store 22 (.cells #[.slice none 0 0, .int .u64 0] 27) rfl (fun _ _ hρ hm => r_store sz27 (hρ _ _ rfl) (hρ _ _ rfl) (hm.at 22 rfl) rfl rfl rfl rfl) rfl rfl (w_n rfl) ?_
        refine TL_q (.slice none 0 0) (fun _ _ hρ _ => r_assign (hρ _ _ rfl)) rfl rfl rfl (w_n rfl) ?_
        refine TL_q (.int .i64 0) (fun _ _ hρ _ => r_assign (hρ _ _ rfl)) rfl rfl rfl (w_n rfl) ?_
        refine TL_q (.int .i64 350) (fun _ _ hρ _ => r_assign (hρ _ _ rfl)) rfl rfl rfl (w_n rfl) ?_
        refine TL_seq ?_
        refine T_seq (T_region ?_)
        refine TL_q (.agg #[.slice n1.a n1.l.length n1.cap, .int .u64 lost]) (fun _ _ hρ hm => r_loadA ag27 sz27 (hρ _ _ rfl) (hm.at 2 rfl) rfl rfl) rfl rfl rfl (w_n rfl) ?_
        refine TL_call (.tuple #[.agg #[.slice none 0 0, .int .u64 0], .slice none 0 0, .int .i64 350]) (fun _ _ hρ _ => r_call (args := [.agg #[.slice n1.a n1.l.length n1.cap, .int .u64 lost]]) (enters_of Try.func15 (by kernel_rfl) rfl) (hρ _ _ rfl) ((cons2 (hρ _ _ rfl) rfl)) rfl) (fun w hm => empty_no n1.l n1.a n1.cap lost w (hm.netAt 960 rfl hA).1 (hm.netAt 960 rfl hA).2.1 (hm.netAt 960 rfl hA).2.2 hck (by omega)) rfl rfl rfl (w_n rfl) ?_
        refine TL_q (.tuple #[.agg #[.slice none 0 0, .int .u64 0], .slice none 0 0, .int .i64 350]) (fun _ _ hρ _ => r_move (hρ _ _ rfl)) rfl rfl rfl (w_n rfl) ?_
        refine TL_q (.agg #[.slice none 0 0, .int .u64 0]) (fun _ _ hρ _ => r_extract (hρ _ _ rfl) rfl) rfl rfl rfl (w_n rfl) ?_
        refine TL_q (.slice none 0 0) (fun _ _ hρ _ => r_extract (hρ _ _ rfl) rfl) rfl rfl rfl (w_n rfl) ?_
        refine TL_q (.int .i64 350) (fun _ _ hρ _ => r_extract (hρ _ _ rfl) rfl) rfl rfl rfl (w_n rfl) ?_
        refine TL_new 23 (.cells #[.slice none 0 0, .int .u64 0] 27) (fun B => .pointer (some ⟨B, 0, none⟩)) (fun _ _ _ _ => r_alloc (v := .agg #[.slice none 0 0, .int .u64 0]) (by kernel_rfl) rfl) rfl rfl rfl (w_n rfl) ?_
        intro B32
        refine TL_store 23 (.cells #[.slice none 0 0, .int .u64 0] 27) rfl (fun _ _ hρ hm => r_store sz27 (hρ _ _ rfl) (hρ _ _ rfl) (hm.at 23 rfl) rfl rfl rfl rfl) rfl rfl (w_n rfl) ?_
        refine TL_q (.slice none 0 0) (fun _ _ hρ _ => r_assign (hρ _ _ rfl)) rfl rfl rfl (w_n rfl) ?_
        refine TL_q (.int .i64 350) (fun _ _ hρ _ => r_assign (hρ _ _ rfl)) rfl rfl rfl (w_n rfl) ?_
        refine TL_seq ?_
        refine T_seq ?_
        refine T_seq (T_region ?_)
        refine TL_q (.bool false) (fun _ _ hρ _ => r_move (hρ _ _ rfl)) rfl rfl rfl (w_n rfl) ?_
        refine TL_q (.bool true) (fun _ _ hρ _ => r_not (b := false) (hρ _ _ rfl)) rfl rfl rfl (w_n rfl) ?_
        refine TL_seq ?_
        refine T_cond_t rfl ?_
        refine T_seq (T_region ?_)
        refine TL_q (.int .i64 350) (fun _ _ hρ _ => r_move (hρ _ _ rfl)) rfl rfl rfl (w_n rfl) ?_
        refine TL_q (.bool true) (fun _ _ hρ _ => r_as (r_eql (hρ _ _ rfl) (hρ _ _ rfl)) (by rfl)) rfl rfl rfl (w_n rfl) ?_
        refine TL_q (.bool true) (fun _ _ hρ _ => r_move (hρ _ _ rfl)) rfl rfl rfl (w_n rfl) ?_
        refine TL_q (.int .i64 350) (fun _ _ hρ _ => r_move (hρ _ _ rfl)) rfl rfl rfl (want_y 108 rfl rfl rfl) ?_
        refine TL_q (.bool true) (fun _ _ hρ _ => r_as (r_eql (hρ _ _ rfl) (hρ _ _ rfl)) (by rfl)) rfl rfl rfl (want_y 108 rfl rfl rfl) ?_
        refine TL_q (.bool true) (fun _ _ hρ _ => r_pick_t (hρ _ _ rfl) (hρ _ _ rfl)) rfl rfl rfl (w_n rfl) ?_
        refine TL_q (.bool true) (fun _ _ hρ _ => r_move (hρ _ _ rfl)) rfl rfl rfl (w_n rfl) ?_
        refine TL_q (.pointer (some ⟨B31, 0, none⟩)) (fun _ _ hρ _ => r_fieldAddr fl27_0 sz22 (hρ _ _ rfl)) rfl rfl rfl (want_y 112 rfl rfl rfl) ?_
        refine TL_q (.slice none 0 0) (fun _ _ hρ hm => r_load ag22 (hρ _ _ rfl) (hm.at 22 rfl) rfl) rfl rfl rfl (want_y 112 rfl rfl rfl) ?_
        refine TL_q (.int .i64 0) (fun _ _ hρ _ => r_len sl22 (hρ _ _ rfl)) rfl rfl rfl (want_y 112 rfl rfl rfl) ?_
        refine TL_q (.slice none 0 0) (fun _ _ hρ _ => r_move (hρ _ _ rfl)) rfl rfl rfl (want_y 112 rfl rfl rfl) ?_
        refine TL_q (.int .i64 0) (fun _ _ hρ _ => r_len sl22 (hρ _ _ rfl)) rfl rfl rfl (want_y 112 rfl rfl rfl) ?_
        refine TL_q (.int .i64 0) (fun _ _ hρ _ => r_as (r_add (hρ _ _ rfl) (hρ _ _ rfl)) (by rfl)) rfl rfl rfl (want_y 112 rfl rfl rfl) ?_
        refine TL_q (.int .i64 0) (fun _ _ hρ _ => r_move (hρ _ _ rfl)) rfl rfl rfl (want_y 112 rfl rfl rfl) ?_
        refine TL_q (.int .i64 0) (fun _ _ hρ _ => r_as (r_add (hρ _ _ rfl) (hρ _ _ rfl)) (by rfl)) rfl rfl rfl (want_y 112 rfl rfl rfl) ?_
        refine TL_q (.pointer (some ⟨B32, 0, none⟩)) (fun _ _ hρ _ => r_fieldAddr fl27_0 sz22 (hρ _ _ rfl)) rfl rfl rfl (want_y 112 rfl rfl rfl) ?_
        refine TL_q (.slice none 0 0) (fun _ _ hρ hm => r_load ag22 (hρ _ _ rfl) (hm.at 23 rfl) rfl) rfl rfl rfl (want_y 112 rfl rfl rfl) ?_
        refine TL_q (.int .i64 0) (fun _ _ hρ _ => r_len sl22 (hρ _ _ rfl)) rfl rfl rfl (want_y 112 rfl rfl rfl) ?_
        refine TL_q (.int .i64 0) (fun _ _ hρ _ => r_as (r_add (hρ _ _ rfl) (hρ _ _ rfl)) (by rfl)) rfl rfl rfl (want_y 112 rfl rfl rfl) ?_
        refine TL_q (.slice none 0 0) (fun _ _ hρ _ => r_move (hρ _ _ rfl)) rfl rfl rfl (want_y 112 rfl rfl rfl) ?_
        refine TL_q (.int .i64 0) (fun _ _ hρ _ => r_len sl22 (hρ _ _ rfl)) rfl rfl rfl (want_y 112 rfl rfl rfl) ?_
        refine TL_q (.int .i64 0) (fun _ _ hρ _ => r_as (r_add (hρ _ _ rfl) (hρ _ _ rfl)) (by rfl)) rfl rfl rfl (want_y 112 rfl rfl rfl) ?_
        refine TL_q (.bool true) (fun _ _ hρ _ => r_as (r_eql (hρ _ _ rfl) (hρ _ _ rfl)) (by rfl)) rfl rfl rfl (want_y 112 rfl rfl rfl) ?_
        refine TL_q (.bool true) (fun _ _ hρ _ => r_pick_t (hρ _ _ rfl) (hρ _ _ rfl)) rfl rfl rfl (w_n rfl) ?_
        refine TL_q (.bool true) (fun _ _ hρ _ => r_assign (hρ _ _ rfl)) rfl rfl rfl (w_n rfl) ?_
        refine TL_seq ?_
        refine T_sub [(1, .slice b ys.length capb), (2, .pointer (some ⟨B1, 0, none⟩)), (5, .pointer (some ⟨Bx8, 0, none⟩)), (6, .slice at6 ((l2).length) ct6), (8, .pointer (some ⟨B24, 0, none⟩)), (9, .int .i64 ov), (10, .slice none 0 0), (19, .pointer (some ⟨B31, 0, none⟩)), (20, .slice none 0 0), (21, .int .i64 0), (22, .int .i64 350), (23, .pointer (some ⟨B32, 0, none⟩)), (24, .slice none 0 0), (25, .int .i64 350), (4, .bool true)] [(960, .nets ns), (961, .no), (1, .blk B1 (.cells #[.slice a xs.length cap, .int .u64 lost] 27)), (2, .blk Bx8 (.cells #[.slice n1.a n1.l.length n1.cap, .int .u64 lost] 27)), (962, .row (.slice at6 ((l2).length) ct6) 48 4 ((l2).length) ((l2).flatMap Trk.cells)), (16, .blk B24 (.cells #[.slice n1.a n1.l.length n1.cap, .int .u64 lost] 27)), (22, .blk B31 (.cells #[.slice none 0 0, .int .u64 0] 27)), (23, .blk B32 (.cells #[.slice none 0 0, .int .u64 0] 27))] (sub_cons rfl (sub_cons rfl (sub_cons rfl (sub_cons rfl (sub_cons rfl (sub_cons rfl (sub_cons rfl (sub_cons rfl (sub_cons rfl (sub_cons rfl (sub_cons rfl (sub_cons rfl (sub_cons rfl (sub_cons rfl (sub_cons rfl sub_nil))))))))))))))) (sub_cons rfl (sub_cons rfl (sub_cons rfl (sub_cons rfl (sub_cons rfl (sub_cons rfl (sub_cons rfl (sub_cons rfl sub_nil)))))))) ?_
        refine T_ret' ?_
        refine p_then_r ?_
        refine ret_of rfl (.bool true) (fun tmps w hk hm => res1 rfl (res_tmp (hk 4 _ rfl))) (fun w hm => ?_)
        exact ⟨rfl, hm.ext⟩
end Go.Proofs.Ytcidgbjgeegepaa
/- Arguments that are slices of what lies in memory (slices of slices ..), read. Over any program. -/
namespace Go.Proofs.Ytcidgbjgeegepaa
open Go Go.RowKit Go.ChangeShapes Go.WideShapes Go.Deep
/-- Cells that are read at this type, in this memory, are those of some x. -/
def RdsAt (P : Program) (w : World) (t : TypeId) {α : Type} (f : α → List Value) (ok : α → Prop) : Prop :=
  ∀ (H : Type) (enc : TypeId × Value → H) (base : Nat) (spare : Nat → Bool) (held : Bool) (fuel : Nat) (cs : List Value) (x : DataW H × List MemPlace), DataW.trod enc P w base spare held fuel t cs = some x → ∃ a, cs = f a ∧ ok a
theorem Rds.at {P : Program} {t : TypeId} {α : Type} {f : α → List Value} {ok : α → Prop} (h : Rds P t f ok) (w : World) : RdsAt P w t f ok := fun H enc base spare held fuel cs x hx => h H enc w base spare held fuel cs x hx
theorem RdsAt.mapIf {P : Program} {w : World} {t : TypeId} {α β : Type} {f : α → List Value} {ok : α → Prop} (h : RdsAt P w t f ok) (g : α → β) {f' : β → List Value} {ok' : β → Prop} (hf : ∀ a, ok a → f a = f' (g a)) (ho : ∀ a, ok a → ok' (g a)) : RdsAt P w t f' ok' := by
  intro H enc base spare held fuel cs x hx
  obtain ⟨a, h1, h2⟩ := h H enc base spare held fuel cs x hx
  exact ⟨g a, by rw [h1, hf a h2], ho a h2⟩
/-- A slice that came in. -/
theorem read_sliceW {P : Program} {t e : TypeId} {s : Nat} {α : Type} {f : α → List Value} {ok : α → Prop} (ht : sliOf P t = some e) (hs : szOf P e = some s) (hf : ∀ x, (f x).length = s) (hsp : 0 < s) {w : World} (h : RdsAt P w e f ok)
    {H : Type} {enc : TypeId × Value → H} {base : Nat} {spare : Nat → Bool} {held : Bool} {fuel : Nat} {cs : List Value} {x : DataW H × List MemPlace} (hx : DataW.trod enc P w base spare held fuel t cs = some x) :
    ∃ (l : List α) (a : Option Addr) (cap : Nat), cs = [.slice a l.length cap] ∧ SliceAt w a cap s f l ∧ (∀ x ∈ l, ok x) ∧ cap ≤ Go.maxLen := by
  rcases open_slice (und_sli ht) hx with ⟨rfl, _⟩ | ⟨a, len, cap, m, n, D, Pl, rfl, hb, hl, hm, hmm, _, hi⟩
  · exact ⟨[], none, 0, rfl, sliceNil w, (fun x hx => by cases hx), by unfold Go.maxLen; omega⟩
  · have hlm : len ≤ m := by rw [hmm]; split <;> omega
    rw [cellsOf_sz hs] at hi
    by_cases h0 : len = 0
    · subst h0
      exact ⟨[], some a, cap, rfl, ⟨by simp, (fun e => by cases e), .inl rfl⟩, (fun x hx => by cases hx), hm⟩
    · obtain ⟨l, h1, h2⟩ := list_of (p := fun i y => (∀ j, j < s → w.cell? ((a.add (i * s)).add j) = (f y)[j]?) ∧ ok y) len (fun i hil => by
        obtain ⟨cs', hc, ht'⟩ := hi i (by omega)
        obtain ⟨y, hy, oy⟩ := h _ enc base spare held n _ _ ht'
        obtain ⟨_, _, hcell⟩ := World.cells?_some hc
        exact ⟨y, fun j hj => by rw [hcell j hj, hy], oy⟩)
      have hl0 : l[0]? = some (l[0]'(by omega)) := List.getElem?_eq_getElem (by omega)
      have hc0 := (h2 0 _ hl0).1 0 hsp
      rw [List.getElem?_eq_getElem (by rw [hf]; exact hsp)] at hc0
      simp only [Nat.zero_mul, Addr.add, if_true] at hc0
      obtain ⟨b, off, sp⟩ := a
      unfold World.cell? at hc0
      split at hc0
      · rename_i c T fz hheap
        split at hc0
        · cases hc0
        · rename_i hspot
          have hsp0 : sp = none := by simpa using hspot
          subst hsp0
          subst h1
          refine ⟨l, some ⟨b, off, none⟩, cap, rfl, ⟨hl, (fun e => by cases e), .inr ⟨b, off, c, T, fz, rfl, hheap, ?_⟩⟩, fun x hx => by obtain ⟨i, hi⟩ := List.getElem?_of_mem hx; exact (h2 i x hi).2, hm⟩
          intro i y hy
          have hcells : ∀ j, j < s → c[off + i * s + j]? = (f y)[j]? := fun j hj => by
            have := (h2 i y hy).1 j hj
            rw [addr_add, addr_add] at this
            simpa [World.cell?, hheap] using this
          have hsz : off + i * s + s ≤ c.size := by
            have := hcells (s - 1) (by omega)
            rw [List.getElem?_eq_getElem (by rw [hf]; omega)] at this
            have := (Array.getElem?_eq_some_iff.1 this).1
            omega
          refine ⟨hsz, ?_⟩
          apply Array.ext_getElem?
          intro j
          rw [Array.getElem?_extract]
          by_cases hj : j < s
          · rw [if_pos (by omega), hcells j hj]; simp
          · rw [if_neg (by omega)]
            rw [Array.getElem?_eq_none]
            simp [hf]; omega
      · cases hc0
theorem rds_slice {P : Program} {w : World} {t e : TypeId} {s : Nat} {α : Type} {f : α → List Value} {ok : α → Prop} (ht : sliOf P t = some e) (hs : szOf P e = some s) (hf : ∀ x, (f x).length = s) (hsp : 0 < s) (h : RdsAt P w e f ok) :
    RdsAt P w t (RowG.cells (α := α)) (fun r => r.ok s f w ∧ (∀ x ∈ r.l, ok x) ∧ r.cap ≤ Go.maxLen) := by
  intro H enc base spare held fuel cs x hx
  obtain ⟨l, a, cap, h1, h2, h3, h4⟩ := read_sliceW ht hs hf hsp h hx
  exact ⟨⟨a, cap, l⟩, h1, h2, h3, h4⟩
section
variable {P : Program} {w : World} {r : Reach} {b0 : Nat} {t : TypeId} {v : Value} {H : Type} {enc : TypeId × Value → H} {base : Nat} {spare : Nat → Bool} {held : Bool} {d : DataW H} {ps : List MemPlace}
theorem param_sliceW {e : TypeId} {s : Nat} {α : Type} {f : α → List Value} {ok : α → Prop} (ht : sliOf P t = some e) (hs : szOf P e = some s) (hf : ∀ x, (f x).length = s) (hsp : 0 < s) (hr : RdsAt P w e f ok) (hv : Value.okWide P w r b0 t v) (h : DataW.Trod enc P w base spare held t v d ps) :
    ∃ (l : List α) (a : Option Addr) (cap : Nat), v = .slice a l.length cap ∧ SliceAt w a cap s f l ∧ (∀ x ∈ l, ok x) ∧ cap ≤ Go.maxLen := by
  obtain ⟨fuel, hf'⟩ := h
  obtain ⟨l, a, cap, h1, h2, h3, h4⟩ := read_sliceW ht hs hf hsp hr hf'
  refine ⟨l, a, cap, ?_, h2, h3, h4⟩
  unfold Value.okWide at hv
  rw [und_sli ht] at hv
  cases v with
  | agg cs => simp [Cell.okWide, und_sli ht, Cell.ok] at hv
  | _ => simp [Value.cells] at h1 <;> simp [h1]
/-- A parameter of cells. -/
theorem param_aggW {α : Type} {f : α → List Value} {ok : α → Prop} (ha : aggOf P t = some true) (hr : RdsAt P w t f ok) (hv : Value.okWide P w r b0 t v) (h : DataW.Trod enc P w base spare held t v d ps) : ∃ x, v = .agg (f x).toArray ∧ ok x := by
  obtain ⟨fuel, hf⟩ := h
  obtain ⟨x, hx, ox⟩ := hr _ enc base spare held fuel _ _ hf
  simp only [aggOf, Option.map_eq_some_iff] at ha
  obtain ⟨dd, hd, he⟩ := ha
  have : ∃ cs, v = .agg cs := by
    unfold Value.okWide at hv
    rw [hd] at hv
    cases dd <;> first | (cases he; done) | (obtain ⟨cs, h1, _⟩ := hv; exact ⟨cs, h1⟩)
  obtain ⟨cs, rfl⟩ := this
  exact ⟨x, by rw [← hx]; rfl, ox⟩
end
end Go.Proofs.Ytcidgbjgeegepaa
/- Arguments that are structs whose parts lie in memory, read. Over any program. -/
namespace Go.Proofs.Ytcidgbjgeegepaa
open Go Go.RowKit Go.ChangeShapes Go.WideShapes Go.Deep
section
variable {P : Program} {w : World} {t : TypeId}
theorem rdsA_field {i off n : Nat} {ft : TypeId} {α : Type} {f : α → List Value} {ok : α → Prop} (hfl : fldOf P t i = some (ft, off)) (hs : szOf P ft = some n) (h : RdsAt P w ft f ok)
    {H : Type} {enc : TypeId × Value → H} {base : Nat} {spare : Nat → Bool} {held : Bool} {fuel : Nat} {cs : List Value} {x : DataW H × List MemPlace} (hx : DataW.trod enc P w base spare held fuel t cs = some x) :
    ∃ a, (cs.drop off).take n = f a ∧ ok a := by
  obtain ⟨fs, hu, fl, hfi, rfl, rfl⟩ := und_fld hfl
  obtain ⟨xs, m, _, _, _, hlen, hg⟩ := DataW.trod_struct hu hx
  have hi := hg i fl hfi
  have hil : i < fs.size := (Array.getElem?_eq_some_iff.1 hfi).1
  rw [cellsOf_sz hs, List.getElem?_eq_getElem (by omega)] at hi
  exact h _ enc base spare held m _ _ hi
theorem cut1 {α : Type} {cs : List α} {a b : Nat} (h : cs.length = a + b) : cs = cs.take a ++ (cs.drop a).take b := by
  rw [List.take_of_length_le (l := cs.drop a) (by rw [List.length_drop]; omega), List.take_append_drop]
theorem rdsA2 {t0 t1 : TypeId} {s0 s1 : Nat} {α β : Type} {f0 : α → List Value} {f1 : β → List Value} {o0 : α → Prop} {o1 : β → Prop} (h0 : fldOf P t 0 = some (t0, 0)) (h1 : fldOf P t 1 = some (t1, s0)) (z0 : szOf P t0 = some s0) (z1 : szOf P t1 = some s1)
    (z : szOf P t = some (s0 + s1)) (r0 : RdsAt P w t0 f0 o0) (r1 : RdsAt P w t1 f1 o1) : RdsAt P w t (fun p : α × β => f0 p.1 ++ f1 p.2) (fun p => o0 p.1 ∧ o1 p.2) := by
  intro H enc base spare held fuel cs x hx
  obtain ⟨a, ha, oa⟩ := rdsA_field h0 z0 r0 hx
  obtain ⟨b, hb, ob⟩ := rdsA_field h1 z1 r1 hx
  have hl := rds_len h0 z hx
  refine ⟨(a, b), ?_, oa, ob⟩
  show cs = f0 a ++ f1 b
  rw [← ha, ← hb, List.drop_zero]
  exact cut1 hl
theorem rdsA3 {t0 t1 t2 : TypeId} {s0 s1 s2 : Nat} {α β γ : Type} {f0 : α → List Value} {f1 : β → List Value} {f2 : γ → List Value} {o0 : α → Prop} {o1 : β → Prop} {o2 : γ → Prop} (h0 : fldOf P t 0 = some (t0, 0)) (h1 : fldOf P t 1 = some (t1, s0)) (h2 : fldOf P t 2 = some (t2, s0 + s1)) (z0 : szOf P t0 = some s0) (z1 : szOf P t1 = some s1) (z2 : szOf P t2 = some s2)
    (z : szOf P t = some (s0 + s1 + s2)) (r0 : RdsAt P w t0 f0 o0) (r1 : RdsAt P w t1 f1 o1) (r2 : RdsAt P w t2 f2 o2) : RdsAt P w t (fun p : α × β × γ => f0 p.1 ++ (f1 p.2.1 ++ f2 p.2.2)) (fun p => o0 p.1 ∧ o1 p.2.1 ∧ o2 p.2.2) := by
  intro H enc base spare held fuel cs x hx
  obtain ⟨a, ha, oa⟩ := rdsA_field h0 z0 r0 hx
  obtain ⟨b, hb, ob⟩ := rdsA_field h1 z1 r1 hx
  obtain ⟨c, hc, oc⟩ := rdsA_field h2 z2 r2 hx
  have hl := rds_len h0 z hx
  refine ⟨(a, b, c), ?_, oa, ob, oc⟩
  show cs = f0 a ++ (f1 b ++ f2 c)
  rw [← ha, ← hb, ← hc, List.drop_zero, ← List.drop_drop]
  rw [← cut1 (cs := cs.drop s0) (by rw [List.length_drop]; omega), List.take_append_drop]
end
end Go.Proofs.Ytcidgbjgeegepaa
/- net: arguments of the laws, read. -/
namespace Go.Proofs.Ytcidgbjgeegepaa
open Go Go.RowKit Go.ChangeShapes Go.WideShapes
set_option maxRecDepth 10000
theorem Rds.mapIf {P : Program} {t : TypeId} {α β : Type} {f : α → List Value} {ok : α → Prop} (h : Rds P t f ok) (g : α → β) {f' : β → List Value} (hf : ∀ a, ok a → f a = f' (g a)) : Rds P t f' (fun _ => True) := by
  intro H enc w base spare held fuel cs x hx
  obtain ⟨a, h1, h2⟩ := h H enc w base spare held fuel cs x hx
  exact ⟨g a, by rw [h1, hf a h2], trivial⟩
theorem byte_back {n : Int} (h : (Lit.int .u8 n).wf = true) : ((BitVec.ofNat 8 n.toNat).toNat : Int) = n := by
  have := wf_u8 h
  rw [BitVec.toNat_ofNat]; omega
theorem word_back {n : Int} (h : (Lit.int .u32 n).wf = true) : ((BitVec.ofNat 32 n.toNat).toNat : Int) = n := by
  have := wf_u32 h
  rw [BitVec.toNat_ofNat]; omega
theorem rds_byte : Rds Try.prog 5 byc (fun _ => True) := (rds_int io5).mapIf (fun n => BitVec.ofNat 8 n.toNat) (fun n h => by show [Value.int .u8 n] = [Value.int .u8 _]; rw [byte_back h])
theorem rds_pcl (w : World) : RdsAt Try.prog w 36 Pcl.cells (fun p => p.r.ok 1 byc w ∧ p.r.cap ≤ Go.maxLen) :=
  RdsAt.mapIf (rdsA3 fl36_0 fl36_1 fl36_2 sz3 sz34 sz4 sz36 ((rds_int io3).at w) (rds_slice sl34 sz5 byc_len (by decide) (rds_byte.at w)) ((rds_bool (by kernel_rfl)).at w)) (fun p => ⟨p.1, p.2.1, p.2.2⟩) (fun _ _ => rfl)
    (fun _ h => ⟨h.2.1.1, h.2.1.2.2⟩)
end Go.Proofs.Ytcidgbjgeegepaa
/- net: arguments of the laws, read: nets. -/
namespace Go.Proofs.Ytcidgbjgeegepaa
open Go Go.RowKit Go.ChangeShapes Go.WideShapes
set_option maxRecDepth 10000
/-- A net that is handed in. -/
structure Nt where
  r : RowG Pcl
  lost : Int
abbrev Nt.cells (n : Nt) : List Value := [.slice n.r.a n.r.l.length n.r.cap, .int .u64 n.lost]
def Nt.ok (w : World) (n : Nt) : Prop := n.r.ok 3 Pcl.cells w ∧ n.r.cap ≤ Go.maxLen ∧ (∀ p ∈ n.r.l, p.r.ok 1 byc w ∧ p.r.cap ≤ Go.maxLen) ∧ 0 ≤ n.lost
theorem rds_net (w : World) : RdsAt Try.prog w 27 Nt.cells (Nt.ok w) :=
  RdsAt.mapIf (rdsA2 fl27_0 fl27_1 sz22 sz25 sz27 (rds_slice sl22 sz36 Pcl.cells_len (by decide) (rds_pcl w)) ((rds_int io25).at w)) (fun p => ⟨p.1, p.2⟩) (fun _ _ => rfl)
    (fun _ h => ⟨h.1.1, h.1.2.2, h.1.2.1, (wf_u64 h.2).1⟩)
end Go.Proofs.Ytcidgbjgeegepaa
/- net: arguments of the laws, read: tricks. -/
namespace Go.Proofs.Ytcidgbjgeegepaa
open Go Go.RowKit Go.ChangeShapes Go.WideShapes
set_option maxRecDepth 10000
theorem rds_trk : Rds Try.prog 48 Trk.cells (fun _ => True) :=
  (rds4 fl48_0 fl48_1 fl48_2 fl48_3 sz3 sz3 sz3 sz46 sz48 (rds_int io3) (rds_int io3) (rds_int io3) (rds_int io46)).mapIf (fun p => ⟨p.1, p.2.1, p.2.2.1, BitVec.ofNat 32 p.2.2.2.toNat⟩)
    (fun p h => by show [Value.int .i64 p.1, .int .i64 p.2.1, .int .i64 p.2.2.1, .int .u32 p.2.2.2] = [Value.int .i64 p.1, .int .i64 p.2.1, .int .i64 p.2.2.1, .int .u32 _]; rw [word_back h.2.2.2])
theorem ntricks_any (x : Nt) (ys : List Trk) (b : Option Addr) (capb : Nat) (w : World) (hx : x.ok w) (hu : SliceAt w b capb 4 Trk.cells ys) (hcapb : capb ≤ Go.maxLen) : Calls Try.prog 4 #[.agg x.cells.toArray, .slice b ys.length capb] w fun e w' => e = .returned (.bool true) ∧ Below w.heap.size w w' :=
  ntricks_c x.r.l x.r.a x.r.cap x.lost ys b capb w hx.1 hx.2.1 hx.2.2.1 hu hcapb hx.2.2.2
end Go.Proofs.Ytcidgbjgeegepaa
