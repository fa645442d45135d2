/- crc: the references of Seal, Open, Spoil. Printed by a program of this seat's prover. -/
import Derived.Test.YtnjcffhpfmnbfaaOpen
namespace Go.Proofs.Ytnjcffhpfmnbfaa
open Go Go.RowKit
set_option maxRecDepth 10000
theorem open_ref_t {l p q : List By} (h4 : 4 ≤ l.length) (hp : p = l.take (l.length - 4)) (hq : q = l.take (l.length - 4)) (h : ∀ j, j < 4 → l[l.length - 4 + j]? = (four (sumC 0#32 q))[j]?) : openP l = some p := by
  refine open_t h4 hp hq rfl ?_
  apply List.ext_getElem?
  intro j
  rw [List.take_of_length_le (by rw [List.length_drop]; exact Nat.le_refl _), List.getElem?_drop]
  by_cases hj : j < 4
  · exact h j hj
  · rw [List.getElem?_eq_none (by omega), List.getElem?_eq_none (by rw [four_len]; omega)]
theorem open_ref_f {l q : List By} {i : Nat} {x y : By} (hi : i < 4) (hq : q = l.take (l.length - 4)) (hx : (four (sumC 0#32 q))[i]? = some x) (hy : l[l.length - 4 + i]? = some y) (h : ¬ y = x) : openP l = none := by
  refine open_f hq rfl fun e => h ?_
  have := congrArg (fun z => z[i]?) e
  skip
  rw [List.take_of_length_le (by rw [List.length_drop]; exact Nat.le_refl _), List.getElem?_drop, hx, hy] at this
  exact Option.some.inj this

theorem seal_ref (l : List By) (a : Option Addr) (cap : Nat) (w : World) (hv : SliceAt w a cap 1 byc l) (hl : l.length ≤ 1000000) : Calls Try.prog 15 #[.slice a l.length cap] w fun e w' => ∃ a' cap', e = .returned (.slice a' (sealP l).length cap') ∧ Below w.heap.size w w' ∧ w'.ownsRow w.heap.size 5 1 (.slice a' (sealP l).length cap') (sealP l).length ((sealP l).flatMap byc) := by
  have hvl := hv.1
  refine calls_of_T (l := [.slice a l.length cap]) 10 Try.func15 rfl rfl rfl ?_
  show T _ _ _ [(0, .slice a l.length cap)] []
  refine T_seq (T_region ?_)
  refine TL_q (.slice none 0 0) (fun _ _ hρ _ => r_assign (hρ _ _ rfl)) rfl rfl rfl (w_n rfl) ?_
  refine TL_seq ?_
  refine T_seq (T_region ?_)
  refine TL_new 1 (.cells #[] 5) (fun B => .slice (some ⟨B, 0, none⟩) 0 0) (fun _ _ _ _ => r_buildSlice (vs := []) (by kernel_rfl) rfl) rfl rfl rfl (w_n rfl) ?_
  intro B1
  refine TL_q (.slice a l.length cap) (fun _ _ hρ _ => r_move (hρ _ _ rfl)) rfl rfl rfl (w_n rfl) ?_
  refine TL_mem ([(1, .row (.slice (some ⟨B1, 0, none⟩) 0 0) 5 1 0 [])]) (fun _ hm => MemOk.sub (hm.toRow (n := 0) (cap := 0) (s := 1) 1 rfl rfl (by omega) rfl _ rfl) (sub_cons rfl sub_nil)) ?_
  refine TL_append (n := 0) (m := l.length) (xs := []) (news := (l.flatMap byc)) (z := .int .u8 0) 1 rfl rfl rfl sl29 sz5 by5 (by kernel_rfl) rfl rfl (.inl rfl) (fun _ hm => by have := src_of byc_len (hv.keep hm.ext); simpa using this) (by intro u hu; obtain ⟨x, _, hx⟩ := List.mem_flatMap.1 hu; exact byc_one x u hx) (by omega) (by omega) rfl (w_n rfl) ?_
  intro a2 cap2
  refine TL_q (.slice a l.length cap) (fun _ _ hρ _ => r_move (hρ _ _ rfl)) rfl rfl rfl (w_n rfl) ?_
  refine TL_call (.int .u32 ((sumC 0#32 l).toNat : Int)) (fun _ _ hρ _ => r_call (args := [.slice a l.length cap]) (enters_of Try.func21 (by kernel_rfl) rfl) (hρ _ _ rfl) ((cons2 (hρ _ _ rfl) rfl)) rfl) (fun w hm => sum_ref l a cap w (hv.keep hm.ext) (by omega)) rfl rfl rfl (w_n rfl) ?_
  refine TL_callN (fun (_ : Nat) => True) (fun F3 => .slice (some ⟨F3, 0, none⟩) 4 4) (fun F3 => [(2, .blk F3 (.cells (((four (sumC 0#32 l)).flatMap byc).toArray) 5))]) (fun _ _ hρ _ => r_call (args := [.int .u32 ((sumC 0#32 l).toNat : Int)]) (enters_of Try.func29 (by kernel_rfl) rfl) (hρ _ _ rfl) ((cons2 (hρ _ _ rfl) rfl)) rfl) (fun w _ => (four_ref (sumC 0#32 l) w).mono fun e w' ⟨z, h1, h2, h3, h4⟩ => ⟨z, h1, h2, h3, newOk_at 2 h4⟩) rfl rfl rfl (w_n rfl) ?_
  rintro F3 -
  refine TL_append (n := (0 + l.length)) (m := 4) (xs := ([] ++ (l.flatMap byc))) (news := ((four (sumC 0#32 l)).flatMap byc)) (z := .int .u8 0) 1 rfl rfl rfl sl29 sz5 by5 (by kernel_rfl) rfl rfl (.inl rfl) (fun _ hm => src_blk (news := ((four (sumC 0#32 l)).flatMap byc)) (hm.at 2 rfl) rfl) (by intro u hu; obtain ⟨x, _, hx⟩ := List.mem_flatMap.1 hu; exact byc_one x u hx) (by omega) (by omega) rfl (w_n rfl) ?_
  intro a4 cap4
  refine TL_q (.slice a4 ((0 + l.length) + 4) cap4) (fun _ _ hρ _ => r_assign (hρ _ _ rfl)) rfl rfl rfl (w_n rfl) ?_
  refine TL_seq ?_
  refine T_ret' ?_
  refine ret_of rfl (.slice a4 ((0 + l.length) + 4) cap4) (fun tmps w hk hm => res1 rfl (res_tmp (hk 2 _ rfl))) (fun w hm => ?_)
  have hrow := hm.row 1 rfl
  simp only [Nat.zero_add, List.nil_append] at hrow ⊢
  exact ⟨a4, cap4, congrArg (fun n => Ending.returned (Value.slice _ n _)) (by unfold sealP; rw [List.length_append]; rfl), hm.ext, by rw [show (sealP l).length = l.length + 4 from List.length_append, show (sealP l).flatMap byc = _ from List.flatMap_append]; exact hrow⟩

theorem upto_snoc {p : Nat → Option By} {q : Nat → Option By} {i : Nat} (h : ∀ j, j < i → p j = q j) (hi : p i = q i) : ∀ j, j < i + 1 → p j = q j := fun j hj => by
  rcases Nat.lt_or_eq_of_le (Nat.le_of_lt_succ hj) with h1 | h1
  · exact h j h1
  · subst h1; exact hi

theorem open_ref (l : List By) (a : Option Addr) (cap : Nat) (w : World) (hv : SliceAt w a cap 1 byc l) (hl : l.length ≤ 1000000) (hcap : cap ≤ Go.maxLen) : Calls Try.prog 17 #[.slice a l.length cap] w fun e w' => ∃ a' cap', e = .returned (.tuple #[.slice a' (openL l).length cap', .bool (openB l)]) ∧ Below w.heap.size w w' ∧ w'.ownsRow w.heap.size 5 1 (.slice a' (openL l).length cap') (openL l).length ((openL l).flatMap byc) := by
  have hvl := hv.1
  refine calls_of_T (l := [.slice a l.length cap]) 37 Try.func17 rfl rfl rfl ?_
  show T _ _ _ [(0, .slice a l.length cap)] []
  refine T_seq (T_region ?_)
  refine TL_q (.slice none 0 0) (fun _ _ hρ _ => r_assign (hρ _ _ rfl)) rfl rfl rfl (w_n rfl) ?_
  refine TL_q (.bool false) (fun _ _ hρ _ => r_assign (hρ _ _ rfl)) rfl rfl rfl (w_n rfl) ?_
  refine TL_seq ?_
  by_cases h4 : 4 ≤ l.length
  · skip
    refine T_seq (T_region ?_)
    refine TL_q (.slice a l.length cap) (fun _ _ hρ _ => r_move (hρ _ _ rfl)) rfl rfl rfl (w_n rfl) ?_
    refine TL_q (.int .i64 ((l.length : Nat) : Int)) (fun _ _ hρ _ => r_len sl29 (hρ _ _ rfl)) rfl rfl rfl (w_n rfl) ?_
    refine TL_q (.int .i64 ((l.length - 4 : Nat) : Int)) (fun _ _ hρ _ => r_as (r_sub (hρ _ _ rfl) (hρ _ _ rfl)) (int_as ((wrap64 (by omega) (by omega)).trans (by omega)))) rfl rfl rfl (w_n rfl) ?_
    refine TL_q (.int .i64 ((l.length - 4 : Nat) : Int)) (fun _ _ hρ _ => r_assign (hρ _ _ rfl)) rfl rfl rfl (w_n rfl) ?_
    refine TL_seq ?_
    refine T_seq ?_
    have hng : ¬ (((l.length - 4 : Nat) : Int) < 0) := by omega
    refine T_seq (T_region ?_)
    refine TL_q (.int .i64 ((l.length - 4 : Nat) : Int)) (fun _ _ hρ _ => r_move (hρ _ _ rfl)) rfl rfl rfl (w_n rfl) ?_
    refine TL_q (.bool false) (fun _ _ hρ _ => r_as (r_lss (hρ _ _ rfl) (hρ _ _ rfl)) (bool_as (decide_eq_false hng))) rfl rfl rfl (w_n rfl) ?_
    refine TL_seq ?_
    refine T_cond_f rfl ?_
    refine T_skip' ?_
    refine p_seq ?_
    refine T_seq ?_
    refine T_seq (T_region ?_)
    refine TL_q (.slice a l.length cap) (fun _ _ hρ _ => r_move (hρ _ _ rfl)) rfl rfl rfl (w_n rfl) ?_
    refine TL_q (.int .i64 ((l.length - 4 : Nat) : Int)) (fun _ _ hρ _ => r_move (hρ _ _ rfl)) rfl rfl rfl (w_n rfl) ?_
    obtain ⟨l1, hl1, hn1⟩ : ∃ lz, lz = l.take (l.length - 4) ∧ lz.length = l.length - 4 := ⟨_, rfl, by rw [List.length_take]; omega⟩
    have hs1 := SliceAt.front hv (n := l.length - 4) (m := cap) (by omega) (by omega) (by omega)
    rw [← hl1] at hs1
    refine TL_q (.slice a l1.length cap) (fun ρ _ hρ _ => r_as (r_sliceO sl29 sz5 (hρ _ _ rfl) (bd_none ρ _) (bd_some (n := l.length - 4) (hρ _ _ rfl)) (bd_none ρ _) (by simp) (by omega) (by omega) (by omega)) (by rw [hn1]; exact slo_zero _ _ _ _)) rfl rfl rfl (w_n rfl) ?_
    refine TL_call (.int .u32 ((sumC 0#32 l1).toNat : Int)) (fun _ _ hρ _ => r_call (args := [.slice a l1.length cap]) (enters_of Try.func21 (by kernel_rfl) rfl) (hρ _ _ rfl) ((cons2 (hρ _ _ rfl) rfl)) rfl) (fun w hm => sum_ref l1 a cap w (hs1.keep hm.ext) (by omega)) rfl rfl rfl (w_n rfl) ?_
    refine TL_callN (fun (_ : Nat) => True) (fun F2 => .slice (some ⟨F2, 0, none⟩) 4 4) (fun F2 => [(1, .blk F2 (.cells (((four (sumC 0#32 l1)).flatMap byc).toArray) 5))]) (fun _ _ hρ _ => r_call (args := [.int .u32 ((sumC 0#32 l1).toNat : Int)]) (enters_of Try.func29 (by kernel_rfl) rfl) (hρ _ _ rfl) ((cons2 (hρ _ _ rfl) rfl)) rfl) (fun w _ => (four_ref (sumC 0#32 l1) w).mono fun e w' ⟨z, h1, h2, h3, h4⟩ => ⟨z, h1, h2, h3, newOk_at 1 h4⟩) rfl rfl rfl (w_n rfl) ?_
    rintro F2 -
    refine TL_q (.int .i64 4) (fun _ _ hρ _ => r_len sl29 (hρ _ _ rfl)) rfl rfl rfl (w_n rfl) ?_
    refine TL_q (.int .i64 0) (fun _ _ hρ _ => r_move (hρ _ _ rfl)) rfl rfl rfl (w_n rfl) ?_
    refine TL_seq ?_
    refine T_block ?_
    refine T_loop (ι := Nat) (fun (i : Nat) => i ≤ 4 ∧ ∀ j, j < i → l[l.length - 4 + j]? = (four (sumC 0#32 l1))[j]?) (fun (i : Nat) => [(0, .slice a l.length cap), (4, .int .i64 ((l.length - 4 : Nat) : Int)), (16, .slice (some ⟨F2, 0, none⟩) 4 4), (17, .int .i64 4), (18, .int .i64 ((i : Nat) : Int))]) (fun (i : Nat) => [(1, .blk F2 (.cells (((four (sumC 0#32 l1)).flatMap byc).toArray) 5))]) (fun (i : Nat) => 4 - i) 0 ⟨Nat.zero_le _, fun j hj => absurd hj (Nat.not_lt_zero _)⟩ (sub_cons rfl (sub_cons rfl (sub_cons rfl (sub_cons rfl (sub_cons rfl sub_nil))))) (sub_cons rfl sub_nil) ?_
    rintro i hp
    obtain ⟨hi, hij⟩ := hp
    show T _ _ _ [(0, .slice a l.length cap), (4, .int .i64 ((l.length - 4 : Nat) : Int)), (16, .slice (some ⟨F2, 0, none⟩) 4 4), (17, .int .i64 4), (18, .int .i64 ((i : Nat) : Int))] [(1, .blk F2 (.cells (((four (sumC 0#32 l1)).flatMap byc).toArray) 5))]
    refine T_seq (T_region ?_)
    refine TL_q (.bool (decide (((i : Nat) : Int) < 4))) (fun _ _ hρ _ => r_lss (hρ _ _ rfl) (hρ _ _ rfl)) rfl rfl rfl (w_n rfl) ?_
    refine TL_seq ?_
    refine T_seq ?_
    refine T_cond rfl (fun h1 => ?_) (fun h1 => ?_)
    · replace h1 := of_decide_eq_true h1
      refine T_skip' ?_
      refine p_seq ?_
      refine T_seq ?_
      refine T_block ?_
      obtain ⟨x, hx⟩ : ∃ x, (four (sumC 0#32 l1))[i]? = some x := ⟨_, List.getElem?_eq_getElem (show i < 4 by omega)⟩
      obtain ⟨y, hy⟩ : ∃ y, l[l.length - 4 + i]? = some y := ⟨_, List.getElem?_eq_getElem (by omega)⟩
      obtain ⟨b3, of3, cs3, T3, fz3, ha3, hq3, hr3⟩ := hv.open (i := ((l.length - 4) + i)) (by omega)
      subst ha3
      refine T_seq (T_region ?_)
      refine TL_q (.int .i64 ((i : Nat) : Int)) (fun _ _ hρ _ => r_move (hρ _ _ rfl)) rfl rfl rfl (w_n rfl) ?_
      refine TL_q (.pointer (some ⟨F2, 0 + i * 1, none⟩)) (fun _ _ hρ _ => r_indexAddrS (i := i) sl29 sz5 (hρ _ _ rfl) (hρ _ _ rfl) (by omega)) rfl rfl rfl (w_n rfl) ?_
      refine TL_q (.int .u8 ((x).toNat : Int)) (fun _ _ hρ hm => r_loadRow1 (f := byc) (l := four (sumC 0#32 l1)) (off := 0) (u := x) ag5 (hρ _ _ rfl) (hm.at 1 rfl) (row_of_take byc_len (List.take_of_length_le (Nat.le_refl _))) hx rfl) rfl rfl rfl (w_n rfl) ?_
      refine TL_q (.int .i64 ((i : Nat) : Int)) (fun _ _ hρ _ => r_assign (hρ _ _ rfl)) rfl rfl rfl (w_n rfl) ?_
      refine TL_q (.int .u8 ((x).toNat : Int)) (fun _ _ hρ _ => r_assign (hρ _ _ rfl)) rfl rfl rfl (w_n rfl) ?_
      refine TL_seq ?_
      refine T_seq (T_region ?_)
      refine TL_q (.slice (some ⟨b3, of3, none⟩) l.length cap) (fun _ _ hρ _ => r_move (hρ _ _ rfl)) rfl rfl rfl (w_n rfl) ?_
      refine TL_q (.int .i64 ((l.length - 4 : Nat) : Int)) (fun _ _ hρ _ => r_move (hρ _ _ rfl)) rfl rfl rfl (w_n rfl) ?_
      refine TL_q (.int .i64 ((i : Nat) : Int)) (fun _ _ hρ _ => r_move (hρ _ _ rfl)) rfl rfl rfl (w_n rfl) ?_
      refine TL_q (.int .i64 (((l.length - 4) + i : Nat) : Int)) (fun _ _ hρ _ => r_as (r_add (hρ _ _ rfl) (hρ _ _ rfl)) (int_as ((wrap64 (by omega) (by omega)).trans (by omega)))) rfl rfl rfl (w_n rfl) ?_
      refine TL_q (.pointer (some ⟨b3, of3 + ((l.length - 4) + i) * 1, none⟩)) (fun _ _ hρ _ => r_indexAddrS (i := (l.length - 4) + i) sl29 sz5 (hρ _ _ rfl) (hρ _ _ rfl) (by omega)) rfl rfl rfl (w_n rfl) ?_
      refine TL_q (.int .u8 ((y).toNat : Int)) (fun _ _ hρ hm => r_loadRow1 (f := byc) (u := y) ag5 (hρ _ _ rfl) (hm.old hq3) hr3 hy rfl) rfl rfl rfl (w_n rfl) ?_
      refine TL_q (.int .u8 ((x).toNat : Int)) (fun _ _ hρ _ => r_move (hρ _ _ rfl)) rfl rfl rfl (w_n rfl) ?_
      refine TL_q (.bool (!decide (y = x))) (fun _ _ hρ _ => r_as (r_neq (hρ _ _ rfl) (hρ _ _ rfl)) (bool_as (congrArg (fun b => !b) (bv_dec y x)))) rfl rfl rfl (w_n rfl) ?_
      refine TL_seq ?_
      refine T_cond rfl (fun h2 => ?_) (fun h2 => ?_)
      · replace h2 := of_decide_eq_false (bnot_t h2)
        refine T_seq (T_region ?_)
        refine TL_q (.slice none 0 0) (fun _ _ hρ _ => r_assign (hρ _ _ rfl)) rfl rfl rfl (w_n rfl) ?_
        refine TL_q (.bool false) (fun _ _ hρ _ => r_assign (hρ _ _ rfl)) rfl rfl rfl (w_n rfl) ?_
        refine TL_seq ?_
        refine T_ret' ?_
        refine p_blk_r ?_
        refine p_then_r ?_
        refine p_then_r ?_
        refine p_blk_r ?_
        refine p_then_r ?_
        refine ret_of rfl (.tuple #[.slice none 0 0, .bool false]) (fun tmps w hk hm => res2 rfl (res_tmp (hk 2 _ rfl)) (res_tmp (hk 3 _ rfl))) (fun w hm => ?_)
        have e0 : openP l = none := open_ref_f (by omega) hl1 hx hy h2
        have e1 : openL l = [] := by unfold openL; rw [e0]; rfl
        have e2 : openB l = false := by unfold openB; rw [e0]; try rfl
        rw [e1, e2]
        exact ⟨none, 0, rfl, hm.ext, World.ownsRow_nil _ _ _ _⟩
      · replace h2 := of_decide_eq_true (bnot_f h2)
        refine T_skip' ?_
        refine p_blk_n ?_
        refine p_seq ?_
        refine T_region ?_
        refine TL_q (.int .i64 ((i + 1 : Nat) : Int)) (fun _ _ hρ _ => r_as (r_add (hρ _ _ rfl) (hρ _ _ rfl)) (int_as ((wrap64 (by omega) (by omega)).trans (by omega)))) rfl rfl rfl (w_n rfl) ?_
        refine TL_q (.int .i64 ((i + 1 : Nat) : Int)) (fun _ _ hρ _ => r_move (hρ _ _ rfl)) rfl rfl rfl (w_n rfl) ?_
        refine TL_nil ?_
        exact p_at (i + 1) ⟨⟨by omega, upto_snoc hij (hy.trans (by rw [hx, h2]))⟩, by omega⟩ (sub_cons rfl (sub_cons rfl (sub_cons rfl (sub_cons rfl (sub_cons rfl sub_nil))))) (sub_cons rfl sub_nil)
    · replace h1 := of_decide_eq_false h1
      refine T_exit' ?_
      refine p_then_x ?_
      refine p_then_x ?_
      refine p_blk_x ?_
      refine p_seq ?_
      refine T_seq (T_region ?_)
      refine TL_new 2 (.cells #[] 5) (fun B => .slice (some ⟨B, 0, none⟩) 0 0) (fun _ _ _ _ => r_buildSlice (vs := []) (by kernel_rfl) rfl) rfl rfl rfl (w_n rfl) ?_
      intro B4
      refine TL_q (.slice a l.length cap) (fun _ _ hρ _ => r_move (hρ _ _ rfl)) rfl rfl rfl (w_n rfl) ?_
      refine TL_q (.int .i64 ((l.length - 4 : Nat) : Int)) (fun _ _ hρ _ => r_move (hρ _ _ rfl)) rfl rfl rfl (w_n rfl) ?_
      obtain ⟨l5, hl5, hn5⟩ : ∃ lz, lz = l.take (l.length - 4) ∧ lz.length = l.length - 4 := ⟨_, rfl, by rw [List.length_take]; omega⟩
      have hs5 := SliceAt.front hv (n := l.length - 4) (m := cap) (by omega) (by omega) (by omega)
      rw [← hl5] at hs5
      refine TL_q (.slice a l5.length cap) (fun ρ _ hρ _ => r_as (r_sliceO sl29 sz5 (hρ _ _ rfl) (bd_none ρ _) (bd_some (n := l.length - 4) (hρ _ _ rfl)) (bd_none ρ _) (by simp) (by omega) (by omega) (by omega)) (by rw [hn5]; exact slo_zero _ _ _ _)) rfl rfl rfl (w_n rfl) ?_
      refine TL_mem ([(2, .row (.slice (some ⟨B4, 0, none⟩) 0 0) 5 1 0 []), (1, .blk F2 (.cells (((four (sumC 0#32 l1)).flatMap byc).toArray) 5))]) (fun _ hm => MemOk.sub (hm.toRow (n := 0) (cap := 0) (s := 1) 2 rfl rfl (by omega) rfl _ rfl) (sub_cons rfl (sub_cons rfl sub_nil))) ?_
      refine TL_append (n := 0) (m := l5.length) (xs := []) (news := (l5.flatMap byc)) (z := .int .u8 0) 2 rfl rfl rfl sl29 sz5 by5 (by kernel_rfl) rfl rfl (.inl rfl) (fun _ hm => by have := src_of byc_len (hs5.keep hm.ext); simpa using this) (by intro u hu; obtain ⟨x, _, hx⟩ := List.mem_flatMap.1 hu; exact byc_one x u hx) (by omega) (by omega) rfl (w_n rfl) ?_
      intro a6 cap6
      refine TL_q (.slice a6 (0 + l5.length) cap6) (fun _ _ hρ _ => r_assign (hρ _ _ rfl)) rfl rfl rfl (w_n rfl) ?_
      refine TL_q (.bool true) (fun _ _ hρ _ => r_assign (hρ _ _ rfl)) rfl rfl rfl (w_n rfl) ?_
      refine TL_seq ?_
      refine T_ret' ?_
      refine ret_of rfl (.tuple #[.slice a6 (0 + l5.length) cap6, .bool true]) (fun tmps w hk hm => res2 rfl (res_tmp (hk 2 _ rfl)) (res_tmp (hk 3 _ rfl))) (fun w hm => ?_)
      have e0 : openP l = some l5 := open_ref_t h4 hl5 hl1 (fun j hj => hij j (by omega))
      have e1 : openL l = l5 := by unfold openL; rw [e0]; rfl
      have e2 : openB l = true := by unfold openB; rw [e0]; try rfl
      rw [e1, e2]
      have hrow := hm.row 2 rfl
      simp only [Nat.zero_add, List.nil_append] at hrow ⊢
      exact ⟨a6, cap6, rfl, hm.ext, hrow⟩
  · skip
    refine T_seq (T_region ?_)
    refine TL_q (.slice a l.length cap) (fun _ _ hρ _ => r_move (hρ _ _ rfl)) rfl rfl rfl (w_n rfl) ?_
    refine TL_q (.int .i64 ((l.length : Nat) : Int)) (fun _ _ hρ _ => r_len sl29 (hρ _ _ rfl)) rfl rfl rfl (w_n rfl) ?_
    refine TL_q (.int .i64 (((l.length : Nat) : Int) - 4)) (fun _ _ hρ _ => r_as (r_sub (hρ _ _ rfl) (hρ _ _ rfl)) (int_as (wrap64 (by omega) (by omega)))) rfl rfl rfl (w_n rfl) ?_
    refine TL_q (.int .i64 (((l.length : Nat) : Int) - 4)) (fun _ _ hρ _ => r_assign (hρ _ _ rfl)) rfl rfl rfl (w_n rfl) ?_
    refine TL_seq ?_
    refine T_seq ?_
    have hng : ((l.length : Nat) : Int) - 4 < 0 := by omega
    refine T_seq (T_region ?_)
    refine TL_q (.int .i64 (((l.length : Nat) : Int) - 4)) (fun _ _ hρ _ => r_move (hρ _ _ rfl)) rfl rfl rfl (w_n rfl) ?_
    refine TL_q (.bool true) (fun _ _ hρ _ => r_as (r_lss (hρ _ _ rfl) (hρ _ _ rfl)) (bool_as (decide_eq_true hng))) rfl rfl rfl (w_n rfl) ?_
    refine TL_seq ?_
    refine T_cond_t rfl ?_
    refine T_seq (T_region ?_)
    refine TL_q (.slice none 0 0) (fun _ _ hρ _ => r_assign (hρ _ _ rfl)) rfl rfl rfl (w_n rfl) ?_
    refine TL_q (.bool false) (fun _ _ hρ _ => r_assign (hρ _ _ rfl)) rfl rfl rfl (w_n rfl) ?_
    refine TL_seq ?_
    refine T_ret' ?_
    refine p_then_r ?_
    refine ret_of rfl (.tuple #[.slice none 0 0, .bool false]) (fun tmps w hk hm => res2 rfl (res_tmp (hk 2 _ rfl)) (res_tmp (hk 3 _ rfl))) (fun w hm => ?_)
    have e0 : openP l = none := open_s h4
    have e1 : openL l = [] := by unfold openL; rw [e0]; rfl
    have e2 : openB l = false := by unfold openB; rw [e0]; try rfl
    rw [e1, e2]
    exact ⟨none, 0, rfl, hm.ext, World.ownsRow_nil _ _ _ _⟩

theorem rspoil_in (n : Nat) (mask : Wd) (l : List By) (a : Option Addr) (cap : Nat) (w : World) (hv : SliceAt w a cap 1 byc l) (hl : l.length ≤ 1000000) (hcap : cap ≤ Go.maxLen) (hn : n < 8 * l.length) : Calls Try.prog 19 #[.slice a l.length cap, .int .i64 (n : Int), .int .u32 (mask.toNat : Int)] w fun e w' => ∃ a' cap', e = .returned (.tuple #[.slice a' (spoilN l n mask 32).length cap', .bool (someN l n mask 32)]) ∧ Below w.heap.size w w' ∧ w'.ownsRow w.heap.size 5 1 (.slice a' (spoilN l n mask 32).length cap') (spoilN l n mask 32).length ((spoilN l n mask 32).flatMap byc) := by
  have hvl := hv.1
  refine calls_of_T (l := [.slice a l.length cap, .int .i64 ((n : Nat) : Int), .int .u32 ((mask).toNat : Int)]) 79 Try.func19 rfl rfl rfl ?_
  show T _ _ _ [(0, .slice a l.length cap), (1, .int .i64 ((n : Nat) : Int)), (2, .int .u32 ((mask).toNat : Int))] []
  refine T_seq (T_region ?_)
  refine TL_q (.slice none 0 0) (fun _ _ hρ _ => r_assign (hρ _ _ rfl)) rfl rfl rfl (w_n rfl) ?_
  refine TL_q (.bool false) (fun _ _ hρ _ => r_assign (hρ _ _ rfl)) rfl rfl rfl (w_n rfl) ?_
  refine TL_seq ?_
  refine T_seq ?_
  have hp1 : ¬ (((n : Nat) : Int) < 0) := by omega
  have hp2 : ¬ (((8 * l.length : Nat) : Int) ≤ ((n : Nat) : Int)) := by omega
  refine T_seq (T_region ?_)
  refine TL_q (.int .i64 ((n : Nat) : Int)) (fun _ _ hρ _ => r_move (hρ _ _ rfl)) rfl rfl rfl (w_n rfl) ?_
  refine TL_q (.bool false) (fun _ _ hρ _ => r_as (r_lss (hρ _ _ rfl) (hρ _ _ rfl)) (bool_as (decide_eq_false hp1))) rfl rfl rfl (w_n rfl) ?_
  refine TL_q (.bool false) (fun _ _ hρ _ => r_move (hρ _ _ rfl)) rfl rfl rfl (w_n rfl) ?_
  refine TL_q (.int .i64 ((n : Nat) : Int)) (fun _ _ hρ _ => r_move (hρ _ _ rfl)) rfl rfl rfl (want_y 15 rfl rfl rfl) ?_
  refine TL_q (.slice a l.length cap) (fun _ _ hρ _ => r_move (hρ _ _ rfl)) rfl rfl rfl (want_y 15 rfl rfl rfl) ?_
  refine TL_q (.int .i64 ((l.length : Nat) : Int)) (fun _ _ hρ _ => r_len sl29 (hρ _ _ rfl)) rfl rfl rfl (want_y 15 rfl rfl rfl) ?_
  refine TL_q (.int .i64 ((8 * l.length : Nat) : Int)) (fun _ _ hρ _ => r_as (r_mul (hρ _ _ rfl) (hρ _ _ rfl)) (int_as ((wrap64 (by omega) (by omega)).trans (by omega)))) rfl rfl rfl (want_y 15 rfl rfl rfl) ?_
  refine TL_q (.bool false) (fun _ _ hρ _ => r_as (r_geq (hρ _ _ rfl) (hρ _ _ rfl)) (bool_as (decide_eq_false hp2))) rfl rfl rfl (want_y 15 rfl rfl rfl) ?_
  refine TL_q (.bool false) (fun _ _ hρ _ => r_pick_f (hρ _ _ rfl) (hρ _ _ rfl)) rfl rfl rfl (w_n rfl) ?_
  refine TL_seq ?_
  refine T_cond_f rfl ?_
  refine T_skip' ?_
  refine p_seq ?_
  refine T_seq (T_region ?_)
  refine TL_new 1 (.cells #[] 5) (fun B => .slice (some ⟨B, 0, none⟩) 0 0) (fun _ _ _ _ => r_buildSlice (vs := []) (by kernel_rfl) rfl) rfl rfl rfl (w_n rfl) ?_
  intro B1
  refine TL_q (.slice a l.length cap) (fun _ _ hρ _ => r_move (hρ _ _ rfl)) rfl rfl rfl (w_n rfl) ?_
  refine TL_mem ([(1, .row (.slice (some ⟨B1, 0, none⟩) 0 0) 5 1 0 [])]) (fun _ hm => MemOk.sub (hm.toRow (n := 0) (cap := 0) (s := 1) 1 rfl rfl (by omega) rfl _ rfl) (sub_cons rfl sub_nil)) ?_
  refine TL_append (n := 0) (m := l.length) (xs := []) (news := (l.flatMap byc)) (z := .int .u8 0) 1 rfl rfl rfl sl29 sz5 by5 (by kernel_rfl) rfl rfl (.inl rfl) (fun _ hm => by have := src_of byc_len (hv.keep hm.ext); simpa using this) (by intro u hu; obtain ⟨x, _, hx⟩ := List.mem_flatMap.1 hu; exact byc_one x u hx) (by omega) (by omega) rfl (w_n rfl) ?_
  intro a2 cap2
  refine TL_q (.slice a2 (0 + l.length) cap2) (fun _ _ hρ _ => r_assign (hρ _ _ rfl)) rfl rfl rfl (w_n rfl) ?_
  refine TL_seq ?_
  rw [Nat.zero_add, List.nil_append]
  refine T_row 1 rfl (by omega) (fun g3 ha3 => ?_)
  subst ha3
  refine T_rowcap 1 rfl (fun hrc3 => ?_)
  refine T_seq (T_region ?_)
  refine TL_q (.bool false) (fun _ _ hρ _ => r_assign (hρ _ _ rfl)) rfl rfl rfl (w_n rfl) ?_
  refine TL_seq ?_
  refine T_seq ?_
  refine T_seq (T_region ?_)
  refine TL_q (.int .i64 0) (fun _ _ hρ _ => r_move (hρ _ _ rfl)) rfl rfl rfl (w_n rfl) ?_
  refine TL_seq ?_
  refine T_block ?_
  refine T_loop (ι := Nat) (fun (k : Nat) => k ≤ 32) (fun (k : Nat) => [(0, .slice a l.length cap), (1, .int .i64 ((n : Nat) : Int)), (6, .slice none 0 0), (7, .bool false), (8, .slice (some ⟨g3, 0, none⟩) l.length cap2), (25, .int .i64 ((k : Nat) : Int)), (9, .bool (someN l n mask k)), (2, .int .u32 ((mask >>> k).toNat : Int))]) (fun (k : Nat) => [(1, .row (.slice (some ⟨g3, 0, none⟩) l.length cap2) 5 1 l.length ((spoilN l n mask k).flatMap byc))]) (fun (k : Nat) => 32 - k) 0 (Nat.zero_le _) (sub_cons rfl (sub_cons rfl (sub_cons rfl (sub_cons rfl (sub_cons rfl (sub_cons rfl (sub_cons rfl (sub_cons (by exact (congrArg (fun x : Wd => some (Value.int .u32 (x.toNat : Int))) ((BitVec.ushiftRight_zero mask).symm))) sub_nil)))))))) (sub_cons rfl sub_nil) ?_
  rintro k hp
  show T _ _ _ [(0, .slice a l.length cap), (1, .int .i64 ((n : Nat) : Int)), (6, .slice none 0 0), (7, .bool false), (8, .slice (some ⟨g3, 0, none⟩) l.length cap2), (25, .int .i64 ((k : Nat) : Int)), (9, .bool (someN l n mask k)), (2, .int .u32 ((mask >>> k).toNat : Int))] [(1, .row (.slice (some ⟨g3, 0, none⟩) l.length cap2) 5 1 l.length ((spoilN l n mask k).flatMap byc))]
  refine T_seq (T_region ?_)
  refine TL_q (.bool (decide (((k : Nat) : Int) < 32))) (fun _ _ hρ _ => r_lss (hρ _ _ rfl) (hρ _ _ rfl)) rfl rfl rfl (w_n rfl) ?_
  refine TL_seq ?_
  refine T_seq ?_
  refine T_cond rfl (fun h1 => ?_) (fun h1 => ?_)
  · replace h1 := of_decide_eq_true h1
    refine T_skip' ?_
    refine p_seq ?_
    refine T_seq ?_
    refine T_block ?_
    refine T_seq (T_region ?_)
    refine TL_q (.int .i64 ((k : Nat) : Int)) (fun _ _ hρ _ => r_move (hρ _ _ rfl)) rfl rfl rfl (w_n rfl) ?_
    refine TL_q (.int .i64 ((k : Nat) : Int)) (fun _ _ hρ _ => r_assign (hρ _ _ rfl)) rfl rfl rfl (w_n rfl) ?_
    refine TL_seq ?_
    refine T_seq (T_region ?_)
    refine TL_q (.int .i64 ((n : Nat) : Int)) (fun _ _ hρ _ => r_move (hρ _ _ rfl)) rfl rfl rfl (w_n rfl) ?_
    refine TL_q (.int .i64 ((k : Nat) : Int)) (fun _ _ hρ _ => r_move (hρ _ _ rfl)) rfl rfl rfl (w_n rfl) ?_
    refine TL_q (.int .i64 ((n + k : Nat) : Int)) (fun _ _ hρ _ => r_as (r_add (hρ _ _ rfl) (hρ _ _ rfl)) (int_as ((wrap64 (by omega) (by omega)).trans (by omega)))) rfl rfl rfl (w_n rfl) ?_
    refine TL_q (.int .i64 ((n + k : Nat) : Int)) (fun _ _ hρ _ => r_assign (hρ _ _ rfl)) rfl rfl rfl (w_n rfl) ?_
    refine TL_seq ?_
    refine T_seq ?_
    by_cases hb : mask.getLsbD k = true
    · skip
      refine T_seq (T_region ?_)
      refine TL_q (.int .u32 ((mask >>> k).toNat : Int)) (fun _ _ hρ _ => r_move (hρ _ _ rfl)) rfl rfl rfl (w_n rfl) ?_
      refine TL_q (.int .u32 (((mask >>> k) % (2#32)).toNat : Int)) (fun _ _ hρ _ => r_remB (k := .u32) (a := (mask >>> k)) (b := (2#32)) rfl (hρ _ _ rfl) (hρ _ _ rfl)) rfl rfl rfl (w_n rfl) ?_
      refine TL_q (.bool true) (fun _ _ hρ _ => r_as (r_eql (hρ _ _ rfl) (hρ _ _ rfl)) (bool_as (isr_t hb))) rfl rfl rfl (w_n rfl) ?_
      refine TL_q (.bool true) (fun _ _ hρ _ => r_move (hρ _ _ rfl)) rfl rfl rfl (w_n rfl) ?_
      refine TL_q (.int .i64 ((n + k : Nat) : Int)) (fun _ _ hρ _ => r_move (hρ _ _ rfl)) rfl rfl rfl (want_y 34 rfl rfl rfl) ?_
      refine TL_q (.slice a l.length cap) (fun _ _ hρ _ => r_move (hρ _ _ rfl)) rfl rfl rfl (want_y 34 rfl rfl rfl) ?_
      refine TL_q (.int .i64 ((l.length : Nat) : Int)) (fun _ _ hρ _ => r_len sl29 (hρ _ _ rfl)) rfl rfl rfl (want_y 34 rfl rfl rfl) ?_
      refine TL_q (.int .i64 ((8 * l.length : Nat) : Int)) (fun _ _ hρ _ => r_as (r_mul (hρ _ _ rfl) (hρ _ _ rfl)) (int_as ((wrap64 (by omega) (by omega)).trans (by omega)))) rfl rfl rfl (want_y 34 rfl rfl rfl) ?_
      refine TL_q (.bool (decide (((n + k : Nat) : Int) < ((8 * l.length : Nat) : Int)))) (fun _ _ hρ _ => r_lss (hρ _ _ rfl) (hρ _ _ rfl)) rfl rfl rfl (want_y 34 rfl rfl rfl) ?_
      refine TL_q (.bool (decide (((n + k : Nat) : Int) < ((8 * l.length : Nat) : Int)))) (fun _ _ hρ _ => r_pick_t (hρ _ _ rfl) (hρ _ _ rfl)) rfl rfl rfl (w_n rfl) ?_
      refine TL_seq ?_
      refine T_cond rfl (fun h2 => ?_) (fun h2 => ?_)
      · replace h2 := of_decide_eq_true h2
        refine T_seq (T_region ?_)
        refine TL_q (.int .u8 1) (fun _ _ hρ _ => r_assign (hρ _ _ rfl)) rfl rfl rfl (w_n rfl) ?_
        refine TL_seq ?_
        refine T_seq ?_
        refine T_seq (T_region ?_)
        refine TL_q (.int .i64 ((n + k : Nat) : Int)) (fun _ _ hρ _ => r_move (hρ _ _ rfl)) rfl rfl rfl (w_n rfl) ?_
        refine TL_q (.int .i64 (((n + k) % 8 : Nat) : Int)) (fun _ _ hρ _ => r_as (r_rem (hρ _ _ rfl) (hρ _ _ rfl) (by omega)) (int_as ((Int.tmod_eq_emod_of_nonneg (by omega)).trans (by omega)))) rfl rfl rfl (w_n rfl) ?_
        refine TL_q (.int .i64 0) (fun _ _ hρ _ => r_move (hρ _ _ rfl)) rfl rfl rfl (w_n rfl) ?_
        refine TL_seq ?_
        refine T_block ?_
        refine T_loop (ι := Nat) (fun (j : Nat) => j ≤ (n + k) % 8) (fun (j : Nat) => [(0, .slice a l.length cap), (1, .int .i64 ((n : Nat) : Int)), (6, .slice none 0 0), (7, .bool false), (8, .slice (some ⟨g3, 0, none⟩) l.length cap2), (25, .int .i64 ((k : Nat) : Int)), (9, .bool (someN l n mask k)), (2, .int .u32 ((mask >>> k).toNat : Int)), (26, .bool (decide (((k : Nat) : Int) < 32))), (27, .int .i64 ((k : Nat) : Int)), (10, .int .i64 ((k : Nat) : Int)), (28, .int .i64 ((n : Nat) : Int)), (29, .int .i64 ((k : Nat) : Int)), (30, .int .i64 ((n + k : Nat) : Int)), (11, .int .i64 ((n + k : Nat) : Int)), (31, .int .u32 ((mask >>> k).toNat : Int)), (32, .int .u32 (((mask >>> k) % (2#32)).toNat : Int)), (33, .bool true), (34, .bool true), (35, .int .i64 ((n + k : Nat) : Int)), (36, .slice a l.length cap), (37, .int .i64 ((l.length : Nat) : Int)), (38, .int .i64 ((8 * l.length : Nat) : Int)), (39, .bool (decide (((n + k : Nat) : Int) < ((8 * l.length : Nat) : Int)))), (40, .bool (decide (((n + k : Nat) : Int) < ((8 * l.length : Nat) : Int)))), (41, .int .i64 ((n + k : Nat) : Int)), (42, .int .i64 (((n + k) % 8 : Nat) : Int)), (43, .int .i64 ((j : Nat) : Int)), (12, .int .u8 ((1#8 <<< j).toNat : Int))]) (fun (j : Nat) => [(1, .row (.slice (some ⟨g3, 0, none⟩) l.length cap2) 5 1 l.length ((spoilN l n mask k).flatMap byc))]) (fun (j : Nat) => (n + k) % 8 - j) 0 (Nat.zero_le _) (sub_cons rfl (sub_cons rfl (sub_cons rfl (sub_cons rfl (sub_cons rfl (sub_cons rfl (sub_cons rfl (sub_cons rfl (sub_cons rfl (sub_cons rfl (sub_cons rfl (sub_cons rfl (sub_cons rfl (sub_cons rfl (sub_cons rfl (sub_cons rfl (sub_cons rfl (sub_cons rfl (sub_cons rfl (sub_cons rfl (sub_cons rfl (sub_cons rfl (sub_cons rfl (sub_cons rfl (sub_cons rfl (sub_cons rfl (sub_cons rfl (sub_cons rfl (sub_cons (by exact (congrArg (fun x : By => some (Value.int .u8 (x.toNat : Int))) ((BitVec.shiftLeft_zero 1#8).symm))) sub_nil))))))))))))))))))))))))))))) (sub_cons rfl sub_nil) ?_
        rintro j hp
        show T _ _ _ [(0, .slice a l.length cap), (1, .int .i64 ((n : Nat) : Int)), (6, .slice none 0 0), (7, .bool false), (8, .slice (some ⟨g3, 0, none⟩) l.length cap2), (25, .int .i64 ((k : Nat) : Int)), (9, .bool (someN l n mask k)), (2, .int .u32 ((mask >>> k).toNat : Int)), (26, .bool (decide (((k : Nat) : Int) < 32))), (27, .int .i64 ((k : Nat) : Int)), (10, .int .i64 ((k : Nat) : Int)), (28, .int .i64 ((n : Nat) : Int)), (29, .int .i64 ((k : Nat) : Int)), (30, .int .i64 ((n + k : Nat) : Int)), (11, .int .i64 ((n + k : Nat) : Int)), (31, .int .u32 ((mask >>> k).toNat : Int)), (32, .int .u32 (((mask >>> k) % (2#32)).toNat : Int)), (33, .bool true), (34, .bool true), (35, .int .i64 ((n + k : Nat) : Int)), (36, .slice a l.length cap), (37, .int .i64 ((l.length : Nat) : Int)), (38, .int .i64 ((8 * l.length : Nat) : Int)), (39, .bool (decide (((n + k : Nat) : Int) < ((8 * l.length : Nat) : Int)))), (40, .bool (decide (((n + k : Nat) : Int) < ((8 * l.length : Nat) : Int)))), (41, .int .i64 ((n + k : Nat) : Int)), (42, .int .i64 (((n + k) % 8 : Nat) : Int)), (43, .int .i64 ((j : Nat) : Int)), (12, .int .u8 ((1#8 <<< j).toNat : Int))] [(1, .row (.slice (some ⟨g3, 0, none⟩) l.length cap2) 5 1 l.length ((spoilN l n mask k).flatMap byc))]
        refine T_seq (T_region ?_)
        refine TL_q (.bool (decide (((j : Nat) : Int) < (((n + k) % 8 : Nat) : Int)))) (fun _ _ hρ _ => r_lss (hρ _ _ rfl) (hρ _ _ rfl)) rfl rfl rfl (w_n rfl) ?_
        refine TL_seq ?_
        refine T_seq ?_
        refine T_cond rfl (fun h3 => ?_) (fun h3 => ?_)
        · replace h3 := of_decide_eq_true h3
          refine T_skip' ?_
          refine p_seq ?_
          refine T_seq ?_
          refine T_block ?_
          refine T_region ?_
          refine TL_q (.int .u8 ((1#8 <<< j).toNat : Int)) (fun _ _ hρ _ => r_move (hρ _ _ rfl)) rfl rfl rfl (w_n rfl) ?_
          refine TL_q (.int .u8 (((2#8) * (1#8 <<< j)).toNat : Int)) (fun _ _ hρ _ => r_mulB (k := .u8) (a := (2#8)) (b := (1#8 <<< j)) rfl (hρ _ _ rfl) (hρ _ _ rfl)) rfl rfl rfl (w_n rfl) ?_
          refine TL_q (.int .u8 (((2#8) * (1#8 <<< j)).toNat : Int)) (fun _ _ hρ _ => r_assign (hρ _ _ rfl)) rfl rfl rfl (w_n rfl) ?_
          refine TL_nil ?_
          refine p_blk_n ?_
          refine p_seq ?_
          refine T_region ?_
          refine TL_q (.int .i64 ((j + 1 : Nat) : Int)) (fun _ _ hρ _ => r_as (r_add (hρ _ _ rfl) (hρ _ _ rfl)) (int_as ((wrap64 (by omega) (by omega)).trans (by omega)))) rfl rfl rfl (w_n rfl) ?_
          refine TL_q (.int .i64 ((j + 1 : Nat) : Int)) (fun _ _ hρ _ => r_move (hρ _ _ rfl)) rfl rfl rfl (w_n rfl) ?_
          refine TL_nil ?_
          exact p_at (j + 1) ⟨by omega, by omega⟩ (sub_cons rfl (sub_cons rfl (sub_cons rfl (sub_cons rfl (sub_cons rfl (sub_cons rfl (sub_cons rfl (sub_cons rfl (sub_cons rfl (sub_cons rfl (sub_cons rfl (sub_cons rfl (sub_cons rfl (sub_cons rfl (sub_cons rfl (sub_cons rfl (sub_cons rfl (sub_cons rfl (sub_cons rfl (sub_cons rfl (sub_cons rfl (sub_cons rfl (sub_cons rfl (sub_cons rfl (sub_cons rfl (sub_cons rfl (sub_cons rfl (sub_cons rfl (sub_cons (congrArg (fun x : By => some (Value.int .u8 (x.toNat : Int))) (dbl_b j)) sub_nil))))))))))))))))))))))))))))) (sub_cons rfl sub_nil)
        · replace h3 := of_decide_eq_false h3
          refine T_exit' ?_
          refine p_then_x ?_
          refine p_then_x ?_
          refine p_blk_x ?_
          refine p_seq ?_
          refine T_seq ?_
          have hj : j = (n + k) % 8 := by omega
          subst hj
          have hsl := spoilN_len l n mask k
          obtain ⟨y, hy⟩ : ∃ y, (spoilN l n mask k)[(n + k) / 8]? = some y := ⟨_, List.getElem?_eq_getElem (by omega)⟩
          refine T_seq (T_region ?_)
          refine TL_q (.slice (some ⟨g3, 0, none⟩) l.length cap2) (fun _ _ hρ _ => r_move (hρ _ _ rfl)) rfl rfl rfl (w_n rfl) ?_
          refine TL_q (.int .i64 ((n + k : Nat) : Int)) (fun _ _ hρ _ => r_move (hρ _ _ rfl)) rfl rfl rfl (w_n rfl) ?_
          refine TL_call (.int .u32 ((bw (bitA (spoilN l n mask k) (n + k))).toNat : Int)) (fun _ _ hρ _ => r_call (args := [.slice (some ⟨g3, 0, none⟩) l.length cap2, .int .i64 ((n + k : Nat) : Int)]) (enters_of Try.func33 (by kernel_rfl) rfl) (hρ _ _ rfl) ((cons2 (hρ _ _ rfl) (cons2 (hρ _ _ rfl) rfl))) rfl) (fun w hm => by have hb := bit_ref (n + k) (spoilN l n mask k) (some ⟨g3, 0, none⟩) cap2 w (SliceAt.own byc_len (hm.row 1 rfl) hsl.symm rfl) (by omega) (by omega); rw [hsl] at hb; exact hb) rfl rfl rfl (w_n rfl) ?_
          refine TL_q (.bool (decide ((bw (bitA (spoilN l n mask k) (n + k))) = (1#32)))) (fun _ _ hρ _ => r_as (r_eql (hρ _ _ rfl) (hρ _ _ rfl)) (bool_as (bv_dec (bw (bitA (spoilN l n mask k) (n + k))) (1#32)))) rfl rfl rfl (w_n rfl) ?_
          refine TL_seq ?_
          refine T_cond rfl (fun h4 => ?_) (fun h4 => ?_)
          · replace h4 := of_decide_eq_true h4
            refine T_region ?_
            refine TL_q (.slice (some ⟨g3, 0, none⟩) l.length cap2) (fun _ _ hρ _ => r_move (hρ _ _ rfl)) rfl rfl rfl (w_n rfl) ?_
            refine TL_q (.int .i64 ((n + k : Nat) : Int)) (fun _ _ hρ _ => r_move (hρ _ _ rfl)) rfl rfl rfl (w_n rfl) ?_
            refine TL_q (.int .i64 (((n + k) / 8 : Nat) : Int)) (fun _ _ hρ _ => r_as (r_quo (hρ _ _ rfl) (hρ _ _ rfl) (by omega)) (int_as ((quo_i64 (by omega) (by omega) (by omega)).trans (by omega)))) rfl rfl rfl (w_n rfl) ?_
            refine TL_q (.slice (some ⟨g3, 0, none⟩) l.length cap2) (fun _ _ hρ _ => r_move (hρ _ _ rfl)) rfl rfl rfl (w_n rfl) ?_
            refine TL_q (.int .i64 ((n + k : Nat) : Int)) (fun _ _ hρ _ => r_move (hρ _ _ rfl)) rfl rfl rfl (w_n rfl) ?_
            refine TL_q (.int .i64 (((n + k) / 8 : Nat) : Int)) (fun _ _ hρ _ => r_as (r_quo (hρ _ _ rfl) (hρ _ _ rfl) (by omega)) (int_as ((quo_i64 (by omega) (by omega) (by omega)).trans (by omega)))) rfl rfl rfl (w_n rfl) ?_
            refine TL_q (.pointer (some ⟨g3, 0 + ((n + k) / 8) * 1, none⟩)) (fun _ _ hρ _ => r_indexAddrS (i := (n + k) / 8) sl29 sz5 (hρ _ _ rfl) (hρ _ _ rfl) (by omega)) rfl rfl rfl (w_n rfl) ?_
            refine TL_q (.int .u8 ((y).toNat : Int)) (fun _ _ hρ hm => r_loadOwn1 (f := byc) (u := y) (l := (spoilN l n mask k)) ag5 (hρ _ _ rfl) (hm.row 1 rfl) (spoilN_len l n mask k).symm rfl byc_len hy rfl) rfl rfl rfl (w_n rfl) ?_
            refine TL_q (.int .u8 ((1#8 <<< ((n + k) % 8)).toNat : Int)) (fun _ _ hρ _ => r_move (hρ _ _ rfl)) rfl rfl rfl (w_n rfl) ?_
            refine TL_q (.int .u8 ((y - (1#8 <<< ((n + k) % 8))).toNat : Int)) (fun _ _ hρ _ => r_subB (k := .u8) (a := y) (b := (1#8 <<< ((n + k) % 8))) rfl (hρ _ _ rfl) (hρ _ _ rfl)) rfl rfl rfl (w_n rfl) ?_
            refine TL_q (.pointer (some ⟨g3, 0 + ((n + k) / 8) * 1, none⟩)) (fun _ _ hρ _ => r_indexAddrS (i := (n + k) / 8) sl29 sz5 (hρ _ _ rfl) (hρ _ _ rfl) (by omega)) rfl rfl rfl (w_n rfl) ?_
            refine TL_storeRow (f := byc) (l := (spoilN l n mask k)) (u := y - (1#8 <<< ((n + k) % 8))) 1 rfl (spoilN_len l n mask k).symm rfl rfl sz5 byc_len (by omega) rfl rfl (w_n rfl) ?_
            refine TL_nil ?_
            refine p_seq ?_
            refine T_region ?_
            refine TL_q (.bool true) (fun _ _ hρ _ => r_assign (hρ _ _ rfl)) rfl rfl rfl (w_n rfl) ?_
            refine TL_nil ?_
            refine p_seq ?_
            refine T_region ?_
            refine TL_q (.int .u32 ((mask >>> k).toNat : Int)) (fun _ _ hρ _ => r_move (hρ _ _ rfl)) rfl rfl rfl (w_n rfl) ?_
            refine TL_q (.int .u32 (((mask >>> k) / (2#32)).toNat : Int)) (fun _ _ hρ _ => r_quoB (k := .u32) (a := (mask >>> k)) (b := (2#32)) rfl rfl (hρ _ _ rfl) (hρ _ _ rfl)) rfl rfl rfl (w_n rfl) ?_
            refine TL_q (.int .u32 (((mask >>> k) / (2#32)).toNat : Int)) (fun _ _ hρ _ => r_assign (hρ _ _ rfl)) rfl rfl rfl (w_n rfl) ?_
            refine TL_nil ?_
            refine p_blk_n ?_
            refine p_seq ?_
            refine T_region ?_
            refine TL_q (.int .i64 ((k + 1 : Nat) : Int)) (fun _ _ hρ _ => r_as (r_add (hρ _ _ rfl) (hρ _ _ rfl)) (int_as ((wrap64 (by omega) (by omega)).trans (by omega)))) rfl rfl rfl (w_n rfl) ?_
            refine TL_q (.int .i64 ((k + 1 : Nat) : Int)) (fun _ _ hρ _ => r_move (hρ _ _ rfl)) rfl rfl rfl (w_n rfl) ?_
            refine TL_nil ?_
            exact p_at (k + 1) ⟨by omega, by omega⟩ (sub_cons rfl (sub_cons rfl (sub_cons rfl (sub_cons rfl (sub_cons rfl (sub_cons rfl (sub_cons (by exact congrArg (fun z : Bool => some (Value.bool z)) (some_t ⟨hb, by omega⟩)) (sub_cons (congrArg (fun x : Wd => some (Value.int .u32 (x.toNat : Int))) (half_w mask k)) sub_nil)))))))) (sub_cons (by exact congrArg (fun z : List By => some (Res.row _ 5 1 _ (z.flatMap byc))) (spoil_s ⟨hb, by omega⟩ hy h4)) sub_nil)
          · replace h4 := of_decide_eq_false h4
            refine T_region ?_
            refine TL_q (.slice (some ⟨g3, 0, none⟩) l.length cap2) (fun _ _ hρ _ => r_move (hρ _ _ rfl)) rfl rfl rfl (w_n rfl) ?_
            refine TL_q (.int .i64 ((n + k : Nat) : Int)) (fun _ _ hρ _ => r_move (hρ _ _ rfl)) rfl rfl rfl (w_n rfl) ?_
            refine TL_q (.int .i64 (((n + k) / 8 : Nat) : Int)) (fun _ _ hρ _ => r_as (r_quo (hρ _ _ rfl) (hρ _ _ rfl) (by omega)) (int_as ((quo_i64 (by omega) (by omega) (by omega)).trans (by omega)))) rfl rfl rfl (w_n rfl) ?_
            refine TL_q (.slice (some ⟨g3, 0, none⟩) l.length cap2) (fun _ _ hρ _ => r_move (hρ _ _ rfl)) rfl rfl rfl (w_n rfl) ?_
            refine TL_q (.int .i64 ((n + k : Nat) : Int)) (fun _ _ hρ _ => r_move (hρ _ _ rfl)) rfl rfl rfl (w_n rfl) ?_
            refine TL_q (.int .i64 (((n + k) / 8 : Nat) : Int)) (fun _ _ hρ _ => r_as (r_quo (hρ _ _ rfl) (hρ _ _ rfl) (by omega)) (int_as ((quo_i64 (by omega) (by omega) (by omega)).trans (by omega)))) rfl rfl rfl (w_n rfl) ?_
            refine TL_q (.pointer (some ⟨g3, 0 + ((n + k) / 8) * 1, none⟩)) (fun _ _ hρ _ => r_indexAddrS (i := (n + k) / 8) sl29 sz5 (hρ _ _ rfl) (hρ _ _ rfl) (by omega)) rfl rfl rfl (w_n rfl) ?_
            refine TL_q (.int .u8 ((y).toNat : Int)) (fun _ _ hρ hm => r_loadOwn1 (f := byc) (u := y) (l := (spoilN l n mask k)) ag5 (hρ _ _ rfl) (hm.row 1 rfl) (spoilN_len l n mask k).symm rfl byc_len hy rfl) rfl rfl rfl (w_n rfl) ?_
            refine TL_q (.int .u8 ((1#8 <<< ((n + k) % 8)).toNat : Int)) (fun _ _ hρ _ => r_move (hρ _ _ rfl)) rfl rfl rfl (w_n rfl) ?_
            refine TL_q (.int .u8 ((y + (1#8 <<< ((n + k) % 8))).toNat : Int)) (fun _ _ hρ _ => r_addB (k := .u8) (a := y) (b := (1#8 <<< ((n + k) % 8))) rfl (hρ _ _ rfl) (hρ _ _ rfl)) rfl rfl rfl (w_n rfl) ?_
            refine TL_q (.pointer (some ⟨g3, 0 + ((n + k) / 8) * 1, none⟩)) (fun _ _ hρ _ => r_indexAddrS (i := (n + k) / 8) sl29 sz5 (hρ _ _ rfl) (hρ _ _ rfl) (by omega)) rfl rfl rfl (w_n rfl) ?_
            refine TL_storeRow (f := byc) (l := (spoilN l n mask k)) (u := y + (1#8 <<< ((n + k) % 8))) 1 rfl (spoilN_len l n mask k).symm rfl rfl sz5 byc_len (by omega) rfl rfl (w_n rfl) ?_
            refine TL_nil ?_
            refine p_seq ?_
            refine T_region ?_
            refine TL_q (.bool true) (fun _ _ hρ _ => r_assign (hρ _ _ rfl)) rfl rfl rfl (w_n rfl) ?_
            refine TL_nil ?_
            refine p_seq ?_
            refine T_region ?_
            refine TL_q (.int .u32 ((mask >>> k).toNat : Int)) (fun _ _ hρ _ => r_move (hρ _ _ rfl)) rfl rfl rfl (w_n rfl) ?_
            refine TL_q (.int .u32 (((mask >>> k) / (2#32)).toNat : Int)) (fun _ _ hρ _ => r_quoB (k := .u32) (a := (mask >>> k)) (b := (2#32)) rfl rfl (hρ _ _ rfl) (hρ _ _ rfl)) rfl rfl rfl (w_n rfl) ?_
            refine TL_q (.int .u32 (((mask >>> k) / (2#32)).toNat : Int)) (fun _ _ hρ _ => r_assign (hρ _ _ rfl)) rfl rfl rfl (w_n rfl) ?_
            refine TL_nil ?_
            refine p_blk_n ?_
            refine p_seq ?_
            refine T_region ?_
            refine TL_q (.int .i64 ((k + 1 : Nat) : Int)) (fun _ _ hρ _ => r_as (r_add (hρ _ _ rfl) (hρ _ _ rfl)) (int_as ((wrap64 (by omega) (by omega)).trans (by omega)))) rfl rfl rfl (w_n rfl) ?_
            refine TL_q (.int .i64 ((k + 1 : Nat) : Int)) (fun _ _ hρ _ => r_move (hρ _ _ rfl)) rfl rfl rfl (w_n rfl) ?_
            refine TL_nil ?_
            exact p_at (k + 1) ⟨by omega, by omega⟩ (sub_cons rfl (sub_cons rfl (sub_cons rfl (sub_cons rfl (sub_cons rfl (sub_cons rfl (sub_cons (by exact congrArg (fun z : Bool => some (Value.bool z)) (some_t ⟨hb, by omega⟩)) (sub_cons (congrArg (fun x : Wd => some (Value.int .u32 (x.toNat : Int))) (half_w mask k)) sub_nil)))))))) (sub_cons (by exact congrArg (fun z : List By => some (Res.row _ 5 1 _ (z.flatMap byc))) (spoil_a ⟨hb, by omega⟩ hy h4)) sub_nil)
      · replace h2 := of_decide_eq_false h2
        refine T_skip' ?_
        refine p_seq ?_
        refine T_region ?_
        refine TL_q (.int .u32 ((mask >>> k).toNat : Int)) (fun _ _ hρ _ => r_move (hρ _ _ rfl)) rfl rfl rfl (w_n rfl) ?_
        refine TL_q (.int .u32 (((mask >>> k) / (2#32)).toNat : Int)) (fun _ _ hρ _ => r_quoB (k := .u32) (a := (mask >>> k)) (b := (2#32)) rfl rfl (hρ _ _ rfl) (hρ _ _ rfl)) rfl rfl rfl (w_n rfl) ?_
        refine TL_q (.int .u32 (((mask >>> k) / (2#32)).toNat : Int)) (fun _ _ hρ _ => r_assign (hρ _ _ rfl)) rfl rfl rfl (w_n rfl) ?_
        refine TL_nil ?_
        refine p_blk_n ?_
        refine p_seq ?_
        refine T_region ?_
        refine TL_q (.int .i64 ((k + 1 : Nat) : Int)) (fun _ _ hρ _ => r_as (r_add (hρ _ _ rfl) (hρ _ _ rfl)) (int_as ((wrap64 (by omega) (by omega)).trans (by omega)))) rfl rfl rfl (w_n rfl) ?_
        refine TL_q (.int .i64 ((k + 1 : Nat) : Int)) (fun _ _ hρ _ => r_move (hρ _ _ rfl)) rfl rfl rfl (w_n rfl) ?_
        refine TL_nil ?_
        exact p_at (k + 1) ⟨by omega, by omega⟩ (sub_cons rfl (sub_cons rfl (sub_cons rfl (sub_cons rfl (sub_cons rfl (sub_cons rfl (sub_cons (by exact congrArg (fun z : Bool => some (Value.bool z)) (some_f (fun e => absurd e.2 (by omega)))) (sub_cons (congrArg (fun x : Wd => some (Value.int .u32 (x.toNat : Int))) (half_w mask k)) sub_nil)))))))) (sub_cons (by exact congrArg (fun z : List By => some (Res.row _ 5 1 _ (z.flatMap byc))) (spoil_f (fun e => absurd e.2 (by omega)))) sub_nil)
    · skip
      refine T_seq (T_region ?_)
      refine TL_q (.int .u32 ((mask >>> k).toNat : Int)) (fun _ _ hρ _ => r_move (hρ _ _ rfl)) rfl rfl rfl (w_n rfl) ?_
      refine TL_q (.int .u32 (((mask >>> k) % (2#32)).toNat : Int)) (fun _ _ hρ _ => r_remB (k := .u32) (a := (mask >>> k)) (b := (2#32)) rfl (hρ _ _ rfl) (hρ _ _ rfl)) rfl rfl rfl (w_n rfl) ?_
      refine TL_q (.bool false) (fun _ _ hρ _ => r_as (r_eql (hρ _ _ rfl) (hρ _ _ rfl)) (bool_as (isr_f hb))) rfl rfl rfl (w_n rfl) ?_
      refine TL_q (.bool false) (fun _ _ hρ _ => r_move (hρ _ _ rfl)) rfl rfl rfl (w_n rfl) ?_
      refine TL_no rfl rfl (want_n 34 rfl rfl rfl) ?_
      refine TL_no rfl rfl (want_n 34 rfl rfl rfl) ?_
      refine TL_no rfl rfl (want_n 34 rfl rfl rfl) ?_
      refine TL_no rfl rfl (want_n 34 rfl rfl rfl) ?_
      refine TL_no rfl rfl (want_n 34 rfl rfl rfl) ?_
      refine TL_q (.bool false) (fun _ _ hρ _ => r_pick_f (hρ _ _ rfl) (hρ _ _ rfl)) rfl rfl rfl (w_n rfl) ?_
      refine TL_seq ?_
      refine T_cond_f rfl ?_
      refine T_skip' ?_
      refine p_seq ?_
      refine T_region ?_
      refine TL_q (.int .u32 ((mask >>> k).toNat : Int)) (fun _ _ hρ _ => r_move (hρ _ _ rfl)) rfl rfl rfl (w_n rfl) ?_
      refine TL_q (.int .u32 (((mask >>> k) / (2#32)).toNat : Int)) (fun _ _ hρ _ => r_quoB (k := .u32) (a := (mask >>> k)) (b := (2#32)) rfl rfl (hρ _ _ rfl) (hρ _ _ rfl)) rfl rfl rfl (w_n rfl) ?_
      refine TL_q (.int .u32 (((mask >>> k) / (2#32)).toNat : Int)) (fun _ _ hρ _ => r_assign (hρ _ _ rfl)) rfl rfl rfl (w_n rfl) ?_
      refine TL_nil ?_
      refine p_blk_n ?_
      refine p_seq ?_
      refine T_region ?_
      refine TL_q (.int .i64 ((k + 1 : Nat) : Int)) (fun _ _ hρ _ => r_as (r_add (hρ _ _ rfl) (hρ _ _ rfl)) (int_as ((wrap64 (by omega) (by omega)).trans (by omega)))) rfl rfl rfl (w_n rfl) ?_
      refine TL_q (.int .i64 ((k + 1 : Nat) : Int)) (fun _ _ hρ _ => r_move (hρ _ _ rfl)) rfl rfl rfl (w_n rfl) ?_
      refine TL_nil ?_
      exact p_at (k + 1) ⟨by omega, by omega⟩ (sub_cons rfl (sub_cons rfl (sub_cons rfl (sub_cons rfl (sub_cons rfl (sub_cons rfl (sub_cons (by exact congrArg (fun z : Bool => some (Value.bool z)) (some_f (fun e => hb e.1))) (sub_cons (congrArg (fun x : Wd => some (Value.int .u32 (x.toNat : Int))) (half_w mask k)) sub_nil)))))))) (sub_cons (by exact congrArg (fun z : List By => some (Res.row _ 5 1 _ (z.flatMap byc))) (spoil_f (fun e => hb e.1))) sub_nil)
  · replace h1 := of_decide_eq_false h1
    refine T_exit' ?_
    refine p_then_x ?_
    refine p_then_x ?_
    refine p_blk_x ?_
    refine p_seq ?_
    refine T_seq (T_region ?_)
    refine TL_q (.slice (some ⟨g3, 0, none⟩) l.length cap2) (fun _ _ hρ _ => r_move (hρ _ _ rfl)) rfl rfl rfl (w_n rfl) ?_
    refine TL_q (.bool (someN l n mask k)) (fun _ _ hρ _ => r_move (hρ _ _ rfl)) rfl rfl rfl (w_n rfl) ?_
    refine TL_q (.slice (some ⟨g3, 0, none⟩) l.length cap2) (fun _ _ hρ _ => r_assign (hρ _ _ rfl)) rfl rfl rfl (w_n rfl) ?_
    refine TL_q (.bool (someN l n mask k)) (fun _ _ hρ _ => r_assign (hρ _ _ rfl)) rfl rfl rfl (w_n rfl) ?_
    refine TL_seq ?_
    refine T_ret' ?_
    refine ret_of rfl (.tuple #[.slice (some ⟨g3, 0, none⟩) l.length cap2, .bool (someN l n mask k)]) (fun tmps w hk hm => res2 rfl (res_tmp (hk 6 _ rfl)) (res_tmp (hk 7 _ rfl))) (fun w hm => ?_)
    have hk32 : k = 32 := by omega
    subst hk32
    have hq := spoilN_len l n mask 32
    rw [hq]
    exact ⟨_, _, rfl, hm.ext, hm.row 1 rfl⟩
end Go.Proofs.Ytnjcffhpfmnbfaa
