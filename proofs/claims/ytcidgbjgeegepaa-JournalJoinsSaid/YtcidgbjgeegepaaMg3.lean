/- Texts of this seat, merged: part 3. -/
import Derived.Test.YtcidgbjgeegepaaMg2
import Derived.Lib.AppendZeros
/- net and journal: numbers as bytes. Printed by a program of this seat's prover. -/
namespace Go.Proofs.Ytcidgbjgeegepaa
open Go Go.RowKit
set_option maxRecDepth 10000
/-- The same in words. -/
def numW (l : List By) : BitVec 64 := l.foldl (fun n x => (n <<< 8) ||| x.setWidth 64) 0#64
theorem numW_step {l : List By} {k : Nat} {x : By} (hx : l[k]? = some x) : numW (l.take (k + 1)) = (numW (l.take k) <<< 8) ||| x.setWidth 64 := by
  unfold numW
  rw [List.take_add_one, hx, List.foldl_append]; rfl
theorem numN_step {l : List By} {k : Nat} {x : By} (hx : l[k]? = some x) : numN (l.take (k + 1)) = 256 * numN (l.take k) + x.toNat := by
  unfold numN
  rw [List.take_add_one, hx, List.foldl_append]; rfl
theorem shl8_or (n : BitVec 64) (x : By) (h : n.toNat < 72057594037927936) : ((n <<< 8) ||| x.setWidth 64).toNat = 256 * n.toNat + x.toNat := by
  have hx := x.isLt
  rw [BitVec.toNat_or, BitVec.toNat_shiftLeft, BitVec.toNat_setWidth, Nat.mod_eq_of_lt (by rw [Nat.shiftLeft_eq]; omega), Nat.mod_eq_of_lt (by omega)]
  have e := Nat.shiftLeft_add_eq_or_of_lt (i := 8) (b := x.toNat) (by omega) n.toNat
  rw [← e, Nat.shiftLeft_eq]; omega
theorem num_both (l : List By) : ∀ k, k ≤ 4 → (numW (l.take k)).toNat = numN (l.take k) ∧ numN (l.take k) < 256 ^ k
  | 0, _ => ⟨rfl, (show numN [] < 1 by decide)⟩
  | k + 1, hk => by
    obtain ⟨h1, h2⟩ := num_both l k (by omega)
    have hp : 256 ^ (k + 1) = 256 * 256 ^ k := by rw [Nat.pow_succ]; omega
    have h4 : 256 ^ k ≤ 256 ^ 3 := Nat.pow_le_pow_right (by decide) (by omega)
    cases hx : l[k]? with
    | none =>
      have e : l.length ≤ k := List.getElem?_eq_none_iff.1 hx
      rw [List.take_of_length_le (Nat.le_succ_of_le e)]
      rw [List.take_of_length_le e] at h1 h2
      exact ⟨h1, by omega⟩
    | some x =>
      have hb := x.isLt
      rw [numW_step hx, numN_step hx, shl8_or _ _ (by omega), h1]
      exact ⟨rfl, by omega⟩
theorem numW4 (l : List By) (h : l.length = 4) : (numW l).toNat = numN l ∧ numN l < 4294967296 := by
  have := num_both l 4 (Nat.le_refl _)
  rw [List.take_of_length_le (by omega)] at this
  exact this
theorem numP_lt (l : List By) : numP l < 4294967296 := (num_both l 4 (Nat.le_refl _)).2
theorem ans0 {P : Program} {g : Nat} {args : Array Value} {w : World} {v : Value} (h : Calls P g args w fun e w' => e = .returned v ∧ Below w.heap.size w w') : Calls P g args w (Ans (fun _ : Unit => True) (fun _ => v) (fun _ => []) w) := h.mono fun e w' ⟨he, hb⟩ => ⟨(), trivial, he, hb, newOk0 w w'⟩
theorem byc_oneL {l : List By} : ∀ u ∈ l.flatMap byc, u.oneCell' = true := by
  intro u hu
  obtain ⟨x, _, hx⟩ := List.mem_flatMap.1 hu
  exact byc_one x u hx

theorem need_ok_oct (x : Int) (w : World) : Calls Try.prog 130 #[.bool true, .int .i64 x] w fun e w' => e = .returned (.tuple #[]) ∧ Below w.heap.size w w' := by
  refine calls_of_T (l := [.bool true, .int .i64 x]) 8 Try.func130 rfl rfl rfl ?_
  show T _ _ _ [(0, .bool true), (1, .int .i64 x)] []
  refine T_seq (T_region ?_)
  refine TL_q (.bool true) (fun _ _ hρ _ => r_move (hρ _ _ rfl)) rfl rfl rfl (w_n rfl) ?_
  refine TL_q (.bool false) (fun _ _ hρ _ => r_not (b := true) (hρ _ _ rfl)) rfl rfl rfl (w_n rfl) ?_
  refine TL_seq ?_
  refine T_cond_f rfl ?_
  refine T_skip' ?_
  refine p_end ?_
  refine ret_of rfl (.tuple #[]) (fun tmps w hk hm => results_none rfl _ _ _) (fun w hm => ?_)
  exact ⟨rfl, hm.ext⟩

theorem need_no_oct (x : Int) (w : World) : Calls Try.prog 130 #[.bool false, .int .i64 x] w fun e w' => e = .panicked [{ v := .iface 28 (.int .i64 x), recovered := false }] ∧ Below w.heap.size w w' := by
  refine calls_of_T (l := [.bool false, .int .i64 x]) 8 Try.func130 rfl rfl rfl ?_
  show T _ _ _ [(0, .bool false), (1, .int .i64 x)] []
  refine T_seq (T_region ?_)
  refine TL_q (.bool false) (fun _ _ hρ _ => r_move (hρ _ _ rfl)) rfl rfl rfl (w_n rfl) ?_
  refine TL_q (.bool true) (fun _ _ hρ _ => r_not (b := false) (hρ _ _ rfl)) rfl rfl rfl (w_n rfl) ?_
  refine TL_seq ?_
  refine T_cond_t rfl ?_
  refine T_region ?_
  refine TL_q (.int .i64 x) (fun _ _ hρ _ => r_move (hρ _ _ rfl)) rfl rfl rfl (w_n rfl) ?_
  refine TL_q (.iface 28 (.int .i64 x)) (fun _ _ hρ _ => r_makeIface (by kernel_rfl) (hρ _ _ rfl)) rfl rfl rfl (w_n rfl) ?_
  refine TL_panic (fun _ _ hρ _ => r_panic (hρ _ _ rfl)) rfl (w_n rfl) ?_
  refine p_pan rfl (fun w hm => ?_)
  exact ⟨rfl, hm.ext⟩

theorem octis_c (w : World) : Calls Try.prog 131 #[.int .i64 4] w fun e w' => e = .returned (.bool true) ∧ Below w.heap.size w w' := by
  refine calls_of_T (l := [.int .i64 4]) 9 Try.func131 rfl rfl rfl ?_
  show T _ _ _ [(0, .int .i64 4)] []
  refine T_seq (T_region ?_)
  refine TL_q (.bool false) (fun _ _ hρ _ => r_assign (hρ _ _ rfl)) rfl rfl rfl (w_n rfl) ?_
  refine TL_seq ?_
  refine T_seq (T_region ?_)
  refine TL_q (.int .i64 4) (fun _ _ hρ _ => r_move (hρ _ _ rfl)) rfl rfl rfl (w_n rfl) ?_
  refine TL_q (.bool true) (fun _ _ hρ _ => r_as (r_geq (hρ _ _ rfl) (hρ _ _ rfl)) (by rfl)) rfl rfl rfl (w_n rfl) ?_
  refine TL_q (.bool true) (fun _ _ hρ _ => r_move (hρ _ _ rfl)) rfl rfl rfl (w_n rfl) ?_
  refine TL_q (.int .i64 4) (fun _ _ hρ _ => r_move (hρ _ _ rfl)) rfl rfl rfl (want_y 5 rfl rfl rfl) ?_
  refine TL_q (.bool true) (fun _ _ hρ _ => r_as (r_leq (hρ _ _ rfl) (hρ _ _ rfl)) (by rfl)) rfl rfl rfl (want_y 5 rfl rfl rfl) ?_
  refine TL_q (.bool true) (fun _ _ hρ _ => r_pick_t (hρ _ _ rfl) (hρ _ _ rfl)) rfl rfl rfl (w_n rfl) ?_
  refine TL_q (.bool true) (fun _ _ hρ _ => r_assign (hρ _ _ rfl)) rfl rfl rfl (w_n rfl) ?_
  refine TL_seq ?_
  refine T_ret' ?_
  refine ret_of rfl (.bool true) (fun tmps w hk hm => res1 rfl (res_tmp (hk 2 _ rfl))) (fun w hm => ?_)
  exact ⟨rfl, hm.ext⟩

theorem number_c (l : List By) (a : Option Addr) (cap : Nat) (w : World) (hv : SliceAt w a cap 1 byc l) (hcap : cap ≤ Go.maxLen) : Calls Try.prog 132 #[.slice a l.length cap] w fun e w' => e = .returned (.int .u64 ((numW l).toNat : Int)) ∧ Below w.heap.size w w' := by
  have hvl := hv.1
  have hcp := hcap
  unfold Go.maxLen at hcp
  refine calls_of_T (l := [.slice a l.length cap]) 19 Try.func132 rfl rfl rfl ?_
  show T _ _ _ [(0, .slice a l.length cap)] []
  refine T_seq (T_region ?_)
  refine TL_q (.int .u64 0) (fun _ _ hρ _ => r_assign (hρ _ _ rfl)) rfl rfl rfl (w_n rfl) ?_
  refine TL_seq ?_
  refine T_seq (T_region ?_)
  refine TL_q (.int .u64 0) (fun _ _ hρ _ => r_assign (hρ _ _ rfl)) rfl rfl rfl (w_n rfl) ?_
  refine TL_seq ?_
  refine T_seq ?_
  refine T_seq (T_region ?_)
  refine TL_q (.slice a l.length cap) (fun _ _ hρ _ => r_move (hρ _ _ rfl)) rfl rfl rfl (w_n rfl) ?_
  refine TL_q (.int .i64 ((l.length : Nat) : Int)) (fun _ _ hρ _ => r_len sl34 (hρ _ _ rfl)) rfl rfl rfl (w_n rfl) ?_
  refine TL_q (.int .i64 0) (fun _ _ hρ _ => r_move (hρ _ _ rfl)) rfl rfl rfl (w_n rfl) ?_
  refine TL_seq ?_
  refine T_block ?_
  refine T_loop (ι := Nat) (fun (k : Nat) => k ≤ l.length) (fun (k : Nat) => [(2, .int .u64 0), (6, .slice a l.length cap), (7, .int .i64 ((l.length : Nat) : Int)), (8, .int .i64 ((k : Nat) : Int)), (3, .int .u64 ((numW (l.take k)).toNat : Int))]) (fun (k : Nat) => []) (fun (k : Nat) => l.length - k) 0 (Nat.zero_le _) (sub_cons rfl (sub_cons rfl (sub_cons rfl (sub_cons rfl (sub_cons rfl sub_nil))))) sub_nil ?_
  rintro k hp
  have hk := hp
  show T _ _ _ [(2, .int .u64 0), (6, .slice a l.length cap), (7, .int .i64 ((l.length : Nat) : Int)), (8, .int .i64 ((k : Nat) : Int)), (3, .int .u64 ((numW (l.take k)).toNat : Int))] []
  refine T_seq (T_region ?_)
  refine TL_q (.bool (decide (((k : Nat) : Int) < ((l.length : Nat) : Int)))) (fun _ _ hρ _ => r_lss (hρ _ _ rfl) (hρ _ _ rfl)) rfl rfl rfl (w_n rfl) ?_
  refine TL_seq ?_
  refine T_seq ?_
  refine T_cond rfl (fun h1 => ?_) (fun h1 => ?_)
  · replace h1 := of_decide_eq_true h1
    refine T_skip' ?_
    refine p_seq ?_
    refine T_seq ?_
    refine T_block ?_
    obtain ⟨x, hx⟩ : ∃ x, l[k]? = some x := ⟨_, List.getElem?_eq_getElem (by omega)⟩
    obtain ⟨b1, of1, cs1, T1, fz1, ha1, hq1, hr1⟩ := hv.open (i := k) (by omega)
    subst ha1
    refine T_seq (T_region ?_)
    refine TL_q (.pointer (some ⟨b1, of1 + k * 1, none⟩)) (fun _ _ hρ _ => r_indexAddrS (i := k) sl34 sz5 (hρ _ _ rfl) (hρ _ _ rfl) (by omega)) rfl rfl rfl (w_n rfl) ?_
    refine TL_q (.int .u8 ((x).toNat : Int)) (fun _ _ hρ hm => r_loadRow1 (f := byc) (u := x) ag5 (hρ _ _ rfl) (hm.old hq1) hr1 hx rfl) rfl rfl rfl (w_n rfl) ?_
    refine TL_q (.int .u8 ((x).toNat : Int)) (fun _ _ hρ _ => r_assign (hρ _ _ rfl)) rfl rfl rfl (w_n rfl) ?_
    refine TL_seq ?_
    refine T_region ?_
    refine TL_q (.int .u64 ((numW (l.take k)).toNat : Int)) (fun _ _ hρ _ => r_move (hρ _ _ rfl)) rfl rfl rfl (w_n rfl) ?_
    refine TL_q (.int .u64 (((numW (l.take k)) <<< 8).toNat : Int)) (fun _ _ hρ _ => r_shlB (k := .u64) (a := (numW (l.take k))) (n := 8) rfl (by decide) (hρ _ _ rfl) (hρ _ _ rfl)) rfl rfl rfl (w_n rfl) ?_
    refine TL_q (.int .u8 ((x).toNat : Int)) (fun _ _ hρ _ => r_move (hρ _ _ rfl)) rfl rfl rfl (w_n rfl) ?_
    refine TL_q (.int .u64 ((x.setWidth 64).toNat : Int)) (fun _ _ hρ _ => r_convB (k := .u8) (k' := .u64) (a := x) un5 io25 rfl (hρ _ _ rfl)) rfl rfl rfl (w_n rfl) ?_
    refine TL_q (.int .u64 ((((numW (l.take k)) <<< 8) ||| (x.setWidth 64)).toNat : Int)) (fun _ _ hρ _ => r_orB (k := .u64) (a := ((numW (l.take k)) <<< 8)) (b := (x.setWidth 64)) rfl (hρ _ _ rfl) (hρ _ _ rfl)) rfl rfl rfl (w_n rfl) ?_
    refine TL_q (.int .u64 ((((numW (l.take k)) <<< 8) ||| (x.setWidth 64)).toNat : Int)) (fun _ _ hρ _ => r_assign (hρ _ _ rfl)) rfl rfl rfl (w_n rfl) ?_
    refine TL_nil ?_
    refine p_blk_n ?_
    refine p_seq ?_
    refine T_region ?_
    refine TL_q (.int .i64 ((k + 1 : Nat) : Int)) (fun _ _ hρ _ => r_as (r_add (hρ _ _ rfl) (hρ _ _ rfl)) (int_as ((wrap64 (by omega) (by omega)).trans (by omega)))) rfl rfl rfl (w_n rfl) ?_
    refine TL_q (.int .i64 ((k + 1 : Nat) : Int)) (fun _ _ hρ _ => r_move (hρ _ _ rfl)) rfl rfl rfl (w_n rfl) ?_
    refine TL_nil ?_
    rw [← numW_step hx]
    exact p_at (k + 1) ⟨by omega, by omega⟩ (sub_cons rfl (sub_cons rfl (sub_cons rfl (sub_cons rfl (sub_cons rfl sub_nil))))) sub_nil
  · replace h1 := of_decide_eq_false h1
    refine T_exit' ?_
    refine p_then_x ?_
    refine p_then_x ?_
    refine p_blk_x ?_
    refine p_seq ?_
    refine T_seq (T_region ?_)
    refine TL_q (.int .u64 ((numW (l.take k)).toNat : Int)) (fun _ _ hρ _ => r_move (hρ _ _ rfl)) rfl rfl rfl (w_n rfl) ?_
    refine TL_q (.int .u64 ((numW (l.take k)).toNat : Int)) (fun _ _ hρ _ => r_assign (hρ _ _ rfl)) rfl rfl rfl (w_n rfl) ?_
    refine TL_seq ?_
    refine T_ret' ?_
    refine ret_of rfl (.int .u64 ((numW (l.take k)).toNat : Int)) (fun tmps w hk hm => res1 rfl (res_tmp (hk 2 _ rfl))) (fun w hm => ?_)
    have hke : k = l.length := by omega
    subst hke
    rw [List.take_length]
    exact ⟨rfl, hm.ext⟩

theorem get1_ok (T0 T1 T2 : Nat) (l : List By) (a : Option Addr) (cap : Nat) (w : World) (hv : SliceAt w a cap 1 byc l) (hcap : cap ≤ Go.maxLen) (h0 : hp w T0 = some (.cells #[.int .i64 4] 3)) (h1 : hp w T1 = some (.cells #[.int .i64 0] 3)) (h2 : hp w T2 = some (.cells #[.slice a l.length cap] 34)) (h4 : 4 ≤ l.length) : Calls Try.prog 129 #[.pointer (some ⟨T0, 0, none⟩), .pointer (some ⟨T1, 0, none⟩), .pointer (some ⟨T2, 0, none⟩)] w fun e w' => e = .returned (.int .u64 ((numP l : Nat) : Int)) ∧ Below w.heap.size w w' := by
  have hvl := hv.1
  have hcp := hcap
  unfold Go.maxLen at hcp
  refine calls_of_T (l := [.pointer (some ⟨T0, 0, none⟩), .pointer (some ⟨T1, 0, none⟩), .pointer (some ⟨T2, 0, none⟩)]) 30 Try.func129 rfl rfl rfl ?_
  show T _ _ _ [(0, .pointer (some ⟨T0, 0, none⟩)), (1, .pointer (some ⟨T1, 0, none⟩)), (2, .pointer (some ⟨T2, 0, none⟩))] []
  refine T_seq (T_region ?_)
  refine TL_q (.int .u64 0) (fun _ _ hρ _ => r_assign (hρ _ _ rfl)) rfl rfl rfl (w_n rfl) ?_
  refine TL_seq ?_
  refine T_seq (T_region ?_)
  refine TL_q (.int .i64 4) (fun _ _ hρ hm => r_load ag3 (hρ _ _ rfl) (hm.old h0) rfl) rfl rfl rfl (w_n rfl) ?_
  refine TL_call (.bool true) (fun _ _ hρ _ => r_call (args := [.int .i64 4]) (enters_of Try.func131 (by kernel_rfl) rfl) (hρ _ _ rfl) ((cons2 (hρ _ _ rfl) rfl)) rfl) (fun w _ => octis_c w) rfl rfl rfl (w_n rfl) ?_
  refine TL_call (.tuple #[]) (fun _ _ hρ _ => r_call (args := [.bool true, .int .i64 111]) (enters_of Try.func130 (by kernel_rfl) rfl) (hρ _ _ rfl) ((cons2 (hρ _ _ rfl) (cons2 (hρ _ _ rfl) rfl))) rfl) (fun w _ => need_ok_oct 111 w) rfl rfl rfl (w_n rfl) ?_
  refine TL_seq ?_
  refine T_seq (T_region ?_)
  refine TL_q (.int .i64 0) (fun _ _ hρ hm => r_load ag3 (hρ _ _ rfl) (hm.old h1) rfl) rfl rfl rfl (w_n rfl) ?_
  refine TL_q (.bool true) (fun _ _ hρ _ => r_as (r_geq (hρ _ _ rfl) (hρ _ _ rfl)) (by rfl)) rfl rfl rfl (w_n rfl) ?_
  refine TL_q (.bool true) (fun _ _ hρ _ => r_move (hρ _ _ rfl)) rfl rfl rfl (w_n rfl) ?_
  refine TL_q (.int .i64 0) (fun _ _ hρ hm => r_load ag3 (hρ _ _ rfl) (hm.old h1) rfl) rfl rfl rfl (want_y 9 rfl rfl rfl) ?_
  refine TL_q (.slice a l.length cap) (fun _ _ hρ hm => r_load ag34 (hρ _ _ rfl) (hm.old h2) rfl) rfl rfl rfl (want_y 9 rfl rfl rfl) ?_
  refine TL_q (.int .i64 ((l.length : Nat) : Int)) (fun _ _ hρ _ => r_len sl34 (hρ _ _ rfl)) rfl rfl rfl (want_y 9 rfl rfl rfl) ?_
  refine TL_q (.bool true) (fun _ _ hρ _ => r_as (r_leq (hρ _ _ rfl) (hρ _ _ rfl)) (bool_as (decide_eq_true (by omega)))) rfl rfl rfl (want_y 9 rfl rfl rfl) ?_
  refine TL_q (.bool true) (fun _ _ hρ _ => r_pick_t (hρ _ _ rfl) (hρ _ _ rfl)) rfl rfl rfl (w_n rfl) ?_
  refine TL_call (.tuple #[]) (fun _ _ hρ _ => r_call (args := [.bool true, .int .i64 2]) (enters_of Try.func130 (by kernel_rfl) rfl) (hρ _ _ rfl) ((cons2 (hρ _ _ rfl) (cons2 (hρ _ _ rfl) rfl))) rfl) (fun w _ => need_ok_oct 2 w) rfl rfl rfl (w_n rfl) ?_
  refine TL_seq ?_
  refine T_seq (T_region ?_)
  refine TL_q (.slice a l.length cap) (fun _ _ hρ hm => r_load ag34 (hρ _ _ rfl) (hm.old h2) rfl) rfl rfl rfl (w_n rfl) ?_
  refine TL_q (.int .i64 ((l.length : Nat) : Int)) (fun _ _ hρ _ => r_len sl34 (hρ _ _ rfl)) rfl rfl rfl (w_n rfl) ?_
  refine TL_q (.int .i64 0) (fun _ _ hρ hm => r_load ag3 (hρ _ _ rfl) (hm.old h1) rfl) rfl rfl rfl (w_n rfl) ?_
  refine TL_q (.int .i64 ((l.length - 0 : Nat) : Int)) (fun _ _ hρ _ => r_as (r_sub (hρ _ _ rfl) (hρ _ _ rfl)) (int_as ((wrap64 (by omega) (by omega)).trans (by omega)))) rfl rfl rfl (w_n rfl) ?_
  refine TL_q (.int .i64 4) (fun _ _ hρ hm => r_load ag3 (hρ _ _ rfl) (hm.old h0) rfl) rfl rfl rfl (w_n rfl) ?_
  refine TL_q (.bool true) (fun _ _ hρ _ => r_as (r_geq (hρ _ _ rfl) (hρ _ _ rfl)) (bool_as (decide_eq_true (by omega)))) rfl rfl rfl (w_n rfl) ?_
  refine TL_call (.tuple #[]) (fun _ _ hρ _ => r_call (args := [.bool true, .int .i64 110]) (enters_of Try.func130 (by kernel_rfl) rfl) (hρ _ _ rfl) ((cons2 (hρ _ _ rfl) (cons2 (hρ _ _ rfl) rfl))) rfl) (fun w _ => need_ok_oct 110 w) rfl rfl rfl (w_n rfl) ?_
  refine TL_seq ?_
  refine T_seq (T_region ?_)
  refine TL_q (.slice a l.length cap) (fun _ _ hρ hm => r_load ag34 (hρ _ _ rfl) (hm.old h2) rfl) rfl rfl rfl (w_n rfl) ?_
  refine TL_q (.int .i64 0) (fun _ _ hρ hm => r_load ag3 (hρ _ _ rfl) (hm.old h1) rfl) rfl rfl rfl (w_n rfl) ?_
  refine TL_q (.int .i64 0) (fun _ _ hρ hm => r_load ag3 (hρ _ _ rfl) (hm.old h1) rfl) rfl rfl rfl (w_n rfl) ?_
  refine TL_q (.int .i64 4) (fun _ _ hρ hm => r_load ag3 (hρ _ _ rfl) (hm.old h0) rfl) rfl rfl rfl (w_n rfl) ?_
  refine TL_q (.int .i64 4) (fun _ _ hρ _ => r_as (r_add (hρ _ _ rfl) (hρ _ _ rfl)) (by rfl)) rfl rfl rfl (w_n rfl) ?_
  obtain ⟨l1, hl1, hn1⟩ : ∃ lz, lz = l.take 4 ∧ lz.length = 4 := ⟨_, rfl, by rw [List.length_take]; omega⟩
  have hs1 := SliceAt.front hv (n := 4) (m := cap) (by omega) (by omega) (by omega)
  rw [← hl1] at hs1
  refine TL_q (.slice a l1.length cap) (fun ρ _ hρ _ => r_as (r_sliceO sl34 sz5 (hρ _ _ rfl) (bd_none ρ _) (bd_some (n := 4) (hρ _ _ rfl)) (bd_some (n := 0) (hρ _ _ rfl)) (by simp) (by omega) (by omega) (by omega)) (by rw [hn1]; exact slo_zero _ _ _ _)) rfl rfl rfl (w_n rfl) ?_
  refine TL_call (.int .u64 ((numP l : Nat) : Int)) (fun _ _ hρ _ => r_call (args := [.slice a l1.length cap]) (enters_of Try.func132 (by kernel_rfl) rfl) (hρ _ _ rfl) ((cons2 (hρ _ _ rfl) rfl)) rfl) (fun w hm => (number_c l1 a cap w (hs1.keep hm.ext) (by omega)).mono fun _ _ h => ⟨h.1.trans (congrArg Ending.returned (congrArg (fun n : Nat => Value.int .u64 (n : Int)) (show (numW l1).toNat = numP l by rw [(numW4 l1 (by omega)).1, hl1]; rfl))), h.2⟩) rfl rfl rfl (w_n rfl) ?_
  refine TL_q (.int .u64 ((numP l : Nat) : Int)) (fun _ _ hρ _ => r_assign (hρ _ _ rfl)) rfl rfl rfl (w_n rfl) ?_
  refine TL_seq ?_
  refine T_ret' ?_
  refine ret_of rfl (.int .u64 ((numP l : Nat) : Int)) (fun tmps w hk hm => res1 rfl (res_tmp (hk 3 _ rfl))) (fun w hm => ?_)
  exact ⟨rfl, hm.ext⟩

theorem get1_no (T0 T1 T2 : Nat) (l : List By) (a : Option Addr) (cap : Nat) (w : World) (hv : SliceAt w a cap 1 byc l) (hcap : cap ≤ Go.maxLen) (h0 : hp w T0 = some (.cells #[.int .i64 4] 3)) (h1 : hp w T1 = some (.cells #[.int .i64 0] 3)) (h2 : hp w T2 = some (.cells #[.slice a l.length cap] 34)) (h4 : ¬ 4 ≤ l.length) : Calls Try.prog 129 #[.pointer (some ⟨T0, 0, none⟩), .pointer (some ⟨T1, 0, none⟩), .pointer (some ⟨T2, 0, none⟩)] w fun e w' => e = .panicked [{ v := .iface 28 (.int .i64 110), recovered := false }] ∧ Below w.heap.size w w' := by
  have hvl := hv.1
  have hcp := hcap
  unfold Go.maxLen at hcp
  refine calls_of_T (l := [.pointer (some ⟨T0, 0, none⟩), .pointer (some ⟨T1, 0, none⟩), .pointer (some ⟨T2, 0, none⟩)]) 30 Try.func129 rfl rfl rfl ?_
  show T _ _ _ [(0, .pointer (some ⟨T0, 0, none⟩)), (1, .pointer (some ⟨T1, 0, none⟩)), (2, .pointer (some ⟨T2, 0, none⟩))] []
  refine T_seq (T_region ?_)
  refine TL_q (.int .u64 0) (fun _ _ hρ _ => r_assign (hρ _ _ rfl)) rfl rfl rfl (w_n rfl) ?_
  refine TL_seq ?_
  refine T_seq (T_region ?_)
  refine TL_q (.int .i64 4) (fun _ _ hρ hm => r_load ag3 (hρ _ _ rfl) (hm.old h0) rfl) rfl rfl rfl (w_n rfl) ?_
  refine TL_call (.bool true) (fun _ _ hρ _ => r_call (args := [.int .i64 4]) (enters_of Try.func131 (by kernel_rfl) rfl) (hρ _ _ rfl) ((cons2 (hρ _ _ rfl) rfl)) rfl) (fun w _ => octis_c w) rfl rfl rfl (w_n rfl) ?_
  refine TL_call (.tuple #[]) (fun _ _ hρ _ => r_call (args := [.bool true, .int .i64 111]) (enters_of Try.func130 (by kernel_rfl) rfl) (hρ _ _ rfl) ((cons2 (hρ _ _ rfl) (cons2 (hρ _ _ rfl) rfl))) rfl) (fun w _ => need_ok_oct 111 w) rfl rfl rfl (w_n rfl) ?_
  refine TL_seq ?_
  refine T_seq (T_region ?_)
  refine TL_q (.int .i64 0) (fun _ _ hρ hm => r_load ag3 (hρ _ _ rfl) (hm.old h1) rfl) rfl rfl rfl (w_n rfl) ?_
  refine TL_q (.bool true) (fun _ _ hρ _ => r_as (r_geq (hρ _ _ rfl) (hρ _ _ rfl)) (by rfl)) rfl rfl rfl (w_n rfl) ?_
  refine TL_q (.bool true) (fun _ _ hρ _ => r_move (hρ _ _ rfl)) rfl rfl rfl (w_n rfl) ?_
  refine TL_q (.int .i64 0) (fun _ _ hρ hm => r_load ag3 (hρ _ _ rfl) (hm.old h1) rfl) rfl rfl rfl (want_y 9 rfl rfl rfl) ?_
  refine TL_q (.slice a l.length cap) (fun _ _ hρ hm => r_load ag34 (hρ _ _ rfl) (hm.old h2) rfl) rfl rfl rfl (want_y 9 rfl rfl rfl) ?_
  refine TL_q (.int .i64 ((l.length : Nat) : Int)) (fun _ _ hρ _ => r_len sl34 (hρ _ _ rfl)) rfl rfl rfl (want_y 9 rfl rfl rfl) ?_
  refine TL_q (.bool true) (fun _ _ hρ _ => r_as (r_leq (hρ _ _ rfl) (hρ _ _ rfl)) (bool_as (decide_eq_true (by omega)))) rfl rfl rfl (want_y 9 rfl rfl rfl) ?_
  refine TL_q (.bool true) (fun _ _ hρ _ => r_pick_t (hρ _ _ rfl) (hρ _ _ rfl)) rfl rfl rfl (w_n rfl) ?_
  refine TL_call (.tuple #[]) (fun _ _ hρ _ => r_call (args := [.bool true, .int .i64 2]) (enters_of Try.func130 (by kernel_rfl) rfl) (hρ _ _ rfl) ((cons2 (hρ _ _ rfl) (cons2 (hρ _ _ rfl) rfl))) rfl) (fun w _ => need_ok_oct 2 w) rfl rfl rfl (w_n rfl) ?_
  refine TL_seq ?_
  refine T_seq (T_region ?_)
  refine TL_q (.slice a l.length cap) (fun _ _ hρ hm => r_load ag34 (hρ _ _ rfl) (hm.old h2) rfl) rfl rfl rfl (w_n rfl) ?_
  refine TL_q (.int .i64 ((l.length : Nat) : Int)) (fun _ _ hρ _ => r_len sl34 (hρ _ _ rfl)) rfl rfl rfl (w_n rfl) ?_
  refine TL_q (.int .i64 0) (fun _ _ hρ hm => r_load ag3 (hρ _ _ rfl) (hm.old h1) rfl) rfl rfl rfl (w_n rfl) ?_
  refine TL_q (.int .i64 ((l.length - 0 : Nat) : Int)) (fun _ _ hρ _ => r_as (r_sub (hρ _ _ rfl) (hρ _ _ rfl)) (int_as ((wrap64 (by omega) (by omega)).trans (by omega)))) rfl rfl rfl (w_n rfl) ?_
  refine TL_q (.int .i64 4) (fun _ _ hρ hm => r_load ag3 (hρ _ _ rfl) (hm.old h0) rfl) rfl rfl rfl (w_n rfl) ?_
  refine TL_q (.bool false) (fun _ _ hρ _ => r_as (r_geq (hρ _ _ rfl) (hρ _ _ rfl)) (bool_as (decide_eq_false (by omega)))) rfl rfl rfl (w_n rfl) ?_
  refine TL_callQ (v := .iface 28 (.int .i64 110)) (fun _ _ hρ _ => r_call (args := [.bool false, .int .i64 110]) (enters_of Try.func130 (by kernel_rfl) rfl) (hρ _ _ rfl) ((cons2 (hρ _ _ rfl) (cons2 (hρ _ _ rfl) rfl))) rfl) (fun w _ => need_no_oct 110 w) rfl (w_n rfl) ?_
  refine p_then_p ?_
  refine p_pan rfl (fun w hm => ?_)
  exact ⟨rfl, hm.ext⟩

theorem trG_idle (w₀ : World) (L : Heap) (A B : Nat) : ∀ w, MemOk w₀ L w → CallsD Try.prog 140 #[.pointer (some ⟨A, 0, none⟩), .pointer (some ⟨B, 0, none⟩)] .returning w fun e u' w' => u' = .returning ∧ (e = .returned (.tuple #[]) ∧ MemOk w₀ L w') := by
  refine dS_of_T (l := [.pointer (some ⟨A, 0, none⟩), .pointer (some ⟨B, 0, none⟩)]) (L := L) (v := .nilIface) 19 (.inl ⟨rfl, rfl, rfl⟩) Try.func140 rfl rfl rfl rfl rfl (fun _ _ => rfl) rfl rfl (fun _ _ => rfl) rfl rfl ?_
  show T _ _ _ [(2, .nilIface), (6, .nilIface), (0, .pointer (some ⟨A, 0, none⟩)), (1, .pointer (some ⟨B, 0, none⟩))] L
  refine T_seq (T_region ?_)
  refine TL_q (.nilIface) (fun _ _ hρ _ => r_move (hρ _ _ rfl)) rfl rfl rfl (w_n rfl) ?_
  refine TL_q (.bool false) (fun _ w hρ _ => r_eqI (by rfl) (hρ _ _ rfl) (hρ _ _ rfl) (run_neq_nil_nil w 20 (by kernel_rfl))) rfl rfl rfl (w_n rfl) ?_
  refine TL_seq ?_
  refine T_cond_f rfl ?_
  refine T_skip' ?_
  refine p_endP ?_
  refine ret_ofP rfl (.tuple #[]) (fun tmps w hk hm => results_none rfl _ _ _) (fun w hm => ?_)
  exact ⟨rfl, hm⟩

theorem trG_rec (w₀ : World) (L : Heap) (A B : Nat) (x : Int) (hA : lk L 1900 = some (.blk A (.cells #[.int .u64 0] 25))) (hB : lk L 1901 = some (.blk B (.cells #[.int .i64 0] 28))) : ∀ w, MemOk w₀ L w → CallsD Try.prog 140 #[.pointer (some ⟨A, 0, none⟩), .pointer (some ⟨B, 0, none⟩)] (.panicking [{ v := .iface 28 (.int .i64 x), recovered := false }]) w fun e u' w' => u' = .panicking [{ v := .iface 28 (.int .i64 x), recovered := true }] ∧ (e = .returned (.tuple #[]) ∧ MemOk w₀ ([(1901, .blk B (.cells #[.int .i64 x] 28)), (1900, .blk A (.cells #[.int .u64 0] 25))] ++ L) w') := by
  refine dS_of_T (l := [.pointer (some ⟨A, 0, none⟩), .pointer (some ⟨B, 0, none⟩)]) (L := L) (v := .iface 28 (.int .i64 x)) 19 (.inr ⟨rfl, rfl⟩) Try.func140 rfl rfl rfl rfl rfl (fun _ _ => rfl) rfl rfl (fun _ _ => rfl) rfl rfl ?_
  refine T_mem ((1901, .blk B (.cells #[.int .i64 0] 28)) :: (1900, .blk A (.cells #[.int .u64 0] 25)) :: L) (fun _ hm => hm.of (lk_dup2 hB hA)) ?_
  show T _ _ _ [(2, .iface 28 (.int .i64 x)), (6, .iface 28 (.int .i64 x)), (0, .pointer (some ⟨A, 0, none⟩)), (1, .pointer (some ⟨B, 0, none⟩))] ((1901, .blk B (.cells #[.int .i64 0] 28)) :: (1900, .blk A (.cells #[.int .u64 0] 25)) :: L)
  refine T_seq (T_region ?_)
  refine TL_q (.iface 28 (.int .i64 x)) (fun _ _ hρ _ => r_move (hρ _ _ rfl)) rfl rfl rfl (w_n rfl) ?_
  refine TL_q (.bool true) (fun _ w hρ _ => r_eqI (by rfl) (hρ _ _ rfl) (hρ _ _ rfl) (run_neq_held_nil w 20 _ _ (by kernel_rfl))) rfl rfl rfl (w_n rfl) ?_
  refine TL_seq ?_
  refine T_cond_t rfl ?_
  refine T_seq (T_region ?_)
  refine TL_q (.iface 28 (.int .i64 x)) (fun _ _ hρ _ => r_move (hρ _ _ rfl)) rfl rfl rfl (w_n rfl) ?_
  refine TL_q (.tuple #[.int .i64 x, .bool true]) (fun _ _ hρ _ => r_typeAssert (hρ _ _ rfl) (by kernel_rfl)) rfl rfl rfl (w_n rfl) ?_
  refine TL_q (.tuple #[.int .i64 x, .bool true]) (fun _ _ hρ _ => r_move (hρ _ _ rfl)) rfl rfl rfl (w_n rfl) ?_
  refine TL_q (.int .i64 x) (fun _ _ hρ _ => r_extract (hρ _ _ rfl) rfl) rfl rfl rfl (w_n rfl) ?_
  refine TL_q (.bool true) (fun _ _ hρ _ => r_extract (hρ _ _ rfl) rfl) rfl rfl rfl (w_n rfl) ?_
  refine TL_q (.int .i64 x) (fun _ _ hρ _ => r_assign (hρ _ _ rfl)) rfl rfl rfl (w_n rfl) ?_
  refine TL_q (.bool true) (fun _ _ hρ _ => r_assign (hρ _ _ rfl)) rfl rfl rfl (w_n rfl) ?_
  refine TL_seq ?_
  refine T_seq ?_
  refine T_seq (T_region ?_)
  refine TL_q (.bool true) (fun _ _ hρ _ => r_move (hρ _ _ rfl)) rfl rfl rfl (w_n rfl) ?_
  refine TL_q (.bool false) (fun _ _ hρ _ => r_not (b := true) (hρ _ _ rfl)) rfl rfl rfl (w_n rfl) ?_
  refine TL_seq ?_
  refine T_cond_f rfl ?_
  refine T_skip' ?_
  refine p_seq ?_
  refine T_seq (T_region ?_)
  refine TL_q (.int .u64 0) (fun _ _ hρ _ => r_assign (hρ _ _ rfl)) rfl rfl rfl (w_n rfl) ?_
  refine TL_seq ?_
  refine T_region ?_
  refine TL_q (.int .u64 0) (fun _ _ hρ _ => r_move (hρ _ _ rfl)) rfl rfl rfl (w_n rfl) ?_
  refine TL_q (.int .i64 x) (fun _ _ hρ _ => r_move (hρ _ _ rfl)) rfl rfl rfl (w_n rfl) ?_
  refine TL_store 1900 (.cells #[.int .u64 0] 25) rfl (fun _ _ hρ hm => r_store sz25 (hρ _ _ rfl) (hρ _ _ rfl) (hm.at 1900 rfl) rfl rfl rfl rfl) rfl rfl (w_n rfl) ?_
  refine TL_store 1901 (.cells #[.int .i64 x] 28) rfl (fun _ _ hρ hm => r_store sz28 (hρ _ _ rfl) (hρ _ _ rfl) (hm.at 1901 rfl) rfl rfl rfl rfl) rfl rfl (w_n rfl) ?_
  refine TL_nil ?_
  refine p_endP ?_
  refine ret_ofP rfl (.tuple #[]) (fun tmps w hk hm => results_none rfl _ _ _) (fun w hm => ?_)
  exact ⟨rfl, hm.of (lk_mid (L := L) [(1901, .blk B (.cells #[.int .i64 x] 28)), (1900, .blk A (.cells #[.int .u64 0] 25))] [(1901, .blk B (.cells #[.int .i64 0] 28)), (1900, .blk A (.cells #[.int .u64 0] 25))] rfl)⟩

theorem trG_ok {w₀ : World} {L : Heap} (g : Nat) (cap : Array Value) {ι : Type} (p : ι → Prop) (vi0 : ι → Int) (N : ι → Heap) (hE : Enters Try.prog g) (h1901 : lk L 1901 = none) (h1900 : lk L 1900 = none) (hN1901 : ∀ x, lk (N x) 1901 = none) (hN1900 : ∀ x, lk (N x) 1900 = none) (H : ∀ A B w, MemOk w₀ ((1901, .blk B (.cells #[.int .i64 0] 28)) :: (1900, .blk A (.cells #[.int .u64 0] 25)) :: L) w → Calls Try.prog g cap w (HAns w₀ p (fun x => .int .u64 (vi0 x)) (fun x => N x ++ ((1901, .blk B (.cells #[.int .i64 0] 28)) :: (1900, .blk A (.cells #[.int .u64 0] 25)) :: L)))) : ∀ w, MemOk w₀ L w → Calls Try.prog 128 #[.func (.func g) #[] cap] w (HAns w₀ p (fun x => .tuple #[.int .u64 (vi0 x), .int .i64 0]) (fun x => N x ++ L)) := by
  refine ht_of_TD (l := [.func (.func g) #[] cap]) (L := L) 7 Try.func128 rfl rfl rfl ?_
  show T _ _ _ [(0, .func (.func g) #[] cap)] L
  refine T_seq (T_region ?_)
  refine TL_new 1900 (.cells #[.int .u64 0] 25) (fun B => .pointer (some ⟨B, 0, none⟩)) (fun _ _ _ _ => r_alloc (v := .int .u64 0) (by kernel_rfl) rfl) rfl rfl rfl (w_n rfl) ?_
  intro B1
  refine TL_new 1901 (.cells #[.int .i64 0] 28) (fun B => .pointer (some ⟨B, 0, none⟩)) (fun _ _ _ _ => r_alloc (v := .int .i64 0) (by kernel_rfl) rfl) rfl rfl rfl (w_n rfl) ?_
  intro B2
  refine TL_seq ?_
  refine T_seq (T_region ?_)
  refine TL_q (.func (.func 140) #[] #[.pointer (some ⟨B1, 0, none⟩), .pointer (some ⟨B2, 0, none⟩)]) (fun _ _ hρ _ => r_makeFunc (by simp) (map_arr (cons2 (hρ _ _ rfl) (cons2 (hρ _ _ rfl) rfl)))) rfl rfl rfl (w_n rfl) ?_
  refine TL_defer ({ target := .fn (.func 140) #[.pointer (some ⟨B1, 0, none⟩), .pointer (some ⟨B2, 0, none⟩)], args := #[] }) rfl (fun _ _ hρ _ => r_defer (args := []) (hρ _ _ rfl) (by rfl) rfl) rfl (w_n rfl) ?_
  refine TL_seq ?_
  refine T_seq (T_region ?_)
  refine TL_q (.func (.func g) #[] cap) (fun _ _ hρ _ => r_move (hρ _ _ rfl)) rfl rfl rfl (w_n rfl) ?_
  refine TL_callH _ _ _ (fun _ _ hρ _ => r_call (args := []) hE (hρ _ _ rfl) (by rfl) (by simp)) (fun w hm => H B1 B2 w hm) rfl rfl rfl (w_n rfl) ?_
  intro x hx
  refine TL_mem ([(1901, .blk B2 (.cells #[.int .i64 0] 28)), (1900, .blk B1 (.cells #[.int .u64 0] 25))] ++ (N x ++ L)) (fun _ hm => hm.of (lk_front (L := L) [(1901, .blk B2 (.cells #[.int .i64 0] 28)), (1900, .blk B1 (.cells #[.int .u64 0] 25))] (by simp [hN1901, hN1900]))) ?_
  refine TL_store 1900 (.cells #[.int .u64 (vi0 x)] 25) rfl (fun _ _ hρ hm => r_store sz25 (hρ _ _ rfl) (hρ _ _ rfl) (hm.at 1900 rfl) rfl rfl rfl rfl) rfl rfl (w_n rfl) ?_
  refine TL_store 1901 (.cells #[.int .i64 0] 28) rfl (fun _ _ hρ hm => r_store sz28 (hρ _ _ rfl) (hρ _ _ rfl) (hm.at 1901 rfl) rfl rfl rfl rfl) rfl rfl (w_n rfl) ?_
  refine TL_seq ?_
  refine T_ret' ?_
  refine ret_ofD [{ target := .fn (.func 140) #[.pointer (some ⟨B1, 0, none⟩), .pointer (some ⟨B2, 0, none⟩)], args := #[] }] rfl (fun tmps hk => ?_)
  refine leavesH_cons (enters_of Try.func140 (by kernel_rfl) rfl) (fun w hm => trG_idle _ _ B1 B2 w hm) ?_
  refine leavesH_nil (.tuple #[.int .u64 (vi0 x), .int .i64 0]) (fun _ hm => res2 rfl (res_cell (hk 2 _ rfl) (run_loadVar_one ag25 (hm.at 1900 rfl) rfl)) (res_cell (hk 3 _ rfl) (run_loadVar_one ag28 (hm.at 1901 rfl) rfl))) (fun w hm => ?_)
  have e1901 := lk_app_none (hN1901 x) h1901
  have e1900 := lk_app_none (hN1900 x) h1900
  exact ⟨x, hx, rfl, hm.of (lk_drop (L := N x ++ L) [(1901, .blk B2 (.cells #[.int .i64 0] 28)), (1900, .blk B1 (.cells #[.int .u64 (vi0 x)] 25)), (1901, .blk B2 (.cells #[.int .i64 0] 28)), (1900, .blk B1 (.cells #[.int .u64 0] 25))] (by simp [e1901, e1900]))⟩

theorem trG_no {w₀ : World} {L : Heap} (g : Nat) (cap : Array Value) {ι : Type} (p : ι → Prop) (er : ι → Int) (N : ι → Heap) (hE : Enters Try.prog g) (h1901 : lk L 1901 = none) (h1900 : lk L 1900 = none) (hN1901 : ∀ x, lk (N x) 1901 = none) (hN1900 : ∀ x, lk (N x) 1900 = none) (H : ∀ A B w, MemOk w₀ ((1901, .blk B (.cells #[.int .i64 0] 28)) :: (1900, .blk A (.cells #[.int .u64 0] 25)) :: L) w → Calls Try.prog g cap w (PAns w₀ p (fun x => .iface 28 (.int .i64 (er x))) (fun x => N x ++ ((1901, .blk B (.cells #[.int .i64 0] 28)) :: (1900, .blk A (.cells #[.int .u64 0] 25)) :: L)))) : ∀ w, MemOk w₀ L w → Calls Try.prog 128 #[.func (.func g) #[] cap] w (HAns w₀ p (fun x => .tuple #[.int .u64 0, .int .i64 (er x)]) (fun x => N x ++ L)) := by
  refine ht_of_TD (l := [.func (.func g) #[] cap]) (L := L) 7 Try.func128 rfl rfl rfl ?_
  show T _ _ _ [(0, .func (.func g) #[] cap)] L
  refine T_seq (T_region ?_)
  refine TL_new 1900 (.cells #[.int .u64 0] 25) (fun B => .pointer (some ⟨B, 0, none⟩)) (fun _ _ _ _ => r_alloc (v := .int .u64 0) (by kernel_rfl) rfl) rfl rfl rfl (w_n rfl) ?_
  intro B1
  refine TL_new 1901 (.cells #[.int .i64 0] 28) (fun B => .pointer (some ⟨B, 0, none⟩)) (fun _ _ _ _ => r_alloc (v := .int .i64 0) (by kernel_rfl) rfl) rfl rfl rfl (w_n rfl) ?_
  intro B2
  refine TL_seq ?_
  refine T_seq (T_region ?_)
  refine TL_q (.func (.func 140) #[] #[.pointer (some ⟨B1, 0, none⟩), .pointer (some ⟨B2, 0, none⟩)]) (fun _ _ hρ _ => r_makeFunc (by simp) (map_arr (cons2 (hρ _ _ rfl) (cons2 (hρ _ _ rfl) rfl)))) rfl rfl rfl (w_n rfl) ?_
  refine TL_defer ({ target := .fn (.func 140) #[.pointer (some ⟨B1, 0, none⟩), .pointer (some ⟨B2, 0, none⟩)], args := #[] }) rfl (fun _ _ hρ _ => r_defer (args := []) (hρ _ _ rfl) (by rfl) rfl) rfl (w_n rfl) ?_
  refine TL_seq ?_
  refine T_seq (T_region ?_)
  refine TL_q (.func (.func g) #[] cap) (fun _ _ hρ _ => r_move (hρ _ _ rfl)) rfl rfl rfl (w_n rfl) ?_
  refine TL_callP _ _ _ (fun _ _ hρ _ => r_call (args := []) hE (hρ _ _ rfl) (by rfl) (by simp)) (fun w hm => H B1 B2 w hm) rfl (w_n rfl) ?_
  intro x hx
  refine p_mem ([(1901, .blk B2 (.cells #[.int .i64 0] 28)), (1900, .blk B1 (.cells #[.int .u64 0] 25))] ++ (N x ++ L)) (fun _ hm => hm.of (lk_front (L := L) [(1901, .blk B2 (.cells #[.int .i64 0] 28)), (1900, .blk B1 (.cells #[.int .u64 0] 25))] (by simp [hN1901, hN1900]))) ?_
  refine p_then_p ?_
  refine p_panD [{ target := .fn (.func 140) #[.pointer (some ⟨B1, 0, none⟩), .pointer (some ⟨B2, 0, none⟩)], args := #[] }] rfl (fun tmps hk => ?_)
  refine leavesP_cons (L' := [(1901, .blk B2 (.cells #[.int .i64 (er x)] 28)), (1900, .blk B1 (.cells #[.int .u64 0] 25))] ++ (N x ++ L)) (enters_of Try.func140 (by kernel_rfl) rfl) (fun w hm => ((trG_rec _ ([(1901, .blk B2 (.cells #[.int .i64 0] 28)), (1900, .blk B1 (.cells #[.int .u64 0] 25))] ++ (N x ++ L)) B1 B2 _ rfl rfl w hm).mono fun e u' w' h => ⟨h.1, h.2.1, h.2.2.of (lk_mid (L := N x ++ L) [(1901, .blk B2 (.cells #[.int .i64 (er x)] 28)), (1900, .blk B1 (.cells #[.int .u64 0] 25))] [(1901, .blk B2 (.cells #[.int .i64 0] 28)), (1900, .blk B1 (.cells #[.int .u64 0] 25))] rfl)⟩)) ?_
  refine leavesH_nil (.tuple #[.int .u64 0, .int .i64 (er x)]) (fun _ hm => res2 rfl (res_cell (hk 2 _ rfl) (run_loadVar_one ag25 (hm.at 1900 rfl) rfl)) (res_cell (hk 3 _ rfl) (run_loadVar_one ag28 (hm.at 1901 rfl) rfl))) (fun w hm => ?_)
  have e1901 := lk_app_none (hN1901 x) h1901
  have e1900 := lk_app_none (hN1900 x) h1900
  exact ⟨x, hx, rfl, hm.of (lk_drop (L := N x ++ L) [(1901, .blk B2 (.cells #[.int .i64 (er x)] 28)), (1900, .blk B1 (.cells #[.int .u64 0] 25))] (by simp [e1901, e1900]))⟩

theorem trGW_ok (g : Nat) (cap : Array Value) {ι : Type} (p : ι → Prop) (vi0 : ι → Int) (N : ι → Heap) (w : World) (hE : Enters Try.prog g) (hN1901 : ∀ x, lk (N x) 1901 = none) (hN1900 : ∀ x, lk (N x) 1900 = none) (H : ∀ w2, Below w.heap.size w w2 → Calls Try.prog g cap w2 (Ans p (fun x => .int .u64 (vi0 x)) N w2)) : Calls Try.prog 128 #[.func (.func g) #[] cap] w (Ans p (fun x => .tuple #[.int .u64 (vi0 x), .int .i64 0]) N w) := by
  refine (trG_ok (L := []) (w₀ := w) g cap p vi0 N hE rfl rfl hN1901 hN1900 (fun A B w2 hm => (H w2 hm.ext).mono ?_) w (MemOk.nil w)).mono ?_
  · rintro e w' ⟨x, hx, he, hb, hn⟩
    exact ⟨x, hx, he, hm.news hb hn⟩
  · rintro e w' ⟨x, hx, he, hm⟩
    simp only [List.append_nil] at hm
    exact ⟨x, hx, he, hm.ext, ⟨fun i r h => hm.own i r h, fun i j r s h1 h2 => hm.sep i j r s h1 h2⟩⟩
theorem trGW_no (g : Nat) (cap : Array Value) (x : Int) (w : World) (hE : Enters Try.prog g) (H : ∀ w2, Below w.heap.size w w2 → Calls Try.prog g cap w2 fun e w' => e = .panicked [{ v := .iface 28 (.int .i64 x), recovered := false }] ∧ Below w2.heap.size w2 w') : Calls Try.prog 128 #[.func (.func g) #[] cap] w fun e w' => e = .returned (.tuple #[.int .u64 0, .int .i64 x]) ∧ Below w.heap.size w w' :=
  (trG_no (ι := Unit) (L := []) (w₀ := w) g cap (fun _ => True) (fun _ => x) (fun _ => []) hE rfl rfl (fun _ => rfl) (fun _ => rfl) (fun A B w2 hm => (H w2 hm.ext).mono fun e w' h => ⟨(), trivial, h.1, hm.below h.2⟩) w (MemOk.nil w)).mono fun e w' ⟨_, _, he, hm⟩ => ⟨he, hm.ext⟩

theorem get_ok (l : List By) (a : Option Addr) (cap : Nat) (w : World) (hv : SliceAt w a cap 1 byc l) (hcap : cap ≤ Go.maxLen) (h4 : 4 ≤ l.length) : Calls Try.prog 117 #[.slice a l.length cap, .int .i64 0, .int .i64 4] w fun e w' => e = .returned (.tuple #[.int .u64 ((numP l : Nat) : Int), .int .i64 0]) ∧ Below w.heap.size w w' := by
  have hvl := hv.1
  have hcp := hcap
  unfold Go.maxLen at hcp
  refine calls_of_T (l := [.slice a l.length cap, .int .i64 0, .int .i64 4]) 12 Try.func117 rfl rfl rfl ?_
  show T _ _ _ [(0, .slice a l.length cap), (1, .int .i64 0), (2, .int .i64 4)] []
  refine T_seq (T_region ?_)
  refine TL_new 1 (.cells #[.slice a l.length cap] 34) (fun B => .pointer (some ⟨B, 0, none⟩)) (fun _ _ hρ _ => r_box (hρ _ _ rfl) rfl) rfl rfl rfl (w_n rfl) ?_
  intro B1
  refine TL_new 2 (.cells #[.int .i64 0] 3) (fun B => .pointer (some ⟨B, 0, none⟩)) (fun _ _ hρ _ => r_box (hρ _ _ rfl) rfl) rfl rfl rfl (w_n rfl) ?_
  intro B2
  refine TL_new 3 (.cells #[.int .i64 4] 3) (fun B => .pointer (some ⟨B, 0, none⟩)) (fun _ _ hρ _ => r_box (hρ _ _ rfl) rfl) rfl rfl rfl (w_n rfl) ?_
  intro B3
  refine TL_q (.int .u64 0) (fun _ _ hρ _ => r_assign (hρ _ _ rfl)) rfl rfl rfl (w_n rfl) ?_
  refine TL_q (.int .i64 0) (fun _ _ hρ _ => r_assign (hρ _ _ rfl)) rfl rfl rfl (w_n rfl) ?_
  refine TL_seq ?_
  refine T_seq (T_region ?_)
  refine TL_q (.func (.func 129) #[] #[.pointer (some ⟨B3, 0, none⟩), .pointer (some ⟨B2, 0, none⟩), .pointer (some ⟨B1, 0, none⟩)]) (fun _ _ hρ _ => r_makeFunc (by simp) (map_arr (cons2 (hρ _ _ rfl) (cons2 (hρ _ _ rfl) (cons2 (hρ _ _ rfl) rfl))))) rfl rfl rfl (w_n rfl) ?_
  refine TL_call (.tuple #[.int .u64 ((numP l : Nat) : Int), .int .i64 0]) (fun _ _ hρ _ => r_call (args := [.func (.func 129) #[] #[.pointer (some ⟨B3, 0, none⟩), .pointer (some ⟨B2, 0, none⟩), .pointer (some ⟨B1, 0, none⟩)]]) (enters_of Try.func128 (by kernel_rfl) rfl) (hρ _ _ rfl) ((cons2 (hρ _ _ rfl) rfl)) rfl) (fun w hm => (trGW_ok 129 #[.pointer (some ⟨B3, 0, none⟩), .pointer (some ⟨B2, 0, none⟩), .pointer (some ⟨B1, 0, none⟩)] (fun _ : Unit => True) (fun _ => ((numP l : Nat) : Int)) (fun _ => []) w (enters_of Try.func129 (by kernel_rfl) rfl) (fun _ => rfl) (fun _ => rfl) (fun w2 hb2 => ans0 (get1_ok B3 B2 B1 l a cap w2 (hv.keep (hm.ext.trans (hb2.mono hm.ext.size))) hcap (kept hb2 (hm.at 3 rfl)) (kept hb2 (hm.at 2 rfl)) (kept hb2 (hm.at 1 rfl)) h4))).mono fun e w' ⟨_, _, he, hb, _⟩ => ⟨he, hb⟩) rfl rfl rfl (w_n rfl) ?_
  refine TL_q (.int .u64 ((numP l : Nat) : Int)) (fun _ _ hρ _ => r_extract (hρ _ _ rfl) rfl) rfl rfl rfl (w_n rfl) ?_
  refine TL_q (.int .i64 0) (fun _ _ hρ _ => r_extract (hρ _ _ rfl) rfl) rfl rfl rfl (w_n rfl) ?_
  refine TL_q (.int .u64 ((numP l : Nat) : Int)) (fun _ _ hρ _ => r_assign (hρ _ _ rfl)) rfl rfl rfl (w_n rfl) ?_
  refine TL_q (.int .i64 0) (fun _ _ hρ _ => r_assign (hρ _ _ rfl)) rfl rfl rfl (w_n rfl) ?_
  refine TL_seq ?_
  refine T_ret' ?_
  refine ret_of rfl (.tuple #[.int .u64 ((numP l : Nat) : Int), .int .i64 0]) (fun tmps w hk hm => res2 rfl (res_tmp (hk 6 _ rfl)) (res_tmp (hk 7 _ rfl))) (fun w hm => ?_)
  exact ⟨rfl, hm.ext⟩

theorem get_no (l : List By) (a : Option Addr) (cap : Nat) (w : World) (hv : SliceAt w a cap 1 byc l) (hcap : cap ≤ Go.maxLen) (h4 : ¬ 4 ≤ l.length) : Calls Try.prog 117 #[.slice a l.length cap, .int .i64 0, .int .i64 4] w fun e w' => e = .returned (.tuple #[.int .u64 0, .int .i64 110]) ∧ Below w.heap.size w w' := by
  have hvl := hv.1
  have hcp := hcap
  unfold Go.maxLen at hcp
  refine calls_of_T (l := [.slice a l.length cap, .int .i64 0, .int .i64 4]) 12 Try.func117 rfl rfl rfl ?_
  show T _ _ _ [(0, .slice a l.length cap), (1, .int .i64 0), (2, .int .i64 4)] []
  refine T_seq (T_region ?_)
  refine TL_new 1 (.cells #[.slice a l.length cap] 34) (fun B => .pointer (some ⟨B, 0, none⟩)) (fun _ _ hρ _ => r_box (hρ _ _ rfl) rfl) rfl rfl rfl (w_n rfl) ?_
  intro B1
  refine TL_new 2 (.cells #[.int .i64 0] 3) (fun B => .pointer (some ⟨B, 0, none⟩)) (fun _ _ hρ _ => r_box (hρ _ _ rfl) rfl) rfl rfl rfl (w_n rfl) ?_
  intro B2
  refine TL_new 3 (.cells #[.int .i64 4] 3) (fun B => .pointer (some ⟨B, 0, none⟩)) (fun _ _ hρ _ => r_box (hρ _ _ rfl) rfl) rfl rfl rfl (w_n rfl) ?_
  intro B3
  refine TL_q (.int .u64 0) (fun _ _ hρ _ => r_assign (hρ _ _ rfl)) rfl rfl rfl (w_n rfl) ?_
  refine TL_q (.int .i64 0) (fun _ _ hρ _ => r_assign (hρ _ _ rfl)) rfl rfl rfl (w_n rfl) ?_
  refine TL_seq ?_
  refine T_seq (T_region ?_)
  refine TL_q (.func (.func 129) #[] #[.pointer (some ⟨B3, 0, none⟩), .pointer (some ⟨B2, 0, none⟩), .pointer (some ⟨B1, 0, none⟩)]) (fun _ _ hρ _ => r_makeFunc (by simp) (map_arr (cons2 (hρ _ _ rfl) (cons2 (hρ _ _ rfl) (cons2 (hρ _ _ rfl) rfl))))) rfl rfl rfl (w_n rfl) ?_
  refine TL_call (.tuple #[.int .u64 0, .int .i64 110]) (fun _ _ hρ _ => r_call (args := [.func (.func 129) #[] #[.pointer (some ⟨B3, 0, none⟩), .pointer (some ⟨B2, 0, none⟩), .pointer (some ⟨B1, 0, none⟩)]]) (enters_of Try.func128 (by kernel_rfl) rfl) (hρ _ _ rfl) ((cons2 (hρ _ _ rfl) rfl)) rfl) (fun w hm => trGW_no 129 #[.pointer (some ⟨B3, 0, none⟩), .pointer (some ⟨B2, 0, none⟩), .pointer (some ⟨B1, 0, none⟩)] 110 w (enters_of Try.func129 (by kernel_rfl) rfl) (fun w2 hb2 => get1_no B3 B2 B1 l a cap w2 (hv.keep (hm.ext.trans (hb2.mono hm.ext.size))) hcap (kept hb2 (hm.at 3 rfl)) (kept hb2 (hm.at 2 rfl)) (kept hb2 (hm.at 1 rfl)) h4)) rfl rfl rfl (w_n rfl) ?_
  refine TL_q (.int .u64 0) (fun _ _ hρ _ => r_extract (hρ _ _ rfl) rfl) rfl rfl rfl (w_n rfl) ?_
  refine TL_q (.int .i64 110) (fun _ _ hρ _ => r_extract (hρ _ _ rfl) rfl) rfl rfl rfl (w_n rfl) ?_
  refine TL_q (.int .u64 0) (fun _ _ hρ _ => r_assign (hρ _ _ rfl)) rfl rfl rfl (w_n rfl) ?_
  refine TL_q (.int .i64 110) (fun _ _ hρ _ => r_assign (hρ _ _ rfl)) rfl rfl rfl (w_n rfl) ?_
  refine TL_seq ?_
  refine T_ret' ?_
  refine ret_of rfl (.tuple #[.int .u64 0, .int .i64 110]) (fun tmps w hk hm => res2 rfl (res_tmp (hk 6 _ rfl)) (res_tmp (hk 7 _ rfl))) (fun w hm => ?_)
  exact ⟨rfl, hm.ext⟩

/-- The eight bytes of a number. -/
theorem shr_byte (n i : Nat) : ((BitVec.ofNat 64 n >>> (8 * i)).setWidth 8 : By) = BitVec.ofNat 8 (n % 18446744073709551616 / 2 ^ (8 * i)) := by
  apply BitVec.eq_of_toNat_eq
  rw [BitVec.toNat_setWidth, BitVec.toNat_ushiftRight, BitVec.toNat_ofNat, BitVec.toNat_ofNat, Nat.shiftRight_eq_div_pow]
theorem shr_small {n : Nat} (h : n ≤ 65536) : BitVec.ofNat 64 n >>> 32 = 0#64 := by
  apply BitVec.eq_of_toNat_eq
  rw [BitVec.toNat_ushiftRight, BitVec.toNat_ofNat, Nat.mod_eq_of_lt (by omega), Nat.shiftRight_eq_div_pow]
  show n / 4294967296 = 0
  omega
abbrev hi4 (n : Nat) : List By := [(BitVec.ofNat 64 n >>> 56).setWidth 8, (BitVec.ofNat 64 n >>> 48).setWidth 8, (BitVec.ofNat 64 n >>> 40).setWidth 8, (BitVec.ofNat 64 n >>> 32).setWidth 8]
theorem laid_at {w : World} {z n : Nat} {T : TypeId} {fz : Nat × Nat} (h : hp w z = some (.cells ((hi4 n ++ lenB n).flatMap byc).toArray T fz)) : SliceAt w (some ⟨z, 4, none⟩) 4 1 byc (lenB n) :=
  ⟨Nat.le_refl _, (fun e => by cases e), .inr ⟨z, 4, _, _, _, rfl, h, (row_of_take (s := 1) (f := byc) (l := hi4 n ++ lenB n) (fun _ => rfl) rfl).sub 4 4⟩⟩
theorem lenB_w {n : Nat} (h : n ≤ 65536) : lenB n = [(BitVec.ofNat 64 n >>> 24).setWidth 8, (BitVec.ofNat 64 n >>> 16).setWidth 8, (BitVec.ofNat 64 n >>> 8).setWidth 8, (BitVec.ofNat 64 n >>> 0).setWidth 8] := by
  have e : n % 18446744073709551616 = n := Nat.mod_eq_of_lt (by omega)
  have h3 := shr_byte n 3
  have h2 := shr_byte n 2
  have h1 := shr_byte n 1
  have h0 := shr_byte n 0
  rw [e] at h3 h2 h1 h0
  unfold lenB
  rw [h3, h2, h1, h0]
  simp

set_option maxHeartbeats 1000000 in
theorem laid_c (n : Nat) (hn : n ≤ 65536) (w : World) : Calls Try.prog 125 #[.int .i64 4, .int .u64 ((BitVec.ofNat 64 n).toNat : Int)] w fun e w' => ∃ z, e = .returned (.slice (some ⟨z, 4, none⟩) 4 4) ∧ Below w.heap.size w w' ∧ (Res.blk z (.cells ((hi4 n ++ lenB n : List By).flatMap byc).toArray 175)).ok w.heap.size w' := by
  refine calls_of_T (l := [.int .i64 4, .int .u64 ((BitVec.ofNat 64 n).toNat : Int)]) 35 Try.func125 rfl rfl rfl ?_
  show T _ _ _ [(0, .int .i64 4), (1, .int .u64 ((BitVec.ofNat 64 n).toNat : Int))] []
  refine T_seq (T_region ?_)
  refine TL_q (.slice none 0 0) (fun _ _ hρ _ => r_assign (hρ _ _ rfl)) rfl rfl rfl (w_n rfl) ?_
  refine TL_seq ?_
  refine T_seq (T_region ?_)
  refine TL_q (.int .i64 4) (fun _ _ hρ _ => r_move (hρ _ _ rfl)) rfl rfl rfl (w_n rfl) ?_
  refine TL_call (.bool true) (fun _ _ hρ _ => r_call (args := [.int .i64 4]) (enters_of Try.func131 (by kernel_rfl) rfl) (hρ _ _ rfl) ((cons2 (hρ _ _ rfl) rfl)) rfl) (fun w _ => octis_c w) rfl rfl rfl (w_n rfl) ?_
  refine TL_call (.tuple #[]) (fun _ _ hρ _ => r_call (args := [.bool true, .int .i64 111]) (enters_of Try.func130 (by kernel_rfl) rfl) (hρ _ _ rfl) ((cons2 (hρ _ _ rfl) (cons2 (hρ _ _ rfl) rfl))) rfl) (fun w _ => need_ok_oct 111 w) rfl rfl rfl (w_n rfl) ?_
  refine TL_seq ?_
  refine T_seq (T_region ?_)
  refine TL_q (.int .i64 4) (fun _ _ hρ _ => r_move (hρ _ _ rfl)) rfl rfl rfl (w_n rfl) ?_
  refine TL_q (.bool false) (fun _ _ hρ _ => r_as (r_eql (hρ _ _ rfl) (hρ _ _ rfl)) (by rfl)) rfl rfl rfl (w_n rfl) ?_
  refine TL_q (.bool false) (fun _ _ hρ _ => r_move (hρ _ _ rfl)) rfl rfl rfl (w_n rfl) ?_
  refine TL_q (.int .u64 ((BitVec.ofNat 64 n).toNat : Int)) (fun _ _ hρ _ => r_move (hρ _ _ rfl)) rfl rfl rfl (want_y 12 rfl rfl rfl) ?_
  refine TL_q (.int .i64 4) (fun _ _ hρ _ => r_move (hρ _ _ rfl)) rfl rfl rfl (want_y 12 rfl rfl rfl) ?_
  refine TL_q (.int .i64 32) (fun _ _ hρ _ => r_as (r_mul (hρ _ _ rfl) (hρ _ _ rfl)) (by rfl)) rfl rfl rfl (want_y 12 rfl rfl rfl) ?_
  refine TL_q (.int .u64 (((BitVec.ofNat 64 n) >>> 32).toNat : Int)) (fun _ _ hρ _ => r_shrB (k := .u64) (a := (BitVec.ofNat 64 n)) (n := 32) (by decide) (hρ _ _ rfl) (hρ _ _ rfl)) rfl rfl rfl (want_y 12 rfl rfl rfl) ?_
  refine TL_q (.bool true) (fun _ _ hρ _ => r_as (r_as (r_eql (hρ _ _ rfl) (hρ _ _ rfl)) (bool_as (bv_dec ((BitVec.ofNat 64 n) >>> 32) (0#64)))) (bool_as (decide_eq_true (shr_small hn)))) rfl rfl rfl (want_y 12 rfl rfl rfl) ?_
  refine TL_q (.bool true) (fun _ _ hρ _ => r_pick_f (hρ _ _ rfl) (hρ _ _ rfl)) rfl rfl rfl (w_n rfl) ?_
  refine TL_call (.tuple #[]) (fun _ _ hρ _ => r_call (args := [.bool true, .int .i64 112]) (enters_of Try.func130 (by kernel_rfl) rfl) (hρ _ _ rfl) ((cons2 (hρ _ _ rfl) (cons2 (hρ _ _ rfl) rfl))) rfl) (fun w _ => need_ok_oct 112 w) rfl rfl rfl (w_n rfl) ?_
  refine TL_seq ?_
  refine T_seq (T_region ?_)
  refine TL_new 1 (.cells #[.int .u8 0, .int .u8 0, .int .u8 0, .int .u8 0, .int .u8 0, .int .u8 0, .int .u8 0, .int .u8 0] 175) (fun B => .pointer (some ⟨B, 0, none⟩)) (fun _ _ _ _ => r_alloc (v := .agg #[.int .u8 0, .int .u8 0, .int .u8 0, .int .u8 0, .int .u8 0, .int .u8 0, .int .u8 0, .int .u8 0]) (by kernel_rfl) rfl) rfl rfl rfl (w_n rfl) ?_
  intro B1
  refine TL_seq ?_
  refine T_seq ?_
  refine T_seq (T_region ?_)
  refine TL_q (.int .i64 0) (fun _ _ hρ _ => r_move (hρ _ _ rfl)) rfl rfl rfl (w_n rfl) ?_
  refine TL_seq ?_
  refine T_block ?_
  refine T_rounds 9 ?_
  refine TR_succ ?_
  refine T_seq (T_region ?_)
  refine TL_q (.bool true) (fun _ _ hρ _ => r_as (r_lss (hρ _ _ rfl) (hρ _ _ rfl)) (by rfl)) rfl rfl rfl (w_n rfl) ?_
  refine TL_seq ?_
  refine T_seq ?_
  refine T_cond_t rfl ?_
  refine T_skip' ?_
  refine p_seq ?_
  refine T_seq ?_
  refine T_block ?_
  refine T_seq (T_region ?_)
  refine TL_q (.int .i64 0) (fun _ _ hρ _ => r_move (hρ _ _ rfl)) rfl rfl rfl (w_n rfl) ?_
  refine TL_q (.int .i64 0) (fun _ _ hρ _ => r_assign (hρ _ _ rfl)) rfl rfl rfl (w_n rfl) ?_
  refine TL_seq ?_
  refine T_region ?_
  refine TL_q (.int .i64 0) (fun _ _ hρ _ => r_move (hρ _ _ rfl)) rfl rfl rfl (w_n rfl) ?_
  refine TL_q (.int .i64 7) (fun _ _ hρ _ => r_as (r_sub (hρ _ _ rfl) (hρ _ _ rfl)) (by rfl)) rfl rfl rfl (w_n rfl) ?_
  refine TL_q (.int .u64 ((BitVec.ofNat 64 n).toNat : Int)) (fun _ _ hρ _ => r_move (hρ _ _ rfl)) rfl rfl rfl (w_n rfl) ?_
  refine TL_q (.int .i64 0) (fun _ _ hρ _ => r_move (hρ _ _ rfl)) rfl rfl rfl (w_n rfl) ?_
  refine TL_q (.int .i64 0) (fun _ _ hρ _ => r_as (r_mul (hρ _ _ rfl) (hρ _ _ rfl)) (by rfl)) rfl rfl rfl (w_n rfl) ?_
  refine TL_q (.int .u64 (((BitVec.ofNat 64 n) >>> 0).toNat : Int)) (fun _ _ hρ _ => r_shrB (k := .u64) (a := (BitVec.ofNat 64 n)) (n := 0) (by decide) (hρ _ _ rfl) (hρ _ _ rfl)) rfl rfl rfl (w_n rfl) ?_
  refine TL_q (.int .u8 ((((BitVec.ofNat 64 n) >>> 0).setWidth 8).toNat : Int)) (fun _ _ hρ _ => r_convB (k := .u64) (k' := .u8) (a := ((BitVec.ofNat 64 n) >>> 0)) un25 io5 rfl (hρ _ _ rfl)) rfl rfl rfl (w_n rfl) ?_
  refine TL_q (.pointer (some ⟨B1, 7, none⟩)) (fun _ _ hρ _ => r_indexAddrA (i := 7) ar175 sz5 (hρ _ _ rfl) (hρ _ _ rfl) (by decide)) rfl rfl rfl (w_n rfl) ?_
  refine TL_store 1 (.cells #[.int .u8 0, .int .u8 0, .int .u8 0, .int .u8 0, .int .u8 0, .int .u8 0, .int .u8 0, .int .u8 ((((BitVec.ofNat 64 n) >>> 0).setWidth 8).toNat : Int)] 175) rfl (fun _ _ hρ hm => r_store sz5 (hρ _ _ rfl) (hρ _ _ rfl) (hm.at 1 rfl) rfl rfl rfl rfl) rfl rfl (w_n rfl) ?_
  refine TL_nil ?_
  refine p_blk_n ?_
  refine p_seq ?_
  refine T_region ?_
  refine TL_q (.int .i64 1) (fun _ _ hρ _ => r_as (r_add (hρ _ _ rfl) (hρ _ _ rfl)) (by rfl)) rfl rfl rfl (w_n rfl) ?_
  refine TL_q (.int .i64 1) (fun _ _ hρ _ => r_move (hρ _ _ rfl)) rfl rfl rfl (w_n rfl) ?_
  refine TL_nil ?_
  refine p_round ?_
  refine TR_succ ?_
  refine T_seq (T_region ?_)
  refine TL_q (.bool true) (fun _ _ hρ _ => r_as (r_lss (hρ _ _ rfl) (hρ _ _ rfl)) (by rfl)) rfl rfl rfl (w_n rfl) ?_
  refine TL_seq ?_
  refine T_sub [(0, .int .i64 4), (1, .int .u64 ((BitVec.ofNat 64 n).toNat : Int)), (4, .slice none 0 0), (5, .pointer (some ⟨B1, 0, none⟩)), (22, .int .i64 0), (6, .int .i64 0), (23, .int .i64 0), (24, .int .i64 7), (25, .int .u64 ((BitVec.ofNat 64 n).toNat : Int)), (26, .int .i64 0), (27, .int .i64 0), (28, .int .u64 (((BitVec.ofNat 64 n) >>> 0).toNat : Int)), (29, .int .u8 ((((BitVec.ofNat 64 n) >>> 0).setWidth 8).toNat : Int)), (30, .pointer (some ⟨B1, 7, none⟩)), (31, .int .i64 1), (20, .int .i64 1), (21, .bool true)] [(1, .blk B1 (.cells #[.int .u8 0, .int .u8 0, .int .u8 0, .int .u8 0, .int .u8 0, .int .u8 0, .int .u8 0, .int .u8 ((((BitVec.ofNat 64 n) >>> 0).setWidth 8).toNat : Int)] 175))] (sub_cons rfl (sub_cons rfl (sub_cons rfl (sub_cons rfl (sub_cons rfl (sub_cons rfl (sub_cons rfl (sub_cons rfl (sub_cons rfl (sub_cons rfl (sub_cons rfl (sub_cons rfl (sub_cons rfl (sub_cons rfl (sub_cons rfl (sub_cons rfl (sub_cons rfl sub_nil))))))))))))))))) (sub_cons rfl sub_nil) ?_
  refine T_seq ?_
  refine T_cond_t rfl ?_
  refine T_skip' ?_
  refine p_seq ?_
  refine T_seq ?_
  refine T_block ?_
  refine T_seq (T_region ?_)
  refine TL_q (.int .i64 1) (fun _ _ hρ _ => r_move (hρ _ _ rfl)) rfl rfl rfl (w_n rfl) ?_
  refine TL_q (.int .i64 1) (fun _ _ hρ _ => r_assign (hρ _ _ rfl)) rfl rfl rfl (w_n rfl) ?_
  refine TL_seq ?_
  refine T_region ?_
  refine TL_q (.int .i64 1) (fun _ _ hρ _ => r_move (hρ _ _ rfl)) rfl rfl rfl (w_n rfl) ?_
  refine TL_q (.int .i64 6) (fun _ _ hρ _ => r_as (r_sub (hρ _ _ rfl) (hρ _ _ rfl)) (by rfl)) rfl rfl rfl (w_n rfl) ?_
  refine TL_q (.int .u64 ((BitVec.ofNat 64 n).toNat : Int)) (fun _ _ hρ _ => r_move (hρ _ _ rfl)) rfl rfl rfl (w_n rfl) ?_
  refine TL_q (.int .i64 1) (fun _ _ hρ _ => r_move (hρ _ _ rfl)) rfl rfl rfl (w_n rfl) ?_
  refine TL_q (.int .i64 8) (fun _ _ hρ _ => r_as (r_mul (hρ _ _ rfl) (hρ _ _ rfl)) (by rfl)) rfl rfl rfl (w_n rfl) ?_
  refine TL_q (.int .u64 (((BitVec.ofNat 64 n) >>> 8).toNat : Int)) (fun _ _ hρ _ => r_shrB (k := .u64) (a := (BitVec.ofNat 64 n)) (n := 8) (by decide) (hρ _ _ rfl) (hρ _ _ rfl)) rfl rfl rfl (w_n rfl) ?_
  refine TL_q (.int .u8 ((((BitVec.ofNat 64 n) >>> 8).setWidth 8).toNat : Int)) (fun _ _ hρ _ => r_convB (k := .u64) (k' := .u8) (a := ((BitVec.ofNat 64 n) >>> 8)) un25 io5 rfl (hρ _ _ rfl)) rfl rfl rfl (w_n rfl) ?_
  refine TL_q (.pointer (some ⟨B1, 6, none⟩)) (fun _ _ hρ _ => r_indexAddrA (i := 6) ar175 sz5 (hρ _ _ rfl) (hρ _ _ rfl) (by decide)) rfl rfl rfl (w_n rfl) ?_
  refine TL_store 1 (.cells #[.int .u8 0, .int .u8 0, .int .u8 0, .int .u8 0, .int .u8 0, .int .u8 0, .int .u8 ((((BitVec.ofNat 64 n) >>> 8).setWidth 8).toNat : Int), .int .u8 ((((BitVec.ofNat 64 n) >>> 0).setWidth 8).toNat : Int)] 175) rfl (fun _ _ hρ hm => r_store sz5 (hρ _ _ rfl) (hρ _ _ rfl) (hm.at 1 rfl) rfl rfl rfl rfl) rfl rfl (w_n rfl) ?_
  refine TL_nil ?_
  refine p_blk_n ?_
  refine p_seq ?_
  refine T_region ?_
  refine TL_q (.int .i64 2) (fun _ _ hρ _ => r_as (r_add (hρ _ _ rfl) (hρ _ _ rfl)) (by rfl)) rfl rfl rfl (w_n rfl) ?_
  refine TL_q (.int .i64 2) (fun _ _ hρ _ => r_move (hρ _ _ rfl)) rfl rfl rfl (w_n rfl) ?_
  refine TL_nil ?_
  refine p_round ?_
  refine TR_succ ?_
  refine T_seq (T_region ?_)
  refine TL_q (.bool true) (fun _ _ hρ _ => r_as (r_lss (hρ _ _ rfl) (hρ _ _ rfl)) (by rfl)) rfl rfl rfl (w_n rfl) ?_
  refine TL_seq ?_
  refine T_seq ?_
  refine T_cond_t rfl ?_
  refine T_skip' ?_
  refine p_seq ?_
  refine T_seq ?_
  refine T_block ?_
  refine T_seq (T_region ?_)
  refine TL_q (.int .i64 2) (fun _ _ hρ _ => r_move (hρ _ _ rfl)) rfl rfl rfl (w_n rfl) ?_
  refine TL_q (.int .i64 2) (fun _ _ hρ _ => r_assign (hρ _ _ rfl)) rfl rfl rfl (w_n rfl) ?_
  refine TL_seq ?_
  refine T_region ?_
  refine TL_q (.int .i64 2) (fun _ _ hρ _ => r_move (hρ _ _ rfl)) rfl rfl rfl (w_n rfl) ?_
  refine TL_q (.int .i64 5) (fun _ _ hρ _ => r_as (r_sub (hρ _ _ rfl) (hρ _ _ rfl)) (by rfl)) rfl rfl rfl (w_n rfl) ?_
  refine TL_q (.int .u64 ((BitVec.ofNat 64 n).toNat : Int)) (fun _ _ hρ _ => r_move (hρ _ _ rfl)) rfl rfl rfl (w_n rfl) ?_
  refine TL_q (.int .i64 2) (fun _ _ hρ _ => r_move (hρ _ _ rfl)) rfl rfl rfl (w_n rfl) ?_
  refine TL_q (.int .i64 16) (fun _ _ hρ _ => r_as (r_mul (hρ _ _ rfl) (hρ _ _ rfl)) (by rfl)) rfl rfl rfl (w_n rfl) ?_
  refine TL_q (.int .u64 (((BitVec.ofNat 64 n) >>> 16).toNat : Int)) (fun _ _ hρ _ => r_shrB (k := .u64) (a := (BitVec.ofNat 64 n)) (n := 16) (by decide) (hρ _ _ rfl) (hρ _ _ rfl)) rfl rfl rfl (w_n rfl) ?_
  refine TL_q (.int .u8 ((((BitVec.ofNat 64 n) >>> 16).setWidth 8).toNat : Int)) (fun _ _ hρ _ => r_convB (k := .u64) (k' := .u8) (a := ((BitVec.ofNat 64 n) >>> 16)) un25 io5 rfl (hρ _ _ rfl)) rfl rfl rfl (w_n rfl) ?_
  refine TL_q (.pointer (some ⟨B1, 5, none⟩)) (fun _ _ hρ _ => r_indexAddrA (i := 5) ar175 sz5 (hρ _ _ rfl) (hρ _ _ rfl) (by decide)) rfl rfl rfl (w_n rfl) ?_
  refine TL_store 1 (.cells #[.int .u8 0, .int .u8 0, .int .u8 0, .int .u8 0, .int .u8 0, .int .u8 ((((BitVec.ofNat 64 n) >>> 16).setWidth 8).toNat : Int), .int .u8 ((((BitVec.ofNat 64 n) >>> 8).setWidth 8).toNat : Int), .int .u8 ((((BitVec.ofNat 64 n) >>> 0).setWidth 8).toNat : Int)] 175) rfl (fun _ _ hρ hm => r_store sz5 (hρ _ _ rfl) (hρ _ _ rfl) (hm.at 1 rfl) rfl rfl rfl rfl) rfl rfl (w_n rfl) ?_
  refine TL_nil ?_
  refine p_blk_n ?_
  refine p_seq ?_
  refine T_region ?_
  refine TL_q (.int .i64 3) (fun _ _ hρ _ => r_as (r_add (hρ _ _ rfl) (hρ _ _ rfl)) (by rfl)) rfl rfl rfl (w_n rfl) ?_
  refine TL_q (.int .i64 3) (fun _ _ hρ _ => r_move (hρ _ _ rfl)) rfl rfl rfl (w_n rfl) ?_
  refine TL_nil ?_
  refine p_round ?_
  refine TR_succ ?_
  refine T_seq (T_region ?_)
  refine TL_q (.bool true) (fun _ _ hρ _ => r_as (r_lss (hρ _ _ rfl) (hρ _ _ rfl)) (by rfl)) rfl rfl rfl (w_n rfl) ?_
  refine TL_seq ?_
  refine T_seq ?_
  refine T_cond_t rfl ?_
  refine T_skip' ?_
  refine p_seq ?_
  refine T_seq ?_
  refine T_block ?_
  refine T_seq (T_region ?_)
  refine TL_q (.int .i64 3) (fun _ _ hρ _ => r_move (hρ _ _ rfl)) rfl rfl rfl (w_n rfl) ?_
  refine TL_q (.int .i64 3) (fun _ _ hρ _ => r_assign (hρ _ _ rfl)) rfl rfl rfl (w_n rfl) ?_
  refine TL_seq ?_
  refine T_region ?_
  refine TL_q (.int .i64 3) (fun _ _ hρ _ => r_move (hρ _ _ rfl)) rfl rfl rfl (w_n rfl) ?_
  refine TL_q (.int .i64 4) (fun _ _ hρ _ => r_as (r_sub (hρ _ _ rfl) (hρ _ _ rfl)) (by rfl)) rfl rfl rfl (w_n rfl) ?_
  refine TL_q (.int .u64 ((BitVec.ofNat 64 n).toNat : Int)) (fun _ _ hρ _ => r_move (hρ _ _ rfl)) rfl rfl rfl (w_n rfl) ?_
  refine TL_q (.int .i64 3) (fun _ _ hρ _ => r_move (hρ _ _ rfl)) rfl rfl rfl (w_n rfl) ?_
  refine TL_q (.int .i64 24) (fun _ _ hρ _ => r_as (r_mul (hρ _ _ rfl) (hρ _ _ rfl)) (by rfl)) rfl rfl rfl (w_n rfl) ?_
  refine TL_q (.int .u64 (((BitVec.ofNat 64 n) >>> 24).toNat : Int)) (fun _ _ hρ _ => r_shrB (k := .u64) (a := (BitVec.ofNat 64 n)) (n := 24) (by decide) (hρ _ _ rfl) (hρ _ _ rfl)) rfl rfl rfl (w_n rfl) ?_
  refine TL_q (.int .u8 ((((BitVec.ofNat 64 n) >>> 24).setWidth 8).toNat : Int)) (fun _ _ hρ _ => r_convB (k := .u64) (k' := .u8) (a := ((BitVec.ofNat 64 n) >>> 24)) un25 io5 rfl (hρ _ _ rfl)) rfl rfl rfl (w_n rfl) ?_
  refine TL_q (.pointer (some ⟨B1, 4, none⟩)) (fun _ _ hρ _ => r_indexAddrA (i := 4) ar175 sz5 (hρ _ _ rfl) (hρ _ _ rfl) (by decide)) rfl rfl rfl (w_n rfl) ?_
  refine TL_store 1 (.cells #[.int .u8 0, .int .u8 0, .int .u8 0, .int .u8 0, .int .u8 ((((BitVec.ofNat 64 n) >>> 24).setWidth 8).toNat : Int), .int .u8 ((((BitVec.ofNat 64 n) >>> 16).setWidth 8).toNat : Int), .int .u8 ((((BitVec.ofNat 64 n) >>> 8).setWidth 8).toNat : Int), .int .u8 ((((BitVec.ofNat 64 n) >>> 0).setWidth 8).toNat : Int)] 175) rfl (fun _ _ hρ hm => r_store sz5 (hρ _ _ rfl) (hρ _ _ rfl) (hm.at 1 rfl) rfl rfl rfl rfl) rfl rfl (w_n rfl) ?_
  refine TL_nil ?_
  refine p_blk_n ?_
  refine p_seq ?_
  refine T_region ?_
  refine TL_q (.int .i64 4) (fun _ _ hρ _ => r_as (r_add (hρ _ _ rfl) (hρ _ _ rfl)) (by rfl)) rfl rfl rfl (w_n rfl) ?_
  refine TL_q (.int .i64 4) (fun _ _ hρ _ => r_move (hρ _ _ rfl)) rfl rfl rfl (w_n rfl) ?_
  refine TL_nil ?_
  refine p_round ?_
  refine TR_succ ?_
  refine T_seq (T_region ?_)
  refine TL_q (.bool true) (fun _ _ hρ _ => r_as (r_lss (hρ _ _ rfl) (hρ _ _ rfl)) (by rfl)) rfl rfl rfl (w_n rfl) ?_
  refine TL_seq ?_
  refine T_sub [(0, .int .i64 4), (1, .int .u64 ((BitVec.ofNat 64 n).toNat : Int)), (4, .slice none 0 0), (5, .pointer (some ⟨B1, 0, none⟩)), (22, .int .i64 3), (6, .int .i64 3), (23, .int .i64 3), (24, .int .i64 4), (25, .int .u64 ((BitVec.ofNat 64 n).toNat : Int)), (26, .int .i64 3), (27, .int .i64 24), (28, .int .u64 (((BitVec.ofNat 64 n) >>> 24).toNat : Int)), (29, .int .u8 ((((BitVec.ofNat 64 n) >>> 24).setWidth 8).toNat : Int)), (30, .pointer (some ⟨B1, 4, none⟩)), (31, .int .i64 4), (20, .int .i64 4), (21, .bool true)] [(1, .blk B1 (.cells #[.int .u8 0, .int .u8 0, .int .u8 0, .int .u8 0, .int .u8 ((((BitVec.ofNat 64 n) >>> 24).setWidth 8).toNat : Int), .int .u8 ((((BitVec.ofNat 64 n) >>> 16).setWidth 8).toNat : Int), .int .u8 ((((BitVec.ofNat 64 n) >>> 8).setWidth 8).toNat : Int), .int .u8 ((((BitVec.ofNat 64 n) >>> 0).setWidth 8).toNat : Int)] 175))] (sub_cons rfl (sub_cons rfl (sub_cons rfl (sub_cons rfl (sub_cons rfl (sub_cons rfl (sub_cons rfl (sub_cons rfl (sub_cons rfl (sub_cons rfl (sub_cons rfl (sub_cons rfl (sub_cons rfl (sub_cons rfl (sub_cons rfl (sub_cons rfl (sub_cons rfl sub_nil))))))))))))))))) (sub_cons rfl sub_nil) ?_
  refine T_seq ?_
  refine T_cond_t rfl ?_
  refine T_skip' ?_
  refine p_seq ?_
  refine T_seq ?_
  refine T_block ?_
  refine T_seq (T_region ?_)
  refine TL_q (.int .i64 4) (fun _ _ hρ _ => r_move (hρ _ _ rfl)) rfl rfl rfl (w_n rfl) ?_
  refine TL_q (.int .i64 4) (fun _ _ hρ _ => r_assign (hρ _ _ rfl)) rfl rfl rfl (w_n rfl) ?_
  refine TL_seq ?_
  refine T_region ?_
  refine TL_q (.int .i64 4) (fun _ _ hρ _ => r_move (hρ _ _ rfl)) rfl rfl rfl (w_n rfl) ?_
  refine TL_q (.int .i64 3) (fun _ _ hρ _ => r_as (r_sub (hρ _ _ rfl) (hρ _ _ rfl)) (by rfl)) rfl rfl rfl (w_n rfl) ?_
  refine TL_q (.int .u64 ((BitVec.ofNat 64 n).toNat : Int)) (fun _ _ hρ _ => r_move (hρ _ _ rfl)) rfl rfl rfl (w_n rfl) ?_
  refine TL_q (.int .i64 4) (fun _ _ hρ _ => r_move (hρ _ _ rfl)) rfl rfl rfl (w_n rfl) ?_
  refine TL_q (.int .i64 32) (fun _ _ hρ _ => r_as (r_mul (hρ _ _ rfl) (hρ _ _ rfl)) (by rfl)) rfl rfl rfl (w_n rfl) ?_
  refine TL_q (.int .u64 (((BitVec.ofNat 64 n) >>> 32).toNat : Int)) (fun _ _ hρ _ => r_shrB (k := .u64) (a := (BitVec.ofNat 64 n)) (n := 32) (by decide) (hρ _ _ rfl) (hρ _ _ rfl)) rfl rfl rfl (w_n rfl) ?_
  refine TL_q (.int .u8 ((((BitVec.ofNat 64 n) >>> 32).setWidth 8).toNat : Int)) (fun _ _ hρ _ => r_convB (k := .u64) (k' := .u8) (a := ((BitVec.ofNat 64 n) >>> 32)) un25 io5 rfl (hρ _ _ rfl)) rfl rfl rfl (w_n rfl) ?_
  refine TL_q (.pointer (some ⟨B1, 3, none⟩)) (fun _ _ hρ _ => r_indexAddrA (i := 3) ar175 sz5 (hρ _ _ rfl) (hρ _ _ rfl) (by decide)) rfl rfl rfl (w_n rfl) ?_
  refine TL_store 1 (.cells #[.int .u8 0, .int .u8 0, .int .u8 0, .int .u8 ((((BitVec.ofNat 64 n) >>> 32).setWidth 8).toNat : Int), .int .u8 ((((BitVec.ofNat 64 n) >>> 24).setWidth 8).toNat : Int), .int .u8 ((((BitVec.ofNat 64 n) >>> 16).setWidth 8).toNat : Int), .int .u8 ((((BitVec.ofNat 64 n) >>> 8).setWidth 8).toNat : Int), .int .u8 ((((BitVec.ofNat 64 n) >>> 0).setWidth 8).toNat : Int)] 175) rfl (fun _ _ hρ hm => r_store sz5 (hρ _ _ rfl) (hρ _ _ rfl) (hm.at 1 rfl) rfl rfl rfl rfl) rfl rfl (w_n rfl) ?_
  refine TL_nil ?_
  refine p_blk_n ?_
  refine p_seq ?_
  refine T_region ?_
  refine TL_q (.int .i64 5) (fun _ _ hρ _ => r_as (r_add (hρ _ _ rfl) (hρ _ _ rfl)) (by rfl)) rfl rfl rfl (w_n rfl) ?_
  refine TL_q (.int .i64 5) (fun _ _ hρ _ => r_move (hρ _ _ rfl)) rfl rfl rfl (w_n rfl) ?_
  refine TL_nil ?_
  refine p_round ?_
  refine TR_succ ?_
  refine T_seq (T_region ?_)
  refine TL_q (.bool true) (fun _ _ hρ _ => r_as (r_lss (hρ _ _ rfl) (hρ _ _ rfl)) (by rfl)) rfl rfl rfl (w_n rfl) ?_
  refine TL_seq ?_
  refine T_seq ?_
  refine T_cond_t rfl ?_
  refine T_skip' ?_
  refine p_seq ?_
  refine T_seq ?_
  refine T_block ?_
  refine T_seq (T_region ?_)
  refine TL_q (.int .i64 5) (fun _ _ hρ _ => r_move (hρ _ _ rfl)) rfl rfl rfl (w_n rfl) ?_
  refine TL_q (.int .i64 5) (fun _ _ hρ _ => r_assign (hρ _ _ rfl)) rfl rfl rfl (w_n rfl) ?_
  refine TL_seq ?_
  refine T_region ?_
  refine TL_q (.int .i64 5) (fun _ _ hρ _ => r_move (hρ _ _ rfl)) rfl rfl rfl (w_n rfl) ?_
  refine TL_q (.int .i64 2) (fun _ _ hρ _ => r_as (r_sub (hρ _ _ rfl) (hρ _ _ rfl)) (by rfl)) rfl rfl rfl (w_n rfl) ?_
  refine TL_q (.int .u64 ((BitVec.ofNat 64 n).toNat : Int)) (fun _ _ hρ _ => r_move (hρ _ _ rfl)) rfl rfl rfl (w_n rfl) ?_
  refine TL_q (.int .i64 5) (fun _ _ hρ _ => r_move (hρ _ _ rfl)) rfl rfl rfl (w_n rfl) ?_
  refine TL_q (.int .i64 40) (fun _ _ hρ _ => r_as (r_mul (hρ _ _ rfl) (hρ _ _ rfl)) (by rfl)) rfl rfl rfl (w_n rfl) ?_
  refine TL_q (.int .u64 (((BitVec.ofNat 64 n) >>> 40).toNat : Int)) (fun _ _ hρ _ => r_shrB (k := .u64) (a := (BitVec.ofNat 64 n)) (n := 40) (by decide) (hρ _ _ rfl) (hρ _ _ rfl)) rfl rfl rfl (w_n rfl) ?_
  refine TL_q (.int .u8 ((((BitVec.ofNat 64 n) >>> 40).setWidth 8).toNat : Int)) (fun _ _ hρ _ => r_convB (k := .u64) (k' := .u8) (a := ((BitVec.ofNat 64 n) >>> 40)) un25 io5 rfl (hρ _ _ rfl)) rfl rfl rfl (w_n rfl) ?_
  refine TL_q (.pointer (some ⟨B1, 2, none⟩)) (fun _ _ hρ _ => r_indexAddrA (i := 2) ar175 sz5 (hρ _ _ rfl) (hρ _ _ rfl) (by decide)) rfl rfl rfl (w_n rfl) ?_
  refine TL_store 1 (.cells #[.int .u8 0, .int .u8 0, .int .u8 ((((BitVec.ofNat 64 n) >>> 40).setWidth 8).toNat : Int), .int .u8 ((((BitVec.ofNat 64 n) >>> 32).setWidth 8).toNat : Int), .int .u8 ((((BitVec.ofNat 64 n) >>> 24).setWidth 8).toNat : Int), .int .u8 ((((BitVec.ofNat 64 n) >>> 16).setWidth 8).toNat : Int), .int .u8 ((((BitVec.ofNat 64 n) >>> 8).setWidth 8).toNat : Int), .int .u8 ((((BitVec.ofNat 64 n) >>> 0).setWidth 8).toNat : Int)] 175) rfl (fun _ _ hρ hm => r_store sz5 (hρ _ _ rfl) (hρ _ _ rfl) (hm.at 1 rfl) rfl rfl rfl rfl) rfl rfl (w_n rfl) ?_
  refine TL_nil ?_
  refine p_blk_n ?_
  refine p_seq ?_
  refine T_region ?_
  refine TL_q (.int .i64 6) (fun _ _ hρ _ => r_as (r_add (hρ _ _ rfl) (hρ _ _ rfl)) (by rfl)) rfl rfl rfl (w_n rfl) ?_
  refine TL_q (.int .i64 6) (fun _ _ hρ _ => r_move (hρ _ _ rfl)) rfl rfl rfl (w_n rfl) ?_
  refine TL_nil ?_
  refine p_round ?_
  refine TR_succ ?_
  refine T_seq (T_region ?_)
  refine TL_q (.bool true) (fun _ _ hρ _ => r_as (r_lss (hρ _ _ rfl) (hρ _ _ rfl)) (by rfl)) rfl rfl rfl (w_n rfl) ?_
  refine TL_seq ?_
  refine T_seq ?_
  refine T_cond_t rfl ?_
  refine T_skip' ?_
  refine p_seq ?_
  refine T_seq ?_
  refine T_block ?_
  refine T_seq (T_region ?_)
  refine TL_q (.int .i64 6) (fun _ _ hρ _ => r_move (hρ _ _ rfl)) rfl rfl rfl (w_n rfl) ?_
  refine TL_q (.int .i64 6) (fun _ _ hρ _ => r_assign (hρ _ _ rfl)) rfl rfl rfl (w_n rfl) ?_
  refine TL_seq ?_
  refine T_region ?_
  refine TL_q (.int .i64 6) (fun _ _ hρ _ => r_move (hρ _ _ rfl)) rfl rfl rfl (w_n rfl) ?_
  refine TL_q (.int .i64 1) (fun _ _ hρ _ => r_as (r_sub (hρ _ _ rfl) (hρ _ _ rfl)) (by rfl)) rfl rfl rfl (w_n rfl) ?_
  refine TL_q (.int .u64 ((BitVec.ofNat 64 n).toNat : Int)) (fun _ _ hρ _ => r_move (hρ _ _ rfl)) rfl rfl rfl (w_n rfl) ?_
  refine TL_q (.int .i64 6) (fun _ _ hρ _ => r_move (hρ _ _ rfl)) rfl rfl rfl (w_n rfl) ?_
  refine TL_q (.int .i64 48) (fun _ _ hρ _ => r_as (r_mul (hρ _ _ rfl) (hρ _ _ rfl)) (by rfl)) rfl rfl rfl (w_n rfl) ?_
  refine TL_q (.int .u64 (((BitVec.ofNat 64 n) >>> 48).toNat : Int)) (fun _ _ hρ _ => r_shrB (k := .u64) (a := (BitVec.ofNat 64 n)) (n := 48) (by decide) (hρ _ _ rfl) (hρ _ _ rfl)) rfl rfl rfl (w_n rfl) ?_
  refine TL_q (.int .u8 ((((BitVec.ofNat 64 n) >>> 48).setWidth 8).toNat : Int)) (fun _ _ hρ _ => r_convB (k := .u64) (k' := .u8) (a := ((BitVec.ofNat 64 n) >>> 48)) un25 io5 rfl (hρ _ _ rfl)) rfl rfl rfl (w_n rfl) ?_
  refine TL_q (.pointer (some ⟨B1, 1, none⟩)) (fun _ _ hρ _ => r_indexAddrA (i := 1) ar175 sz5 (hρ _ _ rfl) (hρ _ _ rfl) (by decide)) rfl rfl rfl (w_n rfl) ?_
  refine TL_store 1 (.cells #[.int .u8 0, .int .u8 ((((BitVec.ofNat 64 n) >>> 48).setWidth 8).toNat : Int), .int .u8 ((((BitVec.ofNat 64 n) >>> 40).setWidth 8).toNat : Int), .int .u8 ((((BitVec.ofNat 64 n) >>> 32).setWidth 8).toNat : Int), .int .u8 ((((BitVec.ofNat 64 n) >>> 24).setWidth 8).toNat : Int), .int .u8 ((((BitVec.ofNat 64 n) >>> 16).setWidth 8).toNat : Int), .int .u8 ((((BitVec.ofNat 64 n) >>> 8).setWidth 8).toNat : Int), .int .u8 ((((BitVec.ofNat 64 n) >>> 0).setWidth 8).toNat : Int)] 175) rfl (fun _ _ hρ hm => r_store sz5 (hρ _ _ rfl) (hρ _ _ rfl) (hm.at 1 rfl) rfl rfl rfl rfl) rfl rfl (w_n rfl) ?_
  refine TL_nil ?_
  refine p_blk_n ?_
  refine p_seq ?_
  refine T_region ?_
  refine TL_q (.int .i64 7) (fun _ _ hρ _ => r_as (r_add (hρ _ _ rfl) (hρ _ _ rfl)) (by rfl)) rfl rfl rfl (w_n rfl) ?_
  refine TL_q (.int .i64 7) (fun _ _ hρ _ => r_move (hρ _ _ rfl)) rfl rfl rfl (w_n rfl) ?_
  refine TL_nil ?_
  refine p_round ?_
  refine TR_succ ?_
  refine T_seq (T_region ?_)
  refine TL_q (.bool true) (fun _ _ hρ _ => r_as (r_lss (hρ _ _ rfl) (hρ _ _ rfl)) (by rfl)) rfl rfl rfl (w_n rfl) ?_
  refine TL_seq ?_
  refine T_sub [(0, .int .i64 4), (1, .int .u64 ((BitVec.ofNat 64 n).toNat : Int)), (4, .slice none 0 0), (5, .pointer (some ⟨B1, 0, none⟩)), (22, .int .i64 6), (6, .int .i64 6), (23, .int .i64 6), (24, .int .i64 1), (25, .int .u64 ((BitVec.ofNat 64 n).toNat : Int)), (26, .int .i64 6), (27, .int .i64 48), (28, .int .u64 (((BitVec.ofNat 64 n) >>> 48).toNat : Int)), (29, .int .u8 ((((BitVec.ofNat 64 n) >>> 48).setWidth 8).toNat : Int)), (30, .pointer (some ⟨B1, 1, none⟩)), (31, .int .i64 7), (20, .int .i64 7), (21, .bool true)] [(1, .blk B1 (.cells #[.int .u8 0, .int .u8 ((((BitVec.ofNat 64 n) >>> 48).setWidth 8).toNat : Int), .int .u8 ((((BitVec.ofNat 64 n) >>> 40).setWidth 8).toNat : Int), .int .u8 ((((BitVec.ofNat 64 n) >>> 32).setWidth 8).toNat : Int), .int .u8 ((((BitVec.ofNat 64 n) >>> 24).setWidth 8).toNat : Int), .int .u8 ((((BitVec.ofNat 64 n) >>> 16).setWidth 8).toNat : Int), .int .u8 ((((BitVec.ofNat 64 n) >>> 8).setWidth 8).toNat : Int), .int .u8 ((((BitVec.ofNat 64 n) >>> 0).setWidth 8).toNat : Int)] 175))] (sub_cons rfl (sub_cons rfl (sub_cons rfl (sub_cons rfl (sub_cons rfl (sub_cons rfl (sub_cons rfl (sub_cons rfl (sub_cons rfl (sub_cons rfl (sub_cons rfl (sub_cons rfl (sub_cons rfl (sub_cons rfl (sub_cons rfl (sub_cons rfl (sub_cons rfl sub_nil))))))))))))))))) (sub_cons rfl sub_nil) ?_
  refine T_seq ?_
  refine T_cond_t rfl ?_
  refine T_skip' ?_
  refine p_seq ?_
  refine T_seq ?_
  refine T_block ?_
  refine T_seq (T_region ?_)
  refine TL_q (.int .i64 7) (fun _ _ hρ _ => r_move (hρ _ _ rfl)) rfl rfl rfl (w_n rfl) ?_
  refine TL_q (.int .i64 7) (fun _ _ hρ _ => r_assign (hρ _ _ rfl)) rfl rfl rfl (w_n rfl) ?_
  refine TL_seq ?_
  refine T_region ?_
  refine TL_q (.int .i64 7) (fun _ _ hρ _ => r_move (hρ _ _ rfl)) rfl rfl rfl (w_n rfl) ?_
  refine TL_q (.int .i64 0) (fun _ _ hρ _ => r_as (r_sub (hρ _ _ rfl) (hρ _ _ rfl)) (by rfl)) rfl rfl rfl (w_n rfl) ?_
  refine TL_q (.int .u64 ((BitVec.ofNat 64 n).toNat : Int)) (fun _ _ hρ _ => r_move (hρ _ _ rfl)) rfl rfl rfl (w_n rfl) ?_
  refine TL_q (.int .i64 7) (fun _ _ hρ _ => r_move (hρ _ _ rfl)) rfl rfl rfl (w_n rfl) ?_
  refine TL_q (.int .i64 56) (fun _ _ hρ _ => r_as (r_mul (hρ _ _ rfl) (hρ _ _ rfl)) (by rfl)) rfl rfl rfl (w_n rfl) ?_
  refine TL_q (.int .u64 (((BitVec.ofNat 64 n) >>> 56).toNat : Int)) (fun _ _ hρ _ => r_shrB (k := .u64) (a := (BitVec.ofNat 64 n)) (n := 56) (by decide) (hρ _ _ rfl) (hρ _ _ rfl)) rfl rfl rfl (w_n rfl) ?_
  refine TL_q (.int .u8 ((((BitVec.ofNat 64 n) >>> 56).setWidth 8).toNat : Int)) (fun _ _ hρ _ => r_convB (k := .u64) (k' := .u8) (a := ((BitVec.ofNat 64 n) >>> 56)) un25 io5 rfl (hρ _ _ rfl)) rfl rfl rfl (w_n rfl) ?_
  refine TL_q (.pointer (some ⟨B1, 0, none⟩)) (fun _ _ hρ _ => r_indexAddrA (i := 0) ar175 sz5 (hρ _ _ rfl) (hρ _ _ rfl) (by decide)) rfl rfl rfl (w_n rfl) ?_
  refine TL_store 1 (.cells #[.int .u8 ((((BitVec.ofNat 64 n) >>> 56).setWidth 8).toNat : Int), .int .u8 ((((BitVec.ofNat 64 n) >>> 48).setWidth 8).toNat : Int), .int .u8 ((((BitVec.ofNat 64 n) >>> 40).setWidth 8).toNat : Int), .int .u8 ((((BitVec.ofNat 64 n) >>> 32).setWidth 8).toNat : Int), .int .u8 ((((BitVec.ofNat 64 n) >>> 24).setWidth 8).toNat : Int), .int .u8 ((((BitVec.ofNat 64 n) >>> 16).setWidth 8).toNat : Int), .int .u8 ((((BitVec.ofNat 64 n) >>> 8).setWidth 8).toNat : Int), .int .u8 ((((BitVec.ofNat 64 n) >>> 0).setWidth 8).toNat : Int)] 175) rfl (fun _ _ hρ hm => r_store sz5 (hρ _ _ rfl) (hρ _ _ rfl) (hm.at 1 rfl) rfl rfl rfl rfl) rfl rfl (w_n rfl) ?_
  refine TL_nil ?_
  refine p_blk_n ?_
  refine p_seq ?_
  refine T_region ?_
  refine TL_q (.int .i64 8) (fun _ _ hρ _ => r_as (r_add (hρ _ _ rfl) (hρ _ _ rfl)) (by rfl)) rfl rfl rfl (w_n rfl) ?_
  refine TL_q (.int .i64 8) (fun _ _ hρ _ => r_move (hρ _ _ rfl)) rfl rfl rfl (w_n rfl) ?_
  refine TL_nil ?_
  refine p_round ?_
  refine TR_succ ?_
  refine T_seq (T_region ?_)
  refine TL_q (.bool false) (fun _ _ hρ _ => r_as (r_lss (hρ _ _ rfl) (hρ _ _ rfl)) (by rfl)) rfl rfl rfl (w_n rfl) ?_
  refine TL_seq ?_
  refine T_seq ?_
  refine T_cond_f rfl ?_
  refine T_exit' ?_
  refine p_then_x ?_
  refine p_then_x ?_
  refine p_blk_x ?_
  refine p_seq ?_
  refine T_seq (T_region ?_)
  refine TL_q (.int .i64 4) (fun _ _ hρ _ => r_move (hρ _ _ rfl)) rfl rfl rfl (w_n rfl) ?_
  refine TL_q (.int .i64 4) (fun _ _ hρ _ => r_as (r_sub (hρ _ _ rfl) (hρ _ _ rfl)) (by rfl)) rfl rfl rfl (w_n rfl) ?_
  refine TL_q (.slice (some ⟨B1, 4, none⟩) 4 4) (fun _ _ hρ _ => r_sliceAlo (l := 4) ar175 sz5 (by decide) (hρ _ _ rfl) (hρ _ _ rfl)) rfl rfl rfl (w_n rfl) ?_
  refine TL_q (.slice (some ⟨B1, 4, none⟩) 4 4) (fun _ _ hρ _ => r_assign (hρ _ _ rfl)) rfl rfl rfl (w_n rfl) ?_
  refine TL_seq ?_
  refine T_ret' ?_
  refine ret_of rfl (.slice (some ⟨B1, 4, none⟩) 4 4) (fun tmps w hk hm => res1 rfl (res_tmp (hk 4 _ rfl))) (fun w hm => ?_)
  refine ⟨B1, rfl, hm.ext, ?_⟩
  rw [lenB_w hn]
  exact hm.own 1 _ rfl

theorem behind_c (l : List By) (a : Option Addr) (cap : Nat) (w : World) (hv : SliceAt w a cap 1 byc l) (hcap : cap ≤ Go.maxLen) (m : List By) (b : Option Addr) (capb : Nat) (hu : SliceAt w b capb 1 byc m) (hcapb : capb ≤ Go.maxLen) (hl1 : l.length ≤ 1000000) (hm1 : m.length ≤ 1000000) : Calls Try.prog 124 #[.slice a l.length cap, .slice b m.length capb] w fun e w' => ∃ a' cap', e = .returned (.slice a' (l ++ m).length cap') ∧ Below w.heap.size w w' ∧ w'.ownsRow w.heap.size 5 1 (.slice a' (l ++ m).length cap') (l ++ m).length ((l ++ m).flatMap byc) := by
  have hvl := hv.1
  have hcp := hcap
  unfold Go.maxLen at hcp
  have hul := hu.1
  have hcp2 := hcapb
  unfold Go.maxLen at hcp2
  refine calls_of_T (l := [.slice a l.length cap, .slice b m.length capb]) 20 Try.func124 rfl rfl rfl ?_
  show T _ _ _ [(0, .slice a l.length cap), (1, .slice b m.length capb)] []
  refine T_seq (T_region ?_)
  refine TL_q (.slice none 0 0) (fun _ _ hρ _ => r_assign (hρ _ _ rfl)) rfl rfl rfl (w_n rfl) ?_
  refine TL_seq ?_
  refine T_seq (T_region ?_)
  refine TL_q (.slice a l.length cap) (fun _ _ hρ _ => r_move (hρ _ _ rfl)) rfl rfl rfl (w_n rfl) ?_
  refine TL_q (.int .i64 ((l.length : Nat) : Int)) (fun _ _ hρ _ => r_len sl34 (hρ _ _ rfl)) rfl rfl rfl (w_n rfl) ?_
  refine TL_q (.slice a l.length cap) (fun _ _ hρ _ => r_move (hρ _ _ rfl)) rfl rfl rfl (w_n rfl) ?_
  refine TL_q (.int .i64 ((l.length : Nat) : Int)) (fun _ _ hρ _ => r_len sl34 (hρ _ _ rfl)) rfl rfl rfl (w_n rfl) ?_
  refine TL_q (.slice b m.length capb) (fun _ _ hρ _ => r_move (hρ _ _ rfl)) rfl rfl rfl (w_n rfl) ?_
  refine TL_q (.int .i64 ((m.length : Nat) : Int)) (fun _ _ hρ _ => r_len sl34 (hρ _ _ rfl)) rfl rfl rfl (w_n rfl) ?_
  refine TL_q (.int .i64 ((l.length + m.length : Nat) : Int)) (fun _ _ hρ _ => r_as (r_add (hρ _ _ rfl) (hρ _ _ rfl)) (int_as ((wrap64 (by omega) (by omega)).trans (by omega)))) rfl rfl rfl (w_n rfl) ?_
  refine TL_op (ι := Nat) (fun B => .slice (some ⟨B, 0, none⟩) l.length (l.length + m.length)) _ (fun _ _ hρ hm => o_make (n := l.length) (cap := l.length + m.length) (z := .int .u8 0) (f := byc) (u := 0#8) 1 rfl (hρ _ _ rfl) (hρ _ _ rfl) sl34 by5 sz5 rfl (by kernel_rfl) rfl byc_len (by omega) (by omega) (by omega) hm) rfl rfl rfl (w_n rfl) ?_
  intro B1
  refine TL_q (.slice (some ⟨B1, 0, none⟩) l.length (l.length + m.length)) (fun _ _ hρ _ => r_assign (hρ _ _ rfl)) rfl rfl rfl (w_n rfl) ?_
  refine TL_seq ?_
  refine T_seq (T_region ?_)
  refine TL_q (.slice (some ⟨B1, 0, none⟩) l.length (l.length + m.length)) (fun _ _ hρ _ => r_move (hρ _ _ rfl)) rfl rfl rfl (w_n rfl) ?_
  refine TL_q (.slice a l.length cap) (fun _ _ hρ _ => r_move (hρ _ _ rfl)) rfl rfl rfl (w_n rfl) ?_
  refine TL_op1 (.int .i64 ((l.length : Nat) : Int)) _ (fun _ _ hρ hm => o_copy (s := 1) (news := (l.flatMap byc)) 1 rfl (hρ _ _ rfl) (hρ _ _ rfl) rfl sl34 sz5 (src_of byc_len (hv.keep hm.ext)) byc_oneL hm) rfl rfl rfl (w_n rfl) ?_
  refine TL_seq ?_
  refine T_seq (T_region ?_)
  refine TL_q (.slice (some ⟨B1, 0, none⟩) l.length (l.length + m.length)) (fun _ _ hρ _ => r_move (hρ _ _ rfl)) rfl rfl rfl (w_n rfl) ?_
  refine TL_q (.slice b m.length capb) (fun _ _ hρ _ => r_move (hρ _ _ rfl)) rfl rfl rfl (w_n rfl) ?_
  refine TL_append (n := l.length) (m := m.length) (xs := (l.flatMap byc)) (news := (m.flatMap byc)) (z := .int .u8 0) 1 rfl rfl rfl sl34 sz5 by5 (by kernel_rfl) rfl rfl (.inl rfl) (fun _ hm => by have := src_of byc_len (hu.keep hm.ext); simpa using this) byc_oneL (by omega) (by omega) rfl (w_n rfl) ?_
  intro a3 cap3
  refine TL_q (.slice a3 (l.length + m.length) cap3) (fun _ _ hρ _ => r_assign (hρ _ _ rfl)) rfl rfl rfl (w_n rfl) ?_
  refine TL_seq ?_
  refine T_ret' ?_
  refine ret_of rfl (.slice a3 (l.length + m.length) cap3) (fun tmps w hk hm => res1 rfl (res_tmp (hk 4 _ rfl))) (fun w hm => ?_)
  have hrow := hm.row 1 rfl
  rw [← List.flatMap_append, ← List.length_append] at hrow
  exact ⟨a3, cap3, by rw [List.length_append], hm.ext, hrow⟩

theorem trP_idle (w₀ : World) (L : Heap) (A B : Nat) : ∀ w, MemOk w₀ L w → CallsD Try.prog 137 #[.pointer (some ⟨A, 0, none⟩), .pointer (some ⟨B, 0, none⟩)] .returning w fun e u' w' => u' = .returning ∧ (e = .returned (.tuple #[]) ∧ MemOk w₀ L w') := by
  refine dS_of_T (l := [.pointer (some ⟨A, 0, none⟩), .pointer (some ⟨B, 0, none⟩)]) (L := L) (v := .nilIface) 19 (.inl ⟨rfl, rfl, rfl⟩) Try.func137 rfl rfl rfl rfl rfl (fun _ _ => rfl) rfl rfl (fun _ _ => rfl) rfl rfl ?_
  show T _ _ _ [(2, .nilIface), (6, .nilIface), (0, .pointer (some ⟨A, 0, none⟩)), (1, .pointer (some ⟨B, 0, none⟩))] L
  refine T_seq (T_region ?_)
  refine TL_q (.nilIface) (fun _ _ hρ _ => r_move (hρ _ _ rfl)) rfl rfl rfl (w_n rfl) ?_
  refine TL_q (.bool false) (fun _ w hρ _ => r_eqI (by rfl) (hρ _ _ rfl) (hρ _ _ rfl) (run_neq_nil_nil w 20 (by kernel_rfl))) rfl rfl rfl (w_n rfl) ?_
  refine TL_seq ?_
  refine T_cond_f rfl ?_
  refine T_skip' ?_
  refine p_endP ?_
  refine ret_ofP rfl (.tuple #[]) (fun tmps w hk hm => results_none rfl _ _ _) (fun w hm => ?_)
  exact ⟨rfl, hm⟩

theorem trP_ok {w₀ : World} {L : Heap} (g : Nat) (cap : Array Value) {ι : Type} (p : ι → Prop) (va0 : ι → Option Addr) (vn0 : ι → Nat) (vc0 : ι → Nat) (N : ι → Heap) (hE : Enters Try.prog g) (h1901 : lk L 1901 = none) (h1900 : lk L 1900 = none) (hN1901 : ∀ x, lk (N x) 1901 = none) (hN1900 : ∀ x, lk (N x) 1900 = none) (H : ∀ A B w, MemOk w₀ ((1901, .blk B (.cells #[.int .i64 0] 28)) :: (1900, .blk A (.cells #[.slice none 0 0] 34)) :: L) w → Calls Try.prog g cap w (HAns w₀ p (fun x => .slice (va0 x) (vn0 x) (vc0 x)) (fun x => N x ++ ((1901, .blk B (.cells #[.int .i64 0] 28)) :: (1900, .blk A (.cells #[.slice none 0 0] 34)) :: L)))) : ∀ w, MemOk w₀ L w → Calls Try.prog 122 #[.func (.func g) #[] cap] w (HAns w₀ p (fun x => .tuple #[.slice (va0 x) (vn0 x) (vc0 x), .int .i64 0]) (fun x => N x ++ L)) := by
  refine ht_of_TD (l := [.func (.func g) #[] cap]) (L := L) 7 Try.func122 rfl rfl rfl ?_
  show T _ _ _ [(0, .func (.func g) #[] cap)] L
  refine T_seq (T_region ?_)
  refine TL_new 1900 (.cells #[.slice none 0 0] 34) (fun B => .pointer (some ⟨B, 0, none⟩)) (fun _ _ _ _ => r_alloc (v := .slice none 0 0) (by kernel_rfl) rfl) rfl rfl rfl (w_n rfl) ?_
  intro B1
  refine TL_new 1901 (.cells #[.int .i64 0] 28) (fun B => .pointer (some ⟨B, 0, none⟩)) (fun _ _ _ _ => r_alloc (v := .int .i64 0) (by kernel_rfl) rfl) rfl rfl rfl (w_n rfl) ?_
  intro B2
  refine TL_seq ?_
  refine T_seq (T_region ?_)
  refine TL_q (.func (.func 137) #[] #[.pointer (some ⟨B1, 0, none⟩), .pointer (some ⟨B2, 0, none⟩)]) (fun _ _ hρ _ => r_makeFunc (by simp) (map_arr (cons2 (hρ _ _ rfl) (cons2 (hρ _ _ rfl) rfl)))) rfl rfl rfl (w_n rfl) ?_
  refine TL_defer ({ target := .fn (.func 137) #[.pointer (some ⟨B1, 0, none⟩), .pointer (some ⟨B2, 0, none⟩)], args := #[] }) rfl (fun _ _ hρ _ => r_defer (args := []) (hρ _ _ rfl) (by rfl) rfl) rfl (w_n rfl) ?_
  refine TL_seq ?_
  refine T_seq (T_region ?_)
  refine TL_q (.func (.func g) #[] cap) (fun _ _ hρ _ => r_move (hρ _ _ rfl)) rfl rfl rfl (w_n rfl) ?_
  refine TL_callH _ _ _ (fun _ _ hρ _ => r_call (args := []) hE (hρ _ _ rfl) (by rfl) (by simp)) (fun w hm => H B1 B2 w hm) rfl rfl rfl (w_n rfl) ?_
  intro x hx
  refine TL_mem ([(1901, .blk B2 (.cells #[.int .i64 0] 28)), (1900, .blk B1 (.cells #[.slice none 0 0] 34))] ++ (N x ++ L)) (fun _ hm => hm.of (lk_front (L := L) [(1901, .blk B2 (.cells #[.int .i64 0] 28)), (1900, .blk B1 (.cells #[.slice none 0 0] 34))] (by simp [hN1901, hN1900]))) ?_
  refine TL_store 1900 (.cells #[.slice (va0 x) (vn0 x) (vc0 x)] 34) rfl (fun _ _ hρ hm => r_store sz34 (hρ _ _ rfl) (hρ _ _ rfl) (hm.at 1900 rfl) rfl rfl rfl rfl) rfl rfl (w_n rfl) ?_
  refine TL_store 1901 (.cells #[.int .i64 0] 28) rfl (fun _ _ hρ hm => r_store sz28 (hρ _ _ rfl) (hρ _ _ rfl) (hm.at 1901 rfl) rfl rfl rfl rfl) rfl rfl (w_n rfl) ?_
  refine TL_seq ?_
  refine T_ret' ?_
  refine ret_ofD [{ target := .fn (.func 137) #[.pointer (some ⟨B1, 0, none⟩), .pointer (some ⟨B2, 0, none⟩)], args := #[] }] rfl (fun tmps hk => ?_)
  refine leavesH_cons (enters_of Try.func137 (by kernel_rfl) rfl) (fun w hm => trP_idle _ _ B1 B2 w hm) ?_
  refine leavesH_nil (.tuple #[.slice (va0 x) (vn0 x) (vc0 x), .int .i64 0]) (fun _ hm => res2 rfl (res_cell (hk 2 _ rfl) (run_loadVar_one ag34 (hm.at 1900 rfl) rfl)) (res_cell (hk 3 _ rfl) (run_loadVar_one ag28 (hm.at 1901 rfl) rfl))) (fun w hm => ?_)
  have e1901 := lk_app_none (hN1901 x) h1901
  have e1900 := lk_app_none (hN1900 x) h1900
  exact ⟨x, hx, rfl, hm.of (lk_drop (L := N x ++ L) [(1901, .blk B2 (.cells #[.int .i64 0] 28)), (1900, .blk B1 (.cells #[.slice (va0 x) (vn0 x) (vc0 x)] 34)), (1901, .blk B2 (.cells #[.int .i64 0] 28)), (1900, .blk B1 (.cells #[.slice none 0 0] 34))] (by simp [e1901, e1900]))⟩

theorem trPW_ok (g : Nat) (cap : Array Value) {ι : Type} (p : ι → Prop) (va0 : ι → Option Addr) (vn0 : ι → Nat) (vc0 : ι → Nat) (N : ι → Heap) (w : World) (hE : Enters Try.prog g) (hN1901 : ∀ x, lk (N x) 1901 = none) (hN1900 : ∀ x, lk (N x) 1900 = none) (H : ∀ w2, Below w.heap.size w w2 → Calls Try.prog g cap w2 (Ans p (fun x => .slice (va0 x) (vn0 x) (vc0 x)) N w2)) : Calls Try.prog 122 #[.func (.func g) #[] cap] w (Ans p (fun x => .tuple #[.slice (va0 x) (vn0 x) (vc0 x), .int .i64 0]) N w) := by
  refine (trP_ok (L := []) (w₀ := w) g cap p va0 vn0 vc0 N hE rfl rfl hN1901 hN1900 (fun A B w2 hm => (H w2 hm.ext).mono ?_) w (MemOk.nil w)).mono ?_
  · rintro e w' ⟨x, hx, he, hb, hn⟩
    exact ⟨x, hx, he, hm.news hb hn⟩
  · rintro e w' ⟨x, hx, he, hm⟩
    simp only [List.append_nil] at hm
    exact ⟨x, hx, he, hm.ext, ⟨fun i r h => hm.own i r h, fun i j r s h1 h2 => hm.sep i j r s h1 h2⟩⟩
theorem put1_c (T0 T1 T2 n : Nat) (hn : n ≤ 65536) (w : World) (h0 : hp w T0 = some (.cells #[.slice none 0 0] 34)) (h1 : hp w T1 = some (.cells #[.int .i64 4] 3)) (h2 : hp w T2 = some (.cells #[.int .u64 ((BitVec.ofNat 64 n).toNat : Int)] 25)) : Calls Try.prog 123 #[.pointer (some ⟨T0, 0, none⟩), .pointer (some ⟨T1, 0, none⟩), .pointer (some ⟨T2, 0, none⟩)] w fun e w' => ∃ a' cap', e = .returned (.slice a' (lenB n).length cap') ∧ Below w.heap.size w w' ∧ w'.ownsRow w.heap.size 5 1 (.slice a' (lenB n).length cap') (lenB n).length ((lenB n).flatMap byc) := by
  refine calls_of_T (l := [.pointer (some ⟨T0, 0, none⟩), .pointer (some ⟨T1, 0, none⟩), .pointer (some ⟨T2, 0, none⟩)]) 9 Try.func123 rfl rfl rfl ?_
  show T _ _ _ [(0, .pointer (some ⟨T0, 0, none⟩)), (1, .pointer (some ⟨T1, 0, none⟩)), (2, .pointer (some ⟨T2, 0, none⟩))] []
  refine T_seq (T_region ?_)
  refine TL_q (.slice none 0 0) (fun _ _ hρ _ => r_assign (hρ _ _ rfl)) rfl rfl rfl (w_n rfl) ?_
  refine TL_seq ?_
  refine T_seq (T_draw (V := [(0, .slice none 0 0), (1, .int .i64 4), (2, .int .u64 ((BitVec.ofNat 64 n).toNat : Int))]) [0, 0, 0, 6, 15, 31] [[(0, none)], [(1, none)], [(2, none)], [(5, some 1), (6, some 2)], [(4, some 0), (7, some 3)], [(8, some 4)]] 24 mixed (by kernel_rfl) ?_)
  refine G_step [0, 1, 2] 3 [] (by kernel_rfl) (allM (all_cons (q_run (.slice none 0 0) rfl rfl (wv_n rfl) rfl (fun _ _ hρ hm => r_load ag34 (hρ _ _ rfl) (hm.old h0) rfl)) (all_cons (q_run (.int .i64 4) rfl rfl (wv_n rfl) rfl (fun _ _ hρ hm => r_load ag3 (hρ _ _ rfl) (hm.old h1) rfl)) (all_cons (q_run (.int .u64 ((BitVec.ofNat 64 n).toNat : Int)) rfl rfl (wv_n rfl) rfl (fun _ _ hρ hm => r_load ag25 (hρ _ _ rfl) (hm.old h2) rfl)) all_nil)))) (allM (all_cons ?_ all_nil))
  refine LOb_callN (fun (_ : Nat) => True) (fun z3 => .slice (some ⟨z3, 4, none⟩) 4 4) (fun z3 => [(1, .blk z3 (.cells (((hi4 n ++ lenB n : List By).flatMap byc).toArray) 175))]) (fun z3 => []) rfl (wv_n rfl) rfl rfl (fun _ _ hρ _ => r_call (args := [.int .i64 4, .int .u64 ((BitVec.ofNat 64 n).toNat : Int)]) (enters_of Try.func125 (by kernel_rfl) rfl) (hρ _ _ rfl) ((cons2 (hρ _ _ rfl) (cons2 (hρ _ _ rfl) rfl))) rfl) (fun w _ => (laid_c n hn w).mono fun e w' ⟨z, he, hb, hr⟩ => ⟨z, trivial, he, hb, newOk1 1 hr⟩) (fun z3 => by kernel_rfl) ?_
  rintro z3 -
  refine G_step [0] 4 [] (by kernel_rfl) (allM (all_cons (q_run (.slice none 0 0) rfl rfl (wv_n rfl) rfl (fun _ _ hρ hm => r_load ag34 (hρ _ _ rfl) (hm.old h0) rfl)) all_nil)) (allM (all_cons ?_ all_nil))
  refine LOb_callN (fun (_ : Option Addr × Nat) => True) (fun (ar4, cr4) => .slice ar4 ((lenB n).length) cr4) (fun (ar4, cr4) => [(2, .row (.slice ar4 ((lenB n).length) cr4) 5 1 ((lenB n).length) ((lenB n).flatMap byc))]) (fun (ar4, cr4) => [(5, .slice ar4 ((lenB n).length) cr4)]) rfl (wv_n rfl) rfl rfl (fun _ _ hρ _ => r_call (args := [.slice none 0 0, .slice (some ⟨z3, 4, none⟩) 4 4]) (enters_of Try.func124 (by kernel_rfl) rfl) (hρ _ _ rfl) ((cons2 (hρ _ _ rfl) (cons2 (hρ _ _ rfl) rfl))) rfl) (fun w hm => (behind_c [] none 0 w (sliceNil w) (by decide) (lenB n) (some ⟨z3, 4, none⟩) 4 (laid_at (hm.at 1 rfl)) (by decide) (by decide) (show 4 ≤ 1000000 by decide)).mono fun e w' ⟨a', cap', he, hb, hr⟩ => ⟨(a', cap'), trivial, he, hb, newOk1 2 hr⟩) (fun (ar4, cr4) => by kernel_rfl) ?_
  rintro ⟨ar4, cr4⟩ -
  refine G_last [5] [(3, .slice ar4 ((lenB n).length) cr4)] (by kernel_rfl) (allM (all_cons (q_run (.slice ar4 ((lenB n).length) cr4) rfl rfl (wv_n rfl) rfl (fun _ _ hρ _ => r_assign (hρ _ _ rfl))) all_nil)) (end_new 5 rfl rfl end_nil) ?_
  refine T_ret' ?_
  refine ret_of rfl (.slice ar4 ((lenB n).length) cr4) (fun tmps w hk hm => res1 rfl (res_tmp (hk 3 _ rfl))) (fun w hm => ?_)
  exact ⟨ar4, cr4, rfl, hm.ext, hm.row 2 rfl⟩

theorem put_c (n : Nat) (hn : n ≤ 65536) (w : World) : Calls Try.prog 111 #[.slice none 0 0, .int .i64 4, .int .u64 ((BitVec.ofNat 64 n).toNat : Int)] w fun e w' => ∃ a' cap', e = .returned (.tuple #[.slice a' (lenB n).length cap', .int .i64 0]) ∧ Below w.heap.size w w' ∧ w'.ownsRow w.heap.size 5 1 (.slice a' (lenB n).length cap') (lenB n).length ((lenB n).flatMap byc) := by
  refine calls_of_T (l := [.slice none 0 0, .int .i64 4, .int .u64 ((BitVec.ofNat 64 n).toNat : Int)]) 12 Try.func111 rfl rfl rfl ?_
  show T _ _ _ [(0, .slice none 0 0), (1, .int .i64 4), (2, .int .u64 ((BitVec.ofNat 64 n).toNat : Int))] []
  refine T_seq (T_region ?_)
  refine TL_new 1 (.cells #[.slice none 0 0] 34) (fun B => .pointer (some ⟨B, 0, none⟩)) (fun _ _ hρ _ => r_box (hρ _ _ rfl) rfl) rfl rfl rfl (w_n rfl) ?_
  intro B1
  refine TL_new 2 (.cells #[.int .i64 4] 3) (fun B => .pointer (some ⟨B, 0, none⟩)) (fun _ _ hρ _ => r_box (hρ _ _ rfl) rfl) rfl rfl rfl (w_n rfl) ?_
  intro B2
  refine TL_new 3 (.cells #[.int .u64 ((BitVec.ofNat 64 n).toNat : Int)] 25) (fun B => .pointer (some ⟨B, 0, none⟩)) (fun _ _ hρ _ => r_box (hρ _ _ rfl) rfl) rfl rfl rfl (w_n rfl) ?_
  intro B3
  refine TL_q (.slice none 0 0) (fun _ _ hρ _ => r_assign (hρ _ _ rfl)) rfl rfl rfl (w_n rfl) ?_
  refine TL_q (.int .i64 0) (fun _ _ hρ _ => r_assign (hρ _ _ rfl)) rfl rfl rfl (w_n rfl) ?_
  refine TL_seq ?_
  refine T_seq (T_region ?_)
  refine TL_q (.func (.func 123) #[] #[.pointer (some ⟨B1, 0, none⟩), .pointer (some ⟨B2, 0, none⟩), .pointer (some ⟨B3, 0, none⟩)]) (fun _ _ hρ _ => r_makeFunc (by simp) (map_arr (cons2 (hρ _ _ rfl) (cons2 (hρ _ _ rfl) (cons2 (hρ _ _ rfl) rfl))))) rfl rfl rfl (w_n rfl) ?_
  refine TL_callN (fun (_ : Option Addr × Nat) => True) (fun (ar4, cr4) => .tuple #[.slice ar4 ((lenB n).length) cr4, .int .i64 0]) (fun (ar4, cr4) => [(4, .row (.slice ar4 ((lenB n).length) cr4) 5 1 ((lenB n).length) ((lenB n).flatMap byc))]) (fun _ _ hρ _ => r_call (args := [.func (.func 123) #[] #[.pointer (some ⟨B1, 0, none⟩), .pointer (some ⟨B2, 0, none⟩), .pointer (some ⟨B3, 0, none⟩)]]) (enters_of Try.func122 (by kernel_rfl) rfl) (hρ _ _ rfl) ((cons2 (hρ _ _ rfl) rfl)) rfl) (fun w hm => (trPW_ok 123 #[.pointer (some ⟨B1, 0, none⟩), .pointer (some ⟨B2, 0, none⟩), .pointer (some ⟨B3, 0, none⟩)] (fun (_ : Option Addr × Nat) => True) (fun z => z.1) (fun _ => (lenB n).length) (fun z => z.2) (fun z => [(1, .row (.slice z.1 (lenB n).length z.2) 5 1 (lenB n).length ((lenB n).flatMap byc))]) w (enters_of Try.func123 (by kernel_rfl) rfl) (fun _ => rfl) (fun _ => rfl) (fun w2 hb2 => (put1_c B1 B2 B3 n hn w2 (kept hb2 (hm.at 1 rfl)) (kept hb2 (hm.at 2 rfl)) (kept hb2 (hm.at 3 rfl))).mono fun e w' ⟨a', cap', he, hb, hr⟩ => ⟨(a', cap'), trivial, he, hb, newOk1 1 hr⟩)).mono fun e w' ⟨z, _, he, hb, hn⟩ => ⟨z, trivial, he, hb, newOk_at 4 hn⟩) rfl rfl rfl (w_n rfl) ?_
  rintro ⟨ar4, cr4⟩ -
  refine TL_q (.slice ar4 ((lenB n).length) cr4) (fun _ _ hρ _ => r_extract (hρ _ _ rfl) rfl) rfl rfl rfl (w_n rfl) ?_
  refine TL_q (.int .i64 0) (fun _ _ hρ _ => r_extract (hρ _ _ rfl) rfl) rfl rfl rfl (w_n rfl) ?_
  refine TL_q (.slice ar4 ((lenB n).length) cr4) (fun _ _ hρ _ => r_assign (hρ _ _ rfl)) rfl rfl rfl (w_n rfl) ?_
  refine TL_q (.int .i64 0) (fun _ _ hρ _ => r_assign (hρ _ _ rfl)) rfl rfl rfl (w_n rfl) ?_
  refine TL_seq ?_
  refine T_ret' ?_
  refine ret_of rfl (.tuple #[.slice ar4 ((lenB n).length) cr4, .int .i64 0]) (fun tmps w hk hm => res2 rfl (res_tmp (hk 6 _ rfl)) (res_tmp (hk 7 _ rfl))) (fun w hm => ?_)
  exact ⟨ar4, cr4, rfl, hm.ext, hm.row 4 rfl⟩
end Go.Proofs.Ytcidgbjgeegepaa
/- net and journal: records. Printed by a program of this seat's prover. -/
namespace Go.Proofs.Ytcidgbjgeegepaa
open Go Go.RowKit
set_option maxRecDepth 10000
/-- Rows' bytes lie in memory. -/
def RowsIn (w : World) (l : List (RowG By)) : Prop := ∀ r ∈ l, SliceAt w r.a r.cap 1 byc r.l ∧ r.cap ≤ Go.maxLen
theorem RowsIn.keep {w w' : World} {l : List (RowG By)} (h : RowsIn w l) (hb : Below w.heap.size w w') : RowsIn w' l := fun r hr => ⟨(h r hr).1.keep hb, (h r hr).2⟩
abbrev rls (l : List (RowG By)) : List (List By) := l.map RowG.l

theorem need_ok_jrn (x : Int) (w : World) : Calls Try.prog 84 #[.bool true, .int .i64 x] w fun e w' => e = .returned (.tuple #[]) ∧ Below w.heap.size w w' := by
  refine calls_of_T (l := [.bool true, .int .i64 x]) 8 Try.func84 rfl rfl rfl ?_
  show T _ _ _ [(0, .bool true), (1, .int .i64 x)] []
  refine T_seq (T_region ?_)
  refine TL_q (.bool true) (fun _ _ hρ _ => r_move (hρ _ _ rfl)) rfl rfl rfl (w_n rfl) ?_
  refine TL_q (.bool false) (fun _ _ hρ _ => r_not (b := true) (hρ _ _ rfl)) rfl rfl rfl (w_n rfl) ?_
  refine TL_seq ?_
  refine T_cond_f rfl ?_
  refine T_skip' ?_
  refine p_end ?_
  refine ret_of rfl (.tuple #[]) (fun tmps w hk hm => results_none rfl _ _ _) (fun w hm => ?_)
  exact ⟨rfl, hm.ext⟩

theorem need_no_jrn (x : Int) (w : World) : Calls Try.prog 84 #[.bool false, .int .i64 x] w fun e w' => e = .panicked [{ v := .iface 28 (.int .i64 x), recovered := false }] ∧ Below w.heap.size w w' := by
  refine calls_of_T (l := [.bool false, .int .i64 x]) 8 Try.func84 rfl rfl rfl ?_
  show T _ _ _ [(0, .bool false), (1, .int .i64 x)] []
  refine T_seq (T_region ?_)
  refine TL_q (.bool false) (fun _ _ hρ _ => r_move (hρ _ _ rfl)) rfl rfl rfl (w_n rfl) ?_
  refine TL_q (.bool true) (fun _ _ hρ _ => r_not (b := false) (hρ _ _ rfl)) rfl rfl rfl (w_n rfl) ?_
  refine TL_seq ?_
  refine T_cond_t rfl ?_
  refine T_region ?_
  refine TL_q (.int .i64 x) (fun _ _ hρ _ => r_move (hρ _ _ rfl)) rfl rfl rfl (w_n rfl) ?_
  refine TL_q (.iface 28 (.int .i64 x)) (fun _ _ hρ _ => r_makeIface (by kernel_rfl) (hρ _ _ rfl)) rfl rfl rfl (w_n rfl) ?_
  refine TL_panic (fun _ _ hρ _ => r_panic (hρ _ _ rfl)) rfl (w_n rfl) ?_
  refine p_pan rfl (fun w hm => ?_)
  exact ⟨rfl, hm.ext⟩

theorem trJ_idle (w₀ : World) (L : Heap) (A B : Nat) : ∀ w, MemOk w₀ L w → CallsD Try.prog 110 #[.pointer (some ⟨A, 0, none⟩), .pointer (some ⟨B, 0, none⟩)] .returning w fun e u' w' => u' = .returning ∧ (e = .returned (.tuple #[]) ∧ MemOk w₀ L w') := by
  refine dS_of_T (l := [.pointer (some ⟨A, 0, none⟩), .pointer (some ⟨B, 0, none⟩)]) (L := L) (v := .nilIface) 19 (.inl ⟨rfl, rfl, rfl⟩) Try.func110 rfl rfl rfl rfl rfl (fun _ _ => rfl) rfl rfl (fun _ _ => rfl) rfl rfl ?_
  show T _ _ _ [(2, .nilIface), (6, .nilIface), (0, .pointer (some ⟨A, 0, none⟩)), (1, .pointer (some ⟨B, 0, none⟩))] L
  refine T_seq (T_region ?_)
  refine TL_q (.nilIface) (fun _ _ hρ _ => r_move (hρ _ _ rfl)) rfl rfl rfl (w_n rfl) ?_
  refine TL_q (.bool false) (fun _ w hρ _ => r_eqI (by rfl) (hρ _ _ rfl) (hρ _ _ rfl) (run_neq_nil_nil w 20 (by kernel_rfl))) rfl rfl rfl (w_n rfl) ?_
  refine TL_seq ?_
  refine T_cond_f rfl ?_
  refine T_skip' ?_
  refine p_endP ?_
  refine ret_ofP rfl (.tuple #[]) (fun tmps w hk hm => results_none rfl _ _ _) (fun w hm => ?_)
  exact ⟨rfl, hm⟩

theorem trJ_rec (w₀ : World) (L : Heap) (A B : Nat) (x : Int) (hA : lk L 1900 = some (.blk A (.cells #[.slice none 0 0] 34))) (hB : lk L 1901 = some (.blk B (.cells #[.int .i64 0] 28))) : ∀ w, MemOk w₀ L w → CallsD Try.prog 110 #[.pointer (some ⟨A, 0, none⟩), .pointer (some ⟨B, 0, none⟩)] (.panicking [{ v := .iface 28 (.int .i64 x), recovered := false }]) w fun e u' w' => u' = .panicking [{ v := .iface 28 (.int .i64 x), recovered := true }] ∧ (e = .returned (.tuple #[]) ∧ MemOk w₀ ([(1901, .blk B (.cells #[.int .i64 x] 28)), (1900, .blk A (.cells #[.slice none 0 0] 34))] ++ L) w') := by
  refine dS_of_T (l := [.pointer (some ⟨A, 0, none⟩), .pointer (some ⟨B, 0, none⟩)]) (L := L) (v := .iface 28 (.int .i64 x)) 19 (.inr ⟨rfl, rfl⟩) Try.func110 rfl rfl rfl rfl rfl (fun _ _ => rfl) rfl rfl (fun _ _ => rfl) rfl rfl ?_
  refine T_mem ((1901, .blk B (.cells #[.int .i64 0] 28)) :: (1900, .blk A (.cells #[.slice none 0 0] 34)) :: L) (fun _ hm => hm.of (lk_dup2 hB hA)) ?_
  show T _ _ _ [(2, .iface 28 (.int .i64 x)), (6, .iface 28 (.int .i64 x)), (0, .pointer (some ⟨A, 0, none⟩)), (1, .pointer (some ⟨B, 0, none⟩))] ((1901, .blk B (.cells #[.int .i64 0] 28)) :: (1900, .blk A (.cells #[.slice none 0 0] 34)) :: L)
  refine T_seq (T_region ?_)
  refine TL_q (.iface 28 (.int .i64 x)) (fun _ _ hρ _ => r_move (hρ _ _ rfl)) rfl rfl rfl (w_n rfl) ?_
  refine TL_q (.bool true) (fun _ w hρ _ => r_eqI (by rfl) (hρ _ _ rfl) (hρ _ _ rfl) (run_neq_held_nil w 20 _ _ (by kernel_rfl))) rfl rfl rfl (w_n rfl) ?_
  refine TL_seq ?_
  refine T_cond_t rfl ?_
  refine T_seq (T_region ?_)
  refine TL_q (.iface 28 (.int .i64 x)) (fun _ _ hρ _ => r_move (hρ _ _ rfl)) rfl rfl rfl (w_n rfl) ?_
  refine TL_q (.tuple #[.int .i64 x, .bool true]) (fun _ _ hρ _ => r_typeAssert (hρ _ _ rfl) (by kernel_rfl)) rfl rfl rfl (w_n rfl) ?_
  refine TL_q (.tuple #[.int .i64 x, .bool true]) (fun _ _ hρ _ => r_move (hρ _ _ rfl)) rfl rfl rfl (w_n rfl) ?_
  refine TL_q (.int .i64 x) (fun _ _ hρ _ => r_extract (hρ _ _ rfl) rfl) rfl rfl rfl (w_n rfl) ?_
  refine TL_q (.bool true) (fun _ _ hρ _ => r_extract (hρ _ _ rfl) rfl) rfl rfl rfl (w_n rfl) ?_
  refine TL_q (.int .i64 x) (fun _ _ hρ _ => r_assign (hρ _ _ rfl)) rfl rfl rfl (w_n rfl) ?_
  refine TL_q (.bool true) (fun _ _ hρ _ => r_assign (hρ _ _ rfl)) rfl rfl rfl (w_n rfl) ?_
  refine TL_seq ?_
  refine T_seq ?_
  refine T_seq (T_region ?_)
  refine TL_q (.bool true) (fun _ _ hρ _ => r_move (hρ _ _ rfl)) rfl rfl rfl (w_n rfl) ?_
  refine TL_q (.bool false) (fun _ _ hρ _ => r_not (b := true) (hρ _ _ rfl)) rfl rfl rfl (w_n rfl) ?_
  refine TL_seq ?_
  refine T_cond_f rfl ?_
  refine T_skip' ?_
  refine p_seq ?_
  refine T_seq (T_region ?_)
  refine TL_q (.slice none 0 0) (fun _ _ hρ _ => r_assign (hρ _ _ rfl)) rfl rfl rfl (w_n rfl) ?_
  refine TL_seq ?_
  refine T_region ?_
  refine TL_q (.slice none 0 0) (fun _ _ hρ _ => r_move (hρ _ _ rfl)) rfl rfl rfl (w_n rfl) ?_
  refine TL_q (.int .i64 x) (fun _ _ hρ _ => r_move (hρ _ _ rfl)) rfl rfl rfl (w_n rfl) ?_
  refine TL_store 1900 (.cells #[.slice none 0 0] 34) rfl (fun _ _ hρ hm => r_store sz34 (hρ _ _ rfl) (hρ _ _ rfl) (hm.at 1900 rfl) rfl rfl rfl rfl) rfl rfl (w_n rfl) ?_
  refine TL_store 1901 (.cells #[.int .i64 x] 28) rfl (fun _ _ hρ hm => r_store sz28 (hρ _ _ rfl) (hρ _ _ rfl) (hm.at 1901 rfl) rfl rfl rfl rfl) rfl rfl (w_n rfl) ?_
  refine TL_nil ?_
  refine p_endP ?_
  refine ret_ofP rfl (.tuple #[]) (fun tmps w hk hm => results_none rfl _ _ _) (fun w hm => ?_)
  exact ⟨rfl, hm.of (lk_mid (L := L) [(1901, .blk B (.cells #[.int .i64 x] 28)), (1900, .blk A (.cells #[.slice none 0 0] 34))] [(1901, .blk B (.cells #[.int .i64 0] 28)), (1900, .blk A (.cells #[.slice none 0 0] 34))] rfl)⟩

theorem trJ_ok {w₀ : World} {L : Heap} (g : Nat) (cap : Array Value) {ι : Type} (p : ι → Prop) (va0 : ι → Option Addr) (vn0 : ι → Nat) (vc0 : ι → Nat) (N : ι → Heap) (hE : Enters Try.prog g) (h1901 : lk L 1901 = none) (h1900 : lk L 1900 = none) (hN1901 : ∀ x, lk (N x) 1901 = none) (hN1900 : ∀ x, lk (N x) 1900 = none) (H : ∀ A B w, MemOk w₀ ((1901, .blk B (.cells #[.int .i64 0] 28)) :: (1900, .blk A (.cells #[.slice none 0 0] 34)) :: L) w → Calls Try.prog g cap w (HAns w₀ p (fun x => .slice (va0 x) (vn0 x) (vc0 x)) (fun x => N x ++ ((1901, .blk B (.cells #[.int .i64 0] 28)) :: (1900, .blk A (.cells #[.slice none 0 0] 34)) :: L)))) : ∀ w, MemOk w₀ L w → Calls Try.prog 76 #[.func (.func g) #[] cap] w (HAns w₀ p (fun x => .tuple #[.slice (va0 x) (vn0 x) (vc0 x), .int .i64 0]) (fun x => N x ++ L)) := by
  refine ht_of_TD (l := [.func (.func g) #[] cap]) (L := L) 7 Try.func76 rfl rfl rfl ?_
  show T _ _ _ [(0, .func (.func g) #[] cap)] L
  refine T_seq (T_region ?_)
  refine TL_new 1900 (.cells #[.slice none 0 0] 34) (fun B => .pointer (some ⟨B, 0, none⟩)) (fun _ _ _ _ => r_alloc (v := .slice none 0 0) (by kernel_rfl) rfl) rfl rfl rfl (w_n rfl) ?_
  intro B1
  refine TL_new 1901 (.cells #[.int .i64 0] 28) (fun B => .pointer (some ⟨B, 0, none⟩)) (fun _ _ _ _ => r_alloc (v := .int .i64 0) (by kernel_rfl) rfl) rfl rfl rfl (w_n rfl) ?_
  intro B2
  refine TL_seq ?_
  refine T_seq (T_region ?_)
  refine TL_q (.func (.func 110) #[] #[.pointer (some ⟨B1, 0, none⟩), .pointer (some ⟨B2, 0, none⟩)]) (fun _ _ hρ _ => r_makeFunc (by simp) (map_arr (cons2 (hρ _ _ rfl) (cons2 (hρ _ _ rfl) rfl)))) rfl rfl rfl (w_n rfl) ?_
  refine TL_defer ({ target := .fn (.func 110) #[.pointer (some ⟨B1, 0, none⟩), .pointer (some ⟨B2, 0, none⟩)], args := #[] }) rfl (fun _ _ hρ _ => r_defer (args := []) (hρ _ _ rfl) (by rfl) rfl) rfl (w_n rfl) ?_
  refine TL_seq ?_
  refine T_seq (T_region ?_)
  refine TL_q (.func (.func g) #[] cap) (fun _ _ hρ _ => r_move (hρ _ _ rfl)) rfl rfl rfl (w_n rfl) ?_
  refine TL_callH _ _ _ (fun _ _ hρ _ => r_call (args := []) hE (hρ _ _ rfl) (by rfl) (by simp)) (fun w hm => H B1 B2 w hm) rfl rfl rfl (w_n rfl) ?_
  intro x hx
  refine TL_mem ([(1901, .blk B2 (.cells #[.int .i64 0] 28)), (1900, .blk B1 (.cells #[.slice none 0 0] 34))] ++ (N x ++ L)) (fun _ hm => hm.of (lk_front (L := L) [(1901, .blk B2 (.cells #[.int .i64 0] 28)), (1900, .blk B1 (.cells #[.slice none 0 0] 34))] (by simp [hN1901, hN1900]))) ?_
  refine TL_store 1900 (.cells #[.slice (va0 x) (vn0 x) (vc0 x)] 34) rfl (fun _ _ hρ hm => r_store sz34 (hρ _ _ rfl) (hρ _ _ rfl) (hm.at 1900 rfl) rfl rfl rfl rfl) rfl rfl (w_n rfl) ?_
  refine TL_store 1901 (.cells #[.int .i64 0] 28) rfl (fun _ _ hρ hm => r_store sz28 (hρ _ _ rfl) (hρ _ _ rfl) (hm.at 1901 rfl) rfl rfl rfl rfl) rfl rfl (w_n rfl) ?_
  refine TL_seq ?_
  refine T_ret' ?_
  refine ret_ofD [{ target := .fn (.func 110) #[.pointer (some ⟨B1, 0, none⟩), .pointer (some ⟨B2, 0, none⟩)], args := #[] }] rfl (fun tmps hk => ?_)
  refine leavesH_cons (enters_of Try.func110 (by kernel_rfl) rfl) (fun w hm => trJ_idle _ _ B1 B2 w hm) ?_
  refine leavesH_nil (.tuple #[.slice (va0 x) (vn0 x) (vc0 x), .int .i64 0]) (fun _ hm => res2 rfl (res_cell (hk 2 _ rfl) (run_loadVar_one ag34 (hm.at 1900 rfl) rfl)) (res_cell (hk 3 _ rfl) (run_loadVar_one ag28 (hm.at 1901 rfl) rfl))) (fun w hm => ?_)
  have e1901 := lk_app_none (hN1901 x) h1901
  have e1900 := lk_app_none (hN1900 x) h1900
  exact ⟨x, hx, rfl, hm.of (lk_drop (L := N x ++ L) [(1901, .blk B2 (.cells #[.int .i64 0] 28)), (1900, .blk B1 (.cells #[.slice (va0 x) (vn0 x) (vc0 x)] 34)), (1901, .blk B2 (.cells #[.int .i64 0] 28)), (1900, .blk B1 (.cells #[.slice none 0 0] 34))] (by simp [e1901, e1900]))⟩

theorem trJ_no {w₀ : World} {L : Heap} (g : Nat) (cap : Array Value) {ι : Type} (p : ι → Prop) (er : ι → Int) (N : ι → Heap) (hE : Enters Try.prog g) (h1901 : lk L 1901 = none) (h1900 : lk L 1900 = none) (hN1901 : ∀ x, lk (N x) 1901 = none) (hN1900 : ∀ x, lk (N x) 1900 = none) (H : ∀ A B w, MemOk w₀ ((1901, .blk B (.cells #[.int .i64 0] 28)) :: (1900, .blk A (.cells #[.slice none 0 0] 34)) :: L) w → Calls Try.prog g cap w (PAns w₀ p (fun x => .iface 28 (.int .i64 (er x))) (fun x => N x ++ ((1901, .blk B (.cells #[.int .i64 0] 28)) :: (1900, .blk A (.cells #[.slice none 0 0] 34)) :: L)))) : ∀ w, MemOk w₀ L w → Calls Try.prog 76 #[.func (.func g) #[] cap] w (HAns w₀ p (fun x => .tuple #[.slice none 0 0, .int .i64 (er x)]) (fun x => N x ++ L)) := by
  refine ht_of_TD (l := [.func (.func g) #[] cap]) (L := L) 7 Try.func76 rfl rfl rfl ?_
  show T _ _ _ [(0, .func (.func g) #[] cap)] L
  refine T_seq (T_region ?_)
  refine TL_new 1900 (.cells #[.slice none 0 0] 34) (fun B => .pointer (some ⟨B, 0, none⟩)) (fun _ _ _ _ => r_alloc (v := .slice none 0 0) (by kernel_rfl) rfl) rfl rfl rfl (w_n rfl) ?_
  intro B1
  refine TL_new 1901 (.cells #[.int .i64 0] 28) (fun B => .pointer (some ⟨B, 0, none⟩)) (fun _ _ _ _ => r_alloc (v := .int .i64 0) (by kernel_rfl) rfl) rfl rfl rfl (w_n rfl) ?_
  intro B2
  refine TL_seq ?_
  refine T_seq (T_region ?_)
  refine TL_q (.func (.func 110) #[] #[.pointer (some ⟨B1, 0, none⟩), .pointer (some ⟨B2, 0, none⟩)]) (fun _ _ hρ _ => r_makeFunc (by simp) (map_arr (cons2 (hρ _ _ rfl) (cons2 (hρ _ _ rfl) rfl)))) rfl rfl rfl (w_n rfl) ?_
  refine TL_defer ({ target := .fn (.func 110) #[.pointer (some ⟨B1, 0, none⟩), .pointer (some ⟨B2, 0, none⟩)], args := #[] }) rfl (fun _ _ hρ _ => r_defer (args := []) (hρ _ _ rfl) (by rfl) rfl) rfl (w_n rfl) ?_
  refine TL_seq ?_
  refine T_seq (T_region ?_)
  refine TL_q (.func (.func g) #[] cap) (fun _ _ hρ _ => r_move (hρ _ _ rfl)) rfl rfl rfl (w_n rfl) ?_
  refine TL_callP _ _ _ (fun _ _ hρ _ => r_call (args := []) hE (hρ _ _ rfl) (by rfl) (by simp)) (fun w hm => H B1 B2 w hm) rfl (w_n rfl) ?_
  intro x hx
  refine p_mem ([(1901, .blk B2 (.cells #[.int .i64 0] 28)), (1900, .blk B1 (.cells #[.slice none 0 0] 34))] ++ (N x ++ L)) (fun _ hm => hm.of (lk_front (L := L) [(1901, .blk B2 (.cells #[.int .i64 0] 28)), (1900, .blk B1 (.cells #[.slice none 0 0] 34))] (by simp [hN1901, hN1900]))) ?_
  refine p_then_p ?_
  refine p_panD [{ target := .fn (.func 110) #[.pointer (some ⟨B1, 0, none⟩), .pointer (some ⟨B2, 0, none⟩)], args := #[] }] rfl (fun tmps hk => ?_)
  refine leavesP_cons (L' := [(1901, .blk B2 (.cells #[.int .i64 (er x)] 28)), (1900, .blk B1 (.cells #[.slice none 0 0] 34))] ++ (N x ++ L)) (enters_of Try.func110 (by kernel_rfl) rfl) (fun w hm => ((trJ_rec _ ([(1901, .blk B2 (.cells #[.int .i64 0] 28)), (1900, .blk B1 (.cells #[.slice none 0 0] 34))] ++ (N x ++ L)) B1 B2 _ rfl rfl w hm).mono fun e u' w' h => ⟨h.1, h.2.1, h.2.2.of (lk_mid (L := N x ++ L) [(1901, .blk B2 (.cells #[.int .i64 (er x)] 28)), (1900, .blk B1 (.cells #[.slice none 0 0] 34))] [(1901, .blk B2 (.cells #[.int .i64 0] 28)), (1900, .blk B1 (.cells #[.slice none 0 0] 34))] rfl)⟩)) ?_
  refine leavesH_nil (.tuple #[.slice none 0 0, .int .i64 (er x)]) (fun _ hm => res2 rfl (res_cell (hk 2 _ rfl) (run_loadVar_one ag34 (hm.at 1900 rfl) rfl)) (res_cell (hk 3 _ rfl) (run_loadVar_one ag28 (hm.at 1901 rfl) rfl))) (fun w hm => ?_)
  have e1901 := lk_app_none (hN1901 x) h1901
  have e1900 := lk_app_none (hN1900 x) h1900
  exact ⟨x, hx, rfl, hm.of (lk_drop (L := N x ++ L) [(1901, .blk B2 (.cells #[.int .i64 (er x)] 28)), (1900, .blk B1 (.cells #[.slice none 0 0] 34))] (by simp [e1901, e1900]))⟩

theorem trJW_ok (g : Nat) (cap : Array Value) {ι : Type} (p : ι → Prop) (va0 : ι → Option Addr) (vn0 : ι → Nat) (vc0 : ι → Nat) (N : ι → Heap) (w : World) (hE : Enters Try.prog g) (hN1901 : ∀ x, lk (N x) 1901 = none) (hN1900 : ∀ x, lk (N x) 1900 = none) (H : ∀ w2, Below w.heap.size w w2 → Calls Try.prog g cap w2 (Ans p (fun x => .slice (va0 x) (vn0 x) (vc0 x)) N w2)) : Calls Try.prog 76 #[.func (.func g) #[] cap] w (Ans p (fun x => .tuple #[.slice (va0 x) (vn0 x) (vc0 x), .int .i64 0]) N w) := by
  refine (trJ_ok (L := []) (w₀ := w) g cap p va0 vn0 vc0 N hE rfl rfl hN1901 hN1900 (fun A B w2 hm => (H w2 hm.ext).mono ?_) w (MemOk.nil w)).mono ?_
  · rintro e w' ⟨x, hx, he, hb, hn⟩
    exact ⟨x, hx, he, hm.news hb hn⟩
  · rintro e w' ⟨x, hx, he, hm⟩
    simp only [List.append_nil] at hm
    exact ⟨x, hx, he, hm.ext, ⟨fun i r h => hm.own i r h, fun i j r s h1 h2 => hm.sep i j r s h1 h2⟩⟩
theorem trJW_no (g : Nat) (cap : Array Value) (x : Int) (w : World) (hE : Enters Try.prog g) (H : ∀ w2, Below w.heap.size w w2 → Calls Try.prog g cap w2 fun e w' => e = .panicked [{ v := .iface 28 (.int .i64 x), recovered := false }] ∧ Below w2.heap.size w2 w') : Calls Try.prog 76 #[.func (.func g) #[] cap] w fun e w' => e = .returned (.tuple #[.slice none 0 0, .int .i64 x]) ∧ Below w.heap.size w w' :=
  (trJ_no (ι := Unit) (L := []) (w₀ := w) g cap (fun _ => True) (fun _ => x) (fun _ => []) hE rfl rfl (fun _ => rfl) (fun _ => rfl) (fun A B w2 hm => (H w2 hm.ext).mono fun e w' h => ⟨(), trivial, h.1, hm.below h.2⟩) w (MemOk.nil w)).mono fun e w' ⟨_, _, he, hm⟩ => ⟨he, hm.ext⟩

theorem trF_idle (w₀ : World) (L : Heap) (A B : Nat) : ∀ w, MemOk w₀ L w → CallsD Try.prog 116 #[.pointer (some ⟨A, 0, none⟩), .pointer (some ⟨B, 0, none⟩)] .returning w fun e u' w' => u' = .returning ∧ (e = .returned (.tuple #[]) ∧ MemOk w₀ L w') := by
  refine dS_of_T (l := [.pointer (some ⟨A, 0, none⟩), .pointer (some ⟨B, 0, none⟩)]) (L := L) (v := .nilIface) 19 (.inl ⟨rfl, rfl, rfl⟩) Try.func116 rfl rfl rfl rfl rfl (fun _ _ => rfl) rfl rfl (fun _ _ => rfl) rfl rfl ?_
  show T _ _ _ [(2, .nilIface), (6, .nilIface), (0, .pointer (some ⟨A, 0, none⟩)), (1, .pointer (some ⟨B, 0, none⟩))] L
  refine T_seq (T_region ?_)
  refine TL_q (.nilIface) (fun _ _ hρ _ => r_move (hρ _ _ rfl)) rfl rfl rfl (w_n rfl) ?_
  refine TL_q (.bool false) (fun _ w hρ _ => r_eqI (by rfl) (hρ _ _ rfl) (hρ _ _ rfl) (run_neq_nil_nil w 20 (by kernel_rfl))) rfl rfl rfl (w_n rfl) ?_
  refine TL_seq ?_
  refine T_cond_f rfl ?_
  refine T_skip' ?_
  refine p_endP ?_
  refine ret_ofP rfl (.tuple #[]) (fun tmps w hk hm => results_none rfl _ _ _) (fun w hm => ?_)
  exact ⟨rfl, hm⟩

theorem trF_rec (w₀ : World) (L : Heap) (A B : Nat) (x : Int) (hX : lk L 1902 = none) (hA : lk L 1900 = some (.blk A (.cells #[.slice none 0 0, .int .i64 0] 121))) (hB : lk L 1901 = some (.blk B (.cells #[.int .i64 0] 28))) : ∀ w, MemOk w₀ L w → CallsD Try.prog 116 #[.pointer (some ⟨A, 0, none⟩), .pointer (some ⟨B, 0, none⟩)] (.panicking [{ v := .iface 28 (.int .i64 x), recovered := false }]) w fun e u' w' => u' = .panicking [{ v := .iface 28 (.int .i64 x), recovered := true }] ∧ (e = .returned (.tuple #[]) ∧ MemOk w₀ ([(1901, .blk B (.cells #[.int .i64 x] 28)), (1900, .blk A (.cells #[.slice none 0 0, .int .i64 0] 121))] ++ L) w') := by
  refine dS_of_T (l := [.pointer (some ⟨A, 0, none⟩), .pointer (some ⟨B, 0, none⟩)]) (L := L) (v := .iface 28 (.int .i64 x)) 19 (.inr ⟨rfl, rfl⟩) Try.func116 rfl rfl rfl rfl rfl (fun _ _ => rfl) rfl rfl (fun _ _ => rfl) rfl rfl ?_
  refine T_mem ((1901, .blk B (.cells #[.int .i64 0] 28)) :: (1900, .blk A (.cells #[.slice none 0 0, .int .i64 0] 121)) :: L) (fun _ hm => hm.of (lk_dup2 hB hA)) ?_
  show T _ _ _ [(2, .iface 28 (.int .i64 x)), (6, .iface 28 (.int .i64 x)), (0, .pointer (some ⟨A, 0, none⟩)), (1, .pointer (some ⟨B, 0, none⟩))] ((1901, .blk B (.cells #[.int .i64 0] 28)) :: (1900, .blk A (.cells #[.slice none 0 0, .int .i64 0] 121)) :: L)
  refine T_seq (T_region ?_)
  refine TL_q (.iface 28 (.int .i64 x)) (fun _ _ hρ _ => r_move (hρ _ _ rfl)) rfl rfl rfl (w_n rfl) ?_
  refine TL_q (.bool true) (fun _ w hρ _ => r_eqI (by rfl) (hρ _ _ rfl) (hρ _ _ rfl) (run_neq_held_nil w 20 _ _ (by kernel_rfl))) rfl rfl rfl (w_n rfl) ?_
  refine TL_seq ?_
  refine T_cond_t rfl ?_
  refine T_seq (T_region ?_)
  refine TL_q (.iface 28 (.int .i64 x)) (fun _ _ hρ _ => r_move (hρ _ _ rfl)) rfl rfl rfl (w_n rfl) ?_
  refine TL_q (.tuple #[.int .i64 x, .bool true]) (fun _ _ hρ _ => r_typeAssert (hρ _ _ rfl) (by kernel_rfl)) rfl rfl rfl (w_n rfl) ?_
  refine TL_q (.tuple #[.int .i64 x, .bool true]) (fun _ _ hρ _ => r_move (hρ _ _ rfl)) rfl rfl rfl (w_n rfl) ?_
  refine TL_q (.int .i64 x) (fun _ _ hρ _ => r_extract (hρ _ _ rfl) rfl) rfl rfl rfl (w_n rfl) ?_
  refine TL_q (.bool true) (fun _ _ hρ _ => r_extract (hρ _ _ rfl) rfl) rfl rfl rfl (w_n rfl) ?_
  refine TL_q (.int .i64 x) (fun _ _ hρ _ => r_assign (hρ _ _ rfl)) rfl rfl rfl (w_n rfl) ?_
  refine TL_q (.bool true) (fun _ _ hρ _ => r_assign (hρ _ _ rfl)) rfl rfl rfl (w_n rfl) ?_
  refine TL_seq ?_
  refine T_seq ?_
  refine T_seq (T_region ?_)
  refine TL_q (.bool true) (fun _ _ hρ _ => r_move (hρ _ _ rfl)) rfl rfl rfl (w_n rfl) ?_
  refine TL_q (.bool false) (fun _ _ hρ _ => r_not (b := true) (hρ _ _ rfl)) rfl rfl rfl (w_n rfl) ?_
  refine TL_seq ?_
  refine T_cond_f rfl ?_
  refine T_skip' ?_
  refine p_seq ?_
  refine T_seq (T_region ?_)
  refine TL_new 1902 (.cells #[.slice none 0 0, .int .i64 0] 121) (fun B => .pointer (some ⟨B, 0, none⟩)) (fun _ _ _ _ => r_alloc (v := .agg #[.slice none 0 0, .int .i64 0]) (by kernel_rfl) rfl) rfl rfl rfl (w_n rfl) ?_
  intro B1
  refine TL_seq ?_
  refine T_region ?_
  refine TL_q (.agg #[.slice none 0 0, .int .i64 0]) (fun _ _ hρ hm => r_loadA ag121 sz121 (hρ _ _ rfl) (hm.at 1902 rfl) rfl rfl) rfl rfl rfl (w_n rfl) ?_
  refine TL_q (.int .i64 x) (fun _ _ hρ _ => r_move (hρ _ _ rfl)) rfl rfl rfl (w_n rfl) ?_
  refine TL_store 1900 (.cells #[.slice none 0 0, .int .i64 0] 121) rfl (fun _ _ hρ hm => r_store sz121 (hρ _ _ rfl) (hρ _ _ rfl) (hm.at 1900 rfl) rfl rfl rfl rfl) rfl rfl (w_n rfl) ?_
  refine TL_store 1901 (.cells #[.int .i64 x] 28) rfl (fun _ _ hρ hm => r_store sz28 (hρ _ _ rfl) (hρ _ _ rfl) (hm.at 1901 rfl) rfl rfl rfl rfl) rfl rfl (w_n rfl) ?_
  refine TL_nil ?_
  refine p_endP ?_
  refine ret_ofP rfl (.tuple #[]) (fun tmps w hk hm => results_none rfl _ _ _) (fun w hm => ?_)
  exact ⟨rfl, hm.of (lk_mid2 (L := L) [(1901, .blk B (.cells #[.int .i64 x] 28)), (1900, .blk A (.cells #[.slice none 0 0, .int .i64 0] 121))] (1902, .blk B1 (.cells #[.slice none 0 0, .int .i64 0] 121)) [(1901, .blk B (.cells #[.int .i64 0] 28)), (1900, .blk A (.cells #[.slice none 0 0, .int .i64 0] 121))] hX rfl rfl)⟩

theorem trF_ok {w₀ : World} {L : Heap} (g : Nat) (cap : Array Value) {ι : Type} (p : ι → Prop) (va0 : ι → Option Addr) (vn0 : ι → Nat) (vc0 : ι → Nat) (vi1 : ι → Int) (N : ι → Heap) (hE : Enters Try.prog g) (h1901 : lk L 1901 = none) (h1900 : lk L 1900 = none) (hN1901 : ∀ x, lk (N x) 1901 = none) (hN1900 : ∀ x, lk (N x) 1900 = none) (H : ∀ A B w, MemOk w₀ ((1901, .blk B (.cells #[.int .i64 0] 28)) :: (1900, .blk A (.cells #[.slice none 0 0, .int .i64 0] 121)) :: L) w → Calls Try.prog g cap w (HAns w₀ p (fun x => .agg #[.slice (va0 x) (vn0 x) (vc0 x), .int .i64 (vi1 x)]) (fun x => N x ++ ((1901, .blk B (.cells #[.int .i64 0] 28)) :: (1900, .blk A (.cells #[.slice none 0 0, .int .i64 0] 121)) :: L)))) : ∀ w, MemOk w₀ L w → Calls Try.prog 90 #[.func (.func g) #[] cap] w (HAns w₀ p (fun x => .tuple #[.agg #[.slice (va0 x) (vn0 x) (vc0 x), .int .i64 (vi1 x)], .int .i64 0]) (fun x => N x ++ L)) := by
  refine ht_of_TD (l := [.func (.func g) #[] cap]) (L := L) 7 Try.func90 rfl rfl rfl ?_
  show T _ _ _ [(0, .func (.func g) #[] cap)] L
  refine T_seq (T_region ?_)
  refine TL_new 1900 (.cells #[.slice none 0 0, .int .i64 0] 121) (fun B => .pointer (some ⟨B, 0, none⟩)) (fun _ _ _ _ => r_alloc (v := .agg #[.slice none 0 0, .int .i64 0]) (by kernel_rfl) rfl) rfl rfl rfl (w_n rfl) ?_
  intro B1
  refine TL_new 1901 (.cells #[.int .i64 0] 28) (fun B => .pointer (some ⟨B, 0, none⟩)) (fun _ _ _ _ => r_alloc (v := .int .i64 0) (by kernel_rfl) rfl) rfl rfl rfl (w_n rfl) ?_
  intro B2
  refine TL_seq ?_
  refine T_seq (T_region ?_)
  refine TL_q (.func (.func 116) #[] #[.pointer (some ⟨B1, 0, none⟩), .pointer (some ⟨B2, 0, none⟩)]) (fun _ _ hρ _ => r_makeFunc (by simp) (map_arr (cons2 (hρ _ _ rfl) (cons2 (hρ _ _ rfl) rfl)))) rfl rfl rfl (w_n rfl) ?_
  refine TL_defer ({ target := .fn (.func 116) #[.pointer (some ⟨B1, 0, none⟩), .pointer (some ⟨B2, 0, none⟩)], args := #[] }) rfl (fun _ _ hρ _ => r_defer (args := []) (hρ _ _ rfl) (by rfl) rfl) rfl (w_n rfl) ?_
  refine TL_seq ?_
  refine T_seq (T_region ?_)
  refine TL_q (.func (.func g) #[] cap) (fun _ _ hρ _ => r_move (hρ _ _ rfl)) rfl rfl rfl (w_n rfl) ?_
  refine TL_callH _ _ _ (fun _ _ hρ _ => r_call (args := []) hE (hρ _ _ rfl) (by rfl) (by simp)) (fun w hm => H B1 B2 w hm) rfl rfl rfl (w_n rfl) ?_
  intro x hx
  refine TL_mem ([(1901, .blk B2 (.cells #[.int .i64 0] 28)), (1900, .blk B1 (.cells #[.slice none 0 0, .int .i64 0] 121))] ++ (N x ++ L)) (fun _ hm => hm.of (lk_front (L := L) [(1901, .blk B2 (.cells #[.int .i64 0] 28)), (1900, .blk B1 (.cells #[.slice none 0 0, .int .i64 0] 121))] (by simp [hN1901, hN1900]))) ?_
  refine TL_store 1900 (.cells #[.slice (va0 x) (vn0 x) (vc0 x), .int .i64 (vi1 x)] 121) rfl (fun _ _ hρ hm => r_store sz121 (hρ _ _ rfl) (hρ _ _ rfl) (hm.at 1900 rfl) rfl rfl rfl rfl) rfl rfl (w_n rfl) ?_
  refine TL_store 1901 (.cells #[.int .i64 0] 28) rfl (fun _ _ hρ hm => r_store sz28 (hρ _ _ rfl) (hρ _ _ rfl) (hm.at 1901 rfl) rfl rfl rfl rfl) rfl rfl (w_n rfl) ?_
  refine TL_seq ?_
  refine T_ret' ?_
  refine ret_ofD [{ target := .fn (.func 116) #[.pointer (some ⟨B1, 0, none⟩), .pointer (some ⟨B2, 0, none⟩)], args := #[] }] rfl (fun tmps hk => ?_)
  refine leavesH_cons (enters_of Try.func116 (by kernel_rfl) rfl) (fun w hm => trF_idle _ _ B1 B2 w hm) ?_
  refine leavesH_nil (.tuple #[.agg #[.slice (va0 x) (vn0 x) (vc0 x), .int .i64 (vi1 x)], .int .i64 0]) (fun _ hm => res2 rfl (res_cell (hk 2 _ rfl) (run_loadVar_agg ag121 sz121 (hm.at 1900 rfl) (Nat.le_of_ble_eq_true rfl) rfl)) (res_cell (hk 3 _ rfl) (run_loadVar_one ag28 (hm.at 1901 rfl) rfl))) (fun w hm => ?_)
  have e1901 := lk_app_none (hN1901 x) h1901
  have e1900 := lk_app_none (hN1900 x) h1900
  exact ⟨x, hx, rfl, hm.of (lk_drop (L := N x ++ L) [(1901, .blk B2 (.cells #[.int .i64 0] 28)), (1900, .blk B1 (.cells #[.slice (va0 x) (vn0 x) (vc0 x), .int .i64 (vi1 x)] 121)), (1901, .blk B2 (.cells #[.int .i64 0] 28)), (1900, .blk B1 (.cells #[.slice none 0 0, .int .i64 0] 121))] (by simp [e1901, e1900]))⟩

theorem trF_no {w₀ : World} {L : Heap} (g : Nat) (cap : Array Value) {ι : Type} (p : ι → Prop) (er : ι → Int) (N : ι → Heap) (hE : Enters Try.prog g) (h1901 : lk L 1901 = none) (h1900 : lk L 1900 = none) (h1902 : lk L 1902 = none) (hN1901 : ∀ x, lk (N x) 1901 = none) (hN1900 : ∀ x, lk (N x) 1900 = none) (hN1902 : ∀ x, lk (N x) 1902 = none) (H : ∀ A B w, MemOk w₀ ((1901, .blk B (.cells #[.int .i64 0] 28)) :: (1900, .blk A (.cells #[.slice none 0 0, .int .i64 0] 121)) :: L) w → Calls Try.prog g cap w (PAns w₀ p (fun x => .iface 28 (.int .i64 (er x))) (fun x => N x ++ ((1901, .blk B (.cells #[.int .i64 0] 28)) :: (1900, .blk A (.cells #[.slice none 0 0, .int .i64 0] 121)) :: L)))) : ∀ w, MemOk w₀ L w → Calls Try.prog 90 #[.func (.func g) #[] cap] w (HAns w₀ p (fun x => .tuple #[.agg #[.slice none 0 0, .int .i64 0], .int .i64 (er x)]) (fun x => N x ++ L)) := by
  refine ht_of_TD (l := [.func (.func g) #[] cap]) (L := L) 7 Try.func90 rfl rfl rfl ?_
  show T _ _ _ [(0, .func (.func g) #[] cap)] L
  refine T_seq (T_region ?_)
  refine TL_new 1900 (.cells #[.slice none 0 0, .int .i64 0] 121) (fun B => .pointer (some ⟨B, 0, none⟩)) (fun _ _ _ _ => r_alloc (v := .agg #[.slice none 0 0, .int .i64 0]) (by kernel_rfl) rfl) rfl rfl rfl (w_n rfl) ?_
  intro B1
  refine TL_new 1901 (.cells #[.int .i64 0] 28) (fun B => .pointer (some ⟨B, 0, none⟩)) (fun _ _ _ _ => r_alloc (v := .int .i64 0) (by kernel_rfl) rfl) rfl rfl rfl (w_n rfl) ?_
  intro B2
  refine TL_seq ?_
  refine T_seq (T_region ?_)
  refine TL_q (.func (.func 116) #[] #[.pointer (some ⟨B1, 0, none⟩), .pointer (some ⟨B2, 0, none⟩)]) (fun _ _ hρ _ => r_makeFunc (by simp) (map_arr (cons2 (hρ _ _ rfl) (cons2 (hρ _ _ rfl) rfl)))) rfl rfl rfl (w_n rfl) ?_
  refine TL_defer ({ target := .fn (.func 116) #[.pointer (some ⟨B1, 0, none⟩), .pointer (some ⟨B2, 0, none⟩)], args := #[] }) rfl (fun _ _ hρ _ => r_defer (args := []) (hρ _ _ rfl) (by rfl) rfl) rfl (w_n rfl) ?_
  refine TL_seq ?_
  refine T_seq (T_region ?_)
  refine TL_q (.func (.func g) #[] cap) (fun _ _ hρ _ => r_move (hρ _ _ rfl)) rfl rfl rfl (w_n rfl) ?_
  refine TL_callP _ _ _ (fun _ _ hρ _ => r_call (args := []) hE (hρ _ _ rfl) (by rfl) (by simp)) (fun w hm => H B1 B2 w hm) rfl (w_n rfl) ?_
  intro x hx
  refine p_mem ([(1901, .blk B2 (.cells #[.int .i64 0] 28)), (1900, .blk B1 (.cells #[.slice none 0 0, .int .i64 0] 121))] ++ (N x ++ L)) (fun _ hm => hm.of (lk_front (L := L) [(1901, .blk B2 (.cells #[.int .i64 0] 28)), (1900, .blk B1 (.cells #[.slice none 0 0, .int .i64 0] 121))] (by simp [hN1901, hN1900]))) ?_
  refine p_then_p ?_
  refine p_panD [{ target := .fn (.func 116) #[.pointer (some ⟨B1, 0, none⟩), .pointer (some ⟨B2, 0, none⟩)], args := #[] }] rfl (fun tmps hk => ?_)
  refine leavesP_cons (L' := [(1901, .blk B2 (.cells #[.int .i64 (er x)] 28)), (1900, .blk B1 (.cells #[.slice none 0 0, .int .i64 0] 121))] ++ (N x ++ L)) (enters_of Try.func116 (by kernel_rfl) rfl) (fun w hm => ((trF_rec _ ([(1901, .blk B2 (.cells #[.int .i64 0] 28)), (1900, .blk B1 (.cells #[.slice none 0 0, .int .i64 0] 121))] ++ (N x ++ L)) B1 B2 _ (show lk (N x ++ L) 1902 = none from lk_app_none (hN1902 x) h1902) rfl rfl w hm).mono fun e u' w' h => ⟨h.1, h.2.1, h.2.2.of (lk_mid (L := N x ++ L) [(1901, .blk B2 (.cells #[.int .i64 (er x)] 28)), (1900, .blk B1 (.cells #[.slice none 0 0, .int .i64 0] 121))] [(1901, .blk B2 (.cells #[.int .i64 0] 28)), (1900, .blk B1 (.cells #[.slice none 0 0, .int .i64 0] 121))] rfl)⟩)) ?_
  refine leavesH_nil (.tuple #[.agg #[.slice none 0 0, .int .i64 0], .int .i64 (er x)]) (fun _ hm => res2 rfl (res_cell (hk 2 _ rfl) (run_loadVar_agg ag121 sz121 (hm.at 1900 rfl) (Nat.le_of_ble_eq_true rfl) rfl)) (res_cell (hk 3 _ rfl) (run_loadVar_one ag28 (hm.at 1901 rfl) rfl))) (fun w hm => ?_)
  have e1901 := lk_app_none (hN1901 x) h1901
  have e1900 := lk_app_none (hN1900 x) h1900
  exact ⟨x, hx, rfl, hm.of (lk_drop (L := N x ++ L) [(1901, .blk B2 (.cells #[.int .i64 (er x)] 28)), (1900, .blk B1 (.cells #[.slice none 0 0, .int .i64 0] 121))] (by simp [e1901, e1900]))⟩

theorem trFW_ok (g : Nat) (cap : Array Value) {ι : Type} (p : ι → Prop) (va0 : ι → Option Addr) (vn0 : ι → Nat) (vc0 : ι → Nat) (vi1 : ι → Int) (N : ι → Heap) (w : World) (hE : Enters Try.prog g) (hN1901 : ∀ x, lk (N x) 1901 = none) (hN1900 : ∀ x, lk (N x) 1900 = none) (H : ∀ w2, Below w.heap.size w w2 → Calls Try.prog g cap w2 (Ans p (fun x => .agg #[.slice (va0 x) (vn0 x) (vc0 x), .int .i64 (vi1 x)]) N w2)) : Calls Try.prog 90 #[.func (.func g) #[] cap] w (Ans p (fun x => .tuple #[.agg #[.slice (va0 x) (vn0 x) (vc0 x), .int .i64 (vi1 x)], .int .i64 0]) N w) := by
  refine (trF_ok (L := []) (w₀ := w) g cap p va0 vn0 vc0 vi1 N hE rfl rfl hN1901 hN1900 (fun A B w2 hm => (H w2 hm.ext).mono ?_) w (MemOk.nil w)).mono ?_
  · rintro e w' ⟨x, hx, he, hb, hn⟩
    exact ⟨x, hx, he, hm.news hb hn⟩
  · rintro e w' ⟨x, hx, he, hm⟩
    simp only [List.append_nil] at hm
    exact ⟨x, hx, he, hm.ext, ⟨fun i r h => hm.own i r h, fun i j r s h1 h2 => hm.sep i j r s h1 h2⟩⟩
theorem trFW_no (g : Nat) (cap : Array Value) (x : Int) (w : World) (hE : Enters Try.prog g) (H : ∀ w2, Below w.heap.size w w2 → Calls Try.prog g cap w2 fun e w' => e = .panicked [{ v := .iface 28 (.int .i64 x), recovered := false }] ∧ Below w2.heap.size w2 w') : Calls Try.prog 90 #[.func (.func g) #[] cap] w fun e w' => e = .returned (.tuple #[.agg #[.slice none 0 0, .int .i64 0], .int .i64 x]) ∧ Below w.heap.size w w' :=
  (trF_no (ι := Unit) (L := []) (w₀ := w) g cap (fun _ => True) (fun _ => x) (fun _ => []) hE rfl rfl rfl (fun _ => rfl) (fun _ => rfl) (fun _ => rfl) (fun A B w2 hm => (H w2 hm.ext).mono fun e w' h => ⟨(), trivial, h.1, hm.below h.2⟩) w (MemOk.nil w)).mono fun e w' ⟨_, _, he, hm⟩ => ⟨he, hm.ext⟩

theorem rec_ok (l : List By) (a : Option Addr) (cap : Nat) (w : World) (hv : SliceAt w a cap 1 byc l) (hcap : cap ≤ Go.maxLen) (h : l.length ≤ 65536) : Calls Try.prog 79 #[.slice a l.length cap] w fun e w' => ∃ a' cap', e = .returned (.slice a' (recP l).length cap') ∧ Below w.heap.size w w' ∧ w'.ownsRow w.heap.size 5 1 (.slice a' (recP l).length cap') (recP l).length ((recP l).flatMap byc) := by
  have hvl := hv.1
  have hcp := hcap
  unfold Go.maxLen at hcp
  have hlb := lenB_len l.length
  refine calls_of_T (l := [.slice a l.length cap]) 24 Try.func79 rfl rfl rfl ?_
  show T _ _ _ [(0, .slice a l.length cap)] []
  refine T_seq (T_region ?_)
  refine TL_q (.slice none 0 0) (fun _ _ hρ _ => r_assign (hρ _ _ rfl)) rfl rfl rfl (w_n rfl) ?_
  refine TL_seq ?_
  refine T_seq (T_region ?_)
  refine TL_q (.slice a l.length cap) (fun _ _ hρ _ => r_move (hρ _ _ rfl)) rfl rfl rfl (w_n rfl) ?_
  refine TL_q (.int .i64 ((l.length : Nat) : Int)) (fun _ _ hρ _ => r_len sl34 (hρ _ _ rfl)) rfl rfl rfl (w_n rfl) ?_
  refine TL_q (.bool true) (fun _ _ hρ _ => r_as (r_leq (hρ _ _ rfl) (hρ _ _ rfl)) (bool_as (decide_eq_true (by omega)))) rfl rfl rfl (w_n rfl) ?_
  refine TL_call (.tuple #[]) (fun _ _ hρ _ => r_call (args := [.bool true, .int .i64 3]) (enters_of Try.func84 (by kernel_rfl) rfl) (hρ _ _ rfl) ((cons2 (hρ _ _ rfl) (cons2 (hρ _ _ rfl) rfl))) rfl) (fun w _ => need_ok_jrn 3 w) rfl rfl rfl (w_n rfl) ?_
  refine TL_seq ?_
  refine T_seq (T_region ?_)
  refine TL_q (.slice a l.length cap) (fun _ _ hρ _ => r_move (hρ _ _ rfl)) rfl rfl rfl (w_n rfl) ?_
  refine TL_q (.int .i64 ((l.length : Nat) : Int)) (fun _ _ hρ _ => r_len sl34 (hρ _ _ rfl)) rfl rfl rfl (w_n rfl) ?_
  refine TL_q (.int .u64 ((BitVec.ofNat 64 l.length).toNat : Int)) (fun _ _ hρ _ => r_convN (k := .i64) (k' := .u64) (n := l.length) un3 io25 rfl (hρ _ _ rfl)) rfl rfl rfl (w_n rfl) ?_
  refine TL_callN (fun (_ : Option Addr × Nat) => True) (fun (ar1, cr1) => .tuple #[.slice ar1 ((lenB l.length).length) cr1, .int .i64 0]) (fun (ar1, cr1) => [(1, .row (.slice ar1 ((lenB l.length).length) cr1) 5 1 ((lenB l.length).length) ((lenB l.length).flatMap byc))]) (fun _ _ hρ _ => r_call (args := [.slice none 0 0, .int .i64 4, .int .u64 ((BitVec.ofNat 64 l.length).toNat : Int)]) (enters_of Try.func111 (by kernel_rfl) rfl) (hρ _ _ rfl) ((cons2 (hρ _ _ rfl) (cons2 (hρ _ _ rfl) (cons2 (hρ _ _ rfl) rfl)))) rfl) (fun w _ => (put_c l.length (by omega) w).mono fun e w' ⟨a', cap', he, hb, hr⟩ => ⟨(a', cap'), trivial, he, hb, newOk1 1 hr⟩) rfl rfl rfl (w_n rfl) ?_
  rintro ⟨ar1, cr1⟩ -
  refine TL_q (.tuple #[.slice ar1 ((lenB l.length).length) cr1, .int .i64 0]) (fun _ _ hρ _ => r_move (hρ _ _ rfl)) rfl rfl rfl (w_n rfl) ?_
  refine TL_q (.slice ar1 ((lenB l.length).length) cr1) (fun _ _ hρ _ => r_extract (hρ _ _ rfl) rfl) rfl rfl rfl (w_n rfl) ?_
  refine TL_q (.int .i64 0) (fun _ _ hρ _ => r_extract (hρ _ _ rfl) rfl) rfl rfl rfl (w_n rfl) ?_
  refine TL_q (.slice ar1 ((lenB l.length).length) cr1) (fun _ _ hρ _ => r_assign (hρ _ _ rfl)) rfl rfl rfl (w_n rfl) ?_
  refine TL_q (.int .i64 0) (fun _ _ hρ _ => r_assign (hρ _ _ rfl)) rfl rfl rfl (w_n rfl) ?_
  refine TL_seq ?_
  refine T_seq (T_region ?_)
  refine TL_q (.int .i64 0) (fun _ _ hρ _ => r_move (hρ _ _ rfl)) rfl rfl rfl (w_n rfl) ?_
  refine TL_q (.bool true) (fun _ _ hρ _ => r_as (r_eql (hρ _ _ rfl) (hρ _ _ rfl)) (by rfl)) rfl rfl rfl (w_n rfl) ?_
  refine TL_q (.int .i64 0) (fun _ _ hρ _ => r_move (hρ _ _ rfl)) rfl rfl rfl (w_n rfl) ?_
  refine TL_call (.tuple #[]) (fun _ _ hρ _ => r_call (args := [.bool true, .int .i64 0]) (enters_of Try.func84 (by kernel_rfl) rfl) (hρ _ _ rfl) ((cons2 (hρ _ _ rfl) (cons2 (hρ _ _ rfl) rfl))) rfl) (fun w _ => need_ok_jrn 0 w) rfl rfl rfl (w_n rfl) ?_
  refine TL_seq ?_
  refine T_seq (T_region ?_)
  refine TL_q (.slice ar1 ((lenB l.length).length) cr1) (fun _ _ hρ _ => r_move (hρ _ _ rfl)) rfl rfl rfl (w_n rfl) ?_
  refine TL_q (.slice a l.length cap) (fun _ _ hρ _ => r_move (hρ _ _ rfl)) rfl rfl rfl (w_n rfl) ?_
  refine TL_append (n := (lenB l.length).length) (m := l.length) (xs := ((lenB l.length).flatMap byc)) (news := (l.flatMap byc)) (z := .int .u8 0) 1 rfl rfl rfl sl34 sz5 by5 (by kernel_rfl) rfl rfl (.inl rfl) (fun _ hm => by have := src_of byc_len (hv.keep hm.ext); simpa using this) byc_oneL (by omega) (by omega) rfl (w_n rfl) ?_
  intro a2 cap2
  have hn3 : ((lenB l.length).length + l.length) = ((lenB l.length) ++ l).length := by rw [List.length_append]
  have hx3 : (((lenB l.length).flatMap byc) ++ (l.flatMap byc)) = ((lenB l.length) ++ l).flatMap byc := by rw [List.flatMap_append]
  rw [hx3, hn3]
  refine TL_callN (fun (_ : Option Addr × Nat) => True) (fun (ar4, cr4) => .slice ar4 ((sealP ((lenB l.length) ++ l)).length) cr4) (fun (ar4, cr4) => [(2, .row (.slice ar4 ((sealP ((lenB l.length) ++ l)).length) cr4) 5 1 ((sealP ((lenB l.length) ++ l)).length) ((sealP ((lenB l.length) ++ l)).flatMap byc))]) (fun _ _ hρ _ => r_call (args := [.slice a2 (((lenB l.length) ++ l).length) cap2]) (enters_of Try.func55 (by kernel_rfl) rfl) (hρ _ _ rfl) ((cons2 (hρ _ _ rfl) rfl)) rfl) (fun w hm => (seal_c ((lenB l.length) ++ l) a2 cap2 w (SliceAt.own byc_len (hm.row 1 rfl) rfl rfl) (by rw [List.length_append, lenB_len]; omega) (row_cap (hm.row 1 rfl))).mono fun e w' ⟨a', cap', he, hb, hr⟩ => ⟨(a', cap'), trivial, he, hb, newOk1 2 hr⟩) rfl rfl rfl (w_n rfl) ?_
  rintro ⟨ar4, cr4⟩ -
  refine TL_q (.slice ar4 ((sealP ((lenB l.length) ++ l)).length) cr4) (fun _ _ hρ _ => r_assign (hρ _ _ rfl)) rfl rfl rfl (w_n rfl) ?_
  refine TL_seq ?_
  refine T_ret' ?_
  refine ret_of rfl (.slice ar4 ((sealP ((lenB l.length) ++ l)).length) cr4) (fun tmps w hk hm => res1 rfl (res_tmp (hk 2 _ rfl))) (fun w hm => ?_)
  exact ⟨ar4, cr4, rfl, hm.ext, hm.row 2 rfl⟩

theorem rec_no (l : List By) (a : Option Addr) (cap : Nat) (w : World) (hv : SliceAt w a cap 1 byc l) (hcap : cap ≤ Go.maxLen) (h : ¬ l.length ≤ 65536) : Calls Try.prog 79 #[.slice a l.length cap] w fun e w' => e = .panicked [{ v := .iface 28 (.int .i64 3), recovered := false }] ∧ Below w.heap.size w w' := by
  have hvl := hv.1
  have hcp := hcap
  unfold Go.maxLen at hcp
  refine calls_of_T (l := [.slice a l.length cap]) 24 Try.func79 rfl rfl rfl ?_
  show T _ _ _ [(0, .slice a l.length cap)] []
  refine T_seq (T_region ?_)
  refine TL_q (.slice none 0 0) (fun _ _ hρ _ => r_assign (hρ _ _ rfl)) rfl rfl rfl (w_n rfl) ?_
  refine TL_seq ?_
  refine T_seq (T_region ?_)
  refine TL_q (.slice a l.length cap) (fun _ _ hρ _ => r_move (hρ _ _ rfl)) rfl rfl rfl (w_n rfl) ?_
  refine TL_q (.int .i64 ((l.length : Nat) : Int)) (fun _ _ hρ _ => r_len sl34 (hρ _ _ rfl)) rfl rfl rfl (w_n rfl) ?_
  refine TL_q (.bool false) (fun _ _ hρ _ => r_as (r_leq (hρ _ _ rfl) (hρ _ _ rfl)) (bool_as (decide_eq_false (by omega)))) rfl rfl rfl (w_n rfl) ?_
  refine TL_callQ (v := .iface 28 (.int .i64 3)) (fun _ _ hρ _ => r_call (args := [.bool false, .int .i64 3]) (enters_of Try.func84 (by kernel_rfl) rfl) (hρ _ _ rfl) ((cons2 (hρ _ _ rfl) (cons2 (hρ _ _ rfl) rfl))) rfl) (fun w _ => need_no_jrn 3 w) rfl (w_n rfl) ?_
  refine p_then_p ?_
  refine p_pan rfl (fun w hm => ?_)
  exact ⟨rfl, hm.ext⟩

theorem rec1_ok (T0 : Nat) (l : List By) (a : Option Addr) (cap : Nat) (w : World) (hv : SliceAt w a cap 1 byc l) (hcap : cap ≤ Go.maxLen) (h0 : hp w T0 = some (.cells #[.slice a l.length cap] 34)) (h : l.length ≤ 65536) : Calls Try.prog 80 #[.pointer (some ⟨T0, 0, none⟩)] w fun e w' => ∃ a' cap', e = .returned (.slice a' (recP l).length cap') ∧ Below w.heap.size w w' ∧ w'.ownsRow w.heap.size 5 1 (.slice a' (recP l).length cap') (recP l).length ((recP l).flatMap byc) := by
  refine calls_of_T (l := [.pointer (some ⟨T0, 0, none⟩)]) 4 Try.func80 rfl rfl rfl ?_
  show T _ _ _ [(0, .pointer (some ⟨T0, 0, none⟩))] []
  refine T_seq (T_region ?_)
  refine TL_q (.slice none 0 0) (fun _ _ hρ _ => r_assign (hρ _ _ rfl)) rfl rfl rfl (w_n rfl) ?_
  refine TL_seq ?_
  refine T_seq (T_region ?_)
  refine TL_q (.slice a l.length cap) (fun _ _ hρ hm => r_load ag34 (hρ _ _ rfl) (hm.old h0) rfl) rfl rfl rfl (w_n rfl) ?_
  refine TL_callN (fun (_ : Option Addr × Nat) => True) (fun (ar1, cr1) => .slice ar1 ((recP l).length) cr1) (fun (ar1, cr1) => [(1, .row (.slice ar1 ((recP l).length) cr1) 5 1 ((recP l).length) ((recP l).flatMap byc))]) (fun _ _ hρ _ => r_call (args := [.slice a l.length cap]) (enters_of Try.func79 (by kernel_rfl) rfl) (hρ _ _ rfl) ((cons2 (hρ _ _ rfl) rfl)) rfl) (fun w hm => (rec_ok l a cap w (hv.keep hm.ext) hcap h).mono fun e w' ⟨a', cap', he, hb, hr⟩ => ⟨(a', cap'), trivial, he, hb, newOk1 1 hr⟩) rfl rfl rfl (w_n rfl) ?_
  rintro ⟨ar1, cr1⟩ -
  refine TL_q (.slice ar1 ((recP l).length) cr1) (fun _ _ hρ _ => r_assign (hρ _ _ rfl)) rfl rfl rfl (w_n rfl) ?_
  refine TL_seq ?_
  refine T_ret' ?_
  refine ret_of rfl (.slice ar1 ((recP l).length) cr1) (fun tmps w hk hm => res1 rfl (res_tmp (hk 1 _ rfl))) (fun w hm => ?_)
  exact ⟨ar1, cr1, rfl, hm.ext, hm.row 1 rfl⟩

theorem rec1_no (T0 : Nat) (l : List By) (a : Option Addr) (cap : Nat) (w : World) (hv : SliceAt w a cap 1 byc l) (hcap : cap ≤ Go.maxLen) (h0 : hp w T0 = some (.cells #[.slice a l.length cap] 34)) (h : ¬ l.length ≤ 65536) : Calls Try.prog 80 #[.pointer (some ⟨T0, 0, none⟩)] w fun e w' => e = .panicked [{ v := .iface 28 (.int .i64 3), recovered := false }] ∧ Below w.heap.size w w' := by
  refine calls_of_T (l := [.pointer (some ⟨T0, 0, none⟩)]) 4 Try.func80 rfl rfl rfl ?_
  show T _ _ _ [(0, .pointer (some ⟨T0, 0, none⟩))] []
  refine T_seq (T_region ?_)
  refine TL_q (.slice none 0 0) (fun _ _ hρ _ => r_assign (hρ _ _ rfl)) rfl rfl rfl (w_n rfl) ?_
  refine TL_seq ?_
  refine T_seq (T_region ?_)
  refine TL_q (.slice a l.length cap) (fun _ _ hρ hm => r_load ag34 (hρ _ _ rfl) (hm.old h0) rfl) rfl rfl rfl (w_n rfl) ?_
  refine TL_callQ (v := .iface 28 (.int .i64 3)) (fun _ _ hρ _ => r_call (args := [.slice a l.length cap]) (enters_of Try.func79 (by kernel_rfl) rfl) (hρ _ _ rfl) ((cons2 (hρ _ _ rfl) rfl)) rfl) (fun w hm => rec_no l a cap w (hv.keep hm.ext) hcap h) rfl (w_n rfl) ?_
  refine p_then_p ?_
  refine p_pan rfl (fun w hm => ?_)
  exact ⟨rfl, hm.ext⟩

theorem jrec_ok (l : List By) (a : Option Addr) (cap : Nat) (w : World) (hv : SliceAt w a cap 1 byc l) (hcap : cap ≤ Go.maxLen) (h : l.length ≤ 65536) : Calls Try.prog 40 #[.slice a l.length cap] w fun e w' => ∃ a' cap', e = .returned (.tuple #[.slice a' (recP l).length cap', .int .i64 0]) ∧ Below w.heap.size w w' ∧ w'.ownsRow w.heap.size 5 1 (.slice a' (recP l).length cap') (recP l).length ((recP l).flatMap byc) := by
  refine calls_of_T (l := [.slice a l.length cap]) 8 Try.func40 rfl rfl rfl ?_
  show T _ _ _ [(0, .slice a l.length cap)] []
  refine T_seq (T_region ?_)
  refine TL_new 1 (.cells #[.slice a l.length cap] 34) (fun B => .pointer (some ⟨B, 0, none⟩)) (fun _ _ hρ _ => r_box (hρ _ _ rfl) rfl) rfl rfl rfl (w_n rfl) ?_
  intro B1
  refine TL_q (.slice none 0 0) (fun _ _ hρ _ => r_assign (hρ _ _ rfl)) rfl rfl rfl (w_n rfl) ?_
  refine TL_q (.int .i64 0) (fun _ _ hρ _ => r_assign (hρ _ _ rfl)) rfl rfl rfl (w_n rfl) ?_
  refine TL_seq ?_
  refine T_seq (T_region ?_)
  refine TL_q (.func (.func 80) #[] #[.pointer (some ⟨B1, 0, none⟩)]) (fun _ _ hρ _ => r_makeFunc (by simp) (map_arr (cons2 (hρ _ _ rfl) rfl))) rfl rfl rfl (w_n rfl) ?_
  refine TL_callN (fun (_ : Option Addr × Nat) => True) (fun (ar2, cr2) => .tuple #[.slice ar2 ((recP l).length) cr2, .int .i64 0]) (fun (ar2, cr2) => [(2, .row (.slice ar2 ((recP l).length) cr2) 5 1 ((recP l).length) ((recP l).flatMap byc))]) (fun _ _ hρ _ => r_call (args := [.func (.func 80) #[] #[.pointer (some ⟨B1, 0, none⟩)]]) (enters_of Try.func76 (by kernel_rfl) rfl) (hρ _ _ rfl) ((cons2 (hρ _ _ rfl) rfl)) rfl) (fun w hm => (trJW_ok 80 #[.pointer (some ⟨B1, 0, none⟩)] (fun (_ : Option Addr × Nat) => True) (fun z => z.1) (fun _ => (recP l).length) (fun z => z.2) (fun z => [(1, .row (.slice z.1 (recP l).length z.2) 5 1 (recP l).length ((recP l).flatMap byc))]) w (enters_of Try.func80 (by kernel_rfl) rfl) (fun _ => rfl) (fun _ => rfl) (fun w2 hb2 => (rec1_ok B1 l a cap w2 (hv.keep (hm.ext.trans (hb2.mono hm.ext.size))) hcap (kept hb2 (hm.at 1 rfl)) h).mono fun e w' ⟨a', cap', he, hb, hr⟩ => ⟨(a', cap'), trivial, he, hb, newOk1 1 hr⟩)).mono fun e w' ⟨z, _, he, hb, hn⟩ => ⟨z, trivial, he, hb, newOk_at 2 hn⟩) rfl rfl rfl (w_n rfl) ?_
  rintro ⟨ar2, cr2⟩ -
  refine TL_q (.slice ar2 ((recP l).length) cr2) (fun _ _ hρ _ => r_extract (hρ _ _ rfl) rfl) rfl rfl rfl (w_n rfl) ?_
  refine TL_q (.int .i64 0) (fun _ _ hρ _ => r_extract (hρ _ _ rfl) rfl) rfl rfl rfl (w_n rfl) ?_
  refine TL_q (.slice ar2 ((recP l).length) cr2) (fun _ _ hρ _ => r_assign (hρ _ _ rfl)) rfl rfl rfl (w_n rfl) ?_
  refine TL_q (.int .i64 0) (fun _ _ hρ _ => r_assign (hρ _ _ rfl)) rfl rfl rfl (w_n rfl) ?_
  refine TL_seq ?_
  refine T_ret' ?_
  refine ret_of rfl (.tuple #[.slice ar2 ((recP l).length) cr2, .int .i64 0]) (fun tmps w hk hm => res2 rfl (res_tmp (hk 2 _ rfl)) (res_tmp (hk 3 _ rfl))) (fun w hm => ?_)
  exact ⟨ar2, cr2, rfl, hm.ext, hm.row 2 rfl⟩

theorem jrec_no (l : List By) (a : Option Addr) (cap : Nat) (w : World) (hv : SliceAt w a cap 1 byc l) (hcap : cap ≤ Go.maxLen) (h : ¬ l.length ≤ 65536) : Calls Try.prog 40 #[.slice a l.length cap] w fun e w' => e = .returned (.tuple #[.slice none 0 0, .int .i64 3]) ∧ Below w.heap.size w w' := by
  refine calls_of_T (l := [.slice a l.length cap]) 8 Try.func40 rfl rfl rfl ?_
  show T _ _ _ [(0, .slice a l.length cap)] []
  refine T_seq (T_region ?_)
  refine TL_new 1 (.cells #[.slice a l.length cap] 34) (fun B => .pointer (some ⟨B, 0, none⟩)) (fun _ _ hρ _ => r_box (hρ _ _ rfl) rfl) rfl rfl rfl (w_n rfl) ?_
  intro B1
  refine TL_q (.slice none 0 0) (fun _ _ hρ _ => r_assign (hρ _ _ rfl)) rfl rfl rfl (w_n rfl) ?_
  refine TL_q (.int .i64 0) (fun _ _ hρ _ => r_assign (hρ _ _ rfl)) rfl rfl rfl (w_n rfl) ?_
  refine TL_seq ?_
  refine T_seq (T_region ?_)
  refine TL_q (.func (.func 80) #[] #[.pointer (some ⟨B1, 0, none⟩)]) (fun _ _ hρ _ => r_makeFunc (by simp) (map_arr (cons2 (hρ _ _ rfl) rfl))) rfl rfl rfl (w_n rfl) ?_
  refine TL_call (.tuple #[.slice none 0 0, .int .i64 3]) (fun _ _ hρ _ => r_call (args := [.func (.func 80) #[] #[.pointer (some ⟨B1, 0, none⟩)]]) (enters_of Try.func76 (by kernel_rfl) rfl) (hρ _ _ rfl) ((cons2 (hρ _ _ rfl) rfl)) rfl) (fun w hm => trJW_no 80 #[.pointer (some ⟨B1, 0, none⟩)] 3 w (enters_of Try.func80 (by kernel_rfl) rfl) (fun w2 hb2 => rec1_no B1 l a cap w2 (hv.keep (hm.ext.trans (hb2.mono hm.ext.size))) hcap (kept hb2 (hm.at 1 rfl)) h)) rfl rfl rfl (w_n rfl) ?_
  refine TL_q (.slice none 0 0) (fun _ _ hρ _ => r_extract (hρ _ _ rfl) rfl) rfl rfl rfl (w_n rfl) ?_
  refine TL_q (.int .i64 3) (fun _ _ hρ _ => r_extract (hρ _ _ rfl) rfl) rfl rfl rfl (w_n rfl) ?_
  refine TL_q (.slice none 0 0) (fun _ _ hρ _ => r_assign (hρ _ _ rfl)) rfl rfl rfl (w_n rfl) ?_
  refine TL_q (.int .i64 3) (fun _ _ hρ _ => r_assign (hρ _ _ rfl)) rfl rfl rfl (w_n rfl) ?_
  refine TL_seq ?_
  refine T_ret' ?_
  refine ret_of rfl (.tuple #[.slice none 0 0, .int .i64 3]) (fun tmps w hk hm => res2 rfl (res_tmp (hk 2 _ rfl)) (res_tmp (hk 3 _ rfl))) (fun w hm => ?_)
  exact ⟨rfl, hm.ext⟩
end Go.Proofs.Ytcidgbjgeegepaa
/- Things that are only read: many of them, each in some blocks; new ones may share blocks with those that there are. Rows that may be written over. Over any program. -/
namespace Go.Proofs.Ytcidgbjgeegepaa
open Go Go.RowKit
/-- What a thing is, and in which blocks. -/
structure ShK (α : Type) where
  foot : α → Nat → Prop
  At : World → α → Prop
  keep : ∀ {w1 w2 : World} {x : α}, At w1 x → (∀ b, foot x b → hp w2 b = hp w1 b) → At w2 x
  low : ∀ {w : World} {x : α} {b : Nat}, At w x → foot x b → b < w.heap.size
section
variable {α : Type} (K : ShK α)
def ShK.F (l : List α) (b : Nat) : Prop := ∃ x ∈ l, K.foot x b
abbrev Res.shelf (l : List α) : Res := .abs (K.F l) (fun w => ∀ x ∈ l, K.At w x)
theorem ShK.keeps {l : List α} (w1 w2 : World) (h : ∀ x ∈ l, K.At w1 x) (hb : ∀ b, K.F l b → hp w2 b = hp w1 b) : ∀ x ∈ l, K.At w2 x := fun x hx => K.keep (h x hx) fun b hf => hb b ⟨x, hx, hf⟩
theorem ShK.below {w w' : World} {x : α} (h : K.At w x) (hb : Below w.heap.size w w') : K.At w' x := K.keep h fun b hf => hb.block b (K.low h hf)
/-- A new thing, but for what it shares with others. -/
structure ShNew (w w' : World) (l : List α) (d : α) : Prop where
  below : Below w.heap.size w w'
  at' : K.At w' d
  foot : ∀ b, K.foot d b → w.heap.size ≤ b ∨ K.F l b
variable {K}
theorem ShNew.before {w w1 w2 : World} {l : List α} {d : α} (h : ShNew K w1 w2 l d) (hb : Below w.heap.size w w1) : ShNew K w w2 l d :=
  ⟨below_call hb (Nat.le_refl _) h.below, h.at', fun b hf => (h.foot b hf).imp (fun h1 => Nat.le_trans hb.size h1) id⟩
theorem MemOk.shelf0 {w₀ w : World} {L : Heap} (K : ShK α) (h : MemOk w₀ L w) (k : Nat) : MemOk w₀ ((k, .shelf K []) :: L) w :=
  h.set k _ h.ext ⟨(fun r hr => nomatch hr), (fun b hb => by obtain ⟨r, hr, _⟩ := hb; cases hr), K.keeps⟩ (fun _ _ _ _ b _ => ⟨rfl, fun hb => by obtain ⟨r, hr, _⟩ := hb; cases hr⟩)
end
/-! ### slices as a thing to be read -/
section
variable {α : Type} {s : Nat} {f : α → List Value} {l : List α} {w : World} {a : Option Addr} {cap : Nat}
/-- The block in which a slice's elements lie. -/
def slF (a : Option Addr) (l : List α) (b : Nat) : Prop := l ≠ [] ∧ ∃ x, a = some x ∧ x.block = b
theorem SliceAt.keepF {w2 : World} (h : SliceAt w a cap s f l) (hb : ∀ b, slF a l b → hp w2 b = hp w b) : SliceAt w2 a cap s f l := by
  refine ⟨h.1, h.2.1, ?_⟩
  rcases h.2.2 with h1 | ⟨b, off, cs, T, fz, e1, e2, e3⟩
  · exact .inl h1
  · by_cases hl : l = []
    · exact .inl hl
    · exact .inr ⟨b, off, cs, T, fz, e1, (hb b ⟨hl, _, e1, rfl⟩).trans e2, e3⟩
theorem SliceAt.lowF {b : Nat} (h : SliceAt w a cap s f l) (hb : slF a l b) : b < w.heap.size := by
  obtain ⟨hl, x, hx, rfl⟩ := hb
  rcases h.2.2 with h1 | ⟨b, off, cs, T, fz, e1, e2, e3⟩
  · exact absurd h1 hl
  · rw [e1] at hx; cases hx; exact hp_lt e2
theorem own_slF {base n : Nat} {e : TypeId} {xs : List Value} (h : w.ownsRow base e s (.slice a n cap) n xs) {b : Nat} (hb : slF a l b) : (Res.row (.slice a n cap) e s n xs).foot b := by
  obtain ⟨_, x, hx, rfl⟩ := hb
  subst hx
  rcases h.2 with ⟨h1, _⟩ | ⟨g, cap', cur, h1, _⟩
  · cases h1
  · cases h1; rfl
end
/-! ### rows of one's own, many of them: to be read -/
section
variable {α : Type} {e : TypeId} {s : Nat} {f : α → List Value}
/-- All of them are one's own (none need be apart from another one). -/
def poolH (e : TypeId) (s : Nat) (f : α → List Value) (rs : List (RowG α)) (w : World) : Prop := ∀ r ∈ rs, w.ownsRow 0 e s r.v r.l.length (r.l.flatMap f)
abbrev Res.pool (e : TypeId) (s : Nat) (f : α → List Value) (rs : List (RowG α)) : Res := .abs (manyF rs) (poolH e s f rs)
theorem pool_keep {rs : List (RowG α)} (w1 w2 : World) (h : poolH e s f rs w1) (hb : ∀ b, manyF rs b → hp w2 b = hp w1 b) : poolH e s f rs w2 :=
  fun r hr => Res.keep (r := .row r.v e s r.l.length (r.l.flatMap f)) (h r hr) fun b hf => hb b ⟨r, hr, hf⟩
theorem MemOk.pool0 {w₀ w : World} {L : Heap} (h : MemOk w₀ L w) (k : Nat) (e : TypeId) (s : Nat) (f : α → List Value) : MemOk w₀ ((k, .pool e s f []) :: L) w :=
  h.set k _ h.ext ⟨(fun r hr => nomatch hr), (fun b hb => by obtain ⟨r, hr, _⟩ := hb; cases hr), pool_keep⟩ (fun _ _ _ _ b _ => ⟨rfl, fun hb => by obtain ⟨r, hr, _⟩ := hb; cases hr⟩)
theorem MemOk.pool {w₀ w : World} {L : Heap} (h : MemOk w₀ L w) (k : Nat) {rs : List (RowG α)} (hk : lk L k = some (.pool e s f rs)) : poolH e s f rs w := (h.own k _ hk).1
theorem poolAt (hf : ∀ x, (f x).length = s) {w : World} {rs : List (RowG α)} (h : poolH e s f rs w) {r : RowG α} (hr : r ∈ rs) : SliceAt w r.a r.cap s f r.l := SliceAt.own hf (h r hr) rfl rfl
theorem poolCap {w : World} {rs : List (RowG α)} (h : poolH e s f rs w) {r : RowG α} (hr : r ∈ rs) : r.cap ≤ Go.maxLen := row_cap (h r hr)
/-- One more. -/
theorem MemOk.poolPush {w₀ w : World} {L : Heap} (h : MemOk w₀ L w) (k j : Nat) {rs : List (RowG α)} {a : Option Addr} {n cap : Nat} {l : List α} (hk : lk L k = some (.pool e s f rs)) (hj : lk L j = some (.row (.slice a n cap) e s n (l.flatMap f))) (hn : n = l.length) (hne : Nat.beq k j = false) :
    MemOk w₀ ((k, .pool e s f (rs ++ [⟨a, cap, l⟩])) :: (j, .no) :: L) w := by
  subst hn
  have hkj : k ≠ j := fun e => by subst e; rw [Nat.beq_refl] at hne; cases hne
  have ok1 := h.own k _ hk
  have ok2 := h.own j _ hj
  have h0 : MemOk w₀ ((j, .no) :: L) w := h.set j _ h.ext ⟨trivial, (fun _ hb => hb.elim), fun _ _ _ _ => trivial⟩ (fun _ _ _ _ b _ => ⟨rfl, id⟩)
  refine h0.set k _ h0.ext ⟨fun r hr => ?_, ?_, pool_keep⟩ (fun i r hi hne' b hb => ⟨rfl, ?_⟩)
  · rcases List.mem_append.1 hr with h1 | h1
    · exact ok1.1 r h1
    · rw [List.mem_singleton.1 h1]; exact Res.lift (r := .row _ _ _ _ _) ok2 (Nat.zero_le _)
  · rintro b ⟨r, hr, hb⟩
    rcases List.mem_append.1 hr with h1 | h1
    · exact ok1.2.1 b ⟨r, h1, hb⟩
    · rw [List.mem_singleton.1 h1] at hb; exact Res.low ok2 hb
  · rintro ⟨q, hq, hqb⟩
    by_cases e2 : j = i
    · subst e2; rw [lk_cons_same] at hi; cases hi; exact hb
    · rw [lk_cons_other _ _ e2] at hi
      rcases List.mem_append.1 hq with h1 | h1
      · exact h.sep k i _ _ hk hi (Ne.symm hne') b ⟨q, h1, hqb⟩ hb
      · rw [List.mem_singleton.1 h1] at hqb
        exact h.sep j i _ _ hj hi e2 b hqb hb
/-- The first n cells of a block are of a kind. -/
def scrH (e : TypeId) (s : Nat) (ok : Value → Prop) (rs : List (RowG α)) (w : World) : Prop :=
  ∀ r ∈ rs, r.l = [] ∨ ∃ B cur, r.a = some ⟨B, 0, none⟩ ∧ hp w B = some (.cells cur e (0, 0)) ∧ ∀ i, i < r.l.length * s → ∃ v, cur[i]? = some v ∧ ok v
/-- Rows that may be written over: of them no more is known than what kind of cells they hold. -/
abbrev Res.scr (e : TypeId) (s : Nat) (ok : Value → Prop) (rs : List (RowG α)) : Res := .abs (manyF rs) (scrH e s ok rs)
theorem scr_keep {ok : Value → Prop} {rs : List (RowG α)} (w1 w2 : World) (h : scrH e s ok rs w1) (hb : ∀ b, manyF rs b → hp w2 b = hp w1 b) : scrH e s ok rs w2 := fun r hr => by
  rcases h r hr with h1 | ⟨B, cur, h1, h2, h3⟩
  · exact .inl h1
  · exact .inr ⟨B, cur, h1, (hb B ⟨r, hr, by show (Value.slice r.a _ _).ownBlock = some B; rw [h1]; rfl⟩).trans h2, h3⟩
theorem MemOk.poolScr {w₀ w : World} {L : Heap} (h : MemOk w₀ L w) (k : Nat) {rs : List (RowG α)} {ok : Value → Prop} (hf : ∀ x, (f x).length = s) (hk : lk L k = some (.pool e s f rs)) (hok : ∀ x, ∀ v ∈ f x, ok v) : MemOk w₀ ((k, .scr e s ok rs) :: L) w := by
  have ok1 := h.own k _ hk
  refine h.set k _ h.ext ⟨fun r hr => ?_, ok1.2.1, scr_keep⟩ (fun i r hi hne b hb => ⟨rfl, fun hq => h.sep k i _ _ hk hi (Ne.symm hne) b hq hb⟩)
  have hrow := ok1.1 r hr
  rcases hrow.2 with ⟨h1, h2⟩ | ⟨g, cap', cur, h1, hbg, hg, hnc, hcm, hcs, htk⟩
  · exact .inl (List.eq_nil_of_length_eq_zero h2)
  · injection h1 with h1 h2 h3
    refine .inr ⟨g, cur, h1, hg, fun i hi => ?_⟩
    have hl : (r.l.flatMap f).length = r.l.length * s := flat_length hf _
    obtain ⟨v, hv⟩ : ∃ v, (r.l.flatMap f)[i]? = some v := ⟨_, List.getElem?_eq_getElem (by omega)⟩
    refine ⟨v, ?_, ?_⟩
    · rw [← htk, List.getElem?_take, if_pos hi] at hv
      rw [← Array.getElem?_toList]; exact hv
    · obtain ⟨x, _, hx⟩ := List.mem_flatMap.1 (List.mem_of_getElem? hv)
      exact hok x v hx
/-- Is there a row's element, it lies at the block's beginning. -/
theorem scr_open {ok : Value → Prop} {rs : List (RowG α)} {w : World} (h : scrH e s ok rs w) {r : RowG α} (hr : r ∈ rs) (hn : r.l ≠ []) : ∃ B cur, r.a = some ⟨B, 0, none⟩ ∧ hp w B = some (.cells cur e (0, 0)) ∧ ∀ i, i < r.l.length * s → ∃ v, cur[i]? = some v ∧ ok v :=
  (h r hr).elim (fun e => absurd e hn) id
section
variable {P : Program} {w₀ w : World} {L : Heap} {ρ : Operand → Value} {ty : TypeId} {ps : String} {af : Array Edge} {g : Option (Nat × Bool)}
theorem T_scr {C : Cx} {c : Code} {Q : Post} {K : List (Nat × Value)} {L : Heap} {ok : Value → Prop} {rs : List (RowG α)} (k : Nat) (hk : lk L k = some (.scr e s ok rs)) {r : RowG α} (hr : r ∈ rs) (hn : r.l ≠ []) (h : ∀ B, r.a = some ⟨B, 0, none⟩ → T C c Q K L) : T C c Q K L := fun a w hf hm => by
  obtain ⟨B, cur, h1, _⟩ := scr_open (hm.own k _ hk).1 hr hn
  exact h B h1 a w hf hm
/-- A cell of it, read. -/
theorem o_loadScr {d : Option Tmp} {x : Operand} {t : TypeId} {B i : Nat} {ok : Value → Prop} {rs : List (RowG α)} (k : Nat) (hk : lk L k = some (.scr e s ok rs)) {r : RowG α} (hr : r ∈ rs) (ha : aggOf P t = some false) (hB : r.a = some ⟨B, 0, none⟩) (hi : i < r.l.length * s) (hx : ρ x = .pointer (some ⟨B, i, none⟩)) (hm : MemOk w₀ L w) :
    ∃ v, ok v ∧ (execOp ρ (mk d (.load t x) ty ps af g)).run P w = .ok (.value v) w := by
  have hn : r.l ≠ [] := fun e => by rw [e] at hi; simp at hi
  obtain ⟨B', cur, h1, h2, h3⟩ := scr_open (hm.own k _ hk).1 hr hn
  rw [hB] at h1; cases h1
  obtain ⟨v, hv, hok⟩ := h3 i hi
  exact ⟨v, hok, r_load ha hx h2 hv⟩
/-- A cell of it, written. -/
theorem o_storeScr {x y : Operand} {t : TypeId} {B i : Nat} {v : Value} {ok : Value → Prop} {rs : List (RowG α)} (k : Nat) (hk : lk L k = some (.scr e s ok rs)) {r : RowG α} (hr : r ∈ rs) (hB : r.a = some ⟨B, 0, none⟩) (hi : i < r.l.length * s) (hx : ρ x = .pointer (some ⟨B, i, none⟩)) (hy : ρ y = v) (hs : szOf P t = some 1) (hv : v.cells = #[v]) (ho : isOne v = true) (hok : ok v) (hm : MemOk w₀ L w) :
    ∃ w', (execOp ρ (mk none (.store t x y) ty ps af g)).run P w = .ok .skip w' ∧ MemOk w₀ ((k, .scr e s ok rs) :: L) w' := by
  have hn : r.l ≠ [] := fun e => by rw [e] at hi; simp at hi
  have okk := hm.own k _ hk
  obtain ⟨B', cur, h1, h2, h3⟩ := scr_open okk.1 hr hn
  rw [hB] at h1; cases h1
  obtain ⟨v0, hv0, _⟩ := h3 i hi
  have hlt : i < cur.size := (Array.getElem?_eq_some_iff.1 hv0).1
  obtain ⟨w', hr', hu⟩ := run_storeVar (P := P) (t := t) (off := i) (v := v) hs h2 (by rw [hv]; rfl) (by omega) (by rw [hv]; simp [ho])
  have hcur : ∀ j, (wrC cur i v.cells.toList)[j]? = if j = i then some v else cur[j]? := fun j => by
    obtain ⟨pre, post, hc, hpl⟩ : ∃ pre post, cur.toList = pre ++ v0 :: post ∧ pre.length = i := by
      rw [← Array.getElem?_toList] at hv0
      have hl := (List.getElem?_eq_some_iff.1 hv0).1
      refine ⟨cur.toList.take i, cur.toList.drop (i + 1), ?_, by rw [List.length_take]; omega⟩
      have e := List.take_append_drop i cur.toList
      rw [List.drop_eq_getElem_cons hl] at e
      rw [List.getElem?_eq_getElem hl] at hv0
      rw [← Option.some.inj hv0]; exact e.symm
    have h5 := wrC_list [v] [v0] pre post rfl
    have e6 : cur = (pre ++ [v0] ++ post).toArray := by apply Array.ext'; rw [hc]; simp
    rw [hv]
    show (wrC cur i [v])[j]? = _
    rw [e6, ← hpl, h5]
    simp only [List.getElem?_toArray, List.append_assoc, List.singleton_append]
    by_cases e : j = pre.length
    · subst e; rw [if_pos rfl, List.getElem?_append_right (Nat.le_refl _), Nat.sub_self]; rfl
    · rw [if_neg e]
      rcases Nat.lt_or_ge j pre.length with h7 | h7
      · rw [List.getElem?_append_left h7, List.getElem?_append_left h7]
      · rw [List.getElem?_append_right h7, List.getElem?_append_right h7]
        obtain ⟨m, hm'⟩ : ∃ m, j - pre.length = m + 1 := ⟨j - pre.length - 1, by omega⟩
        rw [hm']; rfl
  refine ⟨w', ?_, ?_⟩
  · show (do Instr.storeAt t (ρ x) (ρ y); pure Next.skip : Sem Next).run P w = _
    rw [hx, hy, run_bind_ok (a := ()) (w' := w')]
    · rfl
    · unfold Instr.storeAt
      rw [run_bind_ok (a := ⟨B, i, none⟩) (w' := w) rfl]
      exact hr'
  · have hF : manyF rs B := ⟨r, hr, by show (Value.slice r.a _ _).ownBlock = some B; rw [hB]; rfl⟩
    have hlo := okk.2.1 B hF
    refine hm.set k _ ⟨hu.os.trans hm.ext.os, hu.tape.trans hm.ext.tape, hu.output.trans hm.ext.output, by rw [hu.size]; exact hm.ext.size, fun j hj => (hu.other j (by omega)).trans (hm.ext.block j hj)⟩ ⟨fun q hq => ?_, fun b hb => ⟨(okk.2.1 b hb).1, by rw [hu.size]; exact (okk.2.1 b hb).2⟩, scr_keep⟩ (fun j q hj hne b hb => ⟨hu.other b (fun e => hm.sep k j _ _ hk hj (Ne.symm hne) B hF (e ▸ hb)), fun hF' => hm.sep k j _ _ hk hj (Ne.symm hne) b hF' hb⟩)
    rcases okk.1 q hq with h1 | ⟨B2, cur2, g1, g2, g3⟩
    · exact .inl h1
    · by_cases eB : B2 = B
      · subst eB
        rw [h2] at g2; cases g2
        refine .inr ⟨_, _, g1, hu.this, fun j hj => ?_⟩
        rw [hcur]
        by_cases e : j = i
        · exact ⟨v, by rw [if_pos e], hok⟩
        · rw [if_neg e]; exact g3 j hj
      · exact .inr ⟨B2, cur2, g1, (hu.other B2 eB).trans g2, g3⟩
end
end
end Go.Proofs.Ytcidgbjgeegepaa
/- net: parcels, plainly and in memory. -/
namespace Go.Proofs.Ytcidgbjgeegepaa
open Go Go.RowKit
/-- A parcel: its bytes lie somewhere. -/
structure Pcl where
  to : Int
  r : RowG By
  sp : Bool
abbrev Pcl.cells (p : Pcl) : List Value := [.int .i64 p.to, .slice p.r.a p.r.l.length p.r.cap, .bool p.sp]
theorem Pcl.cells_len (p : Pcl) : p.cells.length = 3 := rfl
abbrev Pcl.v (p : Pcl) : Value := .agg p.cells.toArray
/-- Its bytes lie in memory, and are not too many. -/
abbrev Pcl.ok (w : World) (p : Pcl) : Prop := SliceAt w p.r.a p.r.cap 1 byc p.r.l ∧ p.r.cap ≤ Go.maxLen ∧ p.r.l.length ≤ 10000
def PcsAt (w : World) (l : List Pcl) : Prop := ∀ p ∈ l, p.ok w
theorem PcsAt.keep {w w' : World} {l : List Pcl} (h : PcsAt w l) (hb : Below w.heap.size w w') : PcsAt w' l := fun p hp => ⟨(h p hp).1.keep hb, (h p hp).2⟩
theorem PcsAt.sub {w : World} {l m : List Pcl} (h : PcsAt w l) (hs : ∀ p ∈ m, p ∈ l) : PcsAt w m := fun p hp => h p (hs p hp)
/-- A trick. -/
structure Trk where
  kind : Int
  at' : Int
  bit : Int
  mask : Wd
abbrev Trk.cells (t : Trk) : List Value := [.int .i64 t.kind, .int .i64 t.at', .int .i64 t.bit, .int .u32 (t.mask.toNat : Int)]
theorem Trk.cells_len (t : Trk) : t.cells.length = 4 := rfl
abbrev Trk.v (t : Trk) : Value := .agg t.cells.toArray
end Go.Proofs.Ytcidgbjgeegepaa
/- append of so many zeros onto nil. Over any program. -/
namespace Go.Proofs.Ytcidgbjgeegepaa
open Go Go.RowKit
section
variable {P : Program} {w₀ w : World} {L : Heap} {ρ : Operand → Value} {d : Option Tmp} {ty : TypeId} {ps : String} {af : Array Edge} {g : Option (Nat × Bool)}
theorem o_growZ {x y : Operand} {ats : Array TypeId} {t tn e : TypeId} {kn : IntKind} {n s by' : Nat} {z : Value} (i : Nat) (hfr : lk L i = none) (hat : ats = #[t, tn]) (hx : ρ x = .slice none 0 0) (hy : ρ y = .int .i64 (n : Nat)) (ht : sliOf P t = some e) (htn : intOf? P tn = some kn)
    (hs : szOf P e = some s) (hs0 : Nat.blt 0 s = true) (hby : byOf P e = some by') (hz : zeroOf P e = some z) (hzs : z.cells.size = s) (h0 : 0 < n) (h63 : n ≤ 4611686018427387904) (hb : n * by' ≤ 140737488355328) (hm : MemOk w₀ L w) :
    ∃ (c : Nat × Nat) (w' : World), (execOp ρ (mk d (.call { callee := .builtin .append, args := #[x, y], argTypes := ats }) ty ps af g)).run P w = .ok (.value (.slice (some ⟨c.1, 0, none⟩) n c.2)) w' ∧ MemOk w₀ ((i, .row (.slice (some ⟨c.1, 0, none⟩) 0 c.2) e s 0 []) :: L) w' := by
  subst hat
  obtain ⟨ti, hi, hsz⟩ := Option.map_eq_some_iff.1 hs
  obtain ⟨ti', hi', hbz⟩ := Option.map_eq_some_iff.1 hby
  rw [hi] at hi'; cases hi'
  have hzz : ti.zero = some z := by simpa [zeroOf, hi] using hz
  have hs1 : 0 < s := by rw [Nat.blt_eq] at hs0; exact hs0
  have hr := Go.Lib.run_append_nil_zeros (P := P) w t tn ty e ti z .i64 kn (und_sli ht) (und_int htn) hi hzz n h0 (by rw [hsz]; exact hs1) (by omega) (by rw [hbz]; omega)
  refine ⟨(w.heap.size, grownCap w n 0 e), _, by rw [run_builtin]; simp only [List.map_toArray, List.map_cons, List.map_nil, hx, hy]; exact run_v hr, ?_⟩
  · have hcm : grownCap w n 0 e ≤ Go.maxLen := grownCap_le_maxLen w n 0 e (by unfold Go.maxLen; omega)
    have hge := grownCap_ge w n 0 e
    refine hm.grow (n := 0) (xs := []) (.inr ⟨hfr, (rfl : (Value.slice none 0 0).ownBlock = none)⟩) ⟨rfl, rfl, rfl, by simp, fun k hk _ => Go.heap_alloc_old w.drew _ k hk⟩ ⟨by simp, .inr ⟨w.heap.size, _, _, rfl, hm.ext.size, Go.heap_alloc_new w.drew _, Nat.zero_le _, hcm, ?_, by simp⟩⟩ (.inr rfl)
    simp only [Array.size_append, size_zeroCells, hzs, ← Nat.add_mul]
    congr 1
    omega
end
end Go.Proofs.Ytcidgbjgeegepaa
/- net and journal: slices.Grow, slices.Concat. Printed by a program of this seat's prover. -/
namespace Go.Proofs.Ytcidgbjgeegepaa
open Go Go.RowKit
set_option maxRecDepth 10000
theorem flat_stepR {α : Type} {rs : List (RowG α)} {k : Nat} {r : RowG α} (h : rs[k]? = some r) : (rs.take (k + 1)).flatMap RowG.l = (rs.take k).flatMap RowG.l ++ r.l := by
  rw [List.take_add_one, h, List.flatMap_append]
  simp
theorem con_as {α : Type} {f : α → List Value} {g e s : Nat} {args : Array Value} {w : World} {l l' : List α} (h : Calls Try.prog g args w fun en w' => ∃ a' cap', en = .returned (.slice a' l.length cap') ∧ Below w.heap.size w w' ∧ w'.ownsRow w.heap.size e s (.slice a' l.length cap') l.length (l.flatMap f)) (hl : l = l') :
    Calls Try.prog g args w fun en w' => ∃ a' cap', en = .returned (.slice a' l'.length cap') ∧ Below w.heap.size w w' ∧ w'.ownsRow w.heap.size e s (.slice a' l'.length cap') l'.length (l'.flatMap f) := hl ▸ h
theorem flat_leR {α : Type} (rs : List (RowG α)) (k : Nat) : ((rs.take k).flatMap RowG.l).length ≤ (rs.flatMap RowG.l).length := by
  have e : rs.flatMap RowG.l = (rs.take k).flatMap RowG.l ++ (rs.drop k).flatMap RowG.l := by rw [← List.flatMap_append, List.take_append_drop]
  rw [e, List.length_append]; omega
theorem rows_oneG {α : Type} {f : α → List Value} (ho : ∀ x, ∀ u ∈ f x, u.oneCell' = true) {l : List α} : ∀ u ∈ l.flatMap f, u.oneCell' = true := fun u hu => by
  obtain ⟨x, _, hx⟩ := List.mem_flatMap.1 hu
  exact ho x u hx

theorem gro_b (n : Nat) (w : World) (hn : n ≤ 1000000) : Calls Try.prog 94 #[.slice none 0 0, .int .i64 (n : Int)] w fun e w' => ∃ a' cap', e = .returned (.slice a' 0 cap') ∧ Below w.heap.size w w' ∧ w'.ownsRow w.heap.size 5 1 (.slice a' 0 cap') 0 [] := by
  refine calls_of_T (l := [.slice none 0 0, .int .i64 ((n : Nat) : Int)]) 27 Try.func94 rfl rfl rfl ?_
  show T _ _ _ [(0, .slice none 0 0), (1, .int .i64 ((n : Nat) : Int))] []
  refine T_seq (T_region ?_)
  refine TL_q (.slice none 0 0) (fun _ _ hρ _ => r_assign (hρ _ _ rfl)) rfl rfl rfl (w_n rfl) ?_
  refine TL_seq ?_
  refine T_seq ?_
  refine T_seq (T_region ?_)
  refine TL_q (.int .i64 ((n : Nat) : Int)) (fun _ _ hρ _ => r_move (hρ _ _ rfl)) rfl rfl rfl (w_n rfl) ?_
  refine TL_q (.bool false) (fun _ _ hρ _ => r_as (r_lss (hρ _ _ rfl) (hρ _ _ rfl)) (bool_as (decide_eq_false (by omega)))) rfl rfl rfl (w_n rfl) ?_
  refine TL_seq ?_
  refine T_cond_f rfl ?_
  refine T_skip' ?_
  refine p_seq ?_
  refine T_seq ?_
  refine T_seq (T_region ?_)
  refine TL_q (.int .i64 ((n : Nat) : Int)) (fun _ _ hρ _ => r_move (hρ _ _ rfl)) rfl rfl rfl (w_n rfl) ?_
  refine TL_q (.slice none 0 0) (fun _ _ hρ _ => r_move (hρ _ _ rfl)) rfl rfl rfl (w_n rfl) ?_
  refine TL_q (.int .i64 0) (fun _ _ hρ _ => r_cap sl34 (hρ _ _ rfl)) rfl rfl rfl (w_n rfl) ?_
  refine TL_q (.slice none 0 0) (fun _ _ hρ _ => r_move (hρ _ _ rfl)) rfl rfl rfl (w_n rfl) ?_
  refine TL_q (.int .i64 0) (fun _ _ hρ _ => r_len sl34 (hρ _ _ rfl)) rfl rfl rfl (w_n rfl) ?_
  refine TL_q (.int .i64 0) (fun _ _ hρ _ => r_as (r_sub (hρ _ _ rfl) (hρ _ _ rfl)) (by rfl)) rfl rfl rfl (w_n rfl) ?_
  refine TL_q (.int .i64 ((n - 0 : Nat) : Int)) (fun _ _ hρ _ => r_as (r_sub (hρ _ _ rfl) (hρ _ _ rfl)) (int_as ((wrap64 (by omega) (by omega)).trans (by omega)))) rfl rfl rfl (w_n rfl) ?_
  refine TL_q (.int .i64 ((n - 0 : Nat) : Int)) (fun _ _ hρ _ => r_assign (hρ _ _ rfl)) rfl rfl rfl (w_n rfl) ?_
  refine TL_seq ?_
  by_cases h0 : 0 < n
  · skip
    refine T_seq (T_region ?_)
    refine TL_q (.int .i64 ((n - 0 : Nat) : Int)) (fun _ _ hρ _ => r_move (hρ _ _ rfl)) rfl rfl rfl (w_n rfl) ?_
    refine TL_q (.bool (decide ((0 : Int) < ((n - 0 : Nat) : Int)))) (fun _ _ hρ _ => r_gtr (hρ _ _ rfl) (hρ _ _ rfl)) rfl rfl rfl (w_n rfl) ?_
    refine TL_seq ?_
    refine T_cond rfl (fun h1 => ?_) (fun h1 => ?_)
    · replace h1 := of_decide_eq_true h1
      refine T_region ?_
      refine TL_q (.slice none 0 0) (fun _ _ hρ _ => r_move (hρ _ _ rfl)) rfl rfl rfl (w_n rfl) ?_
      refine TL_q (.slice none 0 0) (fun _ _ hρ _ => r_move (hρ _ _ rfl)) rfl rfl rfl (w_n rfl) ?_
      refine TL_q (.int .i64 0) (fun _ _ hρ _ => r_cap sl34 (hρ _ _ rfl)) rfl rfl rfl (w_n rfl) ?_
      refine TL_q (.slice none 0 0) (fun ρ _ hρ _ => r_sliceN sl34 sz5 (hρ _ _ rfl) (bd_none ρ _) (bd_some (n := 0) (hρ _ _ rfl)) (bd_none ρ _) (by simp)) rfl rfl rfl (w_n rfl) ?_
      refine TL_q (.int .i64 ((n - 0 : Nat) : Int)) (fun _ _ hρ _ => r_move (hρ _ _ rfl)) rfl rfl rfl (w_n rfl) ?_
      refine TL_op (ι := Nat × Nat) (fun B => .slice (some ⟨B.1, 0, none⟩) n B.2) _ (fun _ _ hρ hm => o_growZ (n := n) (z := .int .u8 0) 940 rfl rfl (hρ _ _ rfl) (hρ _ _ rfl) sl34 io3 sz5 rfl by5 (by kernel_rfl) rfl (by omega) (by omega) (by omega) hm) rfl rfl rfl (w_n rfl) ?_
      intro B1
      refine TL_q (.slice none 0 0) (fun _ _ hρ _ => r_move (hρ _ _ rfl)) rfl rfl rfl (w_n rfl) ?_
      refine TL_q (.int .i64 0) (fun _ _ hρ _ => r_len sl34 (hρ _ _ rfl)) rfl rfl rfl (w_n rfl) ?_
      refine TL_q (.slice (some ⟨B1.1, 0, none⟩) 0 B1.2) (fun ρ _ hρ _ => r_as (r_sliceS sl34 sz5 (hρ _ _ rfl) (bd_none ρ _) (bd_some (n := 0) (hρ _ _ rfl)) (bd_none ρ _) (by simp) (by omega) (by omega) (by omega)) (by simp)) rfl rfl rfl (w_n rfl) ?_
      refine TL_q (.slice (some ⟨B1.1, 0, none⟩) 0 B1.2) (fun _ _ hρ _ => r_assign (hρ _ _ rfl)) rfl rfl rfl (w_n rfl) ?_
      refine TL_nil ?_
      refine p_seq ?_
      refine T_seq (T_region ?_)
      refine TL_q (.slice (some ⟨B1.1, 0, none⟩) 0 B1.2) (fun _ _ hρ _ => r_move (hρ _ _ rfl)) rfl rfl rfl (w_n rfl) ?_
      refine TL_q (.slice (some ⟨B1.1, 0, none⟩) 0 B1.2) (fun _ _ hρ _ => r_assign (hρ _ _ rfl)) rfl rfl rfl (w_n rfl) ?_
      refine TL_seq ?_
      refine T_ret' ?_
      refine ret_of rfl (.slice (some ⟨B1.1, 0, none⟩) 0 B1.2) (fun tmps w hk hm => res1 rfl (res_tmp (hk 4 _ rfl))) (fun w hm => ?_)
      exact ⟨some ⟨B1.1, 0, none⟩, B1.2, rfl, hm.ext, hm.row 940 rfl⟩
    · replace h1 := of_decide_eq_false h1
      refine T_skip' ?_
      refine p_seq ?_
      refine T_seq (T_region ?_)
      refine TL_q (.slice none 0 0) (fun _ _ hρ _ => r_move (hρ _ _ rfl)) rfl rfl rfl (w_n rfl) ?_
      refine TL_q (.slice none 0 0) (fun _ _ hρ _ => r_assign (hρ _ _ rfl)) rfl rfl rfl (w_n rfl) ?_
      refine TL_seq ?_
      refine T_ret' ?_
      refine ret_of rfl (.slice none 0 0) (fun tmps w hk hm => res1 rfl (res_tmp (hk 4 _ rfl))) (fun w hm => ?_)
      exact ⟨none, 0, rfl, hm.ext, World.ownsRow_nil _ _ _ _⟩
  · skip
    refine T_seq (T_region ?_)
    refine TL_q (.int .i64 ((n - 0 : Nat) : Int)) (fun _ _ hρ _ => r_move (hρ _ _ rfl)) rfl rfl rfl (w_n rfl) ?_
    refine TL_q (.bool (decide ((0 : Int) < ((n - 0 : Nat) : Int)))) (fun _ _ hρ _ => r_gtr (hρ _ _ rfl) (hρ _ _ rfl)) rfl rfl rfl (w_n rfl) ?_
    refine TL_seq ?_
    refine T_cond rfl (fun h2 => ?_) (fun h2 => ?_)
    · replace h2 := of_decide_eq_true h2
      refine T_region ?_
      refine TL_q (.slice none 0 0) (fun _ _ hρ _ => r_move (hρ _ _ rfl)) rfl rfl rfl (w_n rfl) ?_
      refine TL_q (.slice none 0 0) (fun _ _ hρ _ => r_move (hρ _ _ rfl)) rfl rfl rfl (w_n rfl) ?_
      refine TL_q (.int .i64 0) (fun _ _ hρ _ => r_cap sl34 (hρ _ _ rfl)) rfl rfl rfl (w_n rfl) ?_
      refine TL_q (.slice none 0 0) (fun ρ _ hρ _ => r_sliceN sl34 sz5 (hρ _ _ rfl) (bd_none ρ _) (bd_some (n := 0) (hρ _ _ rfl)) (bd_none ρ _) (by simp)) rfl rfl rfl (w_n rfl) ?_
      refine TL_q (.int .i64 ((n - 0 : Nat) : Int)) (fun _ _ hρ _ => r_move (hρ _ _ rfl)) rfl rfl rfl (w_n rfl) ?_
      refine TL_op (ι := Nat × Nat) (fun B => .slice (some ⟨B.1, 0, none⟩) n B.2) _ (fun _ _ hρ hm => o_growZ (n := n) (z := .int .u8 0) 940 rfl rfl (hρ _ _ rfl) (hρ _ _ rfl) sl34 io3 sz5 rfl by5 (by kernel_rfl) rfl (by omega) (by omega) (by omega) hm) rfl rfl rfl (w_n rfl) ?_
      intro B2
      refine TL_q (.slice none 0 0) (fun _ _ hρ _ => r_move (hρ _ _ rfl)) rfl rfl rfl (w_n rfl) ?_
      refine TL_q (.int .i64 0) (fun _ _ hρ _ => r_len sl34 (hρ _ _ rfl)) rfl rfl rfl (w_n rfl) ?_
      refine TL_q (.slice (some ⟨B2.1, 0, none⟩) 0 B2.2) (fun ρ _ hρ _ => r_as (r_sliceS sl34 sz5 (hρ _ _ rfl) (bd_none ρ _) (bd_some (n := 0) (hρ _ _ rfl)) (bd_none ρ _) (by simp) (by omega) (by omega) (by omega)) (by simp)) rfl rfl rfl (w_n rfl) ?_
      refine TL_q (.slice (some ⟨B2.1, 0, none⟩) 0 B2.2) (fun _ _ hρ _ => r_assign (hρ _ _ rfl)) rfl rfl rfl (w_n rfl) ?_
      refine TL_nil ?_
      refine p_seq ?_
      refine T_seq (T_region ?_)
      refine TL_q (.slice (some ⟨B2.1, 0, none⟩) 0 B2.2) (fun _ _ hρ _ => r_move (hρ _ _ rfl)) rfl rfl rfl (w_n rfl) ?_
      refine TL_q (.slice (some ⟨B2.1, 0, none⟩) 0 B2.2) (fun _ _ hρ _ => r_assign (hρ _ _ rfl)) rfl rfl rfl (w_n rfl) ?_
      refine TL_seq ?_
      refine T_ret' ?_
      refine ret_of rfl (.slice (some ⟨B2.1, 0, none⟩) 0 B2.2) (fun tmps w hk hm => res1 rfl (res_tmp (hk 4 _ rfl))) (fun w hm => ?_)
      exact ⟨some ⟨B2.1, 0, none⟩, B2.2, rfl, hm.ext, hm.row 940 rfl⟩
    · replace h2 := of_decide_eq_false h2
      refine T_skip' ?_
      refine p_seq ?_
      refine T_seq (T_region ?_)
      refine TL_q (.slice none 0 0) (fun _ _ hρ _ => r_move (hρ _ _ rfl)) rfl rfl rfl (w_n rfl) ?_
      refine TL_q (.slice none 0 0) (fun _ _ hρ _ => r_assign (hρ _ _ rfl)) rfl rfl rfl (w_n rfl) ?_
      refine TL_seq ?_
      refine T_ret' ?_
      refine ret_of rfl (.slice none 0 0) (fun tmps w hk hm => res1 rfl (res_tmp (hk 4 _ rfl))) (fun w hm => ?_)
      exact ⟨none, 0, rfl, hm.ext, World.ownsRow_nil _ _ _ _⟩

set_option maxHeartbeats 1000000 in
theorem con_b (rs : List (RowG By)) (a : Option Addr) (cap : Nat) (w : World) (hv : SliceAt w a cap 1 RowG.cells rs) (hcap : cap ≤ Go.maxLen) (hrs : ∀ r ∈ rs, SliceAt w r.a r.cap 1 byc r.l ∧ r.cap ≤ Go.maxLen) (hn : (rs.flatMap RowG.l).length ≤ 1000000) (hk2 : rs.length ≤ 1000) : Calls Try.prog 54 #[.slice a rs.length cap] w fun e w' => ∃ a' cap', e = .returned (.slice a' (rs.flatMap RowG.l).length cap') ∧ Below w.heap.size w w' ∧ w'.ownsRow w.heap.size 5 1 (.slice a' (rs.flatMap RowG.l).length cap') (rs.flatMap RowG.l).length ((rs.flatMap RowG.l).flatMap byc) := by
  have hvl := hv.1
  have hle9 := flat_leR rs rs.length
  rw [List.take_length] at hle9
  unfold Go.maxLen at hcap
  refine calls_of_T (l := [.slice a rs.length cap]) 36 Try.func54 rfl rfl rfl ?_
  show T _ _ _ [(0, .slice a rs.length cap)] []
  refine T_seq (T_region ?_)
  refine TL_q (.slice none 0 0) (fun _ _ hρ _ => r_assign (hρ _ _ rfl)) rfl rfl rfl (w_n rfl) ?_
  refine TL_seq ?_
  refine T_seq (T_region ?_)
  refine TL_q (.int .i64 0) (fun _ _ hρ _ => r_assign (hρ _ _ rfl)) rfl rfl rfl (w_n rfl) ?_
  refine TL_seq ?_
  refine T_seq ?_
  refine T_seq (T_region ?_)
  refine TL_q (.slice a rs.length cap) (fun _ _ hρ _ => r_move (hρ _ _ rfl)) rfl rfl rfl (w_n rfl) ?_
  refine TL_q (.int .i64 ((rs.length : Nat) : Int)) (fun _ _ hρ _ => r_len sl63 (hρ _ _ rfl)) rfl rfl rfl (w_n rfl) ?_
  refine TL_q (.int .i64 0) (fun _ _ hρ _ => r_move (hρ _ _ rfl)) rfl rfl rfl (w_n rfl) ?_
  refine TL_seq ?_
  refine T_block ?_
  refine T_loop (ι := Nat) (fun (k : Nat) => k ≤ rs.length) (fun (k : Nat) => [(0, .slice a rs.length cap), (2, .slice none 0 0), (9, .slice a rs.length cap), (10, .int .i64 ((rs.length : Nat) : Int)), (11, .int .i64 ((k : Nat) : Int)), (3, .int .i64 ((((rs.take k).flatMap RowG.l).length : Nat) : Int))]) (fun (k : Nat) => []) (fun (k : Nat) => rs.length - k) 0 (Nat.zero_le _) (sub_cons rfl (sub_cons rfl (sub_cons rfl (sub_cons rfl (sub_cons rfl (sub_cons rfl sub_nil)))))) sub_nil ?_
  rintro k hp
  have hk := hp
  show T _ _ _ [(0, .slice a rs.length cap), (2, .slice none 0 0), (9, .slice a rs.length cap), (10, .int .i64 ((rs.length : Nat) : Int)), (11, .int .i64 ((k : Nat) : Int)), (3, .int .i64 ((((rs.take k).flatMap RowG.l).length : Nat) : Int))] []
  refine T_seq (T_region ?_)
  refine TL_q (.bool (decide (((k : Nat) : Int) < ((rs.length : Nat) : Int)))) (fun _ _ hρ _ => r_lss (hρ _ _ rfl) (hρ _ _ rfl)) rfl rfl rfl (w_n rfl) ?_
  refine TL_seq ?_
  refine T_seq ?_
  refine T_cond rfl (fun h1 => ?_) (fun h1 => ?_)
  · replace h1 := of_decide_eq_true h1
    refine T_skip' ?_
    refine p_seq ?_
    refine T_seq ?_
    refine T_block ?_
    obtain ⟨r, hr⟩ : ∃ x, rs[k]? = some x := ⟨_, List.getElem?_eq_getElem (by omega)⟩
    have hro := hrs r (List.mem_of_getElem? hr)
    have hst := flat_stepR hr
    have hsl := congrArg List.length hst
    rw [List.length_append] at hsl
    have hrl := hro.1.1
    have hrc := hro.2
    unfold Go.maxLen at hrc
    have hle := flat_leR rs (k + 1)
    obtain ⟨b1, of1, cs1, T1, fz1, ha1, hq1, hr1⟩ := hv.open (i := k) (by omega)
    subst ha1
    refine T_seq (T_region ?_)
    refine TL_q (.pointer (some ⟨b1, of1 + k * 1, none⟩)) (fun _ _ hρ _ => r_indexAddrS (i := k) sl63 sz34 (hρ _ _ rfl) (hρ _ _ rfl) (by omega)) rfl rfl rfl (w_n rfl) ?_
    refine TL_q (.slice r.a r.l.length r.cap) (fun _ _ hρ hm => r_loadRow1 (f := RowG.cells) (u := r) ag34 (hρ _ _ rfl) (hm.old hq1) hr1 hr rfl) rfl rfl rfl (w_n rfl) ?_
    refine TL_q (.slice r.a r.l.length r.cap) (fun _ _ hρ _ => r_assign (hρ _ _ rfl)) rfl rfl rfl (w_n rfl) ?_
    refine TL_seq ?_
    refine T_seq (T_region ?_)
    refine TL_q (.int .i64 ((((rs.take k).flatMap RowG.l).length : Nat) : Int)) (fun _ _ hρ _ => r_move (hρ _ _ rfl)) rfl rfl rfl (w_n rfl) ?_
    refine TL_q (.slice r.a r.l.length r.cap) (fun _ _ hρ _ => r_move (hρ _ _ rfl)) rfl rfl rfl (w_n rfl) ?_
    refine TL_q (.int .i64 ((r.l.length : Nat) : Int)) (fun _ _ hρ _ => r_len sl34 (hρ _ _ rfl)) rfl rfl rfl (w_n rfl) ?_
    refine TL_q (.int .i64 (((((rs.take k).flatMap RowG.l).length) + r.l.length : Nat) : Int)) (fun _ _ hρ _ => r_as (r_add (hρ _ _ rfl) (hρ _ _ rfl)) (int_as ((wrap64 (by omega) (by omega)).trans (by omega)))) rfl rfl rfl (w_n rfl) ?_
    refine TL_q (.int .i64 (((((rs.take k).flatMap RowG.l).length) + r.l.length : Nat) : Int)) (fun _ _ hρ _ => r_assign (hρ _ _ rfl)) rfl rfl rfl (w_n rfl) ?_
    refine TL_seq ?_
    refine T_seq (T_region ?_)
    refine TL_q (.int .i64 (((((rs.take k).flatMap RowG.l).length) + r.l.length : Nat) : Int)) (fun _ _ hρ _ => r_move (hρ _ _ rfl)) rfl rfl rfl (w_n rfl) ?_
    refine TL_q (.bool false) (fun _ _ hρ _ => r_as (r_lss (hρ _ _ rfl) (hρ _ _ rfl)) (bool_as (decide_eq_false (by omega)))) rfl rfl rfl (w_n rfl) ?_
    refine TL_seq ?_
    refine T_cond_f rfl ?_
    refine T_skip' ?_
    refine p_blk_n ?_
    refine p_seq ?_
    refine T_region ?_
    refine TL_q (.int .i64 ((k + 1 : Nat) : Int)) (fun _ _ hρ _ => r_as (r_add (hρ _ _ rfl) (hρ _ _ rfl)) (int_as ((wrap64 (by omega) (by omega)).trans (by omega)))) rfl rfl rfl (w_n rfl) ?_
    refine TL_q (.int .i64 ((k + 1 : Nat) : Int)) (fun _ _ hρ _ => r_move (hρ _ _ rfl)) rfl rfl rfl (w_n rfl) ?_
    refine TL_nil ?_
    exact p_at (k + 1) ⟨by omega, by omega⟩ (sub_cons rfl (sub_cons rfl (sub_cons rfl (sub_cons rfl (sub_cons rfl (sub_cons (by rw [hst, List.length_append]; rfl) sub_nil)))))) sub_nil
  · replace h1 := of_decide_eq_false h1
    refine T_exit' ?_
    refine p_then_x ?_
    refine p_then_x ?_
    refine p_blk_x ?_
    refine p_seq ?_
    have hke : k = rs.length := by omega
    subst hke
    have hlz := flat_leR rs rs.length
    refine T_seq (T_region ?_)
    refine TL_q (.int .i64 ((((rs.take rs.length).flatMap RowG.l).length : Nat) : Int)) (fun _ _ hρ _ => r_move (hρ _ _ rfl)) rfl rfl rfl (w_n rfl) ?_
    refine TL_callN (fun (_ : Option Addr × Nat) => True) (fun (ag2, cg2) => .slice ag2 0 cg2) (fun (ag2, cg2) => [(941, .row (.slice ag2 0 cg2) 5 1 0 [])]) (fun _ _ hρ _ => r_call (args := [.slice none 0 0, .int .i64 ((((rs.take rs.length).flatMap RowG.l).length : Nat) : Int)]) (enters_of Try.func94 (by kernel_rfl) rfl) (hρ _ _ rfl) ((cons2 (hρ _ _ rfl) (cons2 (hρ _ _ rfl) rfl))) rfl) (fun w _ => (gro_b (((rs.take rs.length).flatMap RowG.l).length) w (by omega)).mono fun e w' ⟨a', cap', he, hb, hr⟩ => ⟨(a', cap'), trivial, he, hb, newOk1 941 hr⟩) rfl rfl rfl (w_n rfl) ?_
    rintro ⟨ag2, cg2⟩ -
    refine TL_q (.slice ag2 0 cg2) (fun _ _ hρ _ => r_assign (hρ _ _ rfl)) rfl rfl rfl (w_n rfl) ?_
    refine TL_seq ?_
    refine T_seq ?_
    refine T_seq (T_region ?_)
    refine TL_q (.slice a rs.length cap) (fun _ _ hρ _ => r_move (hρ _ _ rfl)) rfl rfl rfl (w_n rfl) ?_
    refine TL_q (.int .i64 ((rs.length : Nat) : Int)) (fun _ _ hρ _ => r_len sl63 (hρ _ _ rfl)) rfl rfl rfl (w_n rfl) ?_
    refine TL_q (.int .i64 0) (fun _ _ hρ _ => r_move (hρ _ _ rfl)) rfl rfl rfl (w_n rfl) ?_
    refine TL_seq ?_
    refine T_block ?_
    refine T_loop (ι := Nat × Option Addr × Nat) (fun (z : Nat × Option Addr × Nat) => match z with | (k, a2, cap2) => k ≤ rs.length) (fun (z : Nat × Option Addr × Nat) => match z with | (k, a2, cap2) => [(2, .slice none 0 0), (25, .slice a rs.length cap), (26, .int .i64 ((rs.length : Nat) : Int)), (27, .int .i64 ((k : Nat) : Int)), (6, .slice a2 (((rs.take k).flatMap RowG.l).length) cap2)]) (fun (z : Nat × Option Addr × Nat) => match z with | (k, a2, cap2) => [(941, .row (.slice a2 (((rs.take k).flatMap RowG.l).length) cap2) 5 1 (((rs.take k).flatMap RowG.l).length) (((rs.take k).flatMap RowG.l).flatMap byc))]) (fun (z : Nat × Option Addr × Nat) => match z with | (k, a2, cap2) => rs.length - k) (0, ag2, cg2) (Nat.zero_le _) (sub_cons rfl (sub_cons rfl (sub_cons rfl (sub_cons rfl (sub_cons rfl sub_nil))))) (sub_cons rfl sub_nil) ?_
    rintro ⟨k, a2, cap2⟩ hp
    have hk := hp
    have hle0 := flat_leR rs k
    show T _ _ _ [(2, .slice none 0 0), (25, .slice a rs.length cap), (26, .int .i64 ((rs.length : Nat) : Int)), (27, .int .i64 ((k : Nat) : Int)), (6, .slice a2 (((rs.take k).flatMap RowG.l).length) cap2)] [(941, .row (.slice a2 (((rs.take k).flatMap RowG.l).length) cap2) 5 1 (((rs.take k).flatMap RowG.l).length) (((rs.take k).flatMap RowG.l).flatMap byc))]
    refine T_seq (T_region ?_)
    refine TL_q (.bool (decide (((k : Nat) : Int) < ((rs.length : Nat) : Int)))) (fun _ _ hρ _ => r_lss (hρ _ _ rfl) (hρ _ _ rfl)) rfl rfl rfl (w_n rfl) ?_
    refine TL_seq ?_
    refine T_seq ?_
    refine T_cond rfl (fun h2 => ?_) (fun h2 => ?_)
    · replace h2 := of_decide_eq_true h2
      refine T_skip' ?_
      refine p_seq ?_
      refine T_seq ?_
      refine T_block ?_
      obtain ⟨r, hr⟩ : ∃ x, rs[k]? = some x := ⟨_, List.getElem?_eq_getElem (by omega)⟩
      have hro := hrs r (List.mem_of_getElem? hr)
      have hst := flat_stepR hr
      have hsl := congrArg List.length hst
      rw [List.length_append] at hsl
      have hrl := hro.1.1
      have hrc := hro.2
      unfold Go.maxLen at hrc
      have hle := flat_leR rs (k + 1)
      obtain ⟨b3, of3, cs3, T3, fz3, ha3, hq3, hr3⟩ := hv.open (i := k) (by omega)
      subst ha3
      refine T_seq (T_region ?_)
      refine TL_q (.pointer (some ⟨b3, of3 + k * 1, none⟩)) (fun _ _ hρ _ => r_indexAddrS (i := k) sl63 sz34 (hρ _ _ rfl) (hρ _ _ rfl) (by omega)) rfl rfl rfl (w_n rfl) ?_
      refine TL_q (.slice r.a r.l.length r.cap) (fun _ _ hρ hm => r_loadRow1 (f := RowG.cells) (u := r) ag34 (hρ _ _ rfl) (hm.old hq3) hr3 hr rfl) rfl rfl rfl (w_n rfl) ?_
      refine TL_q (.slice r.a r.l.length r.cap) (fun _ _ hρ _ => r_assign (hρ _ _ rfl)) rfl rfl rfl (w_n rfl) ?_
      refine TL_seq ?_
      refine T_region ?_
      refine TL_q (.slice a2 (((rs.take k).flatMap RowG.l).length) cap2) (fun _ _ hρ _ => r_move (hρ _ _ rfl)) rfl rfl rfl (w_n rfl) ?_
      refine TL_q (.slice r.a r.l.length r.cap) (fun _ _ hρ _ => r_move (hρ _ _ rfl)) rfl rfl rfl (w_n rfl) ?_
      refine TL_append (n := ((rs.take k).flatMap RowG.l).length) (m := r.l.length) (xs := (((rs.take k).flatMap RowG.l).flatMap byc)) (news := (r.l.flatMap byc)) (z := .int .u8 0) 941 rfl rfl rfl sl34 sz5 by5 (by kernel_rfl) rfl rfl (.inl rfl) (fun _ hm => by have := src_of byc_len (hro.1.keep hm.ext); simpa using this) (rows_oneG byc_one) (by omega) (by omega) rfl (w_n rfl) ?_
      intro a4 cap4
      refine TL_q (.slice a4 (((rs.take k).flatMap RowG.l).length + r.l.length) cap4) (fun _ _ hρ _ => r_assign (hρ _ _ rfl)) rfl rfl rfl (w_n rfl) ?_
      refine TL_nil ?_
      refine p_blk_n ?_
      refine p_seq ?_
      refine T_region ?_
      refine TL_q (.int .i64 ((k + 1 : Nat) : Int)) (fun _ _ hρ _ => r_as (r_add (hρ _ _ rfl) (hρ _ _ rfl)) (int_as ((wrap64 (by omega) (by omega)).trans (by omega)))) rfl rfl rfl (w_n rfl) ?_
      refine TL_q (.int .i64 ((k + 1 : Nat) : Int)) (fun _ _ hρ _ => r_move (hρ _ _ rfl)) rfl rfl rfl (w_n rfl) ?_
      refine TL_nil ?_
      have e1 : (((rs.take k).flatMap RowG.l).length + r.l.length) = ((rs.take (k + 1)).flatMap RowG.l).length := by rw [hst, List.length_append]
      have e2 : ((((rs.take k).flatMap RowG.l).flatMap byc) ++ (r.l.flatMap byc)) = ((rs.take (k + 1)).flatMap RowG.l).flatMap byc := by rw [hst, List.flatMap_append]
      rw [e1, e2]
      exact p_at (k + 1, a4, cap4) ⟨by omega, by dsimp only; omega⟩ (sub_cons rfl (sub_cons rfl (sub_cons rfl (sub_cons rfl (sub_cons rfl sub_nil))))) (sub_cons rfl sub_nil)
    · replace h2 := of_decide_eq_false h2
      refine T_exit' ?_
      refine p_then_x ?_
      refine p_then_x ?_
      refine p_blk_x ?_
      refine p_seq ?_
      refine T_seq (T_region ?_)
      refine TL_q (.slice a2 (((rs.take k).flatMap RowG.l).length) cap2) (fun _ _ hρ _ => r_move (hρ _ _ rfl)) rfl rfl rfl (w_n rfl) ?_
      refine TL_q (.slice a2 (((rs.take k).flatMap RowG.l).length) cap2) (fun _ _ hρ _ => r_assign (hρ _ _ rfl)) rfl rfl rfl (w_n rfl) ?_
      refine TL_seq ?_
      refine T_ret' ?_
      refine ret_of rfl (.slice a2 (((rs.take k).flatMap RowG.l).length) cap2) (fun tmps w hk hm => res1 rfl (res_tmp (hk 2 _ rfl))) (fun w hm => ?_)
      have hke : k = rs.length := by omega
      subst hke
      rw [List.take_length]
      have hrow := hm.row 941 rfl
      rw [List.take_length] at hrow
      exact ⟨a2, cap2, rfl, hm.ext, hrow⟩

end Go.Proofs.Ytcidgbjgeegepaa
/- net and journal: joined, Join, first. Printed by a program of this seat's prover. -/
namespace Go.Proofs.Ytcidgbjgeegepaa
open Go Go.RowKit
set_option maxRecDepth 10000
theorem join_step {rs : List (RowG By)} {k : Nat} {r : RowG By} (h : rs[k]? = some r) : joinP ((rls rs).take (k + 1)) = joinP ((rls rs).take k) ++ recP r.l := by
  rw [List.take_add_one, List.getElem?_map, h, join_app]
  unfold joinP; simp
theorem join_bound {rs : List (RowG By)} {k : Nat} (h : ∀ r ∈ rs.take k, r.l.length ≤ 65536) : (joinP ((rls rs).take k)).length ≤ (rs.take k).length * 65544 := by
  rw [← List.map_take]
  generalize rs.take k = q at h ⊢
  induction q with
  | nil => exact Nat.le_refl _
  | cons r l ih =>
    have h1 := h r (List.mem_cons_self ..)
    have h2 : (joinP (rls l)).length ≤ l.length * 65544 := ih fun q hq => h q (List.mem_cons_of_mem _ hq)
    show (recP r.l ++ joinP (rls l)).length ≤ _
    rw [List.length_append, recP_len, List.length_cons]; omega
theorem upto_step {rs : List (RowG By)} {k : Nat} {r : RowG By} (h : ∀ x ∈ rs.take k, x.l.length ≤ 65536) (hr : rs[k]? = some r) (h6 : r.l.length ≤ 65536) : ∀ x ∈ rs.take (k + 1), x.l.length ≤ 65536 := fun x hx => by
  rw [List.take_add_one, hr] at hx
  rcases List.mem_append.1 hx with h1 | h1
  · exact h x h1
  · rw [List.mem_singleton.1 h1]; exact h6

theorem joined_ok (rs : List (RowG By)) (a : Option Addr) (cap : Nat) (w : World) (hv : SliceAt w a cap 1 RowG.cells rs) (hcap : cap ≤ Go.maxLen) (hx : RowsIn w rs) (hn : rs.length ≤ 1000) (h : ∀ r ∈ rs, r.l.length ≤ 65536) : Calls Try.prog 78 #[.slice a rs.length cap, .func (.func 79) #[] #[]] w fun e w' => ∃ a' cap', e = .returned (.slice a' (joinP (rls rs)).length cap') ∧ Below w.heap.size w w' ∧ w'.ownsRow w.heap.size 5 1 (.slice a' (joinP (rls rs)).length cap') (joinP (rls rs)).length ((joinP (rls rs)).flatMap byc) := by
  have hvl := hv.1
  have hcp := hcap
  unfold Go.maxLen at hcp
  refine calls_of_T (l := [.slice a rs.length cap, .func (.func 79) #[] #[]]) 21 Try.func78 rfl rfl rfl ?_
  show T _ _ _ [(0, .slice a rs.length cap), (1, .func (.func 79) #[] #[])] []
  refine T_seq (T_region ?_)
  refine TL_q (.slice none 0 0) (fun _ _ hρ _ => r_assign (hρ _ _ rfl)) rfl rfl rfl (w_n rfl) ?_
  refine TL_seq ?_
  refine T_seq (T_region ?_)
  refine TL_q (.slice none 0 0) (fun _ _ hρ _ => r_assign (hρ _ _ rfl)) rfl rfl rfl (w_n rfl) ?_
  refine TL_seq ?_
  refine T_seq ?_
  refine T_seq (T_region ?_)
  refine TL_q (.slice a rs.length cap) (fun _ _ hρ _ => r_move (hρ _ _ rfl)) rfl rfl rfl (w_n rfl) ?_
  refine TL_q (.int .i64 ((rs.length : Nat) : Int)) (fun _ _ hρ _ => r_len sl63 (hρ _ _ rfl)) rfl rfl rfl (w_n rfl) ?_
  refine TL_q (.int .i64 0) (fun _ _ hρ _ => r_move (hρ _ _ rfl)) rfl rfl rfl (w_n rfl) ?_
  refine TL_seq ?_
  refine T_block ?_
  refine T_mem (_ :: _) (fun _ hm => hm.nilRow 941 5 1) ?_
  refine T_loop (ι := Nat × Option Addr × Nat) (fun (z : Nat × Option Addr × Nat) => match z with | (k, a2, cap2) => k ≤ rs.length ∧ ∀ x ∈ rs.take k, x.l.length ≤ 65536) (fun (z : Nat × Option Addr × Nat) => match z with | (k, a2, cap2) => [(1, .func (.func 79) #[] #[]), (4, .slice none 0 0), (8, .slice a rs.length cap), (9, .int .i64 ((rs.length : Nat) : Int)), (10, .int .i64 ((k : Nat) : Int)), (5, .slice a2 ((joinP ((rls rs).take k)).length) cap2)]) (fun (z : Nat × Option Addr × Nat) => match z with | (k, a2, cap2) => [(941, .row (.slice a2 ((joinP ((rls rs).take k)).length) cap2) 5 1 ((joinP ((rls rs).take k)).length) ((joinP ((rls rs).take k)).flatMap byc))]) (fun (z : Nat × Option Addr × Nat) => match z with | (k, a2, cap2) => rs.length - k) (0, none, 0) ⟨Nat.zero_le _, fun _ h => nomatch h⟩ (sub_cons rfl (sub_cons rfl (sub_cons rfl (sub_cons rfl (sub_cons rfl (sub_cons rfl sub_nil)))))) (sub_cons rfl sub_nil) ?_
  rintro ⟨k, a2, cap2⟩ hp
  obtain ⟨hk, hup⟩ := hp
  show T _ _ _ [(1, .func (.func 79) #[] #[]), (4, .slice none 0 0), (8, .slice a rs.length cap), (9, .int .i64 ((rs.length : Nat) : Int)), (10, .int .i64 ((k : Nat) : Int)), (5, .slice a2 ((joinP ((rls rs).take k)).length) cap2)] [(941, .row (.slice a2 ((joinP ((rls rs).take k)).length) cap2) 5 1 ((joinP ((rls rs).take k)).length) ((joinP ((rls rs).take k)).flatMap byc))]
  refine T_seq (T_region ?_)
  refine TL_q (.bool (decide (((k : Nat) : Int) < ((rs.length : Nat) : Int)))) (fun _ _ hρ _ => r_lss (hρ _ _ rfl) (hρ _ _ rfl)) rfl rfl rfl (w_n rfl) ?_
  refine TL_seq ?_
  refine T_seq ?_
  refine T_cond rfl (fun h1 => ?_) (fun h1 => ?_)
  · replace h1 := of_decide_eq_true h1
    refine T_skip' ?_
    refine p_seq ?_
    refine T_seq ?_
    refine T_block ?_
    obtain ⟨r, hr⟩ : ∃ x, rs[k]? = some x := ⟨_, List.getElem?_eq_getElem (by omega)⟩
    have hro := hx r (List.mem_of_getElem? hr)
    have hrl := hro.1.1
    have hrc := hro.2
    unfold Go.maxLen at hrc
    have hst := join_step hr
    have hbd := join_bound hup
    rw [List.length_take] at hbd
    have hrp := recP_len r.l
    have h6 := h r (List.mem_of_getElem? hr)
    obtain ⟨b1, of1, cs1, T1, fz1, ha1, hq1, hr1⟩ := hv.open (i := k) (by omega)
    subst ha1
    refine T_seq (T_region ?_)
    refine TL_q (.pointer (some ⟨b1, of1 + k * 1, none⟩)) (fun _ _ hρ _ => r_indexAddrS (i := k) sl63 sz34 (hρ _ _ rfl) (hρ _ _ rfl) (by omega)) rfl rfl rfl (w_n rfl) ?_
    refine TL_q (.slice r.a r.l.length r.cap) (fun _ _ hρ hm => r_loadRow1 (f := RowG.cells) (u := r) ag34 (hρ _ _ rfl) (hm.old hq1) hr1 hr rfl) rfl rfl rfl (w_n rfl) ?_
    refine TL_q (.slice r.a r.l.length r.cap) (fun _ _ hρ _ => r_assign (hρ _ _ rfl)) rfl rfl rfl (w_n rfl) ?_
    refine TL_seq ?_
    refine T_region ?_
    refine TL_q (.slice a2 ((joinP ((rls rs).take k)).length) cap2) (fun _ _ hρ _ => r_move (hρ _ _ rfl)) rfl rfl rfl (w_n rfl) ?_
    refine TL_q (.func (.func 79) #[] #[]) (fun _ _ hρ _ => r_move (hρ _ _ rfl)) rfl rfl rfl (w_n rfl) ?_
    refine TL_q (.slice r.a r.l.length r.cap) (fun _ _ hρ _ => r_move (hρ _ _ rfl)) rfl rfl rfl (w_n rfl) ?_
    refine TL_callN (fun (_ : Option Addr × Nat) => True) (fun (ar2, cr2) => .slice ar2 ((recP r.l).length) cr2) (fun (ar2, cr2) => [(1, .row (.slice ar2 ((recP r.l).length) cr2) 5 1 ((recP r.l).length) ((recP r.l).flatMap byc))]) (fun _ _ hρ _ => r_call (args := [.slice r.a r.l.length r.cap]) (enters_of Try.func79 (by kernel_rfl) rfl) (hρ _ _ rfl) ((cons2 (hρ _ _ rfl) rfl)) rfl) (fun w hm => (rec_ok r.l r.a r.cap w (hro.1.keep hm.ext) hro.2 (h r (List.mem_of_getElem? hr))).mono fun e w' ⟨a', cap', he, hb, hr⟩ => ⟨(a', cap'), trivial, he, hb, newOk1 1 hr⟩) rfl rfl rfl (w_n rfl) ?_
    rintro ⟨ar2, cr2⟩ -
    refine TL_append (n := (joinP ((rls rs).take k)).length) (m := (recP r.l).length) (xs := ((joinP ((rls rs).take k)).flatMap byc)) (news := ((recP r.l).flatMap byc)) (z := .int .u8 0) 941 rfl rfl rfl sl34 sz5 by5 (by kernel_rfl) rfl rfl (.inl rfl) (fun _ hm => src_of byc_len (SliceAt.own byc_len (hm.row 1 rfl) rfl rfl)) byc_oneL (by omega) (by omega) rfl (w_n rfl) ?_
    intro a3 cap3
    refine TL_q (.slice a3 ((joinP ((rls rs).take k)).length + (recP r.l).length) cap3) (fun _ _ hρ _ => r_assign (hρ _ _ rfl)) rfl rfl rfl (w_n rfl) ?_
    refine TL_nil ?_
    refine p_blk_n ?_
    refine p_seq ?_
    refine T_region ?_
    refine TL_q (.int .i64 ((k + 1 : Nat) : Int)) (fun _ _ hρ _ => r_as (r_add (hρ _ _ rfl) (hρ _ _ rfl)) (int_as ((wrap64 (by omega) (by omega)).trans (by omega)))) rfl rfl rfl (w_n rfl) ?_
    refine TL_q (.int .i64 ((k + 1 : Nat) : Int)) (fun _ _ hρ _ => r_move (hρ _ _ rfl)) rfl rfl rfl (w_n rfl) ?_
    refine TL_nil ?_
    have e1 : ((joinP ((rls rs).take k)).length + (recP r.l).length) = (joinP ((rls rs).take (k + 1))).length := by rw [hst, List.length_append]
    have e2 : (((joinP ((rls rs).take k)).flatMap byc) ++ ((recP r.l).flatMap byc)) = (joinP ((rls rs).take (k + 1))).flatMap byc := by rw [hst, List.flatMap_append]
    rw [e1, e2]
    exact p_at (k + 1, a3, cap3) ⟨⟨by omega, upto_step hup hr (h r (List.mem_of_getElem? hr))⟩, by dsimp only; omega⟩ (sub_cons rfl (sub_cons rfl (sub_cons rfl (sub_cons rfl (sub_cons rfl (sub_cons rfl sub_nil)))))) (sub_cons rfl sub_nil)
  · replace h1 := of_decide_eq_false h1
    refine T_exit' ?_
    refine p_then_x ?_
    refine p_then_x ?_
    refine p_blk_x ?_
    refine p_seq ?_
    refine T_seq (T_region ?_)
    refine TL_q (.slice a2 ((joinP ((rls rs).take k)).length) cap2) (fun _ _ hρ _ => r_move (hρ _ _ rfl)) rfl rfl rfl (w_n rfl) ?_
    refine TL_q (.slice a2 ((joinP ((rls rs).take k)).length) cap2) (fun _ _ hρ _ => r_assign (hρ _ _ rfl)) rfl rfl rfl (w_n rfl) ?_
    refine TL_seq ?_
    refine T_ret' ?_
    refine ret_of rfl (.slice a2 ((joinP ((rls rs).take k)).length) cap2) (fun tmps w hk hm => res1 rfl (res_tmp (hk 4 _ rfl))) (fun w hm => ?_)
    have hke : k = rs.length := by omega
    subst hke
    have hrow := hm.row 941 rfl
    have et : (rls rs).take rs.length = rls rs := by rw [← List.map_take, List.take_length]
    rw [et] at hrow ⊢
    exact ⟨a2, cap2, rfl, hm.ext, hrow⟩

theorem joined_no (rs : List (RowG By)) (a : Option Addr) (cap : Nat) (w : World) (hv : SliceAt w a cap 1 RowG.cells rs) (hcap : cap ≤ Go.maxLen) (hx : RowsIn w rs) (hn : rs.length ≤ 1000) (h : ¬ ∀ r ∈ rs, r.l.length ≤ 65536) : Calls Try.prog 78 #[.slice a rs.length cap, .func (.func 79) #[] #[]] w fun e w' => e = .panicked [{ v := .iface 28 (.int .i64 3), recovered := false }] ∧ Below w.heap.size w w' := by
  have hvl := hv.1
  have hcp := hcap
  unfold Go.maxLen at hcp
  refine calls_of_T (l := [.slice a rs.length cap, .func (.func 79) #[] #[]]) 21 Try.func78 rfl rfl rfl ?_
  show T _ _ _ [(0, .slice a rs.length cap), (1, .func (.func 79) #[] #[])] []
  refine T_seq (T_region ?_)
  refine TL_q (.slice none 0 0) (fun _ _ hρ _ => r_assign (hρ _ _ rfl)) rfl rfl rfl (w_n rfl) ?_
  refine TL_seq ?_
  refine T_seq (T_region ?_)
  refine TL_q (.slice none 0 0) (fun _ _ hρ _ => r_assign (hρ _ _ rfl)) rfl rfl rfl (w_n rfl) ?_
  refine TL_seq ?_
  refine T_seq ?_
  refine T_seq (T_region ?_)
  refine TL_q (.slice a rs.length cap) (fun _ _ hρ _ => r_move (hρ _ _ rfl)) rfl rfl rfl (w_n rfl) ?_
  refine TL_q (.int .i64 ((rs.length : Nat) : Int)) (fun _ _ hρ _ => r_len sl63 (hρ _ _ rfl)) rfl rfl rfl (w_n rfl) ?_
  refine TL_q (.int .i64 0) (fun _ _ hρ _ => r_move (hρ _ _ rfl)) rfl rfl rfl (w_n rfl) ?_
  refine TL_seq ?_
  refine T_block ?_
  refine T_mem (_ :: _) (fun _ hm => hm.nilRow 941 5 1) ?_
  refine T_loop (ι := Nat × Option Addr × Nat) (fun (z : Nat × Option Addr × Nat) => match z with | (k, a2, cap2) => k ≤ rs.length ∧ ∀ x ∈ rs.take k, x.l.length ≤ 65536) (fun (z : Nat × Option Addr × Nat) => match z with | (k, a2, cap2) => [(1, .func (.func 79) #[] #[]), (4, .slice none 0 0), (8, .slice a rs.length cap), (9, .int .i64 ((rs.length : Nat) : Int)), (10, .int .i64 ((k : Nat) : Int)), (5, .slice a2 ((joinP ((rls rs).take k)).length) cap2)]) (fun (z : Nat × Option Addr × Nat) => match z with | (k, a2, cap2) => [(941, .row (.slice a2 ((joinP ((rls rs).take k)).length) cap2) 5 1 ((joinP ((rls rs).take k)).length) ((joinP ((rls rs).take k)).flatMap byc))]) (fun (z : Nat × Option Addr × Nat) => match z with | (k, a2, cap2) => rs.length - k) (0, none, 0) ⟨Nat.zero_le _, fun _ h => nomatch h⟩ (sub_cons rfl (sub_cons rfl (sub_cons rfl (sub_cons rfl (sub_cons rfl (sub_cons rfl sub_nil)))))) (sub_cons rfl sub_nil) ?_
  rintro ⟨k, a2, cap2⟩ hp
  obtain ⟨hk, hup⟩ := hp
  show T _ _ _ [(1, .func (.func 79) #[] #[]), (4, .slice none 0 0), (8, .slice a rs.length cap), (9, .int .i64 ((rs.length : Nat) : Int)), (10, .int .i64 ((k : Nat) : Int)), (5, .slice a2 ((joinP ((rls rs).take k)).length) cap2)] [(941, .row (.slice a2 ((joinP ((rls rs).take k)).length) cap2) 5 1 ((joinP ((rls rs).take k)).length) ((joinP ((rls rs).take k)).flatMap byc))]
  refine T_seq (T_region ?_)
  refine TL_q (.bool (decide (((k : Nat) : Int) < ((rs.length : Nat) : Int)))) (fun _ _ hρ _ => r_lss (hρ _ _ rfl) (hρ _ _ rfl)) rfl rfl rfl (w_n rfl) ?_
  refine TL_seq ?_
  refine T_seq ?_
  refine T_cond rfl (fun h1 => ?_) (fun h1 => ?_)
  · replace h1 := of_decide_eq_true h1
    refine T_skip' ?_
    refine p_seq ?_
    refine T_seq ?_
    refine T_block ?_
    obtain ⟨r, hr⟩ : ∃ x, rs[k]? = some x := ⟨_, List.getElem?_eq_getElem (by omega)⟩
    have hro := hx r (List.mem_of_getElem? hr)
    have hrl := hro.1.1
    have hrc := hro.2
    unfold Go.maxLen at hrc
    have hst := join_step hr
    have hbd := join_bound hup
    rw [List.length_take] at hbd
    have hrp := recP_len r.l
    obtain ⟨b1, of1, cs1, T1, fz1, ha1, hq1, hr1⟩ := hv.open (i := k) (by omega)
    subst ha1
    refine T_seq (T_region ?_)
    refine TL_q (.pointer (some ⟨b1, of1 + k * 1, none⟩)) (fun _ _ hρ _ => r_indexAddrS (i := k) sl63 sz34 (hρ _ _ rfl) (hρ _ _ rfl) (by omega)) rfl rfl rfl (w_n rfl) ?_
    refine TL_q (.slice r.a r.l.length r.cap) (fun _ _ hρ hm => r_loadRow1 (f := RowG.cells) (u := r) ag34 (hρ _ _ rfl) (hm.old hq1) hr1 hr rfl) rfl rfl rfl (w_n rfl) ?_
    refine TL_q (.slice r.a r.l.length r.cap) (fun _ _ hρ _ => r_assign (hρ _ _ rfl)) rfl rfl rfl (w_n rfl) ?_
    refine TL_seq ?_
    by_cases h6 : r.l.length ≤ 65536
    · skip
      refine T_region ?_
      refine TL_q (.slice a2 ((joinP ((rls rs).take k)).length) cap2) (fun _ _ hρ _ => r_move (hρ _ _ rfl)) rfl rfl rfl (w_n rfl) ?_
      refine TL_q (.func (.func 79) #[] #[]) (fun _ _ hρ _ => r_move (hρ _ _ rfl)) rfl rfl rfl (w_n rfl) ?_
      refine TL_q (.slice r.a r.l.length r.cap) (fun _ _ hρ _ => r_move (hρ _ _ rfl)) rfl rfl rfl (w_n rfl) ?_
      refine TL_callN (fun (_ : Option Addr × Nat) => True) (fun (ar2, cr2) => .slice ar2 ((recP r.l).length) cr2) (fun (ar2, cr2) => [(1, .row (.slice ar2 ((recP r.l).length) cr2) 5 1 ((recP r.l).length) ((recP r.l).flatMap byc))]) (fun _ _ hρ _ => r_call (args := [.slice r.a r.l.length r.cap]) (enters_of Try.func79 (by kernel_rfl) rfl) (hρ _ _ rfl) ((cons2 (hρ _ _ rfl) rfl)) rfl) (fun w hm => (rec_ok r.l r.a r.cap w (hro.1.keep hm.ext) hro.2 h6).mono fun e w' ⟨a', cap', he, hb, hr⟩ => ⟨(a', cap'), trivial, he, hb, newOk1 1 hr⟩) rfl rfl rfl (w_n rfl) ?_
      rintro ⟨ar2, cr2⟩ -
      refine TL_append (n := (joinP ((rls rs).take k)).length) (m := (recP r.l).length) (xs := ((joinP ((rls rs).take k)).flatMap byc)) (news := ((recP r.l).flatMap byc)) (z := .int .u8 0) 941 rfl rfl rfl sl34 sz5 by5 (by kernel_rfl) rfl rfl (.inl rfl) (fun _ hm => src_of byc_len (SliceAt.own byc_len (hm.row 1 rfl) rfl rfl)) byc_oneL (by omega) (by omega) rfl (w_n rfl) ?_
      intro a3 cap3
      refine TL_q (.slice a3 ((joinP ((rls rs).take k)).length + (recP r.l).length) cap3) (fun _ _ hρ _ => r_assign (hρ _ _ rfl)) rfl rfl rfl (w_n rfl) ?_
      refine TL_nil ?_
      refine p_blk_n ?_
      refine p_seq ?_
      refine T_region ?_
      refine TL_q (.int .i64 ((k + 1 : Nat) : Int)) (fun _ _ hρ _ => r_as (r_add (hρ _ _ rfl) (hρ _ _ rfl)) (int_as ((wrap64 (by omega) (by omega)).trans (by omega)))) rfl rfl rfl (w_n rfl) ?_
      refine TL_q (.int .i64 ((k + 1 : Nat) : Int)) (fun _ _ hρ _ => r_move (hρ _ _ rfl)) rfl rfl rfl (w_n rfl) ?_
      refine TL_nil ?_
      have e1 : ((joinP ((rls rs).take k)).length + (recP r.l).length) = (joinP ((rls rs).take (k + 1))).length := by rw [hst, List.length_append]
      have e2 : (((joinP ((rls rs).take k)).flatMap byc) ++ ((recP r.l).flatMap byc)) = (joinP ((rls rs).take (k + 1))).flatMap byc := by rw [hst, List.flatMap_append]
      rw [e1, e2]
      exact p_at (k + 1, a3, cap3) ⟨⟨by omega, upto_step hup hr h6⟩, by dsimp only; omega⟩ (sub_cons rfl (sub_cons rfl (sub_cons rfl (sub_cons rfl (sub_cons rfl (sub_cons rfl sub_nil)))))) (sub_cons rfl sub_nil)
    · skip
      refine T_region ?_
      refine TL_q (.slice a2 ((joinP ((rls rs).take k)).length) cap2) (fun _ _ hρ _ => r_move (hρ _ _ rfl)) rfl rfl rfl (w_n rfl) ?_
      refine TL_q (.func (.func 79) #[] #[]) (fun _ _ hρ _ => r_move (hρ _ _ rfl)) rfl rfl rfl (w_n rfl) ?_
      refine TL_q (.slice r.a r.l.length r.cap) (fun _ _ hρ _ => r_move (hρ _ _ rfl)) rfl rfl rfl (w_n rfl) ?_
      refine TL_callQ (v := .iface 28 (.int .i64 3)) (fun _ _ hρ _ => r_call (args := [.slice r.a r.l.length r.cap]) (enters_of Try.func79 (by kernel_rfl) rfl) (hρ _ _ rfl) ((cons2 (hρ _ _ rfl) rfl)) rfl) (fun w hm => rec_no r.l r.a r.cap w (hro.1.keep hm.ext) hro.2 h6) rfl (w_n rfl) ?_
      refine p_blk_p ?_
      refine p_then_p ?_
      refine p_then_p ?_
      refine p_blk_p ?_
      refine p_then_p ?_
      refine p_pan rfl (fun w hm => ?_)
      exact ⟨rfl, hm.ext⟩
  · replace h1 := of_decide_eq_false h1
    refine T_exit' ?_
    refine p_then_x ?_
    refine p_then_x ?_
    refine p_blk_x ?_
    refine p_seq ?_
    refine T_seq (T_region ?_)
    refine TL_q (.slice a2 ((joinP ((rls rs).take k)).length) cap2) (fun _ _ hρ _ => r_move (hρ _ _ rfl)) rfl rfl rfl (w_n rfl) ?_
    refine TL_q (.slice a2 ((joinP ((rls rs).take k)).length) cap2) (fun _ _ hρ _ => r_assign (hρ _ _ rfl)) rfl rfl rfl (w_n rfl) ?_
    refine TL_seq ?_
    refine T_ret' ?_
    refine ret_of rfl (.slice a2 ((joinP ((rls rs).take k)).length) cap2) (fun tmps w hk hm => res1 rfl (res_tmp (hk 4 _ rfl))) (fun w hm => ?_)
    have hke : k = rs.length := by omega
    subst hke
    rw [List.take_length] at hup
    exact absurd hup h

theorem join1_ok (T0 : Nat) (rs : List (RowG By)) (a : Option Addr) (cap : Nat) (w : World) (hv : SliceAt w a cap 1 RowG.cells rs) (hcap : cap ≤ Go.maxLen) (hx : RowsIn w rs) (hn : rs.length ≤ 1000) (h0 : hp w T0 = some (.cells #[.slice a rs.length cap] 63)) (h : ∀ r ∈ rs, r.l.length ≤ 65536) : Calls Try.prog 77 #[.pointer (some ⟨T0, 0, none⟩)] w fun e w' => ∃ a' cap', e = .returned (.slice a' (joinP (rls rs)).length cap') ∧ Below w.heap.size w w' ∧ w'.ownsRow w.heap.size 5 1 (.slice a' (joinP (rls rs)).length cap') (joinP (rls rs)).length ((joinP (rls rs)).flatMap byc) := by
  refine calls_of_T (l := [.pointer (some ⟨T0, 0, none⟩)]) 4 Try.func77 rfl rfl rfl ?_
  show T _ _ _ [(0, .pointer (some ⟨T0, 0, none⟩))] []
  refine T_seq (T_region ?_)
  refine TL_q (.slice none 0 0) (fun _ _ hρ _ => r_assign (hρ _ _ rfl)) rfl rfl rfl (w_n rfl) ?_
  refine TL_seq ?_
  refine T_seq (T_region ?_)
  refine TL_q (.slice a rs.length cap) (fun _ _ hρ hm => r_load ag63 (hρ _ _ rfl) (hm.old h0) rfl) rfl rfl rfl (w_n rfl) ?_
  refine TL_callN (fun (_ : Option Addr × Nat) => True) (fun (ar1, cr1) => .slice ar1 ((joinP (rls rs)).length) cr1) (fun (ar1, cr1) => [(1, .row (.slice ar1 ((joinP (rls rs)).length) cr1) 5 1 ((joinP (rls rs)).length) ((joinP (rls rs)).flatMap byc))]) (fun _ _ hρ _ => r_call (args := [.slice a rs.length cap, .func (.func 79) #[] #[]]) (enters_of Try.func78 (by kernel_rfl) rfl) (hρ _ _ rfl) ((cons2 (hρ _ _ rfl) (cons2 (hρ _ _ rfl) rfl))) rfl) (fun w hm => (joined_ok rs a cap w (hv.keep hm.ext) hcap (hx.keep hm.ext) hn h).mono fun e w' ⟨a', cap', he, hb, hr⟩ => ⟨(a', cap'), trivial, he, hb, newOk1 1 hr⟩) rfl rfl rfl (w_n rfl) ?_
  rintro ⟨ar1, cr1⟩ -
  refine TL_q (.slice ar1 ((joinP (rls rs)).length) cr1) (fun _ _ hρ _ => r_assign (hρ _ _ rfl)) rfl rfl rfl (w_n rfl) ?_
  refine TL_seq ?_
  refine T_ret' ?_
  refine ret_of rfl (.slice ar1 ((joinP (rls rs)).length) cr1) (fun tmps w hk hm => res1 rfl (res_tmp (hk 1 _ rfl))) (fun w hm => ?_)
  exact ⟨ar1, cr1, rfl, hm.ext, hm.row 1 rfl⟩

theorem join_ok (rs : List (RowG By)) (a : Option Addr) (cap : Nat) (w : World) (hv : SliceAt w a cap 1 RowG.cells rs) (hcap : cap ≤ Go.maxLen) (hx : RowsIn w rs) (hn : rs.length ≤ 1000) (h : ∀ r ∈ rs, r.l.length ≤ 65536) : Calls Try.prog 38 #[.slice a rs.length cap] w fun e w' => ∃ a' cap', e = .returned (.tuple #[.slice a' (joinP (rls rs)).length cap', .int .i64 0]) ∧ Below w.heap.size w w' ∧ w'.ownsRow w.heap.size 5 1 (.slice a' (joinP (rls rs)).length cap') (joinP (rls rs)).length ((joinP (rls rs)).flatMap byc) := by
  refine calls_of_T (l := [.slice a rs.length cap]) 8 Try.func38 rfl rfl rfl ?_
  show T _ _ _ [(0, .slice a rs.length cap)] []
  refine T_seq (T_region ?_)
  refine TL_new 1 (.cells #[.slice a rs.length cap] 63) (fun B => .pointer (some ⟨B, 0, none⟩)) (fun _ _ hρ _ => r_box (hρ _ _ rfl) rfl) rfl rfl rfl (w_n rfl) ?_
  intro B1
  refine TL_q (.slice none 0 0) (fun _ _ hρ _ => r_assign (hρ _ _ rfl)) rfl rfl rfl (w_n rfl) ?_
  refine TL_q (.int .i64 0) (fun _ _ hρ _ => r_assign (hρ _ _ rfl)) rfl rfl rfl (w_n rfl) ?_
  refine TL_seq ?_
  refine T_seq (T_region ?_)
  refine TL_q (.func (.func 77) #[] #[.pointer (some ⟨B1, 0, none⟩)]) (fun _ _ hρ _ => r_makeFunc (by simp) (map_arr (cons2 (hρ _ _ rfl) rfl))) rfl rfl rfl (w_n rfl) ?_
  refine TL_callN (fun (_ : Option Addr × Nat) => True) (fun (ar2, cr2) => .tuple #[.slice ar2 ((joinP (rls rs)).length) cr2, .int .i64 0]) (fun (ar2, cr2) => [(2, .row (.slice ar2 ((joinP (rls rs)).length) cr2) 5 1 ((joinP (rls rs)).length) ((joinP (rls rs)).flatMap byc))]) (fun _ _ hρ _ => r_call (args := [.func (.func 77) #[] #[.pointer (some ⟨B1, 0, none⟩)]]) (enters_of Try.func76 (by kernel_rfl) rfl) (hρ _ _ rfl) ((cons2 (hρ _ _ rfl) rfl)) rfl) (fun w hm => (trJW_ok 77 #[.pointer (some ⟨B1, 0, none⟩)] (fun (_ : Option Addr × Nat) => True) (fun z => z.1) (fun _ => (joinP (rls rs)).length) (fun z => z.2) (fun z => [(1, .row (.slice z.1 (joinP (rls rs)).length z.2) 5 1 (joinP (rls rs)).length ((joinP (rls rs)).flatMap byc))]) w (enters_of Try.func77 (by kernel_rfl) rfl) (fun _ => rfl) (fun _ => rfl) (fun w2 hb2 => (join1_ok B1 rs a cap w2 (hv.keep (hm.ext.trans (hb2.mono hm.ext.size))) hcap (hx.keep (hm.ext.trans (hb2.mono hm.ext.size))) hn (kept hb2 (hm.at 1 rfl)) h).mono fun e w' ⟨a', cap', he, hb, hr⟩ => ⟨(a', cap'), trivial, he, hb, newOk1 1 hr⟩)).mono fun e w' ⟨z, _, he, hb, hn⟩ => ⟨z, trivial, he, hb, newOk_at 2 hn⟩) rfl rfl rfl (w_n rfl) ?_
  rintro ⟨ar2, cr2⟩ -
  refine TL_q (.slice ar2 ((joinP (rls rs)).length) cr2) (fun _ _ hρ _ => r_extract (hρ _ _ rfl) rfl) rfl rfl rfl (w_n rfl) ?_
  refine TL_q (.int .i64 0) (fun _ _ hρ _ => r_extract (hρ _ _ rfl) rfl) rfl rfl rfl (w_n rfl) ?_
  refine TL_q (.slice ar2 ((joinP (rls rs)).length) cr2) (fun _ _ hρ _ => r_assign (hρ _ _ rfl)) rfl rfl rfl (w_n rfl) ?_
  refine TL_q (.int .i64 0) (fun _ _ hρ _ => r_assign (hρ _ _ rfl)) rfl rfl rfl (w_n rfl) ?_
  refine TL_seq ?_
  refine T_ret' ?_
  refine ret_of rfl (.tuple #[.slice ar2 ((joinP (rls rs)).length) cr2, .int .i64 0]) (fun tmps w hk hm => res2 rfl (res_tmp (hk 2 _ rfl)) (res_tmp (hk 3 _ rfl))) (fun w hm => ?_)
  exact ⟨ar2, cr2, rfl, hm.ext, hm.row 2 rfl⟩

theorem join1_no (T0 : Nat) (rs : List (RowG By)) (a : Option Addr) (cap : Nat) (w : World) (hv : SliceAt w a cap 1 RowG.cells rs) (hcap : cap ≤ Go.maxLen) (hx : RowsIn w rs) (hn : rs.length ≤ 1000) (h0 : hp w T0 = some (.cells #[.slice a rs.length cap] 63)) (h : ¬ ∀ r ∈ rs, r.l.length ≤ 65536) : Calls Try.prog 77 #[.pointer (some ⟨T0, 0, none⟩)] w fun e w' => e = .panicked [{ v := .iface 28 (.int .i64 3), recovered := false }] ∧ Below w.heap.size w w' := by
  refine calls_of_T (l := [.pointer (some ⟨T0, 0, none⟩)]) 4 Try.func77 rfl rfl rfl ?_
  show T _ _ _ [(0, .pointer (some ⟨T0, 0, none⟩))] []
  refine T_seq (T_region ?_)
  refine TL_q (.slice none 0 0) (fun _ _ hρ _ => r_assign (hρ _ _ rfl)) rfl rfl rfl (w_n rfl) ?_
  refine TL_seq ?_
  refine T_seq (T_region ?_)
  refine TL_q (.slice a rs.length cap) (fun _ _ hρ hm => r_load ag63 (hρ _ _ rfl) (hm.old h0) rfl) rfl rfl rfl (w_n rfl) ?_
  refine TL_callQ (v := .iface 28 (.int .i64 3)) (fun _ _ hρ _ => r_call (args := [.slice a rs.length cap, .func (.func 79) #[] #[]]) (enters_of Try.func78 (by kernel_rfl) rfl) (hρ _ _ rfl) ((cons2 (hρ _ _ rfl) (cons2 (hρ _ _ rfl) rfl))) rfl) (fun w hm => joined_no rs a cap w (hv.keep hm.ext) hcap (hx.keep hm.ext) hn h) rfl (w_n rfl) ?_
  refine p_then_p ?_
  refine p_pan rfl (fun w hm => ?_)
  exact ⟨rfl, hm.ext⟩

theorem join_no (rs : List (RowG By)) (a : Option Addr) (cap : Nat) (w : World) (hv : SliceAt w a cap 1 RowG.cells rs) (hcap : cap ≤ Go.maxLen) (hx : RowsIn w rs) (hn : rs.length ≤ 1000) (h : ¬ ∀ r ∈ rs, r.l.length ≤ 65536) : Calls Try.prog 38 #[.slice a rs.length cap] w fun e w' => e = .returned (.tuple #[.slice none 0 0, .int .i64 3]) ∧ Below w.heap.size w w' := by
  refine calls_of_T (l := [.slice a rs.length cap]) 8 Try.func38 rfl rfl rfl ?_
  show T _ _ _ [(0, .slice a rs.length cap)] []
  refine T_seq (T_region ?_)
  refine TL_new 1 (.cells #[.slice a rs.length cap] 63) (fun B => .pointer (some ⟨B, 0, none⟩)) (fun _ _ hρ _ => r_box (hρ _ _ rfl) rfl) rfl rfl rfl (w_n rfl) ?_
  intro B1
  refine TL_q (.slice none 0 0) (fun _ _ hρ _ => r_assign (hρ _ _ rfl)) rfl rfl rfl (w_n rfl) ?_
  refine TL_q (.int .i64 0) (fun _ _ hρ _ => r_assign (hρ _ _ rfl)) rfl rfl rfl (w_n rfl) ?_
  refine TL_seq ?_
  refine T_seq (T_region ?_)
  refine TL_q (.func (.func 77) #[] #[.pointer (some ⟨B1, 0, none⟩)]) (fun _ _ hρ _ => r_makeFunc (by simp) (map_arr (cons2 (hρ _ _ rfl) rfl))) rfl rfl rfl (w_n rfl) ?_
  refine TL_call (.tuple #[.slice none 0 0, .int .i64 3]) (fun _ _ hρ _ => r_call (args := [.func (.func 77) #[] #[.pointer (some ⟨B1, 0, none⟩)]]) (enters_of Try.func76 (by kernel_rfl) rfl) (hρ _ _ rfl) ((cons2 (hρ _ _ rfl) rfl)) rfl) (fun w hm => trJW_no 77 #[.pointer (some ⟨B1, 0, none⟩)] 3 w (enters_of Try.func77 (by kernel_rfl) rfl) (fun w2 hb2 => join1_no B1 rs a cap w2 (hv.keep (hm.ext.trans (hb2.mono hm.ext.size))) hcap (hx.keep (hm.ext.trans (hb2.mono hm.ext.size))) hn (kept hb2 (hm.at 1 rfl)) h)) rfl rfl rfl (w_n rfl) ?_
  refine TL_q (.slice none 0 0) (fun _ _ hρ _ => r_extract (hρ _ _ rfl) rfl) rfl rfl rfl (w_n rfl) ?_
  refine TL_q (.int .i64 3) (fun _ _ hρ _ => r_extract (hρ _ _ rfl) rfl) rfl rfl rfl (w_n rfl) ?_
  refine TL_q (.slice none 0 0) (fun _ _ hρ _ => r_assign (hρ _ _ rfl)) rfl rfl rfl (w_n rfl) ?_
  refine TL_q (.int .i64 3) (fun _ _ hρ _ => r_assign (hρ _ _ rfl)) rfl rfl rfl (w_n rfl) ?_
  refine TL_seq ?_
  refine T_ret' ?_
  refine ret_of rfl (.tuple #[.slice none 0 0, .int .i64 3]) (fun tmps w hk hm => res2 rfl (res_tmp (hk 2 _ rfl)) (res_tmp (hk 3 _ rfl))) (fun w hm => ?_)
  exact ⟨rfl, hm.ext⟩

/-- A row of bytes to be read, in new memory. -/
abbrev Res.sl (a : Option Addr) (cap : Nat) (l : List By) : Res := .abs (slF a l) (fun w => SliceAt w a cap 1 byc l ∧ cap ≤ Go.maxLen)
theorem MemOk.slAt {w₀ w : World} {L : Heap} (h : MemOk w₀ L w) (k : Nat) {a : Option Addr} {cap : Nat} {l : List By} (hk : lk L k = some (.sl a cap l)) : SliceAt w a cap 1 byc l := (h.own k _ hk).1.1
theorem slF_part {a : Option Addr} {l : List By} {m lo hi b : Nat} (h : slF (if m = lo then a else a.map (·.add (lo * 1))) ((l.drop lo).take (hi - lo)) b) : slF a l b := by
  obtain ⟨h1, x, hx, rfl⟩ := h
  refine ⟨fun e => h1 (by rw [e]; simp), ?_⟩
  split at hx
  · exact ⟨x, hx, rfl⟩
  · cases a with
    | none => cases hx
    | some y =>
      cases hx
      refine ⟨y, rfl, ?_⟩
      show y.block = (y.add (lo * 1)).block
      unfold Addr.add
      split <;> rfl
theorem sl_ok {base n cap lo hi m : Nat} {e : TypeId} {a : Option Addr} {l : List By} {w : World} (hr : w.ownsRow base e 1 (.slice a n cap) n (l.flatMap byc)) (hn : n = l.length) (h1 : lo ≤ hi) (h2 : hi ≤ l.length) (h3 : hi ≤ m) (h4 : m ≤ cap) : (Res.sl (if m = lo then a else a.map (·.add (lo * 1))) (m - lo) ((l.drop lo).take (hi - lo))).ok base w := by
  have hs := (SliceAt.own byc_len hr hn rfl).part h1 h2 h3 h4
  refine ⟨⟨hs, Nat.le_trans (Nat.sub_le _ _) (Nat.le_trans h4 (row_cap hr))⟩, fun b hb => ?_, fun w1 w2 h hb => ⟨h.1.keepF hb, h.2⟩⟩
  subst hn
  exact Res.low (r := .row (.slice a l.length cap) e 1 l.length (l.flatMap byc)) hr (own_slF hr (slF_part hb))
theorem first_e1 {l : List By} (h : ¬ 4 ≤ l.length) : firstE l = 110 := by unfold firstE; rw [if_pos (by omega)]
theorem first_e2 {l : List By} (h : 4 ≤ l.length) (h2 : ¬ numP l ≤ 65536) : firstE l = 3 := by unfold firstE; rw [if_neg (by omega), if_pos (by omega)]
theorem first_e3 {l : List By} (h : 4 ≤ l.length) (h2 : numP l ≤ 65536) (h3 : ¬ numP l + 8 ≤ l.length) : firstE l = 110 := by unfold firstE; rw [if_neg (by omega), if_neg (by omega), if_pos (by omega)]
theorem openE_is (l : List By) : openE l = if (openP l).isNone then 120 else 0 := by
  unfold openE
  cases openP l <;> rfl
theorem first_e4 {l : List By} (h : 4 ≤ l.length) (h2 : numP l ≤ 65536) (h3 : numP l + 8 ≤ l.length) : firstE l = openE (l.take (numP l + 8)) := by
  rw [openE_is]
  unfold firstE
  rw [if_neg (by omega), if_neg (by omega), if_neg (by omega)]
theorem openE_no {l : List By} (h : ¬ openE l = 0) : openE l = 120 := by
  rw [openE_is] at h ⊢
  split
  · rfl
  · rename_i e; rw [if_neg e] at h; exact absurd rfl h

theorem openL_len {l : List By} (h : openE l = 0) : (openL l).length + 4 = l.length := by
  unfold openE at h
  unfold openL
  cases e : openP l with
  | none => rw [e] at h; cases h
  | some x => exact openP_len e

theorem first_c (l : List By) (a : Option Addr) (cap : Nat) (w : World) (hv : SliceAt w a cap 1 byc l) (hcap : cap ≤ Go.maxLen) (h : firstE l = 0) : Calls Try.prog 92 #[.slice a l.length cap] w fun e w' => ∃ a' cap', e = .returned (.agg #[.slice a' (heldP l).length cap', .int .i64 (((heldP l).length + 8 : Nat) : Int)]) ∧ Below w.heap.size w w' ∧ (Res.sl a' cap' (heldP l)).ok w.heap.size w' := by
  have hvl := hv.1
  have hcp := hcap
  unfold Go.maxLen at hcp
  have hnl := numP_lt l
  have c1 := (first_ok h).1
  have c2 := (first_ok h).2.1
  have c3 := (first_ok h).2.2.1
  have hopE : openE (l.take (numP l + 8)) = 0 := (first_e4 c1 c2 c3).symm.trans h
  refine calls_of_T (l := [.slice a l.length cap]) 41 Try.func92 rfl rfl rfl ?_
  show T _ _ _ [(0, .slice a l.length cap)] []
  refine T_seq (T_region ?_)
  refine TL_new 1 (.cells #[.slice none 0 0, .int .i64 0] 121) (fun B => .pointer (some ⟨B, 0, none⟩)) (fun _ _ _ _ => r_alloc (v := .agg #[.slice none 0 0, .int .i64 0]) (by kernel_rfl) rfl) rfl rfl rfl (w_n rfl) ?_
  intro B1
  refine TL_seq ?_
  refine T_seq (T_region ?_)
  refine TL_q (.slice a l.length cap) (fun _ _ hρ _ => r_move (hρ _ _ rfl)) rfl rfl rfl (w_n rfl) ?_
  refine TL_call (.tuple #[.int .u64 ((numP l : Nat) : Int), .int .i64 0]) (fun _ _ hρ _ => r_call (args := [.slice a l.length cap, .int .i64 0, .int .i64 4]) (enters_of Try.func117 (by kernel_rfl) rfl) (hρ _ _ rfl) ((cons2 (hρ _ _ rfl) (cons2 (hρ _ _ rfl) (cons2 (hρ _ _ rfl) rfl)))) rfl) (fun w hm => get_ok l a cap w (hv.keep hm.ext) hcap c1) rfl rfl rfl (w_n rfl) ?_
  refine TL_q (.tuple #[.int .u64 ((numP l : Nat) : Int), .int .i64 0]) (fun _ _ hρ _ => r_move (hρ _ _ rfl)) rfl rfl rfl (w_n rfl) ?_
  refine TL_q (.int .u64 ((numP l : Nat) : Int)) (fun _ _ hρ _ => r_extract (hρ _ _ rfl) rfl) rfl rfl rfl (w_n rfl) ?_
  refine TL_q (.int .i64 0) (fun _ _ hρ _ => r_extract (hρ _ _ rfl) rfl) rfl rfl rfl (w_n rfl) ?_
  refine TL_q (.int .u64 ((numP l : Nat) : Int)) (fun _ _ hρ _ => r_assign (hρ _ _ rfl)) rfl rfl rfl (w_n rfl) ?_
  refine TL_q (.int .i64 0) (fun _ _ hρ _ => r_assign (hρ _ _ rfl)) rfl rfl rfl (w_n rfl) ?_
  refine TL_seq ?_
  refine T_seq (T_region ?_)
  refine TL_q (.int .i64 0) (fun _ _ hρ _ => r_move (hρ _ _ rfl)) rfl rfl rfl (w_n rfl) ?_
  refine TL_q (.bool true) (fun _ _ hρ _ => r_as (r_eql (hρ _ _ rfl) (hρ _ _ rfl)) (by rfl)) rfl rfl rfl (w_n rfl) ?_
  refine TL_call (.tuple #[]) (fun _ _ hρ _ => r_call (args := [.bool true, .int .i64 110]) (enters_of Try.func84 (by kernel_rfl) rfl) (hρ _ _ rfl) ((cons2 (hρ _ _ rfl) (cons2 (hρ _ _ rfl) rfl))) rfl) (fun w _ => need_ok_jrn 110 w) rfl rfl rfl (w_n rfl) ?_
  refine TL_seq ?_
  refine T_seq (T_region ?_)
  refine TL_q (.int .u64 ((numP l : Nat) : Int)) (fun _ _ hρ _ => r_move (hρ _ _ rfl)) rfl rfl rfl (w_n rfl) ?_
  refine TL_q (.bool true) (fun _ _ hρ _ => r_as (r_leq (hρ _ _ rfl) (hρ _ _ rfl)) (bool_as (decide_eq_true (by omega)))) rfl rfl rfl (w_n rfl) ?_
  refine TL_call (.tuple #[]) (fun _ _ hρ _ => r_call (args := [.bool true, .int .i64 3]) (enters_of Try.func84 (by kernel_rfl) rfl) (hρ _ _ rfl) ((cons2 (hρ _ _ rfl) (cons2 (hρ _ _ rfl) rfl))) rfl) (fun w _ => need_ok_jrn 3 w) rfl rfl rfl (w_n rfl) ?_
  refine TL_seq ?_
  refine T_seq (T_region ?_)
  refine TL_q (.int .u64 ((numP l : Nat) : Int)) (fun _ _ hρ _ => r_move (hρ _ _ rfl)) rfl rfl rfl (w_n rfl) ?_
  refine TL_q (.int .i64 ((numP l : Nat) : Int)) (fun _ _ hρ _ => r_as (r_conv un25 io3 (hρ _ _ rfl)) (int_as (wrap64 (by omega) (by omega)))) rfl rfl rfl (w_n rfl) ?_
  refine TL_q (.int .i64 ((numP l + 8 : Nat) : Int)) (fun _ _ hρ _ => r_as (r_add (hρ _ _ rfl) (hρ _ _ rfl)) (int_as ((wrap64 (by omega) (by omega)).trans (by omega)))) rfl rfl rfl (w_n rfl) ?_
  refine TL_q (.int .i64 ((numP l + 8 : Nat) : Int)) (fun _ _ hρ _ => r_assign (hρ _ _ rfl)) rfl rfl rfl (w_n rfl) ?_
  refine TL_seq ?_
  refine T_seq (T_region ?_)
  refine TL_q (.slice a l.length cap) (fun _ _ hρ _ => r_move (hρ _ _ rfl)) rfl rfl rfl (w_n rfl) ?_
  refine TL_q (.int .i64 ((l.length : Nat) : Int)) (fun _ _ hρ _ => r_len sl34 (hρ _ _ rfl)) rfl rfl rfl (w_n rfl) ?_
  refine TL_q (.int .i64 ((numP l + 8 : Nat) : Int)) (fun _ _ hρ _ => r_move (hρ _ _ rfl)) rfl rfl rfl (w_n rfl) ?_
  refine TL_q (.bool true) (fun _ _ hρ _ => r_as (r_geq (hρ _ _ rfl) (hρ _ _ rfl)) (bool_as (decide_eq_true (by omega)))) rfl rfl rfl (w_n rfl) ?_
  refine TL_call (.tuple #[]) (fun _ _ hρ _ => r_call (args := [.bool true, .int .i64 110]) (enters_of Try.func84 (by kernel_rfl) rfl) (hρ _ _ rfl) ((cons2 (hρ _ _ rfl) (cons2 (hρ _ _ rfl) rfl))) rfl) (fun w _ => need_ok_jrn 110 w) rfl rfl rfl (w_n rfl) ?_
  refine TL_seq ?_
  refine T_seq (T_region ?_)
  refine TL_q (.slice a l.length cap) (fun _ _ hρ _ => r_move (hρ _ _ rfl)) rfl rfl rfl (w_n rfl) ?_
  refine TL_q (.int .i64 ((numP l + 8 : Nat) : Int)) (fun _ _ hρ _ => r_move (hρ _ _ rfl)) rfl rfl rfl (w_n rfl) ?_
  refine TL_q (.int .i64 ((numP l + 8 : Nat) : Int)) (fun _ _ hρ _ => r_move (hρ _ _ rfl)) rfl rfl rfl (w_n rfl) ?_
  obtain ⟨l2, hl2, hn2⟩ : ∃ lz, lz = l.take (numP l + 8) ∧ lz.length = numP l + 8 := ⟨_, rfl, by rw [List.length_take]; omega⟩
  have hs2 := SliceAt.front hv (n := numP l + 8) (m := numP l + 8) (by omega) (by omega) (by omega)
  rw [← hl2] at hs2
  refine TL_q (.slice a l2.length (numP l + 8)) (fun ρ _ hρ _ => r_as (r_sliceO sl34 sz5 (hρ _ _ rfl) (bd_some (n := numP l + 8) (hρ _ _ rfl)) (bd_some (n := numP l + 8) (hρ _ _ rfl)) (bd_none ρ _) (by simp) (by omega) (by omega) (by omega)) (by rw [hn2]; exact slo_zero _ _ _ _)) rfl rfl rfl (w_n rfl) ?_
  refine TL_callN (fun (_ : Option Addr × Nat) => True) (fun (ar3, cr3) => .tuple #[.slice ar3 ((openL l2).length) cr3, .int .i64 0]) (fun (ar3, cr3) => [(2, .row (.slice ar3 ((openL l2).length) cr3) 5 1 ((openL l2).length) ((openL l2).flatMap byc))]) (fun _ _ hρ _ => r_call (args := [.slice a l2.length (numP l + 8)]) (enters_of Try.func56 (by kernel_rfl) rfl) (hρ _ _ rfl) ((cons2 (hρ _ _ rfl) rfl)) rfl) (fun w hm => (open_c l2 a (numP l + 8) w (hs2.keep hm.ext) (by omega) (by omega)).mono fun e w' ⟨a', cap', he, hb, hr⟩ => ⟨(a', cap'), trivial, he.trans (by rw [show openE l2 = 0 by rw [hl2]; exact hopE]), hb, newOk1 2 hr⟩) rfl rfl rfl (w_n rfl) ?_
  rintro ⟨ar3, cr3⟩ -
  refine TL_q (.tuple #[.slice ar3 ((openL l2).length) cr3, .int .i64 0]) (fun _ _ hρ _ => r_move (hρ _ _ rfl)) rfl rfl rfl (w_n rfl) ?_
  refine TL_q (.slice ar3 ((openL l2).length) cr3) (fun _ _ hρ _ => r_extract (hρ _ _ rfl) rfl) rfl rfl rfl (w_n rfl) ?_
  refine TL_q (.int .i64 0) (fun _ _ hρ _ => r_extract (hρ _ _ rfl) rfl) rfl rfl rfl (w_n rfl) ?_
  refine TL_q (.slice ar3 ((openL l2).length) cr3) (fun _ _ hρ _ => r_assign (hρ _ _ rfl)) rfl rfl rfl (w_n rfl) ?_
  refine TL_q (.int .i64 0) (fun _ _ hρ _ => r_assign (hρ _ _ rfl)) rfl rfl rfl (w_n rfl) ?_
  refine TL_seq ?_
  refine T_sub [(2, .pointer (some ⟨B1, 0, none⟩)), (5, .int .i64 ((numP l + 8 : Nat) : Int)), (6, .slice ar3 ((openL l2).length) cr3), (4, .int .i64 0)] [(2, .row (.slice ar3 ((openL l2).length) cr3) 5 1 ((openL l2).length) ((openL l2).flatMap byc)), (1, .blk B1 (.cells #[.slice none 0 0, .int .i64 0] 121))] (sub_cons rfl (sub_cons rfl (sub_cons rfl (sub_cons rfl sub_nil)))) (sub_cons rfl (sub_cons rfl sub_nil)) ?_
  refine T_rowcap 2 rfl (fun hrc => ?_)
  have hol := openL_len (l := l2) (by rw [hl2]; exact hopE)
  refine T_seq (T_region ?_)
  refine TL_q (.int .i64 0) (fun _ _ hρ _ => r_move (hρ _ _ rfl)) rfl rfl rfl (w_n rfl) ?_
  refine TL_q (.bool true) (fun _ _ hρ _ => r_as (r_eql (hρ _ _ rfl) (hρ _ _ rfl)) (by rfl)) rfl rfl rfl (w_n rfl) ?_
  refine TL_call (.tuple #[]) (fun _ _ hρ _ => r_call (args := [.bool true, .int .i64 120]) (enters_of Try.func84 (by kernel_rfl) rfl) (hρ _ _ rfl) ((cons2 (hρ _ _ rfl) (cons2 (hρ _ _ rfl) rfl))) rfl) (fun w _ => need_ok_jrn 120 w) rfl rfl rfl (w_n rfl) ?_
  refine TL_seq ?_
  refine T_seq (T_region ?_)
  refine TL_q (.slice ar3 ((openL l2).length) cr3) (fun _ _ hρ _ => r_move (hρ _ _ rfl)) rfl rfl rfl (w_n rfl) ?_
  obtain ⟨l4, hl4, hn4⟩ : ∃ lz, lz = ((openL l2).drop 4).take ((openL l2).length - 4) ∧ lz.length = (openL l2).length - 4 := ⟨_, rfl, by rw [List.length_take, List.length_drop]; omega⟩
  obtain ⟨a4, ha4⟩ : ∃ az : Option Addr, az = (if cr3 = 4 then (ar3 : Option Addr) else Option.map (fun z : Addr => z.add (4 * 1)) (ar3 : Option Addr)) := ⟨_, rfl⟩
  refine TL_q (.slice a4 l4.length (cr3 - 4)) (fun ρ _ hρ _ => r_as (r_sliceO sl34 sz5 (hρ _ _ rfl) (bd_none ρ _) (bd_none ρ _) (bd_some (n := 4) (hρ _ _ rfl)) (by simp) (by omega) (by omega) (by omega)) (by rw [hn4, ha4])) rfl rfl rfl (w_n rfl) ?_
  refine TL_q (.int .i64 ((numP l + 8 : Nat) : Int)) (fun _ _ hρ _ => r_move (hρ _ _ rfl)) rfl rfl rfl (w_n rfl) ?_
  refine TL_q (.agg #[.slice a4 l4.length (cr3 - 4), .int .i64 ((numP l + 8 : Nat) : Int)]) (fun _ _ hρ _ => r_build (vs := [(0, .slice a4 l4.length (cr3 - 4)), (1, .int .i64 ((numP l + 8 : Nat) : Int))]) (by kernel_rfl) (cons2 (pair2 (hρ _ _ rfl)) (cons2 (pair2 (hρ _ _ rfl)) rfl))) rfl rfl rfl (w_n rfl) ?_
  refine TL_store 1 (.cells #[.slice a4 l4.length (cr3 - 4), .int .i64 ((numP l + 8 : Nat) : Int)] 121) rfl (fun _ _ hρ hm => r_store sz121 (hρ _ _ rfl) (hρ _ _ rfl) (hm.at 1 rfl) rfl rfl rfl rfl) rfl rfl (w_n rfl) ?_
  refine TL_seq ?_
  refine T_ret' ?_
  refine ret_of rfl (.agg #[.slice a4 l4.length (cr3 - 4), .int .i64 ((numP l + 8 : Nat) : Int)]) (fun tmps w hk hm => res1 rfl (res_cell (hk 2 _ rfl) (run_loadVar_agg ag121 sz121 (hm.at 1 rfl) (Nat.le_of_ble_eq_true rfl) rfl))) (fun w hm => ?_)
  have hrw := sl_ok (hm.row 2 rfl) rfl (lo := 4) (hi := (openL l2).length) (m := cr3) (by omega) (Nat.le_refl _) (by omega) (by omega)
  rw [← hl4, ← ha4] at hrw
  have hz : l4 = heldP l := by rw [hl4]; unfold heldP; rw [← hl2]; exact List.take_of_length_le (by rw [List.length_drop]; exact Nat.le_refl _)
  rw [hz] at hrw ⊢
  exact ⟨a4, (cr3 - 4), by rw [heldP_len h], hm.ext, hrw⟩

theorem first_p (l : List By) (a : Option Addr) (cap : Nat) (w : World) (hv : SliceAt w a cap 1 byc l) (hcap : cap ≤ Go.maxLen) (h : ¬ firstE l = 0) : Calls Try.prog 92 #[.slice a l.length cap] w fun e w' => e = .panicked [{ v := .iface 28 (.int .i64 (firstE l)), recovered := false }] ∧ Below w.heap.size w w' := by
  have hvl := hv.1
  have hcp := hcap
  unfold Go.maxLen at hcp
  have hnl := numP_lt l
  refine calls_of_T (l := [.slice a l.length cap]) 41 Try.func92 rfl rfl rfl ?_
  show T _ _ _ [(0, .slice a l.length cap)] []
  refine T_seq (T_region ?_)
  refine TL_new 1 (.cells #[.slice none 0 0, .int .i64 0] 121) (fun B => .pointer (some ⟨B, 0, none⟩)) (fun _ _ _ _ => r_alloc (v := .agg #[.slice none 0 0, .int .i64 0]) (by kernel_rfl) rfl) rfl rfl rfl (w_n rfl) ?_
  intro B1
  refine TL_seq ?_
  by_cases c1 : 4 ≤ l.length
  · skip
    refine T_seq (T_region ?_)
    refine TL_q (.slice a l.length cap) (fun _ _ hρ _ => r_move (hρ _ _ rfl)) rfl rfl rfl (w_n rfl) ?_
    refine TL_call (.tuple #[.int .u64 ((numP l : Nat) : Int), .int .i64 0]) (fun _ _ hρ _ => r_call (args := [.slice a l.length cap, .int .i64 0, .int .i64 4]) (enters_of Try.func117 (by kernel_rfl) rfl) (hρ _ _ rfl) ((cons2 (hρ _ _ rfl) (cons2 (hρ _ _ rfl) (cons2 (hρ _ _ rfl) rfl)))) rfl) (fun w hm => get_ok l a cap w (hv.keep hm.ext) hcap c1) rfl rfl rfl (w_n rfl) ?_
    refine TL_q (.tuple #[.int .u64 ((numP l : Nat) : Int), .int .i64 0]) (fun _ _ hρ _ => r_move (hρ _ _ rfl)) rfl rfl rfl (w_n rfl) ?_
    refine TL_q (.int .u64 ((numP l : Nat) : Int)) (fun _ _ hρ _ => r_extract (hρ _ _ rfl) rfl) rfl rfl rfl (w_n rfl) ?_
    refine TL_q (.int .i64 0) (fun _ _ hρ _ => r_extract (hρ _ _ rfl) rfl) rfl rfl rfl (w_n rfl) ?_
    refine TL_q (.int .u64 ((numP l : Nat) : Int)) (fun _ _ hρ _ => r_assign (hρ _ _ rfl)) rfl rfl rfl (w_n rfl) ?_
    refine TL_q (.int .i64 0) (fun _ _ hρ _ => r_assign (hρ _ _ rfl)) rfl rfl rfl (w_n rfl) ?_
    refine TL_seq ?_
    refine T_seq (T_region ?_)
    refine TL_q (.int .i64 0) (fun _ _ hρ _ => r_move (hρ _ _ rfl)) rfl rfl rfl (w_n rfl) ?_
    refine TL_q (.bool true) (fun _ _ hρ _ => r_as (r_eql (hρ _ _ rfl) (hρ _ _ rfl)) (by rfl)) rfl rfl rfl (w_n rfl) ?_
    refine TL_call (.tuple #[]) (fun _ _ hρ _ => r_call (args := [.bool true, .int .i64 110]) (enters_of Try.func84 (by kernel_rfl) rfl) (hρ _ _ rfl) ((cons2 (hρ _ _ rfl) (cons2 (hρ _ _ rfl) rfl))) rfl) (fun w _ => need_ok_jrn 110 w) rfl rfl rfl (w_n rfl) ?_
    refine TL_seq ?_
    by_cases c2 : ((numP l : Nat) : Int) ≤ 65536
    · skip
      refine T_seq (T_region ?_)
      refine TL_q (.int .u64 ((numP l : Nat) : Int)) (fun _ _ hρ _ => r_move (hρ _ _ rfl)) rfl rfl rfl (w_n rfl) ?_
      refine TL_q (.bool true) (fun _ _ hρ _ => r_as (r_leq (hρ _ _ rfl) (hρ _ _ rfl)) (bool_as (decide_eq_true c2))) rfl rfl rfl (w_n rfl) ?_
      refine TL_call (.tuple #[]) (fun _ _ hρ _ => r_call (args := [.bool true, .int .i64 3]) (enters_of Try.func84 (by kernel_rfl) rfl) (hρ _ _ rfl) ((cons2 (hρ _ _ rfl) (cons2 (hρ _ _ rfl) rfl))) rfl) (fun w _ => need_ok_jrn 3 w) rfl rfl rfl (w_n rfl) ?_
      refine TL_seq ?_
      refine T_seq (T_region ?_)
      refine TL_q (.int .u64 ((numP l : Nat) : Int)) (fun _ _ hρ _ => r_move (hρ _ _ rfl)) rfl rfl rfl (w_n rfl) ?_
      refine TL_q (.int .i64 ((numP l : Nat) : Int)) (fun _ _ hρ _ => r_as (r_conv un25 io3 (hρ _ _ rfl)) (int_as (wrap64 (by omega) (by omega)))) rfl rfl rfl (w_n rfl) ?_
      refine TL_q (.int .i64 ((numP l + 8 : Nat) : Int)) (fun _ _ hρ _ => r_as (r_add (hρ _ _ rfl) (hρ _ _ rfl)) (int_as ((wrap64 (by omega) (by omega)).trans (by omega)))) rfl rfl rfl (w_n rfl) ?_
      refine TL_q (.int .i64 ((numP l + 8 : Nat) : Int)) (fun _ _ hρ _ => r_assign (hρ _ _ rfl)) rfl rfl rfl (w_n rfl) ?_
      refine TL_seq ?_
      by_cases c3 : ((numP l + 8 : Nat) : Int) ≤ ((l.length : Nat) : Int)
      · skip
        refine T_seq (T_region ?_)
        refine TL_q (.slice a l.length cap) (fun _ _ hρ _ => r_move (hρ _ _ rfl)) rfl rfl rfl (w_n rfl) ?_
        refine TL_q (.int .i64 ((l.length : Nat) : Int)) (fun _ _ hρ _ => r_len sl34 (hρ _ _ rfl)) rfl rfl rfl (w_n rfl) ?_
        refine TL_q (.int .i64 ((numP l + 8 : Nat) : Int)) (fun _ _ hρ _ => r_move (hρ _ _ rfl)) rfl rfl rfl (w_n rfl) ?_
        refine TL_q (.bool true) (fun _ _ hρ _ => r_as (r_geq (hρ _ _ rfl) (hρ _ _ rfl)) (bool_as (decide_eq_true c3))) rfl rfl rfl (w_n rfl) ?_
        refine TL_call (.tuple #[]) (fun _ _ hρ _ => r_call (args := [.bool true, .int .i64 110]) (enters_of Try.func84 (by kernel_rfl) rfl) (hρ _ _ rfl) ((cons2 (hρ _ _ rfl) (cons2 (hρ _ _ rfl) rfl))) rfl) (fun w _ => need_ok_jrn 110 w) rfl rfl rfl (w_n rfl) ?_
        refine TL_seq ?_
        by_cases hopE : openE (l.take (numP l + 8)) = 0
        · skip
          refine T_seq (T_region ?_)
          refine TL_q (.slice a l.length cap) (fun _ _ hρ _ => r_move (hρ _ _ rfl)) rfl rfl rfl (w_n rfl) ?_
          refine TL_q (.int .i64 ((numP l + 8 : Nat) : Int)) (fun _ _ hρ _ => r_move (hρ _ _ rfl)) rfl rfl rfl (w_n rfl) ?_
          refine TL_q (.int .i64 ((numP l + 8 : Nat) : Int)) (fun _ _ hρ _ => r_move (hρ _ _ rfl)) rfl rfl rfl (w_n rfl) ?_
          obtain ⟨l2, hl2, hn2⟩ : ∃ lz, lz = l.take (numP l + 8) ∧ lz.length = numP l + 8 := ⟨_, rfl, by rw [List.length_take]; omega⟩
          have hs2 := SliceAt.front hv (n := numP l + 8) (m := numP l + 8) (by omega) (by omega) (by omega)
          rw [← hl2] at hs2
          refine TL_q (.slice a l2.length (numP l + 8)) (fun ρ _ hρ _ => r_as (r_sliceO sl34 sz5 (hρ _ _ rfl) (bd_some (n := numP l + 8) (hρ _ _ rfl)) (bd_some (n := numP l + 8) (hρ _ _ rfl)) (bd_none ρ _) (by simp) (by omega) (by omega) (by omega)) (by rw [hn2]; exact slo_zero _ _ _ _)) rfl rfl rfl (w_n rfl) ?_
          refine TL_callN (fun (_ : Option Addr × Nat) => True) (fun (ar3, cr3) => .tuple #[.slice ar3 ((openL l2).length) cr3, .int .i64 0]) (fun (ar3, cr3) => [(2, .row (.slice ar3 ((openL l2).length) cr3) 5 1 ((openL l2).length) ((openL l2).flatMap byc))]) (fun _ _ hρ _ => r_call (args := [.slice a l2.length (numP l + 8)]) (enters_of Try.func56 (by kernel_rfl) rfl) (hρ _ _ rfl) ((cons2 (hρ _ _ rfl) rfl)) rfl) (fun w hm => (open_c l2 a (numP l + 8) w (hs2.keep hm.ext) (by omega) (by omega)).mono fun e w' ⟨a', cap', he, hb, hr⟩ => ⟨(a', cap'), trivial, he.trans (by rw [show openE l2 = 0 by rw [hl2]; exact hopE]), hb, newOk1 2 hr⟩) rfl rfl rfl (w_n rfl) ?_
          rintro ⟨ar3, cr3⟩ -
          refine TL_q (.tuple #[.slice ar3 ((openL l2).length) cr3, .int .i64 0]) (fun _ _ hρ _ => r_move (hρ _ _ rfl)) rfl rfl rfl (w_n rfl) ?_
          refine TL_q (.slice ar3 ((openL l2).length) cr3) (fun _ _ hρ _ => r_extract (hρ _ _ rfl) rfl) rfl rfl rfl (w_n rfl) ?_
          refine TL_q (.int .i64 0) (fun _ _ hρ _ => r_extract (hρ _ _ rfl) rfl) rfl rfl rfl (w_n rfl) ?_
          refine TL_q (.slice ar3 ((openL l2).length) cr3) (fun _ _ hρ _ => r_assign (hρ _ _ rfl)) rfl rfl rfl (w_n rfl) ?_
          refine TL_q (.int .i64 0) (fun _ _ hρ _ => r_assign (hρ _ _ rfl)) rfl rfl rfl (w_n rfl) ?_
          refine TL_seq ?_
          refine T_sub [(2, .pointer (some ⟨B1, 0, none⟩)), (5, .int .i64 ((numP l + 8 : Nat) : Int)), (6, .slice ar3 ((openL l2).length) cr3), (4, .int .i64 0)] [(2, .row (.slice ar3 ((openL l2).length) cr3) 5 1 ((openL l2).length) ((openL l2).flatMap byc)), (1, .blk B1 (.cells #[.slice none 0 0, .int .i64 0] 121))] (sub_cons rfl (sub_cons rfl (sub_cons rfl (sub_cons rfl sub_nil)))) (sub_cons rfl (sub_cons rfl sub_nil)) ?_
          refine T_rowcap 2 rfl (fun hrc => ?_)
          have hol := openL_len (l := l2) (by rw [hl2]; exact hopE)
          refine T_seq (T_region ?_)
          refine TL_q (.int .i64 0) (fun _ _ hρ _ => r_move (hρ _ _ rfl)) rfl rfl rfl (w_n rfl) ?_
          refine TL_q (.bool true) (fun _ _ hρ _ => r_as (r_eql (hρ _ _ rfl) (hρ _ _ rfl)) (by rfl)) rfl rfl rfl (w_n rfl) ?_
          refine TL_call (.tuple #[]) (fun _ _ hρ _ => r_call (args := [.bool true, .int .i64 120]) (enters_of Try.func84 (by kernel_rfl) rfl) (hρ _ _ rfl) ((cons2 (hρ _ _ rfl) (cons2 (hρ _ _ rfl) rfl))) rfl) (fun w _ => need_ok_jrn 120 w) rfl rfl rfl (w_n rfl) ?_
          refine TL_seq ?_
          refine T_seq (T_region ?_)
          refine TL_q (.slice ar3 ((openL l2).length) cr3) (fun _ _ hρ _ => r_move (hρ _ _ rfl)) rfl rfl rfl (w_n rfl) ?_
          obtain ⟨l4, hl4, hn4⟩ : ∃ lz, lz = ((openL l2).drop 4).take ((openL l2).length - 4) ∧ lz.length = (openL l2).length - 4 := ⟨_, rfl, by rw [List.length_take, List.length_drop]; omega⟩
          obtain ⟨a4, ha4⟩ : ∃ az : Option Addr, az = (if cr3 = 4 then (ar3 : Option Addr) else Option.map (fun z : Addr => z.add (4 * 1)) (ar3 : Option Addr)) := ⟨_, rfl⟩
          refine TL_q (.slice a4 l4.length (cr3 - 4)) (fun ρ _ hρ _ => r_as (r_sliceO sl34 sz5 (hρ _ _ rfl) (bd_none ρ _) (bd_none ρ _) (bd_some (n := 4) (hρ _ _ rfl)) (by simp) (by omega) (by omega) (by omega)) (by rw [hn4, ha4])) rfl rfl rfl (w_n rfl) ?_
          refine TL_q (.int .i64 ((numP l + 8 : Nat) : Int)) (fun _ _ hρ _ => r_move (hρ _ _ rfl)) rfl rfl rfl (w_n rfl) ?_
          refine TL_q (.agg #[.slice a4 l4.length (cr3 - 4), .int .i64 ((numP l + 8 : Nat) : Int)]) (fun _ _ hρ _ => r_build (vs := [(0, .slice a4 l4.length (cr3 - 4)), (1, .int .i64 ((numP l + 8 : Nat) : Int))]) (by kernel_rfl) (cons2 (pair2 (hρ _ _ rfl)) (cons2 (pair2 (hρ _ _ rfl)) rfl))) rfl rfl rfl (w_n rfl) ?_
          refine TL_store 1 (.cells #[.slice a4 l4.length (cr3 - 4), .int .i64 ((numP l + 8 : Nat) : Int)] 121) rfl (fun _ _ hρ hm => r_store sz121 (hρ _ _ rfl) (hρ _ _ rfl) (hm.at 1 rfl) rfl rfl rfl rfl) rfl rfl (w_n rfl) ?_
          refine TL_seq ?_
          refine T_ret' ?_
          refine ret_of rfl (.agg #[.slice a4 l4.length (cr3 - 4), .int .i64 ((numP l + 8 : Nat) : Int)]) (fun tmps w hk hm => res1 rfl (res_cell (hk 2 _ rfl) (run_loadVar_agg ag121 sz121 (hm.at 1 rfl) (Nat.le_of_ble_eq_true rfl) rfl))) (fun w hm => ?_)
          exact absurd ((first_e4 c1 (by omega) (by omega)).trans hopE) h
        · skip
          refine T_seq (T_region ?_)
          refine TL_q (.slice a l.length cap) (fun _ _ hρ _ => r_move (hρ _ _ rfl)) rfl rfl rfl (w_n rfl) ?_
          refine TL_q (.int .i64 ((numP l + 8 : Nat) : Int)) (fun _ _ hρ _ => r_move (hρ _ _ rfl)) rfl rfl rfl (w_n rfl) ?_
          refine TL_q (.int .i64 ((numP l + 8 : Nat) : Int)) (fun _ _ hρ _ => r_move (hρ _ _ rfl)) rfl rfl rfl (w_n rfl) ?_
          obtain ⟨l5, hl5, hn5⟩ : ∃ lz, lz = l.take (numP l + 8) ∧ lz.length = numP l + 8 := ⟨_, rfl, by rw [List.length_take]; omega⟩
          have hs5 := SliceAt.front hv (n := numP l + 8) (m := numP l + 8) (by omega) (by omega) (by omega)
          rw [← hl5] at hs5
          refine TL_q (.slice a l5.length (numP l + 8)) (fun ρ _ hρ _ => r_as (r_sliceO sl34 sz5 (hρ _ _ rfl) (bd_some (n := numP l + 8) (hρ _ _ rfl)) (bd_some (n := numP l + 8) (hρ _ _ rfl)) (bd_none ρ _) (by simp) (by omega) (by omega) (by omega)) (by rw [hn5]; exact slo_zero _ _ _ _)) rfl rfl rfl (w_n rfl) ?_
          refine TL_callN (fun (_ : Option Addr × Nat) => True) (fun (ar6, cr6) => .tuple #[.slice ar6 ((openL l5).length) cr6, .int .i64 120]) (fun (ar6, cr6) => [(3, .row (.slice ar6 ((openL l5).length) cr6) 5 1 ((openL l5).length) ((openL l5).flatMap byc))]) (fun _ _ hρ _ => r_call (args := [.slice a l5.length (numP l + 8)]) (enters_of Try.func56 (by kernel_rfl) rfl) (hρ _ _ rfl) ((cons2 (hρ _ _ rfl) rfl)) rfl) (fun w hm => (open_c l5 a (numP l + 8) w (hs5.keep hm.ext) (by omega) (by omega)).mono fun e w' ⟨a', cap', he, hb, hr⟩ => ⟨(a', cap'), trivial, he.trans (by rw [show openE l5 = 120 by rw [hl5]; exact (openE_no hopE)]), hb, newOk1 3 hr⟩) rfl rfl rfl (w_n rfl) ?_
          rintro ⟨ar6, cr6⟩ -
          refine TL_q (.tuple #[.slice ar6 ((openL l5).length) cr6, .int .i64 120]) (fun _ _ hρ _ => r_move (hρ _ _ rfl)) rfl rfl rfl (w_n rfl) ?_
          refine TL_q (.slice ar6 ((openL l5).length) cr6) (fun _ _ hρ _ => r_extract (hρ _ _ rfl) rfl) rfl rfl rfl (w_n rfl) ?_
          refine TL_q (.int .i64 120) (fun _ _ hρ _ => r_extract (hρ _ _ rfl) rfl) rfl rfl rfl (w_n rfl) ?_
          refine TL_q (.slice ar6 ((openL l5).length) cr6) (fun _ _ hρ _ => r_assign (hρ _ _ rfl)) rfl rfl rfl (w_n rfl) ?_
          refine TL_q (.int .i64 120) (fun _ _ hρ _ => r_assign (hρ _ _ rfl)) rfl rfl rfl (w_n rfl) ?_
          refine TL_seq ?_
          refine T_sub [(2, .pointer (some ⟨B1, 0, none⟩)), (5, .int .i64 ((numP l + 8 : Nat) : Int)), (6, .slice ar6 ((openL l5).length) cr6), (4, .int .i64 120)] [(3, .row (.slice ar6 ((openL l5).length) cr6) 5 1 ((openL l5).length) ((openL l5).flatMap byc)), (1, .blk B1 (.cells #[.slice none 0 0, .int .i64 0] 121))] (sub_cons rfl (sub_cons rfl (sub_cons rfl (sub_cons rfl sub_nil)))) (sub_cons rfl (sub_cons rfl sub_nil)) ?_
          refine T_seq (T_region ?_)
          refine TL_q (.int .i64 120) (fun _ _ hρ _ => r_move (hρ _ _ rfl)) rfl rfl rfl (w_n rfl) ?_
          refine TL_q (.bool false) (fun _ _ hρ _ => r_as (r_eql (hρ _ _ rfl) (hρ _ _ rfl)) (by rfl)) rfl rfl rfl (w_n rfl) ?_
          refine TL_callQ (v := .iface 28 (.int .i64 120)) (fun _ _ hρ _ => r_call (args := [.bool false, .int .i64 120]) (enters_of Try.func84 (by kernel_rfl) rfl) (hρ _ _ rfl) ((cons2 (hρ _ _ rfl) (cons2 (hρ _ _ rfl) rfl))) rfl) (fun w _ => need_no_jrn 120 w) rfl (w_n rfl) ?_
          refine p_then_p ?_
          refine p_pan rfl (fun w hm => ?_)
          exact ⟨by rw [first_e4 c1 (by omega) (by omega), openE_no hopE], hm.ext⟩
      · skip
        refine T_seq (T_region ?_)
        refine TL_q (.slice a l.length cap) (fun _ _ hρ _ => r_move (hρ _ _ rfl)) rfl rfl rfl (w_n rfl) ?_
        refine TL_q (.int .i64 ((l.length : Nat) : Int)) (fun _ _ hρ _ => r_len sl34 (hρ _ _ rfl)) rfl rfl rfl (w_n rfl) ?_
        refine TL_q (.int .i64 ((numP l + 8 : Nat) : Int)) (fun _ _ hρ _ => r_move (hρ _ _ rfl)) rfl rfl rfl (w_n rfl) ?_
        refine TL_q (.bool false) (fun _ _ hρ _ => r_as (r_geq (hρ _ _ rfl) (hρ _ _ rfl)) (bool_as (decide_eq_false c3))) rfl rfl rfl (w_n rfl) ?_
        refine TL_callQ (v := .iface 28 (.int .i64 110)) (fun _ _ hρ _ => r_call (args := [.bool false, .int .i64 110]) (enters_of Try.func84 (by kernel_rfl) rfl) (hρ _ _ rfl) ((cons2 (hρ _ _ rfl) (cons2 (hρ _ _ rfl) rfl))) rfl) (fun w _ => need_no_jrn 110 w) rfl (w_n rfl) ?_
        refine p_then_p ?_
        refine p_pan rfl (fun w hm => ?_)
        exact ⟨by rw [first_e3 c1 (by omega) (by omega)], hm.ext⟩
    · skip
      refine T_seq (T_region ?_)
      refine TL_q (.int .u64 ((numP l : Nat) : Int)) (fun _ _ hρ _ => r_move (hρ _ _ rfl)) rfl rfl rfl (w_n rfl) ?_
      refine TL_q (.bool false) (fun _ _ hρ _ => r_as (r_leq (hρ _ _ rfl) (hρ _ _ rfl)) (bool_as (decide_eq_false c2))) rfl rfl rfl (w_n rfl) ?_
      refine TL_callQ (v := .iface 28 (.int .i64 3)) (fun _ _ hρ _ => r_call (args := [.bool false, .int .i64 3]) (enters_of Try.func84 (by kernel_rfl) rfl) (hρ _ _ rfl) ((cons2 (hρ _ _ rfl) (cons2 (hρ _ _ rfl) rfl))) rfl) (fun w _ => need_no_jrn 3 w) rfl (w_n rfl) ?_
      refine p_then_p ?_
      refine p_pan rfl (fun w hm => ?_)
      exact ⟨by rw [first_e2 c1 (by omega)], hm.ext⟩
  · skip
    refine T_seq (T_region ?_)
    refine TL_q (.slice a l.length cap) (fun _ _ hρ _ => r_move (hρ _ _ rfl)) rfl rfl rfl (w_n rfl) ?_
    refine TL_call (.tuple #[.int .u64 0, .int .i64 110]) (fun _ _ hρ _ => r_call (args := [.slice a l.length cap, .int .i64 0, .int .i64 4]) (enters_of Try.func117 (by kernel_rfl) rfl) (hρ _ _ rfl) ((cons2 (hρ _ _ rfl) (cons2 (hρ _ _ rfl) (cons2 (hρ _ _ rfl) rfl)))) rfl) (fun w hm => get_no l a cap w (hv.keep hm.ext) hcap c1) rfl rfl rfl (w_n rfl) ?_
    refine TL_q (.tuple #[.int .u64 0, .int .i64 110]) (fun _ _ hρ _ => r_move (hρ _ _ rfl)) rfl rfl rfl (w_n rfl) ?_
    refine TL_q (.int .u64 0) (fun _ _ hρ _ => r_extract (hρ _ _ rfl) rfl) rfl rfl rfl (w_n rfl) ?_
    refine TL_q (.int .i64 110) (fun _ _ hρ _ => r_extract (hρ _ _ rfl) rfl) rfl rfl rfl (w_n rfl) ?_
    refine TL_q (.int .u64 0) (fun _ _ hρ _ => r_assign (hρ _ _ rfl)) rfl rfl rfl (w_n rfl) ?_
    refine TL_q (.int .i64 110) (fun _ _ hρ _ => r_assign (hρ _ _ rfl)) rfl rfl rfl (w_n rfl) ?_
    refine TL_seq ?_
    refine T_seq (T_region ?_)
    refine TL_q (.int .i64 110) (fun _ _ hρ _ => r_move (hρ _ _ rfl)) rfl rfl rfl (w_n rfl) ?_
    refine TL_q (.bool false) (fun _ _ hρ _ => r_as (r_eql (hρ _ _ rfl) (hρ _ _ rfl)) (by rfl)) rfl rfl rfl (w_n rfl) ?_
    refine TL_callQ (v := .iface 28 (.int .i64 110)) (fun _ _ hρ _ => r_call (args := [.bool false, .int .i64 110]) (enters_of Try.func84 (by kernel_rfl) rfl) (hρ _ _ rfl) ((cons2 (hρ _ _ rfl) (cons2 (hρ _ _ rfl) rfl))) rfl) (fun w _ => need_no_jrn 110 w) rfl (w_n rfl) ?_
    refine p_then_p ?_
    refine p_pan rfl (fun w hm => ?_)
    exact ⟨by rw [first_e1 c1], hm.ext⟩
end Go.Proofs.Ytcidgbjgeegepaa
/- Contracts over an open list of what is known of memory: numbers that are free, entries told again. Over any program. -/
namespace Go.Proofs.Ytcidgbjgeegepaa
open Go Go.RowKit
/-- No entry bears a number from a on, below b. -/
def NoIds (L : Heap) (a b : Nat) : Prop := ∀ k, a ≤ k → k < b → lk L k = none
theorem NoIds.sub {L : Heap} {a b c d : Nat} (h : NoIds L a b) (h1 : Nat.ble a c = true) (h2 : Nat.ble d b = true) : NoIds L c d := fun k hk hk2 => h k (Nat.le_trans (Nat.le_of_ble_eq_true h1) hk) (Nat.lt_of_lt_of_le hk2 (Nat.le_of_ble_eq_true h2))
theorem noIds_app {F L : Heap} {a b : Nat} (h : (F.map (·.1)).all (fun i => Nat.blt i a || Nat.ble b i) = true) (hL : NoIds L a b) : NoIds (F ++ L) a b := fun k h1 h2 => by
  refine lk_app_none (lk_none_of fun p hp e => ?_) (hL k h1 h2)
  have := List.all_eq_true.1 h p.1 (List.mem_map.2 ⟨p, hp, rfl⟩)
  rw [Bool.or_eq_true, Nat.blt_eq] at this
  rcases this with h3 | h3
  · omega
  · have := Nat.le_of_ble_eq_true h3; omega
theorem noIds_cons {p : Nat × Res} {L : Heap} {a b : Nat} (h : (Nat.blt p.1 a || Nat.ble b p.1) = true) (hL : NoIds L a b) : NoIds (p :: L) a b := noIds_app (F := [p]) (by simp only [List.map_cons, List.map_nil, List.all_cons, List.all_nil, Bool.and_true]; exact h) hL
theorem noIds_nil (a b : Nat) : NoIds [] a b := fun _ _ _ => rfl
theorem lk_fin {F T L : Heap} {a b : Nat} (hT : SubK F T) (hk : (F.map (·.1)).all (fun i => (T.map (·.1)).contains i || (Nat.ble a i && Nat.blt i b)) = true) (hL : NoIds L a b) : ∀ k q, lk (T ++ L) k = some q → lk (F ++ L) k = some q := fun k q h => by
  rw [lk_append] at h ⊢
  cases e : lk T k with
  | some r => rw [e] at h; cases h; rw [hT.get k q e]
  | none =>
    rw [e] at h
    cases e2 : lk F k with
    | none => exact h
    | some r =>
      obtain ⟨p, hp, rfl⟩ := lk_key e2
      have := List.all_eq_true.1 hk p.1 (List.mem_map.2 ⟨p, hp, rfl⟩)
      rw [Bool.or_eq_true] at this
      rcases this with h1 | h1
      · exfalso
        obtain ⟨t, ht, e3⟩ := List.mem_map.1 (List.contains_iff_mem.1 h1)
        have : ∀ (A : Heap), t ∈ A → ∃ r, lk A t.1 = some r := fun A => by
          induction A with
          | nil => intro h; cases h
          | cons x A ih =>
            intro h
            by_cases e4 : x.1 = t.1
            · exact ⟨x.2, by rw [← e4]; exact lk_cons_same _ _ _⟩
            · rw [lk_cons_other _ _ e4]
              rcases List.mem_cons.1 h with rfl | h
              · exact absurd rfl e4
              · exact ih h
        obtain ⟨r', hr'⟩ := this T ht
        rw [e3] at hr'
        rw [hr'] at e; cases e
      · rw [Bool.and_eq_true, Nat.blt_eq] at h1
        have h2 := hL p.1 (Nat.le_of_ble_eq_true h1.1) h1.2
        rw [h2] at h; cases h
/-- A thing under another number. -/
theorem MemOk.move {w₀ w : World} {L : Heap} (h : MemOk w₀ L w) (i j : Nat) {r : Res} (hj : lk L j = some r) (hne : Nat.beq i j = false) : MemOk w₀ ((i, r) :: (j, .no) :: L) w := by
  have hij : i ≠ j := fun e => by subst e; rw [Nat.beq_refl] at hne; cases hne
  have h0 : MemOk w₀ ((j, .no) :: L) w := h.set j _ h.ext ⟨trivial, (fun _ hb => hb.elim), fun _ _ _ _ => trivial⟩ (fun _ _ _ _ b _ => ⟨rfl, id⟩)
  refine h0.set i r h0.ext (h.own j r hj) (fun k q hk hne' b hb => ⟨rfl, fun hr => ?_⟩)
  by_cases e2 : j = k
  · subst e2; rw [lk_cons_same] at hk; cases hk; exact hb
  · rw [lk_cons_other _ _ e2] at hk
    exact h.sep j k r q hj hk e2 b hr hb
section
variable {C : Cx} {Q : Post} {K : List (Nat × Value)} {L : Heap}
end
end Go.Proofs.Ytcidgbjgeegepaa
