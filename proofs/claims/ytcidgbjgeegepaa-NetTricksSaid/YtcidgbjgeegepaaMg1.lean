/- Texts of this seat, merged: part 1. -/
import Derived.Test.YtcidgbjgeegepaaMg0
import Derived.Maps.RangeRun
import Derived.Lib.AppendZeros
/- crc: Open, Spoil. Printed by a program of this seat's prover. -/
namespace Go.Proofs.Ytcidgbjgeegepaa
open Go Go.RowKit
set_option maxRecDepth 10000
theorem isb_t {m : Wd} {k : Nat} (h : m.getLsbD k = true) : decide ((((m >>> k) &&& 1#32).toNat : Int) = 1) = true := by
  have : (m >>> k) &&& 1#32 = 1#32 := by
    have := (and_one (m >>> k)).2 (by rw [BitVec.getLsbD_ushiftRight, Nat.add_zero]; exact h)
    rwa [BitVec.xor_zero] at this
  rw [this]; rfl
theorem isb_f {m : Wd} {k : Nat} (h : ¬ m.getLsbD k = true) : decide ((((m >>> k) &&& 1#32).toNat : Int) = 1) = false := by
  refine decide_eq_false fun e => h ?_
  have e2 : (m >>> k) &&& 1#32 = 1#32 := BitVec.eq_of_toNat_eq (by show _ = 1; omega)
  have := (and_one (m >>> k)).1 (by rw [BitVec.xor_zero]; exact e2)
  rwa [BitVec.getLsbD_ushiftRight, Nat.add_zero] at this
theorem isr_t {m : Wd} {k : Nat} (h : m.getLsbD k = true) : decide ((((m >>> k) % 2#32).toNat : Int) = 1) = true := by
  rw [odd_w, BitVec.getLsbD_ushiftRight, Nat.add_zero, h]; rfl
theorem isr_f {m : Wd} {k : Nat} (h : ¬ m.getLsbD k = true) : decide ((((m >>> k) % 2#32).toNat : Int) = 1) = false := by
  rw [odd_w, BitVec.getLsbD_ushiftRight, Nat.add_zero, Bool.eq_false_iff.2 h]; rfl
def isS (l : List By) (n : Nat) (mask : Wd) (k : Nat) : Bool := mask.getLsbD k && decide (n + k < 8 * l.length)
theorem isS_t {l : List By} {n : Nat} {mask : Wd} {k : Nat} (h : isS l n mask k = true) : mask.getLsbD k = true ∧ n + k < 8 * l.length := by
  unfold isS at h
  rw [Bool.and_eq_true] at h
  exact ⟨h.1, of_decide_eq_true h.2⟩
theorem isS_f {l : List By} {n : Nat} {mask : Wd} {k : Nat} (h : isS l n mask k = false) : ¬ (mask.getLsbD k = true ∧ n + k < 8 * l.length) := fun e => Bool.noConfusion (h.symm.trans (by unfold isS; rw [e.1, decide_eq_true e.2, Bool.and_true]))
theorem spoil_t {l : List By} {n : Nat} {mask : Wd} {k : Nat} {y : By} (h : mask.getLsbD k = true ∧ n + k < 8 * l.length) (hy : (spoilN l n mask k)[(n + k) / 8]? = some y) : (spoilN l n mask k).set ((n + k) / 8) (y ^^^ (1#8 <<< ((n + k) % 8))) = spoilN l n mask (k + 1) := by
  conv => rhs; unfold spoilN
  rw [if_pos h, hy]; rfl
theorem spoil_f {l : List By} {n : Nat} {mask : Wd} {k : Nat} (h : ¬ (mask.getLsbD k = true ∧ n + k < 8 * l.length)) : spoilN l n mask k = spoilN l n mask (k + 1) := by
  conv => rhs; unfold spoilN
  rw [if_neg h]
theorem some_t {l : List By} {n : Nat} {mask : Wd} {k : Nat} (h : mask.getLsbD k = true ∧ n + k < 8 * l.length) : true = someN l n mask (k + 1) := (if_pos h).symm
theorem some_f {l : List By} {n : Nat} {mask : Wd} {k : Nat} (h : ¬ (mask.getLsbD k = true ∧ n + k < 8 * l.length)) : someN l n mask k = someN l n mask (k + 1) := (if_neg h).symm
theorem bits8 : ∀ y : Fin 256, ∀ m : Fin 8, ((BitVec.ofFin y : By).getLsbD m.val = true → (BitVec.ofFin y : By) - (1#8 <<< m.val) = BitVec.ofFin y ^^^ (1#8 <<< m.val)) ∧ ((BitVec.ofFin y : By).getLsbD m.val = false → (BitVec.ofFin y : By) + (1#8 <<< m.val) = BitVec.ofFin y ^^^ (1#8 <<< m.val)) := by decide +kernel
theorem byte_sub {y : By} {m : Nat} (hm : m < 8) (h : y.getLsbD m = true) : y - (1#8 <<< m) = y ^^^ (1#8 <<< m) := (bits8 y.toFin ⟨m, hm⟩).1 h
theorem byte_add {y : By} {m : Nat} (hm : m < 8) (h : y.getLsbD m = false) : y + (1#8 <<< m) = y ^^^ (1#8 <<< m) := (bits8 y.toFin ⟨m, hm⟩).2 h
theorem bit_of {q : List By} {m : Nat} {y : By} (hy : q[m / 8]? = some y) : bitA q m = y.getLsbD (m % 8) := by unfold bitA; rw [hy]; rfl
theorem bw_t {c : Bool} (h : bw c = 1#32) : c = true := by
  cases c
  · exact absurd h (by decide)
  · rfl
theorem bw_f {c : Bool} (h : ¬ bw c = 1#32) : c = false := by
  cases c
  · rfl
  · exact absurd rfl h
theorem spoil_s {l : List By} {n : Nat} {mask : Wd} {k : Nat} {y : By} (h : mask.getLsbD k = true ∧ n + k < 8 * l.length) (hy : (spoilN l n mask k)[(n + k) / 8]? = some y) (hb : bw (bitA (spoilN l n mask k) (n + k)) = 1#32) : (spoilN l n mask k).set ((n + k) / 8) (y - (1#8 <<< ((n + k) % 8))) = spoilN l n mask (k + 1) := by
  rw [byte_sub (Nat.mod_lt _ (by decide)) ((bit_of hy).symm.trans (bw_t hb)), spoil_t h hy]
theorem spoil_a {l : List By} {n : Nat} {mask : Wd} {k : Nat} {y : By} (h : mask.getLsbD k = true ∧ n + k < 8 * l.length) (hy : (spoilN l n mask k)[(n + k) / 8]? = some y) (hb : ¬ bw (bitA (spoilN l n mask k) (n + k)) = 1#32) : (spoilN l n mask k).set ((n + k) / 8) (y + (1#8 <<< ((n + k) % 8))) = spoilN l n mask (k + 1) := by
  rw [byte_add (Nat.mod_lt _ (by decide)) ((bit_of hy).symm.trans (bw_f hb)), spoil_t h hy]
theorem dbl_by (x : By) : 2#8 * x = x <<< 1 := by
  apply BitVec.eq_of_toNat_eq
  rw [BitVec.toNat_mul, BitVec.toNat_shiftLeft, Nat.shiftLeft_eq]
  show (2 * x.toNat) % 2 ^ 8 = x.toNat * 2 % 2 ^ 8
  rw [Nat.mul_comm]
theorem dbl_b (k : Nat) : 2#8 * (1#8 <<< k) = 1#8 <<< (k + 1) := by rw [dbl_by, BitVec.shiftLeft_add]
def spoilE (o : Option (List By)) : Int := match o with
  | some _ => 0
  | none => 2

theorem is_c (l : List By) (a : Option Addr) (cap n k : Nat) (mask : Wd) (B5 B4 B3 : Nat) (w : World) (hl : l.length ≤ 1000000) (hn : n < 8 * l.length) (hk : k < 32) (h5 : hp w B5 = some (.cells #[.int .u32 (mask.toNat : Int)] 46)) (h4 : hp w B4 = some (.cells #[.int .i64 (n : Int)] 3)) (h3 : hp w B3 = some (.cells #[.slice a l.length cap] 34)) : Calls Try.prog 93 #[.int .i64 (k : Int), .pointer (some ⟨B5, 0, none⟩), .pointer (some ⟨B4, 0, none⟩), .pointer (some ⟨B3, 0, none⟩)] w fun e w' => e = .returned (.bool (isS l n mask k)) ∧ Below w.heap.size w w' := by
  refine calls_of_T (l := [.int .i64 ((k : Nat) : Int), .pointer (some ⟨B5, 0, none⟩), .pointer (some ⟨B4, 0, none⟩), .pointer (some ⟨B3, 0, none⟩)]) 20 Try.func93 rfl rfl rfl ?_
  show T _ _ _ [(0, .int .i64 ((k : Nat) : Int)), (1, .pointer (some ⟨B5, 0, none⟩)), (2, .pointer (some ⟨B4, 0, none⟩)), (3, .pointer (some ⟨B3, 0, none⟩))] []
  refine T_seq (T_region ?_)
  refine TL_q (.bool false) (fun _ _ hρ _ => r_assign (hρ _ _ rfl)) rfl rfl rfl (w_n rfl) ?_
  refine TL_seq ?_
  by_cases hb : mask.getLsbD k = true
  · skip
    refine T_seq (T_region ?_)
    refine TL_q (.int .u32 ((mask).toNat : Int)) (fun _ _ hρ hm => r_load ag46 (hρ _ _ rfl) (hm.old h5) rfl) rfl rfl rfl (w_n rfl) ?_
    refine TL_q (.int .i64 ((k : Nat) : Int)) (fun _ _ hρ _ => r_move (hρ _ _ rfl)) rfl rfl rfl (w_n rfl) ?_
    refine TL_q (.int .u32 ((mask >>> k).toNat : Int)) (fun _ _ hρ _ => r_shrB (k := .u32) (a := mask) (n := k) (by show _ ≤ 32; omega) (hρ _ _ rfl) (hρ _ _ rfl)) rfl rfl rfl (w_n rfl) ?_
    refine TL_q (.int .u32 (((mask >>> k) &&& (1#32)).toNat : Int)) (fun _ _ hρ _ => r_andB (k := .u32) (a := (mask >>> k)) (b := (1#32)) rfl (hρ _ _ rfl) (hρ _ _ rfl)) rfl rfl rfl (w_n rfl) ?_
    refine TL_q (.bool true) (fun _ _ hρ _ => r_as (r_eql (hρ _ _ rfl) (hρ _ _ rfl)) (bool_as (isb_t hb))) rfl rfl rfl (w_n rfl) ?_
    refine TL_q (.bool true) (fun _ _ hρ _ => r_move (hρ _ _ rfl)) rfl rfl rfl (w_n rfl) ?_
    refine TL_q (.int .i64 ((n : Nat) : Int)) (fun _ _ hρ hm => r_load ag3 (hρ _ _ rfl) (hm.old h4) rfl) rfl rfl rfl (want_y 11 rfl rfl rfl) ?_
    refine TL_q (.int .i64 ((k : Nat) : Int)) (fun _ _ hρ _ => r_move (hρ _ _ rfl)) rfl rfl rfl (want_y 11 rfl rfl rfl) ?_
    refine TL_q (.int .i64 ((n + k : Nat) : Int)) (fun _ _ hρ _ => r_as (r_add (hρ _ _ rfl) (hρ _ _ rfl)) (int_as ((wrap64 (by omega) (by omega)).trans (by omega)))) rfl rfl rfl (want_y 11 rfl rfl rfl) ?_
    refine TL_q (.slice a l.length cap) (fun _ _ hρ hm => r_load ag34 (hρ _ _ rfl) (hm.old h3) rfl) rfl rfl rfl (want_y 11 rfl rfl rfl) ?_
    refine TL_q (.int .i64 ((l.length : Nat) : Int)) (fun _ _ hρ _ => r_len sl34 (hρ _ _ rfl)) rfl rfl rfl (want_y 11 rfl rfl rfl) ?_
    refine TL_q (.int .i64 ((8 * l.length : Nat) : Int)) (fun _ _ hρ _ => r_as (r_mul (hρ _ _ rfl) (hρ _ _ rfl)) (int_as ((wrap64 (by omega) (by omega)).trans (by omega)))) rfl rfl rfl (want_y 11 rfl rfl rfl) ?_
    refine TL_q (.bool (decide (((n + k : Nat) : Int) < ((8 * l.length : Nat) : Int)))) (fun _ _ hρ _ => r_lss (hρ _ _ rfl) (hρ _ _ rfl)) rfl rfl rfl (want_y 11 rfl rfl rfl) ?_
    refine TL_q (.bool (decide (((n + k : Nat) : Int) < ((8 * l.length : Nat) : Int)))) (fun _ _ hρ _ => r_pick_t (hρ _ _ rfl) (hρ _ _ rfl)) rfl rfl rfl (w_n rfl) ?_
    refine TL_q (.bool (decide (((n + k : Nat) : Int) < ((8 * l.length : Nat) : Int)))) (fun _ _ hρ _ => r_assign (hρ _ _ rfl)) rfl rfl rfl (w_n rfl) ?_
    refine TL_seq ?_
    refine T_ret' ?_
    refine ret_of rfl (.bool (decide (((n + k : Nat) : Int) < ((8 * l.length : Nat) : Int)))) (fun tmps w hk hm => res1 rfl (res_tmp (hk 5 _ rfl))) (fun w hm => ?_)
    exact ⟨congrArg (fun b => Ending.returned (.bool b)) (by unfold isS; rw [hb, Bool.true_and]; exact decide_eq_decide.2 (by omega)), hm.ext⟩
  · skip
    refine T_seq (T_region ?_)
    refine TL_q (.int .u32 ((mask).toNat : Int)) (fun _ _ hρ hm => r_load ag46 (hρ _ _ rfl) (hm.old h5) rfl) rfl rfl rfl (w_n rfl) ?_
    refine TL_q (.int .i64 ((k : Nat) : Int)) (fun _ _ hρ _ => r_move (hρ _ _ rfl)) rfl rfl rfl (w_n rfl) ?_
    refine TL_q (.int .u32 ((mask >>> k).toNat : Int)) (fun _ _ hρ _ => r_shrB (k := .u32) (a := mask) (n := k) (by show _ ≤ 32; omega) (hρ _ _ rfl) (hρ _ _ rfl)) rfl rfl rfl (w_n rfl) ?_
    refine TL_q (.int .u32 (((mask >>> k) &&& (1#32)).toNat : Int)) (fun _ _ hρ _ => r_andB (k := .u32) (a := (mask >>> k)) (b := (1#32)) rfl (hρ _ _ rfl) (hρ _ _ rfl)) rfl rfl rfl (w_n rfl) ?_
    refine TL_q (.bool false) (fun _ _ hρ _ => r_as (r_eql (hρ _ _ rfl) (hρ _ _ rfl)) (bool_as (isb_f hb))) rfl rfl rfl (w_n rfl) ?_
    refine TL_q (.bool false) (fun _ _ hρ _ => r_move (hρ _ _ rfl)) rfl rfl rfl (w_n rfl) ?_
    refine TL_no rfl rfl (want_n 11 rfl rfl rfl) ?_
    refine TL_no rfl rfl (want_n 11 rfl rfl rfl) ?_
    refine TL_no rfl rfl (want_n 11 rfl rfl rfl) ?_
    refine TL_no rfl rfl (want_n 11 rfl rfl rfl) ?_
    refine TL_no rfl rfl (want_n 11 rfl rfl rfl) ?_
    refine TL_no rfl rfl (want_n 11 rfl rfl rfl) ?_
    refine TL_no rfl rfl (want_n 11 rfl rfl rfl) ?_
    refine TL_q (.bool false) (fun _ _ hρ _ => r_pick_f (hρ _ _ rfl) (hρ _ _ rfl)) rfl rfl rfl (w_n rfl) ?_
    refine TL_q (.bool false) (fun _ _ hρ _ => r_assign (hρ _ _ rfl)) rfl rfl rfl (w_n rfl) ?_
    refine TL_seq ?_
    refine T_ret' ?_
    refine ret_of rfl (.bool false) (fun tmps w hk hm => res1 rfl (res_tmp (hk 5 _ rfl))) (fun w hm => ?_)
    exact ⟨congrArg (fun b => Ending.returned (.bool b)) (by unfold isS; rw [Bool.eq_false_iff.2 hb]; rfl), hm.ext⟩

theorem spoil_in (n : Nat) (mask : Wd) (l : List By) (a : Option Addr) (cap : Nat) (w : World) (hv : SliceAt w a cap 1 byc l) (hl : l.length ≤ 1000000) (hcap : cap ≤ Go.maxLen) (hn : n < 8 * l.length) : Calls Try.prog 53 #[.slice a l.length cap, .int .i64 (n : Int), .int .u32 (mask.toNat : Int)] w fun e w' => ∃ a' cap', e = .returned (.tuple #[.slice a' ((spoilP l n mask).getD []).length cap', .int .i64 (spoilE (spoilP l n mask))]) ∧ Below w.heap.size w w' ∧ w'.ownsRow w.heap.size 5 1 (.slice a' ((spoilP l n mask).getD []).length cap') ((spoilP l n mask).getD []).length (((spoilP l n mask).getD []).flatMap byc) := by
  have hvl := hv.1
  refine calls_of_T (l := [.slice a l.length cap, .int .i64 ((n : Nat) : Int), .int .u32 ((mask).toNat : Int)]) 52 Try.func53 rfl rfl rfl ?_
  show T _ _ _ [(0, .slice a l.length cap), (1, .int .i64 ((n : Nat) : Int)), (2, .int .u32 ((mask).toNat : Int))] []
  refine T_seq (T_region ?_)
  refine TL_new 1 (.cells #[.slice a l.length cap] 34) (fun B => .pointer (some ⟨B, 0, none⟩)) (fun _ _ hρ _ => r_box (hρ _ _ rfl) rfl) rfl rfl rfl (w_n rfl) ?_
  intro B1
  refine TL_new 2 (.cells #[.int .i64 ((n : Nat) : Int)] 3) (fun B => .pointer (some ⟨B, 0, none⟩)) (fun _ _ hρ _ => r_box (hρ _ _ rfl) rfl) rfl rfl rfl (w_n rfl) ?_
  intro B2
  refine TL_new 3 (.cells #[.int .u32 ((mask).toNat : Int)] 46) (fun B => .pointer (some ⟨B, 0, none⟩)) (fun _ _ hρ _ => r_box (hρ _ _ rfl) rfl) rfl rfl rfl (w_n rfl) ?_
  intro B3
  refine TL_q (.slice none 0 0) (fun _ _ hρ _ => r_assign (hρ _ _ rfl)) rfl rfl rfl (w_n rfl) ?_
  refine TL_q (.int .i64 0) (fun _ _ hρ _ => r_assign (hρ _ _ rfl)) rfl rfl rfl (w_n rfl) ?_
  refine TL_seq ?_
  refine T_seq ?_
  have hp1 : ¬ (((n : Nat) : Int) < 0) := by omega
  have hp2 : ¬ (((8 * l.length : Nat) : Int) ≤ ((n : Nat) : Int)) := by omega
  refine T_seq (T_region ?_)
  refine TL_q (.int .i64 ((n : Nat) : Int)) (fun _ _ hρ hm => r_load ag3 (hρ _ _ rfl) (hm.at 2 rfl) rfl) rfl rfl rfl (w_n rfl) ?_
  refine TL_q (.bool false) (fun _ _ hρ _ => r_as (r_lss (hρ _ _ rfl) (hρ _ _ rfl)) (bool_as (decide_eq_false hp1))) rfl rfl rfl (w_n rfl) ?_
  refine TL_q (.bool false) (fun _ _ hρ _ => r_move (hρ _ _ rfl)) rfl rfl rfl (w_n rfl) ?_
  refine TL_q (.int .i64 ((n : Nat) : Int)) (fun _ _ hρ hm => r_load ag3 (hρ _ _ rfl) (hm.at 2 rfl) rfl) rfl rfl rfl (want_y 14 rfl rfl rfl) ?_
  refine TL_q (.slice a l.length cap) (fun _ _ hρ hm => r_load ag34 (hρ _ _ rfl) (hm.at 1 rfl) rfl) rfl rfl rfl (want_y 14 rfl rfl rfl) ?_
  refine TL_q (.int .i64 ((l.length : Nat) : Int)) (fun _ _ hρ _ => r_len sl34 (hρ _ _ rfl)) rfl rfl rfl (want_y 14 rfl rfl rfl) ?_
  refine TL_q (.int .i64 ((8 * l.length : Nat) : Int)) (fun _ _ hρ _ => r_as (r_mul (hρ _ _ rfl) (hρ _ _ rfl)) (int_as ((wrap64 (by omega) (by omega)).trans (by omega)))) rfl rfl rfl (want_y 14 rfl rfl rfl) ?_
  refine TL_q (.bool false) (fun _ _ hρ _ => r_as (r_geq (hρ _ _ rfl) (hρ _ _ rfl)) (bool_as (decide_eq_false hp2))) rfl rfl rfl (want_y 14 rfl rfl rfl) ?_
  refine TL_q (.bool false) (fun _ _ hρ _ => r_pick_f (hρ _ _ rfl) (hρ _ _ rfl)) rfl rfl rfl (w_n rfl) ?_
  refine TL_seq ?_
  refine T_cond_f rfl ?_
  refine T_skip' ?_
  refine p_seq ?_
  refine T_seq (T_region ?_)
  refine TL_q (.func (.func 93) #[] #[.pointer (some ⟨B3, 0, none⟩), .pointer (some ⟨B2, 0, none⟩), .pointer (some ⟨B1, 0, none⟩)]) (fun _ _ hρ _ => r_makeFunc (by simp) (map_arr (cons2 (hρ _ _ rfl) (cons2 (hρ _ _ rfl) (cons2 (hρ _ _ rfl) rfl))))) rfl rfl rfl (w_n rfl) ?_
  refine TL_q (.func (.func 93) #[] #[.pointer (some ⟨B3, 0, none⟩), .pointer (some ⟨B2, 0, none⟩), .pointer (some ⟨B1, 0, none⟩)]) (fun _ _ hρ _ => r_assign (hρ _ _ rfl)) rfl rfl rfl (w_n rfl) ?_
  refine TL_seq ?_
  refine T_seq (T_region ?_)
  refine TL_q (.slice a l.length cap) (fun _ _ hρ hm => r_load ag34 (hρ _ _ rfl) (hm.at 1 rfl) rfl) rfl rfl rfl (w_n rfl) ?_
  refine TL_q (.int .i64 ((l.length : Nat) : Int)) (fun _ _ hρ _ => r_len sl34 (hρ _ _ rfl)) rfl rfl rfl (w_n rfl) ?_
  refine TL_makeSlice (n := l.length) (cap := l.length) (z := .int .u8 0) (f := byc) (u := 0#8) 4 rfl rfl rfl sl34 by5 sz5 (by kernel_rfl) rfl rfl (by omega) (by omega) (by omega) rfl (w_n rfl) ?_
  intro B4
  refine TL_q (.slice (some ⟨B4, 0, none⟩) l.length l.length) (fun _ _ hρ _ => r_assign (hρ _ _ rfl)) rfl rfl rfl (w_n rfl) ?_
  refine TL_seq ?_
  refine T_seq (T_region ?_)
  refine TL_q (.slice (some ⟨B4, 0, none⟩) l.length l.length) (fun _ _ hρ _ => r_move (hρ _ _ rfl)) rfl rfl rfl (w_n rfl) ?_
  refine TL_q (.slice a l.length cap) (fun _ _ hρ hm => r_load ag34 (hρ _ _ rfl) (hm.at 1 rfl) rfl) rfl rfl rfl (w_n rfl) ?_
  refine TL_copy (news := (l.flatMap byc)) 4 rfl rfl rfl rfl sl34 sz5 (fun _ hm => by have := src_of byc_len (hv.keep hm.ext); simpa using this) (by intro u hu; obtain ⟨x, _, hx⟩ := List.mem_flatMap.1 hu; exact byc_one x u hx) rfl (w_n rfl) ?_
  refine TL_seq ?_
  refine T_seq (T_region ?_)
  refine TL_q (.bool false) (fun _ _ hρ _ => r_assign (hρ _ _ rfl)) rfl rfl rfl (w_n rfl) ?_
  refine TL_seq ?_
  refine T_seq ?_
  refine T_seq (T_region ?_)
  refine TL_q (.int .i64 0) (fun _ _ hρ _ => r_move (hρ _ _ rfl)) rfl rfl rfl (w_n rfl) ?_
  refine TL_seq ?_
  refine T_block ?_
  refine T_loop (ι := Nat) (fun (k : Nat) => k ≤ 32) (fun (k : Nat) => [(4, .pointer (some ⟨B2, 0, none⟩)), (6, .slice none 0 0), (7, .int .i64 0), (8, .func (.func 93) #[] #[.pointer (some ⟨B3, 0, none⟩), .pointer (some ⟨B2, 0, none⟩), .pointer (some ⟨B1, 0, none⟩)]), (9, .slice (some ⟨B4, 0, none⟩) l.length l.length), (28, .int .i64 ((k : Nat) : Int)), (10, .bool (someN l n mask k))]) (fun (k : Nat) => [(1, .blk B1 (.cells #[.slice a l.length cap] 34)), (2, .blk B2 (.cells #[.int .i64 ((n : Nat) : Int)] 3)), (3, .blk B3 (.cells #[.int .u32 ((mask).toNat : Int)] 46)), (4, .row (.slice (some ⟨B4, 0, none⟩) l.length l.length) 5 1 l.length ((spoilN l n mask k).flatMap byc))]) (fun (k : Nat) => 32 - k) 0 (Nat.zero_le _) (sub_cons rfl (sub_cons rfl (sub_cons rfl (sub_cons rfl (sub_cons rfl (sub_cons rfl (sub_cons rfl sub_nil))))))) (sub_cons rfl (sub_cons rfl (sub_cons rfl (sub_cons rfl sub_nil)))) ?_
  rintro k hp
  show T _ _ _ [(4, .pointer (some ⟨B2, 0, none⟩)), (6, .slice none 0 0), (7, .int .i64 0), (8, .func (.func 93) #[] #[.pointer (some ⟨B3, 0, none⟩), .pointer (some ⟨B2, 0, none⟩), .pointer (some ⟨B1, 0, none⟩)]), (9, .slice (some ⟨B4, 0, none⟩) l.length l.length), (28, .int .i64 ((k : Nat) : Int)), (10, .bool (someN l n mask k))] [(1, .blk B1 (.cells #[.slice a l.length cap] 34)), (2, .blk B2 (.cells #[.int .i64 ((n : Nat) : Int)] 3)), (3, .blk B3 (.cells #[.int .u32 ((mask).toNat : Int)] 46)), (4, .row (.slice (some ⟨B4, 0, none⟩) l.length l.length) 5 1 l.length ((spoilN l n mask k).flatMap byc))]
  refine T_seq (T_region ?_)
  refine TL_q (.bool (decide (((k : Nat) : Int) < 32))) (fun _ _ hρ _ => r_lss (hρ _ _ rfl) (hρ _ _ rfl)) rfl rfl rfl (w_n rfl) ?_
  refine TL_seq ?_
  refine T_seq ?_
  refine T_cond rfl (fun h1 => ?_) (fun h1 => ?_)
  · replace h1 := of_decide_eq_true h1
    refine T_skip' ?_
    refine p_seq ?_
    refine T_seq ?_
    refine T_block ?_
    refine T_seq (T_region ?_)
    refine TL_q (.int .i64 ((k : Nat) : Int)) (fun _ _ hρ _ => r_move (hρ _ _ rfl)) rfl rfl rfl (w_n rfl) ?_
    refine TL_q (.int .i64 ((k : Nat) : Int)) (fun _ _ hρ _ => r_assign (hρ _ _ rfl)) rfl rfl rfl (w_n rfl) ?_
    refine TL_seq ?_
    refine T_seq (T_region ?_)
    refine TL_q (.func (.func 93) #[] #[.pointer (some ⟨B3, 0, none⟩), .pointer (some ⟨B2, 0, none⟩), .pointer (some ⟨B1, 0, none⟩)]) (fun _ _ hρ _ => r_move (hρ _ _ rfl)) rfl rfl rfl (w_n rfl) ?_
    refine TL_q (.int .i64 ((k : Nat) : Int)) (fun _ _ hρ _ => r_move (hρ _ _ rfl)) rfl rfl rfl (w_n rfl) ?_
    refine TL_call (.bool (isS l n mask k)) (fun _ _ hρ _ => r_call (args := [.int .i64 ((k : Nat) : Int)]) (enters_of Try.func93 (by kernel_rfl) rfl) (hρ _ _ rfl) ((cons2 (hρ _ _ rfl) rfl)) rfl) (fun w hm => is_c l a cap n k mask B3 B2 B1 w hl hn (by omega) (hm.at 3 rfl) (hm.at 2 rfl) (hm.at 1 rfl)) rfl rfl rfl (w_n rfl) ?_
    refine TL_seq ?_
    refine T_cond rfl (fun h2 => ?_) (fun h2 => ?_)
    · skip
      have hsl := spoilN_len l n mask k
      have hsi := isS_t h2
      obtain ⟨y, hy⟩ : ∃ y, (spoilN l n mask k)[(n + k) / 8]? = some y := ⟨_, List.getElem?_eq_getElem (by omega)⟩
      refine T_seq (T_draw (V := [(0, .slice (some ⟨B4, 0, none⟩) l.length l.length), (1, .int .i64 ((n : Nat) : Int)), (2, .int .i64 ((k : Nat) : Int)), (3, .int .i64 ((n + k : Nat) : Int)), (4, .int .i64 (((n + k) / 8 : Nat) : Int)), (5, .pointer (some ⟨B4, 0 + ((n + k) / 8) * 1, none⟩)), (6, .int .u8 ((y).toNat : Int)), (7, .int .i64 ((n : Nat) : Int)), (8, .int .i64 ((k : Nat) : Int)), (9, .int .i64 ((n + k : Nat) : Int)), (10, .int .i64 (((n + k) % 8 : Nat) : Int)), (11, .int .u8 (((1#8) <<< ((n + k) % 8)).toNat : Int)), (12, .int .u8 ((y ^^^ ((1#8) <<< ((n + k) % 8))).toNat : Int)), (13, .pointer (some ⟨B4, 0 + ((n + k) / 8) * 1, none⟩))]) [0, 0, 0, 6, 14, 31, 63, 0, 0, 384, 896, 1920, 4095, 8191, 16383] [[(9, none)], [(4, none)], [(11, none)], [(35, some 1), (36, some 2)], [(37, some 3)], [(34, some 0), (38, some 4)], [(39, some 5)], [(4, none)], [(11, none)], [(41, some 7), (42, some 8)], [(43, some 9)], [(44, some 10)], [(40, some 6), (45, some 11)], [(34, some 0), (38, some 4)], [(47, some 13), (46, some 12)]] 16384 mixed (by kernel_rfl) ?_)
      refine G_step [0, 1, 2, 3, 4, 5, 6, 7, 8, 9, 10, 11, 12, 13] 14 [] (by kernel_rfl) (allM (all_cons (q_run (.slice (some ⟨B4, 0, none⟩) l.length l.length) rfl rfl (wv_n rfl) rfl (fun _ _ hρ _ => r_move (hρ _ _ rfl))) (all_cons (q_run (.int .i64 ((n : Nat) : Int)) rfl rfl (wv_n rfl) rfl (fun _ _ hρ hm => r_load ag3 (hρ _ _ rfl) (hm.at 2 rfl) rfl)) (all_cons (q_run (.int .i64 ((k : Nat) : Int)) rfl rfl (wv_n rfl) rfl (fun _ _ hρ _ => r_move (hρ _ _ rfl))) (all_cons (q_run (.int .i64 ((n + k : Nat) : Int)) rfl rfl (wv_n rfl) rfl (fun _ _ hρ _ => r_as (r_add (hρ _ _ rfl) (hρ _ _ rfl)) (int_as ((wrap64 (by omega) (by omega)).trans (by omega))))) (all_cons (q_run (.int .i64 (((n + k) / 8 : Nat) : Int)) rfl rfl (wv_n rfl) rfl (fun _ _ hρ _ => r_as (r_quo (hρ _ _ rfl) (hρ _ _ rfl) (by omega)) (int_as ((quo_i64 (by omega) (by omega) (by omega)).trans (by omega))))) (all_cons (q_run (.pointer (some ⟨B4, 0 + ((n + k) / 8) * 1, none⟩)) rfl rfl (wv_n rfl) rfl (fun _ _ hρ _ => r_indexAddrS (i := (n + k) / 8) sl34 sz5 (hρ _ _ rfl) (hρ _ _ rfl) (by omega))) (all_cons (q_run (.int .u8 ((y).toNat : Int)) rfl rfl (wv_n rfl) rfl (fun _ _ hρ hm => r_loadOwn1 (f := byc) (u := y) (l := (spoilN l n mask k)) ag5 (hρ _ _ rfl) (hm.row 4 rfl) (spoilN_len l n mask k).symm rfl byc_len hy rfl)) (all_cons (q_run (.int .i64 ((n : Nat) : Int)) rfl rfl (wv_n rfl) rfl (fun _ _ hρ hm => r_load ag3 (hρ _ _ rfl) (hm.at 2 rfl) rfl)) (all_cons (q_run (.int .i64 ((k : Nat) : Int)) rfl rfl (wv_n rfl) rfl (fun _ _ hρ _ => r_move (hρ _ _ rfl))) (all_cons (q_run (.int .i64 ((n + k : Nat) : Int)) rfl rfl (wv_n rfl) rfl (fun _ _ hρ _ => r_as (r_add (hρ _ _ rfl) (hρ _ _ rfl)) (int_as ((wrap64 (by omega) (by omega)).trans (by omega))))) (all_cons (q_run (.int .i64 (((n + k) % 8 : Nat) : Int)) rfl rfl (wv_n rfl) rfl (fun _ _ hρ _ => r_as (r_rem (hρ _ _ rfl) (hρ _ _ rfl) (by omega)) (int_as ((Int.tmod_eq_emod_of_nonneg (by omega)).trans (by omega))))) (all_cons (q_run (.int .u8 (((1#8) <<< ((n + k) % 8)).toNat : Int)) rfl rfl (wv_n rfl) rfl (fun _ _ hρ _ => r_shlB (k := .u8) (a := (1#8)) (n := (n + k) % 8) rfl (by show _ ≤ 8; omega) (hρ _ _ rfl) (hρ _ _ rfl))) (all_cons (q_run (.int .u8 ((y ^^^ ((1#8) <<< ((n + k) % 8))).toNat : Int)) rfl rfl (wv_n rfl) rfl (fun _ _ hρ _ => r_xorB (k := .u8) (a := y) (b := ((1#8) <<< ((n + k) % 8))) rfl (hρ _ _ rfl) (hρ _ _ rfl))) (all_cons (q_run (.pointer (some ⟨B4, 0 + ((n + k) / 8) * 1, none⟩)) rfl rfl (wv_n rfl) rfl (fun _ _ hρ _ => r_indexAddrS (i := (n + k) / 8) sl34 sz5 (hρ _ _ rfl) (hρ _ _ rfl) (by omega))) all_nil))))))))))))))) (allM (all_cons ?_ all_nil))
      refine LOb_storeRow (f := byc) (l := (spoilN l n mask k)) (u := y ^^^ ((1#8) <<< ((n + k) % 8))) (k := ((n + k) / 8)) 4 [] rfl (spoilN_len l n mask k).symm rfl (wv_n rfl) rfl rfl sz5 byc_len (by omega) rfl rfl (by kernel_rfl) ?_
      refine G_last [] [(4, .pointer (some ⟨B2, 0, none⟩)), (6, .slice none 0 0), (7, .int .i64 0), (8, .func (.func 93) #[] #[.pointer (some ⟨B3, 0, none⟩), .pointer (some ⟨B2, 0, none⟩), .pointer (some ⟨B1, 0, none⟩)]), (9, .slice (some ⟨B4, 0, none⟩) l.length l.length), (28, .int .i64 ((k : Nat) : Int)), (10, .bool (someN l n mask k)), (29, .bool (decide (((k : Nat) : Int) < 32))), (30, .int .i64 ((k : Nat) : Int)), (11, .int .i64 ((k : Nat) : Int)), (31, .func (.func 93) #[] #[.pointer (some ⟨B3, 0, none⟩), .pointer (some ⟨B2, 0, none⟩), .pointer (some ⟨B1, 0, none⟩)]), (32, .int .i64 ((k : Nat) : Int)), (33, .bool (isS l n mask k)), (34, .slice (some ⟨B4, 0, none⟩) l.length l.length), (35, .int .i64 ((n : Nat) : Int)), (36, .int .i64 ((k : Nat) : Int)), (37, .int .i64 ((n + k : Nat) : Int)), (38, .int .i64 (((n + k) / 8 : Nat) : Int)), (39, .pointer (some ⟨B4, 0 + ((n + k) / 8) * 1, none⟩)), (40, .int .u8 ((y).toNat : Int)), (41, .int .i64 ((n : Nat) : Int)), (42, .int .i64 ((k : Nat) : Int)), (43, .int .i64 ((n + k : Nat) : Int)), (44, .int .i64 (((n + k) % 8 : Nat) : Int)), (45, .int .u8 (((1#8) <<< ((n + k) % 8)).toNat : Int)), (46, .int .u8 ((y ^^^ ((1#8) <<< ((n + k) % 8))).toNat : Int)), (47, .pointer (some ⟨B4, 0 + ((n + k) / 8) * 1, none⟩))] (by kernel_rfl) (allM all_nil) (end_old rfl rfl (end_old rfl rfl (end_old rfl rfl (end_old rfl rfl (end_old rfl rfl (end_old rfl rfl (end_old rfl rfl (end_old rfl rfl (end_old rfl rfl (end_old rfl rfl (end_old rfl rfl (end_old rfl rfl (end_old rfl rfl (end_new 0 rfl rfl (end_new 1 rfl rfl (end_new 2 rfl rfl (end_new 3 rfl rfl (end_new 4 rfl rfl (end_new 5 rfl rfl (end_new 6 rfl rfl (end_new 7 rfl rfl (end_new 8 rfl rfl (end_new 9 rfl rfl (end_new 10 rfl rfl (end_new 11 rfl rfl (end_new 12 rfl rfl (end_new 13 rfl rfl end_nil))))))))))))))))))))))))))) ?_
      refine T_region ?_
      refine TL_q (.bool true) (fun _ _ hρ _ => r_assign (hρ _ _ rfl)) rfl rfl rfl (w_n rfl) ?_
      refine TL_nil ?_
      refine p_blk_n ?_
      refine p_seq ?_
      refine T_region ?_
      refine TL_q (.int .i64 ((k + 1 : Nat) : Int)) (fun _ _ hρ _ => r_as (r_add (hρ _ _ rfl) (hρ _ _ rfl)) (int_as ((wrap64 (by omega) (by omega)).trans (by omega)))) rfl rfl rfl (w_n rfl) ?_
      refine TL_q (.int .i64 ((k + 1 : Nat) : Int)) (fun _ _ hρ _ => r_move (hρ _ _ rfl)) rfl rfl rfl (w_n rfl) ?_
      refine TL_nil ?_
      exact p_at (k + 1) ⟨by omega, by omega⟩ (sub_cons rfl (sub_cons rfl (sub_cons rfl (sub_cons rfl (sub_cons rfl (sub_cons rfl (sub_cons (by exact congrArg (fun z : Bool => some (Value.bool z)) (some_t (isS_t h2))) sub_nil))))))) (sub_cons rfl (sub_cons rfl (sub_cons rfl (sub_cons (by exact congrArg (fun z : List By => some (Res.row _ 5 1 _ (z.flatMap byc))) (spoil_t (isS_t h2) hy)) sub_nil))))
    · skip
      refine T_skip' ?_
      refine p_blk_n ?_
      refine p_seq ?_
      refine T_region ?_
      refine TL_q (.int .i64 ((k + 1 : Nat) : Int)) (fun _ _ hρ _ => r_as (r_add (hρ _ _ rfl) (hρ _ _ rfl)) (int_as ((wrap64 (by omega) (by omega)).trans (by omega)))) rfl rfl rfl (w_n rfl) ?_
      refine TL_q (.int .i64 ((k + 1 : Nat) : Int)) (fun _ _ hρ _ => r_move (hρ _ _ rfl)) rfl rfl rfl (w_n rfl) ?_
      refine TL_nil ?_
      exact p_at (k + 1) ⟨by omega, by omega⟩ (sub_cons rfl (sub_cons rfl (sub_cons rfl (sub_cons rfl (sub_cons rfl (sub_cons rfl (sub_cons (by exact congrArg (fun z : Bool => some (Value.bool z)) (some_f (isS_f h2))) sub_nil))))))) (sub_cons rfl (sub_cons rfl (sub_cons rfl (sub_cons (by exact congrArg (fun z : List By => some (Res.row _ 5 1 _ (z.flatMap byc))) (spoil_f (isS_f h2))) sub_nil))))
  · replace h1 := of_decide_eq_false h1
    refine T_exit' ?_
    refine p_then_x ?_
    refine p_then_x ?_
    refine p_blk_x ?_
    refine p_seq ?_
    refine T_seq ?_
    refine T_seq (T_region ?_)
    refine TL_q (.bool (someN l n mask k)) (fun _ _ hρ _ => r_move (hρ _ _ rfl)) rfl rfl rfl (w_n rfl) ?_
    refine TL_q (.bool (!(someN l n mask k))) (fun _ _ hρ _ => r_not (b := someN l n mask k) (hρ _ _ rfl)) rfl rfl rfl (w_n rfl) ?_
    refine TL_seq ?_
    refine T_cond rfl (fun h3 => ?_) (fun h3 => ?_)
    · replace h3 := bnot_t h3
      refine T_seq (T_region ?_)
      refine TL_q (.slice none 0 0) (fun _ _ hρ _ => r_assign (hρ _ _ rfl)) rfl rfl rfl (w_n rfl) ?_
      refine TL_q (.int .i64 2) (fun _ _ hρ _ => r_assign (hρ _ _ rfl)) rfl rfl rfl (w_n rfl) ?_
      refine TL_seq ?_
      refine T_ret' ?_
      refine p_then_r ?_
      refine ret_of rfl (.tuple #[.slice none 0 0, .int .i64 2]) (fun tmps w hk hm => res2 rfl (res_tmp (hk 6 _ rfl)) (res_tmp (hk 7 _ rfl))) (fun w hm => ?_)
      have e0 : spoilP l n mask = none := if_neg (fun e => by have hk32 : k = 32 := (by omega); subst hk32; rw [h3] at e; exact absurd e.2 (by decide))
      rw [e0]
      exact ⟨none, 0, rfl, hm.ext, World.ownsRow_nil _ _ _ _⟩
    · replace h3 := bnot_f h3
      refine T_skip' ?_
      refine p_seq ?_
      refine T_seq (T_region ?_)
      refine TL_q (.slice (some ⟨B4, 0, none⟩) l.length l.length) (fun _ _ hρ _ => r_move (hρ _ _ rfl)) rfl rfl rfl (w_n rfl) ?_
      refine TL_q (.slice (some ⟨B4, 0, none⟩) l.length l.length) (fun _ _ hρ _ => r_assign (hρ _ _ rfl)) rfl rfl rfl (w_n rfl) ?_
      refine TL_q (.int .i64 0) (fun _ _ hρ _ => r_assign (hρ _ _ rfl)) rfl rfl rfl (w_n rfl) ?_
      refine TL_seq ?_
      refine T_ret' ?_
      refine ret_of rfl (.tuple #[.slice (some ⟨B4, 0, none⟩) l.length l.length, .int .i64 0]) (fun tmps w hk hm => res2 rfl (res_tmp (hk 6 _ rfl)) (res_tmp (hk 7 _ rfl))) (fun w hm => ?_)
      have hk32 : k = 32 := by omega
      subst hk32
      have e0 : spoilP l n mask = some (spoilN l n mask 32) := if_pos ⟨hn, h3⟩
      rw [e0]
      have hq : ((some (spoilN l n mask 32)).getD []).length = l.length := spoilN_len l n mask 32
      rw [hq]
      exact ⟨_, _, rfl, hm.ext, hm.row 4 rfl⟩

theorem spoil_out (bit : Int) (mask : Wd) (l : List By) (a : Option Addr) (cap : Nat) (w : World) (hv : SliceAt w a cap 1 byc l) (hl : l.length ≤ 1000000) (hcap : cap ≤ Go.maxLen) (hn : bit < 0 ∨ 8 * (l.length : Int) ≤ bit) : Calls Try.prog 53 #[.slice a l.length cap, .int .i64 bit, .int .u32 (mask.toNat : Int)] w fun e w' => e = .returned (.tuple #[.slice none 0 0, .int .i64 2]) ∧ Below w.heap.size w w' := by
  have hvl := hv.1
  refine calls_of_T (l := [.slice a l.length cap, .int .i64 bit, .int .u32 ((mask).toNat : Int)]) 52 Try.func53 rfl rfl rfl ?_
  show T _ _ _ [(0, .slice a l.length cap), (1, .int .i64 bit), (2, .int .u32 ((mask).toNat : Int))] []
  refine T_seq (T_region ?_)
  refine TL_new 1 (.cells #[.slice a l.length cap] 34) (fun B => .pointer (some ⟨B, 0, none⟩)) (fun _ _ hρ _ => r_box (hρ _ _ rfl) rfl) rfl rfl rfl (w_n rfl) ?_
  intro B1
  refine TL_new 2 (.cells #[.int .i64 bit] 3) (fun B => .pointer (some ⟨B, 0, none⟩)) (fun _ _ hρ _ => r_box (hρ _ _ rfl) rfl) rfl rfl rfl (w_n rfl) ?_
  intro B2
  refine TL_new 3 (.cells #[.int .u32 ((mask).toNat : Int)] 46) (fun B => .pointer (some ⟨B, 0, none⟩)) (fun _ _ hρ _ => r_box (hρ _ _ rfl) rfl) rfl rfl rfl (w_n rfl) ?_
  intro B3
  refine TL_q (.slice none 0 0) (fun _ _ hρ _ => r_assign (hρ _ _ rfl)) rfl rfl rfl (w_n rfl) ?_
  refine TL_q (.int .i64 0) (fun _ _ hρ _ => r_assign (hρ _ _ rfl)) rfl rfl rfl (w_n rfl) ?_
  refine TL_seq ?_
  refine T_seq ?_
  by_cases hb : bit < 0
  · skip
    refine T_seq (T_region ?_)
    refine TL_q (.int .i64 bit) (fun _ _ hρ hm => r_load ag3 (hρ _ _ rfl) (hm.at 2 rfl) rfl) rfl rfl rfl (w_n rfl) ?_
    refine TL_q (.bool true) (fun _ _ hρ _ => r_as (r_lss (hρ _ _ rfl) (hρ _ _ rfl)) (bool_as (decide_eq_true hb))) rfl rfl rfl (w_n rfl) ?_
    refine TL_q (.bool true) (fun _ _ hρ _ => r_move (hρ _ _ rfl)) rfl rfl rfl (w_n rfl) ?_
    refine TL_no rfl rfl (want_n 14 rfl rfl rfl) ?_
    refine TL_no rfl rfl (want_n 14 rfl rfl rfl) ?_
    refine TL_no rfl rfl (want_n 14 rfl rfl rfl) ?_
    refine TL_no rfl rfl (want_n 14 rfl rfl rfl) ?_
    refine TL_no rfl rfl (want_n 14 rfl rfl rfl) ?_
    refine TL_q (.bool true) (fun _ _ hρ _ => r_pick_t (hρ _ _ rfl) (hρ _ _ rfl)) rfl rfl rfl (w_n rfl) ?_
    refine TL_seq ?_
    refine T_cond_t rfl ?_
    refine T_seq (T_region ?_)
    refine TL_q (.slice none 0 0) (fun _ _ hρ _ => r_assign (hρ _ _ rfl)) rfl rfl rfl (w_n rfl) ?_
    refine TL_q (.int .i64 2) (fun _ _ hρ _ => r_assign (hρ _ _ rfl)) rfl rfl rfl (w_n rfl) ?_
    refine TL_seq ?_
    refine T_ret' ?_
    refine p_then_r ?_
    refine ret_of rfl (.tuple #[.slice none 0 0, .int .i64 2]) (fun tmps w hk hm => res2 rfl (res_tmp (hk 6 _ rfl)) (res_tmp (hk 7 _ rfl))) (fun w hm => ?_)
    exact ⟨rfl, hm.ext⟩
  · skip
    have hp2 : (((8 * l.length : Nat) : Int) ≤ bit) := by omega
    refine T_seq (T_region ?_)
    refine TL_q (.int .i64 bit) (fun _ _ hρ hm => r_load ag3 (hρ _ _ rfl) (hm.at 2 rfl) rfl) rfl rfl rfl (w_n rfl) ?_
    refine TL_q (.bool false) (fun _ _ hρ _ => r_as (r_lss (hρ _ _ rfl) (hρ _ _ rfl)) (bool_as (decide_eq_false hb))) rfl rfl rfl (w_n rfl) ?_
    refine TL_q (.bool false) (fun _ _ hρ _ => r_move (hρ _ _ rfl)) rfl rfl rfl (w_n rfl) ?_
    refine TL_q (.int .i64 bit) (fun _ _ hρ hm => r_load ag3 (hρ _ _ rfl) (hm.at 2 rfl) rfl) rfl rfl rfl (want_y 14 rfl rfl rfl) ?_
    refine TL_q (.slice a l.length cap) (fun _ _ hρ hm => r_load ag34 (hρ _ _ rfl) (hm.at 1 rfl) rfl) rfl rfl rfl (want_y 14 rfl rfl rfl) ?_
    refine TL_q (.int .i64 ((l.length : Nat) : Int)) (fun _ _ hρ _ => r_len sl34 (hρ _ _ rfl)) rfl rfl rfl (want_y 14 rfl rfl rfl) ?_
    refine TL_q (.int .i64 ((8 * l.length : Nat) : Int)) (fun _ _ hρ _ => r_as (r_mul (hρ _ _ rfl) (hρ _ _ rfl)) (int_as ((wrap64 (by omega) (by omega)).trans (by omega)))) rfl rfl rfl (want_y 14 rfl rfl rfl) ?_
    refine TL_q (.bool true) (fun _ _ hρ _ => r_as (r_geq (hρ _ _ rfl) (hρ _ _ rfl)) (bool_as (decide_eq_true hp2))) rfl rfl rfl (want_y 14 rfl rfl rfl) ?_
    refine TL_q (.bool true) (fun _ _ hρ _ => r_pick_f (hρ _ _ rfl) (hρ _ _ rfl)) rfl rfl rfl (w_n rfl) ?_
    refine TL_seq ?_
    refine T_cond_t rfl ?_
    refine T_seq (T_region ?_)
    refine TL_q (.slice none 0 0) (fun _ _ hρ _ => r_assign (hρ _ _ rfl)) rfl rfl rfl (w_n rfl) ?_
    refine TL_q (.int .i64 2) (fun _ _ hρ _ => r_assign (hρ _ _ rfl)) rfl rfl rfl (w_n rfl) ?_
    refine TL_seq ?_
    refine T_ret' ?_
    refine p_then_r ?_
    refine ret_of rfl (.tuple #[.slice none 0 0, .int .i64 2]) (fun tmps w hk hm => res2 rfl (res_tmp (hk 6 _ rfl)) (res_tmp (hk 7 _ rfl))) (fun w hm => ?_)
    exact ⟨rfl, hm.ext⟩

theorem rspoil_out (bit : Int) (mask : Wd) (l : List By) (a : Option Addr) (cap : Nat) (w : World) (hv : SliceAt w a cap 1 byc l) (hl : l.length ≤ 1000000) (hcap : cap ≤ Go.maxLen) (hn : bit < 0 ∨ 8 * (l.length : Int) ≤ bit) : Calls Try.prog 72 #[.slice a l.length cap, .int .i64 bit, .int .u32 (mask.toNat : Int)] w fun e w' => e = .returned (.tuple #[.slice none 0 0, .bool false]) ∧ Below w.heap.size w w' := by
  have hvl := hv.1
  refine calls_of_T (l := [.slice a l.length cap, .int .i64 bit, .int .u32 ((mask).toNat : Int)]) 79 Try.func72 rfl rfl rfl ?_
  show T _ _ _ [(0, .slice a l.length cap), (1, .int .i64 bit), (2, .int .u32 ((mask).toNat : Int))] []
  refine T_seq (T_region ?_)
  refine TL_q (.slice none 0 0) (fun _ _ hρ _ => r_assign (hρ _ _ rfl)) rfl rfl rfl (w_n rfl) ?_
  refine TL_q (.bool false) (fun _ _ hρ _ => r_assign (hρ _ _ rfl)) rfl rfl rfl (w_n rfl) ?_
  refine TL_seq ?_
  refine T_seq ?_
  by_cases hb : bit < 0
  · skip
    refine T_seq (T_region ?_)
    refine TL_q (.int .i64 bit) (fun _ _ hρ _ => r_move (hρ _ _ rfl)) rfl rfl rfl (w_n rfl) ?_
    refine TL_q (.bool true) (fun _ _ hρ _ => r_as (r_lss (hρ _ _ rfl) (hρ _ _ rfl)) (bool_as (decide_eq_true hb))) rfl rfl rfl (w_n rfl) ?_
    refine TL_q (.bool true) (fun _ _ hρ _ => r_move (hρ _ _ rfl)) rfl rfl rfl (w_n rfl) ?_
    refine TL_no rfl rfl (want_n 15 rfl rfl rfl) ?_
    refine TL_no rfl rfl (want_n 15 rfl rfl rfl) ?_
    refine TL_no rfl rfl (want_n 15 rfl rfl rfl) ?_
    refine TL_no rfl rfl (want_n 15 rfl rfl rfl) ?_
    refine TL_no rfl rfl (want_n 15 rfl rfl rfl) ?_
    refine TL_q (.bool true) (fun _ _ hρ _ => r_pick_t (hρ _ _ rfl) (hρ _ _ rfl)) rfl rfl rfl (w_n rfl) ?_
    refine TL_seq ?_
    refine T_cond_t rfl ?_
    refine T_seq (T_region ?_)
    refine TL_q (.slice none 0 0) (fun _ _ hρ _ => r_assign (hρ _ _ rfl)) rfl rfl rfl (w_n rfl) ?_
    refine TL_q (.bool false) (fun _ _ hρ _ => r_assign (hρ _ _ rfl)) rfl rfl rfl (w_n rfl) ?_
    refine TL_seq ?_
    refine T_ret' ?_
    refine p_then_r ?_
    refine ret_of rfl (.tuple #[.slice none 0 0, .bool false]) (fun tmps w hk hm => res2 rfl (res_tmp (hk 6 _ rfl)) (res_tmp (hk 7 _ rfl))) (fun w hm => ?_)
    exact ⟨rfl, hm.ext⟩
  · skip
    have hp2 : (((8 * l.length : Nat) : Int) ≤ bit) := by omega
    refine T_seq (T_region ?_)
    refine TL_q (.int .i64 bit) (fun _ _ hρ _ => r_move (hρ _ _ rfl)) rfl rfl rfl (w_n rfl) ?_
    refine TL_q (.bool false) (fun _ _ hρ _ => r_as (r_lss (hρ _ _ rfl) (hρ _ _ rfl)) (bool_as (decide_eq_false hb))) rfl rfl rfl (w_n rfl) ?_
    refine TL_q (.bool false) (fun _ _ hρ _ => r_move (hρ _ _ rfl)) rfl rfl rfl (w_n rfl) ?_
    refine TL_q (.int .i64 bit) (fun _ _ hρ _ => r_move (hρ _ _ rfl)) rfl rfl rfl (want_y 15 rfl rfl rfl) ?_
    refine TL_q (.slice a l.length cap) (fun _ _ hρ _ => r_move (hρ _ _ rfl)) rfl rfl rfl (want_y 15 rfl rfl rfl) ?_
    refine TL_q (.int .i64 ((l.length : Nat) : Int)) (fun _ _ hρ _ => r_len sl34 (hρ _ _ rfl)) rfl rfl rfl (want_y 15 rfl rfl rfl) ?_
    refine TL_q (.int .i64 ((8 * l.length : Nat) : Int)) (fun _ _ hρ _ => r_as (r_mul (hρ _ _ rfl) (hρ _ _ rfl)) (int_as ((wrap64 (by omega) (by omega)).trans (by omega)))) rfl rfl rfl (want_y 15 rfl rfl rfl) ?_
    refine TL_q (.bool true) (fun _ _ hρ _ => r_as (r_geq (hρ _ _ rfl) (hρ _ _ rfl)) (bool_as (decide_eq_true hp2))) rfl rfl rfl (want_y 15 rfl rfl rfl) ?_
    refine TL_q (.bool true) (fun _ _ hρ _ => r_pick_f (hρ _ _ rfl) (hρ _ _ rfl)) rfl rfl rfl (w_n rfl) ?_
    refine TL_seq ?_
    refine T_cond_t rfl ?_
    refine T_seq (T_region ?_)
    refine TL_q (.slice none 0 0) (fun _ _ hρ _ => r_assign (hρ _ _ rfl)) rfl rfl rfl (w_n rfl) ?_
    refine TL_q (.bool false) (fun _ _ hρ _ => r_assign (hρ _ _ rfl)) rfl rfl rfl (w_n rfl) ?_
    refine TL_seq ?_
    refine T_ret' ?_
    refine p_then_r ?_
    refine ret_of rfl (.tuple #[.slice none 0 0, .bool false]) (fun tmps w hk hm => res2 rfl (res_tmp (hk 6 _ rfl)) (res_tmp (hk 7 _ rfl))) (fun w hm => ?_)
    exact ⟨rfl, hm.ext⟩
end Go.Proofs.Ytcidgbjgeegepaa
/- crc: the references of Seal, Open, Spoil. Printed by a program of this seat's prover. -/
namespace Go.Proofs.Ytcidgbjgeegepaa
open Go Go.RowKit
set_option maxRecDepth 10000
theorem rspoil_in (n : Nat) (mask : Wd) (l : List By) (a : Option Addr) (cap : Nat) (w : World) (hv : SliceAt w a cap 1 byc l) (hl : l.length ≤ 1000000) (hcap : cap ≤ Go.maxLen) (hn : n < 8 * l.length) : Calls Try.prog 72 #[.slice a l.length cap, .int .i64 (n : Int), .int .u32 (mask.toNat : Int)] w fun e w' => ∃ a' cap', e = .returned (.tuple #[.slice a' (spoilN l n mask 32).length cap', .bool (someN l n mask 32)]) ∧ Below w.heap.size w w' ∧ w'.ownsRow w.heap.size 5 1 (.slice a' (spoilN l n mask 32).length cap') (spoilN l n mask 32).length ((spoilN l n mask 32).flatMap byc) := by
  have hvl := hv.1
  refine calls_of_T (l := [.slice a l.length cap, .int .i64 ((n : Nat) : Int), .int .u32 ((mask).toNat : Int)]) 79 Try.func72 rfl rfl rfl ?_
  show T _ _ _ [(0, .slice a l.length cap), (1, .int .i64 ((n : Nat) : Int)), (2, .int .u32 ((mask).toNat : Int))] []
  refine T_seq (T_region ?_)
  refine TL_q (.slice none 0 0) (fun _ _ hρ _ => r_assign (hρ _ _ rfl)) rfl rfl rfl (w_n rfl) ?_
  refine TL_q (.bool false) (fun _ _ hρ _ => r_assign (hρ _ _ rfl)) rfl rfl rfl (w_n rfl) ?_
  refine TL_seq ?_
  refine T_seq ?_
  have hp1 : ¬ (((n : Nat) : Int) < 0) := by omega
  have hp2 : ¬ (((8 * l.length : Nat) : Int) ≤ ((n : Nat) : Int)) := by omega
  refine T_seq (T_region ?_)
  refine TL_q (.int .i64 ((n : Nat) : Int)) (fun _ _ hρ _ => r_move (hρ _ _ rfl)) rfl rfl rfl (w_n rfl) ?_
  refine TL_q (.bool false) (fun _ _ hρ _ => r_as (r_lss (hρ _ _ rfl) (hρ _ _ rfl)) (bool_as (decide_eq_false hp1))) rfl rfl rfl (w_n rfl) ?_
  refine TL_q (.bool false) (fun _ _ hρ _ => r_move (hρ _ _ rfl)) rfl rfl rfl (w_n rfl) ?_
  refine TL_q (.int .i64 ((n : Nat) : Int)) (fun _ _ hρ _ => r_move (hρ _ _ rfl)) rfl rfl rfl (want_y 15 rfl rfl rfl) ?_
  refine TL_q (.slice a l.length cap) (fun _ _ hρ _ => r_move (hρ _ _ rfl)) rfl rfl rfl (want_y 15 rfl rfl rfl) ?_
  refine TL_q (.int .i64 ((l.length : Nat) : Int)) (fun _ _ hρ _ => r_len sl34 (hρ _ _ rfl)) rfl rfl rfl (want_y 15 rfl rfl rfl) ?_
  refine TL_q (.int .i64 ((8 * l.length : Nat) : Int)) (fun _ _ hρ _ => r_as (r_mul (hρ _ _ rfl) (hρ _ _ rfl)) (int_as ((wrap64 (by omega) (by omega)).trans (by omega)))) rfl rfl rfl (want_y 15 rfl rfl rfl) ?_
  refine TL_q (.bool false) (fun _ _ hρ _ => r_as (r_geq (hρ _ _ rfl) (hρ _ _ rfl)) (bool_as (decide_eq_false hp2))) rfl rfl rfl (want_y 15 rfl rfl rfl) ?_
  refine TL_q (.bool false) (fun _ _ hρ _ => r_pick_f (hρ _ _ rfl) (hρ _ _ rfl)) rfl rfl rfl (w_n rfl) ?_
  refine TL_seq ?_
  refine T_cond_f rfl ?_
  refine T_skip' ?_
  refine p_seq ?_
  refine T_seq (T_region ?_)
  refine TL_new 1 (.cells #[] 5) (fun B => .slice (some ⟨B, 0, none⟩) 0 0) (fun _ _ _ _ => r_buildSlice (vs := []) (by kernel_rfl) rfl) rfl rfl rfl (w_n rfl) ?_
  intro B1
  refine TL_q (.slice a l.length cap) (fun _ _ hρ _ => r_move (hρ _ _ rfl)) rfl rfl rfl (w_n rfl) ?_
  refine TL_mem ([(1, .row (.slice (some ⟨B1, 0, none⟩) 0 0) 5 1 0 [])]) (fun _ hm => MemOk.sub (hm.toRow (n := 0) (cap := 0) (s := 1) 1 rfl rfl (by omega) rfl _ rfl) (sub_cons rfl sub_nil)) ?_
  refine TL_append (n := 0) (m := l.length) (xs := []) (news := (l.flatMap byc)) (z := .int .u8 0) 1 rfl rfl rfl sl34 sz5 by5 (by kernel_rfl) rfl rfl (.inl rfl) (fun _ hm => by have := src_of byc_len (hv.keep hm.ext); simpa using this) (by intro u hu; obtain ⟨x, _, hx⟩ := List.mem_flatMap.1 hu; exact byc_one x u hx) (by omega) (by omega) rfl (w_n rfl) ?_
  intro a2 cap2
  refine TL_q (.slice a2 (0 + l.length) cap2) (fun _ _ hρ _ => r_assign (hρ _ _ rfl)) rfl rfl rfl (w_n rfl) ?_
  refine TL_seq ?_
  rw [Nat.zero_add, List.nil_append]
  refine T_row 1 rfl (by omega) (fun g3 ha3 => ?_)
  subst ha3
  refine T_rowcap 1 rfl (fun hrc3 => ?_)
  refine T_seq (T_region ?_)
  refine TL_q (.bool false) (fun _ _ hρ _ => r_assign (hρ _ _ rfl)) rfl rfl rfl (w_n rfl) ?_
  refine TL_seq ?_
  refine T_seq ?_
  refine T_seq (T_region ?_)
  refine TL_q (.int .i64 0) (fun _ _ hρ _ => r_move (hρ _ _ rfl)) rfl rfl rfl (w_n rfl) ?_
  refine TL_seq ?_
  refine T_block ?_
  refine T_loop (ι := Nat) (fun (k : Nat) => k ≤ 32) (fun (k : Nat) => [(0, .slice a l.length cap), (1, .int .i64 ((n : Nat) : Int)), (6, .slice none 0 0), (7, .bool false), (8, .slice (some ⟨g3, 0, none⟩) l.length cap2), (25, .int .i64 ((k : Nat) : Int)), (9, .bool (someN l n mask k)), (2, .int .u32 ((mask >>> k).toNat : Int))]) (fun (k : Nat) => [(1, .row (.slice (some ⟨g3, 0, none⟩) l.length cap2) 5 1 l.length ((spoilN l n mask k).flatMap byc))]) (fun (k : Nat) => 32 - k) 0 (Nat.zero_le _) (sub_cons rfl (sub_cons rfl (sub_cons rfl (sub_cons rfl (sub_cons rfl (sub_cons rfl (sub_cons rfl (sub_cons (by exact (congrArg (fun x : Wd => some (Value.int .u32 (x.toNat : Int))) ((BitVec.ushiftRight_zero mask).symm))) sub_nil)))))))) (sub_cons rfl sub_nil) ?_
  rintro k hp
  show T _ _ _ [(0, .slice a l.length cap), (1, .int .i64 ((n : Nat) : Int)), (6, .slice none 0 0), (7, .bool false), (8, .slice (some ⟨g3, 0, none⟩) l.length cap2), (25, .int .i64 ((k : Nat) : Int)), (9, .bool (someN l n mask k)), (2, .int .u32 ((mask >>> k).toNat : Int))] [(1, .row (.slice (some ⟨g3, 0, none⟩) l.length cap2) 5 1 l.length ((spoilN l n mask k).flatMap byc))]
  refine T_seq (T_region ?_)
  refine TL_q (.bool (decide (((k : Nat) : Int) < 32))) (fun _ _ hρ _ => r_lss (hρ _ _ rfl) (hρ _ _ rfl)) rfl rfl rfl (w_n rfl) ?_
  refine TL_seq ?_
  refine T_seq ?_
  refine T_cond rfl (fun h1 => ?_) (fun h1 => ?_)
  · replace h1 := of_decide_eq_true h1
    refine T_skip' ?_
    refine p_seq ?_
    refine T_seq ?_
    refine T_block ?_
    refine T_seq (T_region ?_)
    refine TL_q (.int .i64 ((k : Nat) : Int)) (fun _ _ hρ _ => r_move (hρ _ _ rfl)) rfl rfl rfl (w_n rfl) ?_
    refine TL_q (.int .i64 ((k : Nat) : Int)) (fun _ _ hρ _ => r_assign (hρ _ _ rfl)) rfl rfl rfl (w_n rfl) ?_
    refine TL_seq ?_
    refine T_seq (T_region ?_)
    refine TL_q (.int .i64 ((n : Nat) : Int)) (fun _ _ hρ _ => r_move (hρ _ _ rfl)) rfl rfl rfl (w_n rfl) ?_
    refine TL_q (.int .i64 ((k : Nat) : Int)) (fun _ _ hρ _ => r_move (hρ _ _ rfl)) rfl rfl rfl (w_n rfl) ?_
    refine TL_q (.int .i64 ((n + k : Nat) : Int)) (fun _ _ hρ _ => r_as (r_add (hρ _ _ rfl) (hρ _ _ rfl)) (int_as ((wrap64 (by omega) (by omega)).trans (by omega)))) rfl rfl rfl (w_n rfl) ?_
    refine TL_q (.int .i64 ((n + k : Nat) : Int)) (fun _ _ hρ _ => r_assign (hρ _ _ rfl)) rfl rfl rfl (w_n rfl) ?_
    refine TL_seq ?_
    refine T_seq ?_
    by_cases hb : mask.getLsbD k = true
    · skip
      refine T_seq (T_region ?_)
      refine TL_q (.int .u32 ((mask >>> k).toNat : Int)) (fun _ _ hρ _ => r_move (hρ _ _ rfl)) rfl rfl rfl (w_n rfl) ?_
      refine TL_q (.int .u32 (((mask >>> k) % (2#32)).toNat : Int)) (fun _ _ hρ _ => r_remB (k := .u32) (a := (mask >>> k)) (b := (2#32)) rfl (hρ _ _ rfl) (hρ _ _ rfl)) rfl rfl rfl (w_n rfl) ?_
      refine TL_q (.bool true) (fun _ _ hρ _ => r_as (r_eql (hρ _ _ rfl) (hρ _ _ rfl)) (bool_as (isr_t hb))) rfl rfl rfl (w_n rfl) ?_
      refine TL_q (.bool true) (fun _ _ hρ _ => r_move (hρ _ _ rfl)) rfl rfl rfl (w_n rfl) ?_
      refine TL_q (.int .i64 ((n + k : Nat) : Int)) (fun _ _ hρ _ => r_move (hρ _ _ rfl)) rfl rfl rfl (want_y 34 rfl rfl rfl) ?_
      refine TL_q (.slice a l.length cap) (fun _ _ hρ _ => r_move (hρ _ _ rfl)) rfl rfl rfl (want_y 34 rfl rfl rfl) ?_
      refine TL_q (.int .i64 ((l.length : Nat) : Int)) (fun _ _ hρ _ => r_len sl34 (hρ _ _ rfl)) rfl rfl rfl (want_y 34 rfl rfl rfl) ?_
      refine TL_q (.int .i64 ((8 * l.length : Nat) : Int)) (fun _ _ hρ _ => r_as (r_mul (hρ _ _ rfl) (hρ _ _ rfl)) (int_as ((wrap64 (by omega) (by omega)).trans (by omega)))) rfl rfl rfl (want_y 34 rfl rfl rfl) ?_
      refine TL_q (.bool (decide (((n + k : Nat) : Int) < ((8 * l.length : Nat) : Int)))) (fun _ _ hρ _ => r_lss (hρ _ _ rfl) (hρ _ _ rfl)) rfl rfl rfl (want_y 34 rfl rfl rfl) ?_
      refine TL_q (.bool (decide (((n + k : Nat) : Int) < ((8 * l.length : Nat) : Int)))) (fun _ _ hρ _ => r_pick_t (hρ _ _ rfl) (hρ _ _ rfl)) rfl rfl rfl (w_n rfl) ?_
      refine TL_seq ?_
      refine T_cond rfl (fun h2 => ?_) (fun h2 => ?_)
      · replace h2 := of_decide_eq_true h2
        refine T_seq (T_region ?_)
        refine TL_q (.int .u8 1) (fun _ _ hρ _ => r_assign (hρ _ _ rfl)) rfl rfl rfl (w_n rfl) ?_
        refine TL_seq ?_
        refine T_seq ?_
        refine T_seq (T_region ?_)
        refine TL_q (.int .i64 ((n + k : Nat) : Int)) (fun _ _ hρ _ => r_move (hρ _ _ rfl)) rfl rfl rfl (w_n rfl) ?_
        refine TL_q (.int .i64 (((n + k) % 8 : Nat) : Int)) (fun _ _ hρ _ => r_as (r_rem (hρ _ _ rfl) (hρ _ _ rfl) (by omega)) (int_as ((Int.tmod_eq_emod_of_nonneg (by omega)).trans (by omega)))) rfl rfl rfl (w_n rfl) ?_
        refine TL_q (.int .i64 0) (fun _ _ hρ _ => r_move (hρ _ _ rfl)) rfl rfl rfl (w_n rfl) ?_
        refine TL_seq ?_
        refine T_block ?_
        refine T_loop (ι := Nat) (fun (j : Nat) => j ≤ (n + k) % 8) (fun (j : Nat) => [(0, .slice a l.length cap), (1, .int .i64 ((n : Nat) : Int)), (6, .slice none 0 0), (7, .bool false), (8, .slice (some ⟨g3, 0, none⟩) l.length cap2), (25, .int .i64 ((k : Nat) : Int)), (9, .bool (someN l n mask k)), (2, .int .u32 ((mask >>> k).toNat : Int)), (26, .bool (decide (((k : Nat) : Int) < 32))), (27, .int .i64 ((k : Nat) : Int)), (10, .int .i64 ((k : Nat) : Int)), (28, .int .i64 ((n : Nat) : Int)), (29, .int .i64 ((k : Nat) : Int)), (30, .int .i64 ((n + k : Nat) : Int)), (11, .int .i64 ((n + k : Nat) : Int)), (31, .int .u32 ((mask >>> k).toNat : Int)), (32, .int .u32 (((mask >>> k) % (2#32)).toNat : Int)), (33, .bool true), (34, .bool true), (35, .int .i64 ((n + k : Nat) : Int)), (36, .slice a l.length cap), (37, .int .i64 ((l.length : Nat) : Int)), (38, .int .i64 ((8 * l.length : Nat) : Int)), (39, .bool (decide (((n + k : Nat) : Int) < ((8 * l.length : Nat) : Int)))), (40, .bool (decide (((n + k : Nat) : Int) < ((8 * l.length : Nat) : Int)))), (41, .int .i64 ((n + k : Nat) : Int)), (42, .int .i64 (((n + k) % 8 : Nat) : Int)), (43, .int .i64 ((j : Nat) : Int)), (12, .int .u8 ((1#8 <<< j).toNat : Int))]) (fun (j : Nat) => [(1, .row (.slice (some ⟨g3, 0, none⟩) l.length cap2) 5 1 l.length ((spoilN l n mask k).flatMap byc))]) (fun (j : Nat) => (n + k) % 8 - j) 0 (Nat.zero_le _) (sub_cons rfl (sub_cons rfl (sub_cons rfl (sub_cons rfl (sub_cons rfl (sub_cons rfl (sub_cons rfl (sub_cons rfl (sub_cons rfl (sub_cons rfl (sub_cons rfl (sub_cons rfl (sub_cons rfl (sub_cons rfl (sub_cons rfl (sub_cons rfl (sub_cons rfl (sub_cons rfl (sub_cons rfl (sub_cons rfl (sub_cons rfl (sub_cons rfl (sub_cons rfl (sub_cons rfl (sub_cons rfl (sub_cons rfl (sub_cons rfl (sub_cons rfl (sub_cons (by exact (congrArg (fun x : By => some (Value.int .u8 (x.toNat : Int))) ((BitVec.shiftLeft_zero 1#8).symm))) sub_nil))))))))))))))))))))))))))))) (sub_cons rfl sub_nil) ?_
        rintro j hp
        show T _ _ _ [(0, .slice a l.length cap), (1, .int .i64 ((n : Nat) : Int)), (6, .slice none 0 0), (7, .bool false), (8, .slice (some ⟨g3, 0, none⟩) l.length cap2), (25, .int .i64 ((k : Nat) : Int)), (9, .bool (someN l n mask k)), (2, .int .u32 ((mask >>> k).toNat : Int)), (26, .bool (decide (((k : Nat) : Int) < 32))), (27, .int .i64 ((k : Nat) : Int)), (10, .int .i64 ((k : Nat) : Int)), (28, .int .i64 ((n : Nat) : Int)), (29, .int .i64 ((k : Nat) : Int)), (30, .int .i64 ((n + k : Nat) : Int)), (11, .int .i64 ((n + k : Nat) : Int)), (31, .int .u32 ((mask >>> k).toNat : Int)), (32, .int .u32 (((mask >>> k) % (2#32)).toNat : Int)), (33, .bool true), (34, .bool true), (35, .int .i64 ((n + k : Nat) : Int)), (36, .slice a l.length cap), (37, .int .i64 ((l.length : Nat) : Int)), (38, .int .i64 ((8 * l.length : Nat) : Int)), (39, .bool (decide (((n + k : Nat) : Int) < ((8 * l.length : Nat) : Int)))), (40, .bool (decide (((n + k : Nat) : Int) < ((8 * l.length : Nat) : Int)))), (41, .int .i64 ((n + k : Nat) : Int)), (42, .int .i64 (((n + k) % 8 : Nat) : Int)), (43, .int .i64 ((j : Nat) : Int)), (12, .int .u8 ((1#8 <<< j).toNat : Int))] [(1, .row (.slice (some ⟨g3, 0, none⟩) l.length cap2) 5 1 l.length ((spoilN l n mask k).flatMap byc))]
        refine T_seq (T_region ?_)
        refine TL_q (.bool (decide (((j : Nat) : Int) < (((n + k) % 8 : Nat) : Int)))) (fun _ _ hρ _ => r_lss (hρ _ _ rfl) (hρ _ _ rfl)) rfl rfl rfl (w_n rfl) ?_
        refine TL_seq ?_
        refine T_seq ?_
        refine T_cond rfl (fun h3 => ?_) (fun h3 => ?_)
        · replace h3 := of_decide_eq_true h3
          refine T_skip' ?_
          refine p_seq ?_
          refine T_seq ?_
          refine T_block ?_
          refine T_region ?_
          refine TL_q (.int .u8 ((1#8 <<< j).toNat : Int)) (fun _ _ hρ _ => r_move (hρ _ _ rfl)) rfl rfl rfl (w_n rfl) ?_
          refine TL_q (.int .u8 (((2#8) * (1#8 <<< j)).toNat : Int)) (fun _ _ hρ _ => r_mulB (k := .u8) (a := (2#8)) (b := (1#8 <<< j)) rfl (hρ _ _ rfl) (hρ _ _ rfl)) rfl rfl rfl (w_n rfl) ?_
          refine TL_q (.int .u8 (((2#8) * (1#8 <<< j)).toNat : Int)) (fun _ _ hρ _ => r_assign (hρ _ _ rfl)) rfl rfl rfl (w_n rfl) ?_
          refine TL_nil ?_
          refine p_blk_n ?_
          refine p_seq ?_
          refine T_region ?_
          refine TL_q (.int .i64 ((j + 1 : Nat) : Int)) (fun _ _ hρ _ => r_as (r_add (hρ _ _ rfl) (hρ _ _ rfl)) (int_as ((wrap64 (by omega) (by omega)).trans (by omega)))) rfl rfl rfl (w_n rfl) ?_
          refine TL_q (.int .i64 ((j + 1 : Nat) : Int)) (fun _ _ hρ _ => r_move (hρ _ _ rfl)) rfl rfl rfl (w_n rfl) ?_
          refine TL_nil ?_
          exact p_at (j + 1) ⟨by omega, by omega⟩ (sub_cons rfl (sub_cons rfl (sub_cons rfl (sub_cons rfl (sub_cons rfl (sub_cons rfl (sub_cons rfl (sub_cons rfl (sub_cons rfl (sub_cons rfl (sub_cons rfl (sub_cons rfl (sub_cons rfl (sub_cons rfl (sub_cons rfl (sub_cons rfl (sub_cons rfl (sub_cons rfl (sub_cons rfl (sub_cons rfl (sub_cons rfl (sub_cons rfl (sub_cons rfl (sub_cons rfl (sub_cons rfl (sub_cons rfl (sub_cons rfl (sub_cons rfl (sub_cons (congrArg (fun x : By => some (Value.int .u8 (x.toNat : Int))) (dbl_b j)) sub_nil))))))))))))))))))))))))))))) (sub_cons rfl sub_nil)
        · replace h3 := of_decide_eq_false h3
          refine T_exit' ?_
          refine p_then_x ?_
          refine p_then_x ?_
          refine p_blk_x ?_
          refine p_seq ?_
          refine T_seq ?_
          have hj : j = (n + k) % 8 := by omega
          subst hj
          have hsl := spoilN_len l n mask k
          obtain ⟨y, hy⟩ : ∃ y, (spoilN l n mask k)[(n + k) / 8]? = some y := ⟨_, List.getElem?_eq_getElem (by omega)⟩
          refine T_seq (T_region ?_)
          refine TL_q (.slice (some ⟨g3, 0, none⟩) l.length cap2) (fun _ _ hρ _ => r_move (hρ _ _ rfl)) rfl rfl rfl (w_n rfl) ?_
          refine TL_q (.int .i64 ((n + k : Nat) : Int)) (fun _ _ hρ _ => r_move (hρ _ _ rfl)) rfl rfl rfl (w_n rfl) ?_
          refine TL_call (.int .u32 ((bw (bitA (spoilN l n mask k) (n + k))).toNat : Int)) (fun _ _ hρ _ => r_call (args := [.slice (some ⟨g3, 0, none⟩) l.length cap2, .int .i64 ((n + k : Nat) : Int)]) (enters_of Try.func109 (by kernel_rfl) rfl) (hρ _ _ rfl) ((cons2 (hρ _ _ rfl) (cons2 (hρ _ _ rfl) rfl))) rfl) (fun w hm => by have hb := bit_ref (n + k) (spoilN l n mask k) (some ⟨g3, 0, none⟩) cap2 w (SliceAt.own byc_len (hm.row 1 rfl) hsl.symm rfl) (by omega) (by omega); rw [hsl] at hb; exact hb) rfl rfl rfl (w_n rfl) ?_
          refine TL_q (.bool (decide ((bw (bitA (spoilN l n mask k) (n + k))) = (1#32)))) (fun _ _ hρ _ => r_as (r_eql (hρ _ _ rfl) (hρ _ _ rfl)) (bool_as (bv_dec (bw (bitA (spoilN l n mask k) (n + k))) (1#32)))) rfl rfl rfl (w_n rfl) ?_
          refine TL_seq ?_
          refine T_cond rfl (fun h4 => ?_) (fun h4 => ?_)
          · replace h4 := of_decide_eq_true h4
            refine T_region ?_
            refine TL_q (.slice (some ⟨g3, 0, none⟩) l.length cap2) (fun _ _ hρ _ => r_move (hρ _ _ rfl)) rfl rfl rfl (w_n rfl) ?_
            refine TL_q (.int .i64 ((n + k : Nat) : Int)) (fun _ _ hρ _ => r_move (hρ _ _ rfl)) rfl rfl rfl (w_n rfl) ?_
            refine TL_q (.int .i64 (((n + k) / 8 : Nat) : Int)) (fun _ _ hρ _ => r_as (r_quo (hρ _ _ rfl) (hρ _ _ rfl) (by omega)) (int_as ((quo_i64 (by omega) (by omega) (by omega)).trans (by omega)))) rfl rfl rfl (w_n rfl) ?_
            refine TL_q (.slice (some ⟨g3, 0, none⟩) l.length cap2) (fun _ _ hρ _ => r_move (hρ _ _ rfl)) rfl rfl rfl (w_n rfl) ?_
            refine TL_q (.int .i64 ((n + k : Nat) : Int)) (fun _ _ hρ _ => r_move (hρ _ _ rfl)) rfl rfl rfl (w_n rfl) ?_
            refine TL_q (.int .i64 (((n + k) / 8 : Nat) : Int)) (fun _ _ hρ _ => r_as (r_quo (hρ _ _ rfl) (hρ _ _ rfl) (by omega)) (int_as ((quo_i64 (by omega) (by omega) (by omega)).trans (by omega)))) rfl rfl rfl (w_n rfl) ?_
            refine TL_q (.pointer (some ⟨g3, 0 + ((n + k) / 8) * 1, none⟩)) (fun _ _ hρ _ => r_indexAddrS (i := (n + k) / 8) sl34 sz5 (hρ _ _ rfl) (hρ _ _ rfl) (by omega)) rfl rfl rfl (w_n rfl) ?_
            refine TL_q (.int .u8 ((y).toNat : Int)) (fun _ _ hρ hm => r_loadOwn1 (f := byc) (u := y) (l := (spoilN l n mask k)) ag5 (hρ _ _ rfl) (hm.row 1 rfl) (spoilN_len l n mask k).symm rfl byc_len hy rfl) rfl rfl rfl (w_n rfl) ?_
            refine TL_q (.int .u8 ((1#8 <<< ((n + k) % 8)).toNat : Int)) (fun _ _ hρ _ => r_move (hρ _ _ rfl)) rfl rfl rfl (w_n rfl) ?_
            refine TL_q (.int .u8 ((y - (1#8 <<< ((n + k) % 8))).toNat : Int)) (fun _ _ hρ _ => r_subB (k := .u8) (a := y) (b := (1#8 <<< ((n + k) % 8))) rfl (hρ _ _ rfl) (hρ _ _ rfl)) rfl rfl rfl (w_n rfl) ?_
            refine TL_q (.pointer (some ⟨g3, 0 + ((n + k) / 8) * 1, none⟩)) (fun _ _ hρ _ => r_indexAddrS (i := (n + k) / 8) sl34 sz5 (hρ _ _ rfl) (hρ _ _ rfl) (by omega)) rfl rfl rfl (w_n rfl) ?_
            refine TL_storeRow (f := byc) (l := (spoilN l n mask k)) (u := y - (1#8 <<< ((n + k) % 8))) 1 rfl (spoilN_len l n mask k).symm rfl rfl sz5 byc_len (by omega) rfl rfl (w_n rfl) ?_
            refine TL_nil ?_
            refine p_seq ?_
            refine T_region ?_
            refine TL_q (.bool true) (fun _ _ hρ _ => r_assign (hρ _ _ rfl)) rfl rfl rfl (w_n rfl) ?_
            refine TL_nil ?_
            refine p_seq ?_
            refine T_region ?_
            refine TL_q (.int .u32 ((mask >>> k).toNat : Int)) (fun _ _ hρ _ => r_move (hρ _ _ rfl)) rfl rfl rfl (w_n rfl) ?_
            refine TL_q (.int .u32 (((mask >>> k) / (2#32)).toNat : Int)) (fun _ _ hρ _ => r_quoB (k := .u32) (a := (mask >>> k)) (b := (2#32)) rfl rfl (hρ _ _ rfl) (hρ _ _ rfl)) rfl rfl rfl (w_n rfl) ?_
            refine TL_q (.int .u32 (((mask >>> k) / (2#32)).toNat : Int)) (fun _ _ hρ _ => r_assign (hρ _ _ rfl)) rfl rfl rfl (w_n rfl) ?_
            refine TL_nil ?_
            refine p_blk_n ?_
            refine p_seq ?_
            refine T_region ?_
            refine TL_q (.int .i64 ((k + 1 : Nat) : Int)) (fun _ _ hρ _ => r_as (r_add (hρ _ _ rfl) (hρ _ _ rfl)) (int_as ((wrap64 (by omega) (by omega)).trans (by omega)))) rfl rfl rfl (w_n rfl) ?_
            refine TL_q (.int .i64 ((k + 1 : Nat) : Int)) (fun _ _ hρ _ => r_move (hρ _ _ rfl)) rfl rfl rfl (w_n rfl) ?_
            refine TL_nil ?_
            exact p_at (k + 1) ⟨by omega, by omega⟩ (sub_cons rfl (sub_cons rfl (sub_cons rfl (sub_cons rfl (sub_cons rfl (sub_cons rfl (sub_cons (by exact congrArg (fun z : Bool => some (Value.bool z)) (some_t ⟨hb, by omega⟩)) (sub_cons (congrArg (fun x : Wd => some (Value.int .u32 (x.toNat : Int))) (half_w mask k)) sub_nil)))))))) (sub_cons (by exact congrArg (fun z : List By => some (Res.row _ 5 1 _ (z.flatMap byc))) (spoil_s ⟨hb, by omega⟩ hy h4)) sub_nil)
          · replace h4 := of_decide_eq_false h4
            refine T_region ?_
            refine TL_q (.slice (some ⟨g3, 0, none⟩) l.length cap2) (fun _ _ hρ _ => r_move (hρ _ _ rfl)) rfl rfl rfl (w_n rfl) ?_
            refine TL_q (.int .i64 ((n + k : Nat) : Int)) (fun _ _ hρ _ => r_move (hρ _ _ rfl)) rfl rfl rfl (w_n rfl) ?_
            refine TL_q (.int .i64 (((n + k) / 8 : Nat) : Int)) (fun _ _ hρ _ => r_as (r_quo (hρ _ _ rfl) (hρ _ _ rfl) (by omega)) (int_as ((quo_i64 (by omega) (by omega) (by omega)).trans (by omega)))) rfl rfl rfl (w_n rfl) ?_
            refine TL_q (.slice (some ⟨g3, 0, none⟩) l.length cap2) (fun _ _ hρ _ => r_move (hρ _ _ rfl)) rfl rfl rfl (w_n rfl) ?_
            refine TL_q (.int .i64 ((n + k : Nat) : Int)) (fun _ _ hρ _ => r_move (hρ _ _ rfl)) rfl rfl rfl (w_n rfl) ?_
            refine TL_q (.int .i64 (((n + k) / 8 : Nat) : Int)) (fun _ _ hρ _ => r_as (r_quo (hρ _ _ rfl) (hρ _ _ rfl) (by omega)) (int_as ((quo_i64 (by omega) (by omega) (by omega)).trans (by omega)))) rfl rfl rfl (w_n rfl) ?_
            refine TL_q (.pointer (some ⟨g3, 0 + ((n + k) / 8) * 1, none⟩)) (fun _ _ hρ _ => r_indexAddrS (i := (n + k) / 8) sl34 sz5 (hρ _ _ rfl) (hρ _ _ rfl) (by omega)) rfl rfl rfl (w_n rfl) ?_
            refine TL_q (.int .u8 ((y).toNat : Int)) (fun _ _ hρ hm => r_loadOwn1 (f := byc) (u := y) (l := (spoilN l n mask k)) ag5 (hρ _ _ rfl) (hm.row 1 rfl) (spoilN_len l n mask k).symm rfl byc_len hy rfl) rfl rfl rfl (w_n rfl) ?_
            refine TL_q (.int .u8 ((1#8 <<< ((n + k) % 8)).toNat : Int)) (fun _ _ hρ _ => r_move (hρ _ _ rfl)) rfl rfl rfl (w_n rfl) ?_
            refine TL_q (.int .u8 ((y + (1#8 <<< ((n + k) % 8))).toNat : Int)) (fun _ _ hρ _ => r_addB (k := .u8) (a := y) (b := (1#8 <<< ((n + k) % 8))) rfl (hρ _ _ rfl) (hρ _ _ rfl)) rfl rfl rfl (w_n rfl) ?_
            refine TL_q (.pointer (some ⟨g3, 0 + ((n + k) / 8) * 1, none⟩)) (fun _ _ hρ _ => r_indexAddrS (i := (n + k) / 8) sl34 sz5 (hρ _ _ rfl) (hρ _ _ rfl) (by omega)) rfl rfl rfl (w_n rfl) ?_
            refine TL_storeRow (f := byc) (l := (spoilN l n mask k)) (u := y + (1#8 <<< ((n + k) % 8))) 1 rfl (spoilN_len l n mask k).symm rfl rfl sz5 byc_len (by omega) rfl rfl (w_n rfl) ?_
            refine TL_nil ?_
            refine p_seq ?_
            refine T_region ?_
            refine TL_q (.bool true) (fun _ _ hρ _ => r_assign (hρ _ _ rfl)) rfl rfl rfl (w_n rfl) ?_
            refine TL_nil ?_
            refine p_seq ?_
            refine T_region ?_
            refine TL_q (.int .u32 ((mask >>> k).toNat : Int)) (fun _ _ hρ _ => r_move (hρ _ _ rfl)) rfl rfl rfl (w_n rfl) ?_
            refine TL_q (.int .u32 (((mask >>> k) / (2#32)).toNat : Int)) (fun _ _ hρ _ => r_quoB (k := .u32) (a := (mask >>> k)) (b := (2#32)) rfl rfl (hρ _ _ rfl) (hρ _ _ rfl)) rfl rfl rfl (w_n rfl) ?_
            refine TL_q (.int .u32 (((mask >>> k) / (2#32)).toNat : Int)) (fun _ _ hρ _ => r_assign (hρ _ _ rfl)) rfl rfl rfl (w_n rfl) ?_
            refine TL_nil ?_
            refine p_blk_n ?_
            refine p_seq ?_
            refine T_region ?_
            refine TL_q (.int .i64 ((k + 1 : Nat) : Int)) (fun _ _ hρ _ => r_as (r_add (hρ _ _ rfl) (hρ _ _ rfl)) (int_as ((wrap64 (by omega) (by omega)).trans (by omega)))) rfl rfl rfl (w_n rfl) ?_
            refine TL_q (.int .i64 ((k + 1 : Nat) : Int)) (fun _ _ hρ _ => r_move (hρ _ _ rfl)) rfl rfl rfl (w_n rfl) ?_
            refine TL_nil ?_
            exact p_at (k + 1) ⟨by omega, by omega⟩ (sub_cons rfl (sub_cons rfl (sub_cons rfl (sub_cons rfl (sub_cons rfl (sub_cons rfl (sub_cons (by exact congrArg (fun z : Bool => some (Value.bool z)) (some_t ⟨hb, by omega⟩)) (sub_cons (congrArg (fun x : Wd => some (Value.int .u32 (x.toNat : Int))) (half_w mask k)) sub_nil)))))))) (sub_cons (by exact congrArg (fun z : List By => some (Res.row _ 5 1 _ (z.flatMap byc))) (spoil_a ⟨hb, by omega⟩ hy h4)) sub_nil)
      · replace h2 := of_decide_eq_false h2
        refine T_skip' ?_
        refine p_seq ?_
        refine T_region ?_
        refine TL_q (.int .u32 ((mask >>> k).toNat : Int)) (fun _ _ hρ _ => r_move (hρ _ _ rfl)) rfl rfl rfl (w_n rfl) ?_
        refine TL_q (.int .u32 (((mask >>> k) / (2#32)).toNat : Int)) (fun _ _ hρ _ => r_quoB (k := .u32) (a := (mask >>> k)) (b := (2#32)) rfl rfl (hρ _ _ rfl) (hρ _ _ rfl)) rfl rfl rfl (w_n rfl) ?_
        refine TL_q (.int .u32 (((mask >>> k) / (2#32)).toNat : Int)) (fun _ _ hρ _ => r_assign (hρ _ _ rfl)) rfl rfl rfl (w_n rfl) ?_
        refine TL_nil ?_
        refine p_blk_n ?_
        refine p_seq ?_
        refine T_region ?_
        refine TL_q (.int .i64 ((k + 1 : Nat) : Int)) (fun _ _ hρ _ => r_as (r_add (hρ _ _ rfl) (hρ _ _ rfl)) (int_as ((wrap64 (by omega) (by omega)).trans (by omega)))) rfl rfl rfl (w_n rfl) ?_
        refine TL_q (.int .i64 ((k + 1 : Nat) : Int)) (fun _ _ hρ _ => r_move (hρ _ _ rfl)) rfl rfl rfl (w_n rfl) ?_
        refine TL_nil ?_
        exact p_at (k + 1) ⟨by omega, by omega⟩ (sub_cons rfl (sub_cons rfl (sub_cons rfl (sub_cons rfl (sub_cons rfl (sub_cons rfl (sub_cons (by exact congrArg (fun z : Bool => some (Value.bool z)) (some_f (fun e => absurd e.2 (by omega)))) (sub_cons (congrArg (fun x : Wd => some (Value.int .u32 (x.toNat : Int))) (half_w mask k)) sub_nil)))))))) (sub_cons (by exact congrArg (fun z : List By => some (Res.row _ 5 1 _ (z.flatMap byc))) (spoil_f (fun e => absurd e.2 (by omega)))) sub_nil)
    · skip
      refine T_seq (T_region ?_)
      refine TL_q (.int .u32 ((mask >>> k).toNat : Int)) (fun _ _ hρ _ => r_move (hρ _ _ rfl)) rfl rfl rfl (w_n rfl) ?_
      refine TL_q (.int .u32 (((mask >>> k) % (2#32)).toNat : Int)) (fun _ _ hρ _ => r_remB (k := .u32) (a := (mask >>> k)) (b := (2#32)) rfl (hρ _ _ rfl) (hρ _ _ rfl)) rfl rfl rfl (w_n rfl) ?_
      refine TL_q (.bool false) (fun _ _ hρ _ => r_as (r_eql (hρ _ _ rfl) (hρ _ _ rfl)) (bool_as (isr_f hb))) rfl rfl rfl (w_n rfl) ?_
      refine TL_q (.bool false) (fun _ _ hρ _ => r_move (hρ _ _ rfl)) rfl rfl rfl (w_n rfl) ?_
      refine TL_no rfl rfl (want_n 34 rfl rfl rfl) ?_
      refine TL_no rfl rfl (want_n 34 rfl rfl rfl) ?_
      refine TL_no rfl rfl (want_n 34 rfl rfl rfl) ?_
      refine TL_no rfl rfl (want_n 34 rfl rfl rfl) ?_
      refine TL_no rfl rfl (want_n 34 rfl rfl rfl) ?_
      refine TL_q (.bool false) (fun _ _ hρ _ => r_pick_f (hρ _ _ rfl) (hρ _ _ rfl)) rfl rfl rfl (w_n rfl) ?_
      refine TL_seq ?_
      refine T_cond_f rfl ?_
      refine T_skip' ?_
      refine p_seq ?_
      refine T_region ?_
      refine TL_q (.int .u32 ((mask >>> k).toNat : Int)) (fun _ _ hρ _ => r_move (hρ _ _ rfl)) rfl rfl rfl (w_n rfl) ?_
      refine TL_q (.int .u32 (((mask >>> k) / (2#32)).toNat : Int)) (fun _ _ hρ _ => r_quoB (k := .u32) (a := (mask >>> k)) (b := (2#32)) rfl rfl (hρ _ _ rfl) (hρ _ _ rfl)) rfl rfl rfl (w_n rfl) ?_
      refine TL_q (.int .u32 (((mask >>> k) / (2#32)).toNat : Int)) (fun _ _ hρ _ => r_assign (hρ _ _ rfl)) rfl rfl rfl (w_n rfl) ?_
      refine TL_nil ?_
      refine p_blk_n ?_
      refine p_seq ?_
      refine T_region ?_
      refine TL_q (.int .i64 ((k + 1 : Nat) : Int)) (fun _ _ hρ _ => r_as (r_add (hρ _ _ rfl) (hρ _ _ rfl)) (int_as ((wrap64 (by omega) (by omega)).trans (by omega)))) rfl rfl rfl (w_n rfl) ?_
      refine TL_q (.int .i64 ((k + 1 : Nat) : Int)) (fun _ _ hρ _ => r_move (hρ _ _ rfl)) rfl rfl rfl (w_n rfl) ?_
      refine TL_nil ?_
      exact p_at (k + 1) ⟨by omega, by omega⟩ (sub_cons rfl (sub_cons rfl (sub_cons rfl (sub_cons rfl (sub_cons rfl (sub_cons rfl (sub_cons (by exact congrArg (fun z : Bool => some (Value.bool z)) (some_f (fun e => hb e.1))) (sub_cons (congrArg (fun x : Wd => some (Value.int .u32 (x.toNat : Int))) (half_w mask k)) sub_nil)))))))) (sub_cons (by exact congrArg (fun z : List By => some (Res.row _ 5 1 _ (z.flatMap byc))) (spoil_f (fun e => hb e.1))) sub_nil)
  · replace h1 := of_decide_eq_false h1
    refine T_exit' ?_
    refine p_then_x ?_
    refine p_then_x ?_
    refine p_blk_x ?_
    refine p_seq ?_
    refine T_seq (T_region ?_)
    refine TL_q (.slice (some ⟨g3, 0, none⟩) l.length cap2) (fun _ _ hρ _ => r_move (hρ _ _ rfl)) rfl rfl rfl (w_n rfl) ?_
    refine TL_q (.bool (someN l n mask k)) (fun _ _ hρ _ => r_move (hρ _ _ rfl)) rfl rfl rfl (w_n rfl) ?_
    refine TL_q (.slice (some ⟨g3, 0, none⟩) l.length cap2) (fun _ _ hρ _ => r_assign (hρ _ _ rfl)) rfl rfl rfl (w_n rfl) ?_
    refine TL_q (.bool (someN l n mask k)) (fun _ _ hρ _ => r_assign (hρ _ _ rfl)) rfl rfl rfl (w_n rfl) ?_
    refine TL_seq ?_
    refine T_ret' ?_
    refine ret_of rfl (.tuple #[.slice (some ⟨g3, 0, none⟩) l.length cap2, .bool (someN l n mask k)]) (fun tmps w hk hm => res2 rfl (res_tmp (hk 6 _ rfl)) (res_tmp (hk 7 _ rfl))) (fun w hm => ?_)
    have hk32 : k = 32 := by omega
    subst hk32
    have hq := spoilN_len l n mask 32
    rw [hq]
    exact ⟨_, _, rfl, hm.ext, hm.row 1 rfl⟩
end Go.Proofs.Ytcidgbjgeegepaa
/- Rows of one's own, many of them at once: none in another's block. Over any program. -/
namespace Go.Proofs.Ytcidgbjgeegepaa
open Go Go.RowKit
/-- A row: where it lies, its room, its elements. -/
structure RowG (α : Type) where
  a : Option Addr
  cap : Nat
  l : List α
section
variable {α : Type} {e : TypeId} {s : Nat} {f : α → List Value}
abbrev RowG.v (r : RowG α) : Value := .slice r.a r.l.length r.cap
abbrev RowG.cells (r : RowG α) : List Value := [r.v]
theorem RowG.cells_len (r : RowG α) : r.cells.length = 1 := rfl
/-- In memory as it is told. -/
abbrev RowG.ok (s : Nat) (f : α → List Value) (w : World) (r : RowG α) : Prop := SliceAt w r.a r.cap s f r.l
def apart (r q : RowG α) : Prop := ∀ b, r.v.ownBlock = some b → q.v.ownBlock ≠ some b
/-- All of them are one's own. -/
def manyH (e : TypeId) (s : Nat) (f : α → List Value) (rs : List (RowG α)) (w : World) : Prop :=
  (∀ r ∈ rs, w.ownsRow 0 e s r.v r.l.length (r.l.flatMap f)) ∧ rs.Pairwise apart
def manyF (rs : List (RowG α)) (b : Nat) : Prop := ∃ r ∈ rs, r.v.ownBlock = some b
abbrev Res.many (e : TypeId) (s : Nat) (f : α → List Value) (rs : List (RowG α)) : Res := .abs (manyF rs) (manyH e s f rs)
theorem many_keep {rs : List (RowG α)} (w1 w2 : World) (h : manyH e s f rs w1) (hb : ∀ b, manyF rs b → hp w2 b = hp w1 b) : manyH e s f rs w2 :=
  ⟨fun r hr => Res.keep (r := .row r.v e s r.l.length (r.l.flatMap f)) (h.1 r hr) fun b hf => hb b ⟨r, hr, hf⟩, h.2⟩
/-- Nothing. -/
abbrev Res.no : Res := .abs (fun _ => False) (fun _ => True)
theorem MemOk.many {w₀ w : World} {L : Heap} (h : MemOk w₀ L w) (k : Nat) {rs : List (RowG α)} (hk : lk L k = some (.many e s f rs)) : manyH e s f rs w := (h.own k _ hk).1
/-- A row of one's own goes to the others. -/
theorem MemOk.push {w₀ w : World} {L : Heap} (h : MemOk w₀ L w) (k j : Nat) {rs : List (RowG α)} {a : Option Addr} {n cap : Nat} {l : List α} (hk : lk L k = some (.many e s f rs)) (hj : lk L j = some (.row (.slice a n cap) e s n (l.flatMap f))) (hn : n = l.length) (hne : Nat.beq k j = false) :
    MemOk w₀ ((k, .many e s f (rs ++ [⟨a, cap, l⟩])) :: (j, .no) :: L) w := by
  subst hn
  have hkj : k ≠ j := fun e => by subst e; rw [Nat.beq_refl] at hne; cases hne
  have ok1 := h.own k _ hk
  have ok2 := h.own j _ hj
  have h0 : MemOk w₀ ((j, .no) :: L) w := h.set j _ h.ext ⟨trivial, (fun _ hb => hb.elim), fun _ _ _ _ => trivial⟩ (fun _ _ _ _ b _ => ⟨rfl, id⟩)
  refine h0.set k _ h0.ext ⟨⟨fun r hr => ?_, ?_⟩, ?_, many_keep⟩ (fun i r hi hne' b hb => ⟨rfl, ?_⟩)
  · rcases List.mem_append.1 hr with h1 | h1
    · exact ok1.1.1 r h1
    · rw [List.mem_singleton.1 h1]; exact Res.lift (r := .row _ _ _ _ _) ok2 (Nat.zero_le _)
  · refine List.pairwise_append.2 ⟨ok1.1.2, List.pairwise_singleton _ _, fun r hr q hq => ?_⟩
    rw [List.mem_singleton.1 hq]
    exact fun b hb hc => h.sep k j _ _ hk hj hkj b ⟨r, hr, hb⟩ hc
  · rintro b ⟨r, hr, hb⟩
    rcases List.mem_append.1 hr with h1 | h1
    · exact ok1.2.1 b ⟨r, h1, hb⟩
    · rw [List.mem_singleton.1 h1] at hb; exact Res.low ok2 hb
  · rintro ⟨q, hq, hqb⟩
    by_cases e2 : j = i
    · subst e2; rw [lk_cons_same] at hi; cases hi; exact hb
    · rw [lk_cons_other _ _ e2] at hi
      rcases List.mem_append.1 hq with h1 | h1
      · exact h.sep k i _ _ hk hi (Ne.symm hne') b ⟨q, h1, hqb⟩ hb
      · rw [List.mem_singleton.1 h1] at hqb
        exact h.sep j i _ _ hj hi e2 b hqb hb
end
end Go.Proofs.Ytcidgbjgeegepaa
/- Operations told by what is known of memory before and behind. Over any program. -/
namespace Go.Proofs.Ytcidgbjgeegepaa
open Go Go.RowKit
section
variable {C : Cx} {ops : Array Oper} {os : List Oper} {Q : Post} {K : List (Nat × Value)} {L : Heap} {o : Oper}
theorem TL_op {ι : Type} {d : Nat} (v : ι → Value) (LN : ι → Heap) (hr : ∀ ρ w, Rd K ρ → MemOk C.w₀ L w → ∃ x w', (execOp ρ o).run C.P w = .ok (.value (v x)) w' ∧ MemOk C.w₀ (LN x) w') (hd : o.dst = some d) (hN : Nat.blt d C.N = true) (hn : isDefer o.op = false) (hw : Want ops K o true)
    (h : ∀ x, TL C ops os Q ((d, v x) :: K) (LN x)) : TL C ops (o :: os) Q K L := by
  intro a w hf hm
  unfold wpListIn
  rw [hw.is hf, if_pos rfl]
  obtain ⟨x, w', h1, h2⟩ := hr _ _ hf.rd hm
  refine step_val hn h1 ?_
  rw [hd]
  exact h x _ _ (hf.put _ hN) h2
theorem TL_op1 {d : Nat} (v : Value) (L' : Heap) (hr : ∀ ρ w, Rd K ρ → MemOk C.w₀ L w → ∃ w', (execOp ρ o).run C.P w = .ok (.value v) w' ∧ MemOk C.w₀ L' w') (hd : o.dst = some d) (hN : Nat.blt d C.N = true) (hn : isDefer o.op = false) (hw : Want ops K o true)
    (h : TL C ops os Q ((d, v) :: K) L') : TL C ops (o :: os) Q K L := TL_op (ι := Unit) (fun _ => v) (fun _ => L') (fun ρ w hρ hm => ⟨(), hr ρ w hρ hm⟩) hd hN hn hw (fun _ => h)
theorem TL_opS (L' : Heap) (hr : ∀ ρ w, Rd K ρ → MemOk C.w₀ L w → ∃ w', (execOp ρ o).run C.P w = .ok .skip w' ∧ MemOk C.w₀ L' w') (hd : o.dst = none) (hn : isDefer o.op = false) (hw : Want ops K o true)
    (h : TL C ops os Q K L') : TL C ops (o :: os) Q K L := by
  intro a w hf hm
  unfold wpListIn
  rw [hw.is hf, if_pos rfl]
  obtain ⟨w', h1, h2⟩ := hr _ _ hf.rd hm
  refine step_skip hn h1 ?_
  rw [hd]
  exact h _ _ hf h2
end
section
variable {C : Cx} {R : Rg} {Q : Post} {K0 V : List (Nat × Value)} {lo : Nat} {L : Heap}
theorem LOb_op {ι : Type} {c d : Nat} {o : Oper} (v : ι → Value) (LN : ι → Heap) (news : ι → List (Nat × Value)) (ho : R.ops[c]? = some o) (hw : WantV V o true) (hd : o.dst = some d) (hn : isDefer o.op = false)
    (hr : ∀ ρ w, Rd (kOf K0 V (R.S.getD c [])) ρ → MemOk C.w₀ L w → ∃ x w', (execOp ρ o).run C.P w = .ok (.value (v x)) w' ∧ MemOk C.w₀ (LN x) w') (hnew : ∀ x, newsOk R c (news x) = true)
    (h : ∀ x, G C R Q K0 (lo ||| 2 ^ c) (news x ++ (c, v x) :: V) (LN x)) : LOb C R Q K0 lo V L c := by
  refine ⟨o, ho, hw, fun a w next hrd hm _ hnext => ?_⟩
  obtain ⟨x, w', h1, h2⟩ := hr _ _ hrd hm
  refine step_val hn h1 ?_
  have hnw := hnew x
  simp only [newsOk, Bool.and_eq_true, Bool.not_eq_true'] at hnw
  exact hnext _ _ _ _ (.inl (lk_app _ _ _ hnw.2)) (extV _ _ _ hnw.1) h2 (h x)
theorem LOb_op1 {c d : Nat} {o : Oper} (v : Value) (L' : Heap) (news : List (Nat × Value)) (ho : R.ops[c]? = some o) (hw : WantV V o true) (hd : o.dst = some d) (hn : isDefer o.op = false)
    (hr : ∀ ρ w, Rd (kOf K0 V (R.S.getD c [])) ρ → MemOk C.w₀ L w → ∃ w', (execOp ρ o).run C.P w = .ok (.value v) w' ∧ MemOk C.w₀ L' w') (hnew : newsOk R c news = true)
    (h : G C R Q K0 (lo ||| 2 ^ c) (news ++ (c, v) :: V) L') : LOb C R Q K0 lo V L c :=
  LOb_op (ι := Unit) (fun _ => v) (fun _ => L') (fun _ => news) ho hw hd hn (fun ρ w hρ hm => ⟨(), hr ρ w hρ hm⟩) (fun _ => hnew) (fun _ => h)
end
section
variable {C : Cx} {Q : Post} {K : List (Nat × Value)} {L : Heap}
/-- Ways meet again at a code's end. -/
theorem T_joinE {ι : Type} (p : ι → Prop) (KJ : ι → List (Nat × Value)) (LJ : ι → Heap) {x : Code} (h : T C x (Exit.then (At C p KJ LJ) Q) K L) (hy : ∀ i, p i → POk C Q .normal (KJ i) (LJ i)) : T C x Q K L := by
  intro a w hf hm
  refine wpIn_mono (h a w hf hm) ?_
  intro e a' w' hq
  cases e with
  | normal => obtain ⟨i, hp, h1, h2⟩ := hq; exact hy i hp a' w' h1 h2
  | exit id => exact hq
  | goto l => exact hq
  | ret => exact hq
  | panic ch => exact hq
  | outgrown => exact hq
theorem p_mem {e : Exit} (L' : Heap) (hL : ∀ w, MemOk C.w₀ L w → MemOk C.w₀ L' w) (h : POk C Q e K L') : POk C Q e K L := fun a w hf hm => h a w hf (hL w hm)
end
/-! ### rows of elements of any size: made, copied into, stored into -/
section
variable {P : Program} {w₀ w : World} {L : Heap} {ρ : Operand → Value} {d : Option Tmp} {ty : TypeId} {ps : String} {af : Array Edge} {g : Option (Nat × Bool)}
theorem made_toList {z : Array Value} {s : Nat} (hz : z.size = s) (hs : 0 < s) : ∀ n, (madeCells z (n * s)).toList = (List.replicate n z.toList).flatten
  | 0 => by simp [madeCells]
  | n + 1 => by
    apply List.ext_getElem?
    intro i
    rw [List.replicate_succ, List.flatten_cons]
    by_cases h : i < s
    · rw [List.getElem?_append_left (by rw [Array.length_toList, hz]; exact h)]
      unfold madeCells
      have h2 : i < (n + 1) * s := by rw [Nat.add_mul, Nat.one_mul]; omega
      simp [h2, hz, Nat.mod_eq_of_lt h, h]
    · rw [List.getElem?_append_right (by rw [Array.length_toList, hz]; omega), Array.length_toList, hz, ← made_toList hz hs n]
      unfold madeCells
      by_cases h2 : i < (n + 1) * s
      · have h3 : i - s < n * s := by rw [Nat.add_mul, Nat.one_mul] at h2; omega
        have h4 : i % s = (i - s) % s := by rw [← Nat.mod_eq_sub_mod (by omega)]
        simp [h2, h3, hz, h4]
      · have h3 : ¬ i - s < n * s := by rw [Nat.add_mul, Nat.one_mul] at h2; omega
        simp [h2, h3]
theorem flat_repl {α : Type} {f : α → List Value} {u : α} {xs : List Value} (hf : f u = xs) (n : Nat) : (List.replicate n u).flatMap f = (List.replicate n xs).flatten := by
  rw [List.flatMap_def, List.map_replicate, hf]
theorem o_make {x y : Operand} {t e : TypeId} {n cap by' s : Nat} {z : Value} {α : Type} {f : α → List Value} {u : α} (i : Nat) (hfr : lk L i = none) (hx : ρ x = .int .i64 (n : Nat)) (hy : ρ y = .int .i64 (cap : Nat)) (ht : sliOf P t = some e) (hby : byOf P e = some by') (hs : szOf P e = some s) (hs0 : Nat.blt 0 s = true)
    (hz : zeroOf P e = some z) (hzc : z.cells.toList = f u) (hfl : ∀ x, (f x).length = s) (hnc : n ≤ cap) (h63 : cap ≤ 4611686018427387904) (hb : by' * cap ≤ 140737488355328) (hm : MemOk w₀ L w) :
    ∃ B w', (execOp ρ (mk d (.makeSlice t x y) ty ps af g)).run P w = .ok (.value (.slice (some ⟨B, 0, none⟩) n cap)) w' ∧ MemOk w₀ ((i, .row (.slice (some ⟨B, 0, none⟩) n cap) e s n ((List.replicate n u).flatMap f)) :: L) w' := by
  obtain ⟨ti, hi, hsz⟩ := Option.map_eq_some_iff.1 hs
  obtain ⟨ti', hi', hbz⟩ := Option.map_eq_some_iff.1 hby
  rw [hi] at hi'; cases hi'
  have hzz : ti.zero = some z := by simpa [zeroOf, hi] using hz
  have hs1 : 0 < s := by rw [Nat.blt_eq] at hs0; exact hs0
  have hb' : (ti.bytes : Int) * (cap : Int) ≤ 281474976710656 := by
    have h : ((ti.bytes * cap : Nat) : Int) ≤ 281474976710656 := by rw [hbz]; omega
    rwa [Int.natCast_mul] at h
  have hr := run_make (P := P) w t e ti z (und_sli ht) hi hzz .i64 .i64 n cap (by omega) (by omega) hb' (by omega)
  simp only [Int.toNat_natCast] at hr
  refine ⟨w.heap.size, _, run_v (by rw [hx, hy]; exact hr), ?_⟩
  have hzs : z.cells.size = s := by rw [← Array.length_toList, hzc, hfl]
  refine hm.grow (n := 0) (xs := []) (.inr ⟨hfr, (rfl : (Value.slice none 0 0).ownBlock = none)⟩) (World.grownBy_alloc w _ none) ⟨?_, .inr ⟨w.heap.size, cap, _, rfl, hm.ext.size, Go.heap_alloc_new w _, hnc, by unfold Go.maxLen; omega, ?_, ?_⟩⟩ (.inr rfl)
  · rw [flat_len hfl, List.length_replicate]
  · rw [hsz]; simp [madeCells]
  · rw [hsz, made_toList hzs hs1, hzc, ← flat_repl rfl]
    have : ((List.replicate cap u).flatMap f).take (n * s) = ((List.replicate cap u).take n).flatMap f := by
      have h1 : List.replicate cap u = List.replicate n u ++ List.replicate (cap - n) u := by rw [List.replicate_append_replicate]; congr 1; omega
      rw [h1, List.flatMap_append, List.take_left' (by rw [flat_len hfl, List.length_replicate]), List.take_left' (by rw [List.length_replicate])]
    rw [this, List.take_replicate, Nat.min_eq_left hnc]
theorem o_copy {x y : Operand} {t t2 e : TypeId} {ats : Array TypeId} {n cap B s : Nat} {v2 : Value} {xs news : List Value} (i : Nat) (hi : lk L i = some (.row (.slice (some ⟨B, 0, none⟩) n cap) e s n xs)) (hx : ρ x = .slice (some ⟨B, 0, none⟩) n cap) (hy : ρ y = v2) (hat : ats = #[t, t2])
    (ht : sliOf P t = some e) (hs : szOf P e = some s) (hsrc : Src w v2 s n news) (hone : ∀ u ∈ news, u.oneCell' = true) (hm : MemOk w₀ L w) :
    ∃ w', (execOp ρ (mk d (.call { callee := .builtin .copy, args := #[x, y], argTypes := ats }) ty ps af g)).run P w = .ok (.value (.int .i64 (n : Nat))) w' ∧ MemOk w₀ ((i, .row (.slice (some ⟨B, 0, none⟩) n cap) e s n news) :: L) w' := by
  subst hat
  have hrow := hm.row i hi
  obtain ⟨ti, hti, hsz⟩ := Option.map_eq_some_iff.1 hs
  suffices hg : ∃ w', (Builtin.copy_ #[t, t2] ty #[.slice (some ⟨B, 0, none⟩) n cap, v2]).run P w = .ok (.int .i64 (n : Nat)) w' ∧ MemOk w₀ ((i, .row (.slice (some ⟨B, 0, none⟩) n cap) e s n news) :: L) w' by
    obtain ⟨w', h1, h2⟩ := hg
    refine ⟨w', ?_, h2⟩
    rw [run_builtin]
    simp only [List.map_toArray, List.map_cons, List.map_nil, hx, hy]
    exact run_v h1
  have same : n = 0 → news = [] → MemOk w₀ ((i, .row (.slice (some ⟨B, 0, none⟩) n cap) e s n news) :: L) w := by
    intro h0 hn
    have hx : xs = [] := List.eq_nil_of_length_eq_zero (by rw [hrow.1, h0, Nat.zero_mul])
    subst hn hx
    exact hm.of (lk_dup hi)
  have hl0 : ∀ (x : Addr), (loadCells x 0).run P w = .ok #[] w := fun x => by simpa using run_loadCells_list (P := P) w x [] (by simp)
  rcases hsrc with ⟨rfl, h0, hn⟩ | ⟨x, c, rfl, h0, hn⟩ | ⟨b, off, c, rfl, hl, hcell⟩
  · refine ⟨w, ?_, same h0 hn⟩
    subst h0
    simp [Builtin.copy_, run_underlying (und_sli ht), Builtin.lenOf, Builtin.firstCells, sizeOf, typeInfo, hti, storeCells, goInt]
  · refine ⟨w, ?_, same h0 hn⟩
    subst h0
    simp [Builtin.copy_, run_underlying (und_sli ht), Builtin.lenOf, Builtin.firstCells, sizeOf, typeInfo, hti, storeCells, goInt, hl0]
  · rcases hrow.2 with ⟨h1, _⟩ | ⟨g, cap', cur, h1, hbg, hg, hnc, hcm, hcs, htk⟩
    · cases h1
    · cases h1
      have hle := Nat.mul_le_mul_right s hnc
      have hld := run_loadCells_list (P := P) w ⟨b, off, none⟩ news (fun j u hu => by rw [addr_add]; exact hcell j u hu)
      have hst := run_storeCells_at P B 0 e news 0 cur w hg (by omega) hone
      have hr : (Builtin.copy_ #[t, t2] ty #[.slice (some ⟨B, 0, none⟩) n cap, .slice (some ⟨b, off, none⟩) n c]).run P w = .ok (.int .i64 (n : Nat)) (w.setRow B (cur.toList.take 0 ++ news ++ cur.toList.drop (0 + news.length)).toArray) := by
        simp only [Nat.add_zero] at hst
        simp [Builtin.copy_, run_underlying (und_sli ht), Builtin.lenOf, Builtin.firstCells, sizeOf, typeInfo, hti, hsz, goInt, ← hl, hld]
        simp at hst
        rw [hst]
        rfl
      refine ⟨_, hr, ?_⟩
      refine hm.grow (.inl hi) ⟨rfl, rfl, rfl, by simp, fun k _ hk => setRow_other w B k _ (fun e => hk (by simp [Value.ownBlock, e]))⟩ ⟨hl, .inr ⟨B, cap, _, rfl, hbg, setRow_heap w B cur _ e _ hg, hnc, hcm, ?_, ?_⟩⟩ (.inl rfl)
      · simp only [List.size_toArray, List.length_append, List.length_take, List.length_drop, Array.length_toList]
        omega
      · rw [List.take_zero, List.nil_append, ← hl]
        exact List.take_left
end
/-! ### maps: an entry laid, an entry that has come -/
section
variable {κ μ : Type} {fk : κ → Value} {fv : μ → Value} [DecidableEq κ] {P : Program} {w : World} {kt : TypeId} {ρ : Operand → Value} {d : Option Tmp} {ty : TypeId} {ps : String} {af : Array Edge} {g : Option (Nat × Bool)} {x y v : Operand} {t e : TypeId}
omit [DecidableEq κ] in
omit [DecidableEq κ] in
end
end Go.Proofs.Ytcidgbjgeegepaa
/- Things that are only read: many of them, each in some blocks; new ones may share blocks with those that there are. Rows that may be written over. Over any program. -/
namespace Go.Proofs.Ytcidgbjgeegepaa
open Go Go.RowKit
/-- What a thing is, and in which blocks. -/
structure ShK (α : Type) where
  foot : α → Nat → Prop
  At : World → α → Prop
  keep : ∀ {w1 w2 : World} {x : α}, At w1 x → (∀ b, foot x b → hp w2 b = hp w1 b) → At w2 x
  low : ∀ {w : World} {x : α} {b : Nat}, At w x → foot x b → b < w.heap.size
section
variable {α : Type} (K : ShK α)
def ShK.F (l : List α) (b : Nat) : Prop := ∃ x ∈ l, K.foot x b
abbrev Res.shelf (l : List α) : Res := .abs (K.F l) (fun w => ∀ x ∈ l, K.At w x)
theorem ShK.keeps {l : List α} (w1 w2 : World) (h : ∀ x ∈ l, K.At w1 x) (hb : ∀ b, K.F l b → hp w2 b = hp w1 b) : ∀ x ∈ l, K.At w2 x := fun x hx => K.keep (h x hx) fun b hf => hb b ⟨x, hx, hf⟩
theorem ShK.below {w w' : World} {x : α} (h : K.At w x) (hb : Below w.heap.size w w') : K.At w' x := K.keep h fun b hf => hb.block b (K.low h hf)
/-- A new thing, but for what it shares with others. -/
structure ShNew (w w' : World) (l : List α) (d : α) : Prop where
  below : Below w.heap.size w w'
  at' : K.At w' d
  foot : ∀ b, K.foot d b → w.heap.size ≤ b ∨ K.F l b
variable {K}
theorem ShNew.before {w w1 w2 : World} {l : List α} {d : α} (h : ShNew K w1 w2 l d) (hb : Below w.heap.size w w1) : ShNew K w w2 l d :=
  ⟨below_call hb (Nat.le_refl _) h.below, h.at', fun b hf => (h.foot b hf).imp (fun h1 => Nat.le_trans hb.size h1) id⟩
theorem MemOk.shAt {w₀ w : World} {L : Heap} (h : MemOk w₀ L w) (k : Nat) {l : List α} (hk : lk L k = some (.shelf K l)) {x : α} (hx : x ∈ l) : K.At w x := (h.own k _ hk).1 x hx
/-- One more, in new memory but for blocks of those that there are. -/
theorem MemOk.shAdd {w₀ w w' : World} {L : Heap} (h : MemOk w₀ L w) (k : Nat) {l m : List α} (hk : lk L k = some (.shelf K l)) {d : α} (hd : ShNew K w w' m d) (hml : ∀ c ∈ m, c ∈ l) : MemOk w₀ ((k, .shelf K (d :: l)) :: L) w' := by
  have hm := h.below hd.below
  have ok := h.own k _ hk
  have ok' := hm.own k _ hk
  have hf : ∀ b, K.foot d b → w.heap.size ≤ b ∨ K.F l b := fun b hb => (hd.foot b hb).imp id fun ⟨c, hc, hcf⟩ => ⟨c, hml c hc, hcf⟩
  refine hm.set k _ hm.ext ⟨fun c hc => ?_, ?_, K.keeps⟩ (fun i r hi hne b hr => ⟨rfl, ?_⟩)
  · rcases List.mem_cons.1 hc with rfl | hc
    · exact hd.at'
    · exact ok'.1 c hc
  · rintro b ⟨c, hc, hcf⟩
    rcases List.mem_cons.1 hc with rfl | hc
    · refine ⟨?_, K.low hd.at' hcf⟩
      rcases hf b hcf with h1 | h1
      · exact Nat.le_trans h.ext.size h1
      · exact (ok.2.1 b h1).1
    · exact ok'.2.1 b ⟨c, hc, hcf⟩
  · rintro ⟨c, hc, hcf⟩
    have hlt := (Res.low (h.own i r hi) hr).2
    rcases List.mem_cons.1 hc with rfl | hc
    · rcases hf b hcf with h1 | h1
      · omega
      · exact h.sep k i _ _ hk hi (Ne.symm hne) b h1 hr
    · exact h.sep k i _ _ hk hi (Ne.symm hne) b ⟨c, hc, hcf⟩ hr
end
/-! ### slices as a thing to be read -/
section
variable {α : Type} {s : Nat} {f : α → List Value} {l : List α} {w : World} {a : Option Addr} {cap : Nat}
/-- The block in which a slice's elements lie. -/
def slF (a : Option Addr) (l : List α) (b : Nat) : Prop := l ≠ [] ∧ ∃ x, a = some x ∧ x.block = b
theorem SliceAt.keepF {w2 : World} (h : SliceAt w a cap s f l) (hb : ∀ b, slF a l b → hp w2 b = hp w b) : SliceAt w2 a cap s f l := by
  refine ⟨h.1, h.2.1, ?_⟩
  rcases h.2.2 with h1 | ⟨b, off, cs, T, fz, e1, e2, e3⟩
  · exact .inl h1
  · by_cases hl : l = []
    · exact .inl hl
    · exact .inr ⟨b, off, cs, T, fz, e1, (hb b ⟨hl, _, e1, rfl⟩).trans e2, e3⟩
theorem SliceAt.lowF {b : Nat} (h : SliceAt w a cap s f l) (hb : slF a l b) : b < w.heap.size := by
  obtain ⟨hl, x, hx, rfl⟩ := hb
  rcases h.2.2 with h1 | ⟨b, off, cs, T, fz, e1, e2, e3⟩
  · exact absurd h1 hl
  · rw [e1] at hx; cases hx; exact hp_lt e2
theorem own_slF {base n : Nat} {e : TypeId} {xs : List Value} (h : w.ownsRow base e s (.slice a n cap) n xs) {b : Nat} (hb : slF a l b) : (Res.row (.slice a n cap) e s n xs).foot b := by
  obtain ⟨_, x, hx, rfl⟩ := hb
  subst hx
  rcases h.2 with ⟨h1, _⟩ | ⟨g, cap', cur, h1, _⟩
  · cases h1
  · cases h1; rfl
end
/-! ### rows of one's own, many of them: to be read -/
section
variable {α : Type} {e : TypeId} {s : Nat} {f : α → List Value}
/-- All of them are one's own (none need be apart from another one). -/
def poolH (e : TypeId) (s : Nat) (f : α → List Value) (rs : List (RowG α)) (w : World) : Prop := ∀ r ∈ rs, w.ownsRow 0 e s r.v r.l.length (r.l.flatMap f)
abbrev Res.pool (e : TypeId) (s : Nat) (f : α → List Value) (rs : List (RowG α)) : Res := .abs (manyF rs) (poolH e s f rs)
theorem pool_keep {rs : List (RowG α)} (w1 w2 : World) (h : poolH e s f rs w1) (hb : ∀ b, manyF rs b → hp w2 b = hp w1 b) : poolH e s f rs w2 :=
  fun r hr => Res.keep (r := .row r.v e s r.l.length (r.l.flatMap f)) (h r hr) fun b hf => hb b ⟨r, hr, hf⟩
theorem MemOk.pool0 {w₀ w : World} {L : Heap} (h : MemOk w₀ L w) (k : Nat) (e : TypeId) (s : Nat) (f : α → List Value) : MemOk w₀ ((k, .pool e s f []) :: L) w :=
  h.set k _ h.ext ⟨(fun r hr => nomatch hr), (fun b hb => by obtain ⟨r, hr, _⟩ := hb; cases hr), pool_keep⟩ (fun _ _ _ _ b _ => ⟨rfl, fun hb => by obtain ⟨r, hr, _⟩ := hb; cases hr⟩)
theorem MemOk.pool {w₀ w : World} {L : Heap} (h : MemOk w₀ L w) (k : Nat) {rs : List (RowG α)} (hk : lk L k = some (.pool e s f rs)) : poolH e s f rs w := (h.own k _ hk).1
theorem poolAt (hf : ∀ x, (f x).length = s) {w : World} {rs : List (RowG α)} (h : poolH e s f rs w) {r : RowG α} (hr : r ∈ rs) : SliceAt w r.a r.cap s f r.l := SliceAt.own hf (h r hr) rfl rfl
theorem poolCap {w : World} {rs : List (RowG α)} (h : poolH e s f rs w) {r : RowG α} (hr : r ∈ rs) : r.cap ≤ Go.maxLen := row_cap (h r hr)
/-- One more. -/
theorem MemOk.poolPush {w₀ w : World} {L : Heap} (h : MemOk w₀ L w) (k j : Nat) {rs : List (RowG α)} {a : Option Addr} {n cap : Nat} {l : List α} (hk : lk L k = some (.pool e s f rs)) (hj : lk L j = some (.row (.slice a n cap) e s n (l.flatMap f))) (hn : n = l.length) (hne : Nat.beq k j = false) :
    MemOk w₀ ((k, .pool e s f (rs ++ [⟨a, cap, l⟩])) :: (j, .no) :: L) w := by
  subst hn
  have hkj : k ≠ j := fun e => by subst e; rw [Nat.beq_refl] at hne; cases hne
  have ok1 := h.own k _ hk
  have ok2 := h.own j _ hj
  have h0 : MemOk w₀ ((j, .no) :: L) w := h.set j _ h.ext ⟨trivial, (fun _ hb => hb.elim), fun _ _ _ _ => trivial⟩ (fun _ _ _ _ b _ => ⟨rfl, id⟩)
  refine h0.set k _ h0.ext ⟨fun r hr => ?_, ?_, pool_keep⟩ (fun i r hi hne' b hb => ⟨rfl, ?_⟩)
  · rcases List.mem_append.1 hr with h1 | h1
    · exact ok1.1 r h1
    · rw [List.mem_singleton.1 h1]; exact Res.lift (r := .row _ _ _ _ _) ok2 (Nat.zero_le _)
  · rintro b ⟨r, hr, hb⟩
    rcases List.mem_append.1 hr with h1 | h1
    · exact ok1.2.1 b ⟨r, h1, hb⟩
    · rw [List.mem_singleton.1 h1] at hb; exact Res.low ok2 hb
  · rintro ⟨q, hq, hqb⟩
    by_cases e2 : j = i
    · subst e2; rw [lk_cons_same] at hi; cases hi; exact hb
    · rw [lk_cons_other _ _ e2] at hi
      rcases List.mem_append.1 hq with h1 | h1
      · exact h.sep k i _ _ hk hi (Ne.symm hne') b ⟨q, h1, hqb⟩ hb
      · rw [List.mem_singleton.1 h1] at hqb
        exact h.sep j i _ _ hj hi e2 b hqb hb
/-- The first n cells of a block are of a kind. -/
def scrH (e : TypeId) (s : Nat) (ok : Value → Prop) (rs : List (RowG α)) (w : World) : Prop :=
  ∀ r ∈ rs, r.l = [] ∨ ∃ B cur, r.a = some ⟨B, 0, none⟩ ∧ hp w B = some (.cells cur e (0, 0)) ∧ ∀ i, i < r.l.length * s → ∃ v, cur[i]? = some v ∧ ok v
/-- Rows that may be written over: of them no more is known than what kind of cells they hold. -/
abbrev Res.scr (e : TypeId) (s : Nat) (ok : Value → Prop) (rs : List (RowG α)) : Res := .abs (manyF rs) (scrH e s ok rs)
theorem scr_keep {ok : Value → Prop} {rs : List (RowG α)} (w1 w2 : World) (h : scrH e s ok rs w1) (hb : ∀ b, manyF rs b → hp w2 b = hp w1 b) : scrH e s ok rs w2 := fun r hr => by
  rcases h r hr with h1 | ⟨B, cur, h1, h2, h3⟩
  · exact .inl h1
  · exact .inr ⟨B, cur, h1, (hb B ⟨r, hr, by show (Value.slice r.a _ _).ownBlock = some B; rw [h1]; rfl⟩).trans h2, h3⟩
theorem MemOk.poolScr {w₀ w : World} {L : Heap} (h : MemOk w₀ L w) (k : Nat) {rs : List (RowG α)} {ok : Value → Prop} (hf : ∀ x, (f x).length = s) (hk : lk L k = some (.pool e s f rs)) (hok : ∀ x, ∀ v ∈ f x, ok v) : MemOk w₀ ((k, .scr e s ok rs) :: L) w := by
  have ok1 := h.own k _ hk
  refine h.set k _ h.ext ⟨fun r hr => ?_, ok1.2.1, scr_keep⟩ (fun i r hi hne b hb => ⟨rfl, fun hq => h.sep k i _ _ hk hi (Ne.symm hne) b hq hb⟩)
  have hrow := ok1.1 r hr
  rcases hrow.2 with ⟨h1, h2⟩ | ⟨g, cap', cur, h1, hbg, hg, hnc, hcm, hcs, htk⟩
  · exact .inl (List.eq_nil_of_length_eq_zero h2)
  · injection h1 with h1 h2 h3
    refine .inr ⟨g, cur, h1, hg, fun i hi => ?_⟩
    have hl : (r.l.flatMap f).length = r.l.length * s := flat_length hf _
    obtain ⟨v, hv⟩ : ∃ v, (r.l.flatMap f)[i]? = some v := ⟨_, List.getElem?_eq_getElem (by omega)⟩
    refine ⟨v, ?_, ?_⟩
    · rw [← htk, List.getElem?_take, if_pos hi] at hv
      rw [← Array.getElem?_toList]; exact hv
    · obtain ⟨x, _, hx⟩ := List.mem_flatMap.1 (List.mem_of_getElem? hv)
      exact hok x v hx
/-- Is there a row's element, it lies at the block's beginning. -/
theorem scr_open {ok : Value → Prop} {rs : List (RowG α)} {w : World} (h : scrH e s ok rs w) {r : RowG α} (hr : r ∈ rs) (hn : r.l ≠ []) : ∃ B cur, r.a = some ⟨B, 0, none⟩ ∧ hp w B = some (.cells cur e (0, 0)) ∧ ∀ i, i < r.l.length * s → ∃ v, cur[i]? = some v ∧ ok v :=
  (h r hr).elim (fun e => absurd e hn) id
section
variable {P : Program} {w₀ w : World} {L : Heap} {ρ : Operand → Value} {ty : TypeId} {ps : String} {af : Array Edge} {g : Option (Nat × Bool)}
theorem T_scr {C : Cx} {c : Code} {Q : Post} {K : List (Nat × Value)} {L : Heap} {ok : Value → Prop} {rs : List (RowG α)} (k : Nat) (hk : lk L k = some (.scr e s ok rs)) {r : RowG α} (hr : r ∈ rs) (hn : r.l ≠ []) (h : ∀ B, r.a = some ⟨B, 0, none⟩ → T C c Q K L) : T C c Q K L := fun a w hf hm => by
  obtain ⟨B, cur, h1, _⟩ := scr_open (hm.own k _ hk).1 hr hn
  exact h B h1 a w hf hm
/-- A cell of it, read. -/
theorem o_loadScr {d : Option Tmp} {x : Operand} {t : TypeId} {B i : Nat} {ok : Value → Prop} {rs : List (RowG α)} (k : Nat) (hk : lk L k = some (.scr e s ok rs)) {r : RowG α} (hr : r ∈ rs) (ha : aggOf P t = some false) (hB : r.a = some ⟨B, 0, none⟩) (hi : i < r.l.length * s) (hx : ρ x = .pointer (some ⟨B, i, none⟩)) (hm : MemOk w₀ L w) :
    ∃ v, ok v ∧ (execOp ρ (mk d (.load t x) ty ps af g)).run P w = .ok (.value v) w := by
  have hn : r.l ≠ [] := fun e => by rw [e] at hi; simp at hi
  obtain ⟨B', cur, h1, h2, h3⟩ := scr_open (hm.own k _ hk).1 hr hn
  rw [hB] at h1; cases h1
  obtain ⟨v, hv, hok⟩ := h3 i hi
  exact ⟨v, hok, r_load ha hx h2 hv⟩
/-- A cell of it, written. -/
theorem o_storeScr {x y : Operand} {t : TypeId} {B i : Nat} {v : Value} {ok : Value → Prop} {rs : List (RowG α)} (k : Nat) (hk : lk L k = some (.scr e s ok rs)) {r : RowG α} (hr : r ∈ rs) (hB : r.a = some ⟨B, 0, none⟩) (hi : i < r.l.length * s) (hx : ρ x = .pointer (some ⟨B, i, none⟩)) (hy : ρ y = v) (hs : szOf P t = some 1) (hv : v.cells = #[v]) (ho : isOne v = true) (hok : ok v) (hm : MemOk w₀ L w) :
    ∃ w', (execOp ρ (mk none (.store t x y) ty ps af g)).run P w = .ok .skip w' ∧ MemOk w₀ ((k, .scr e s ok rs) :: L) w' := by
  have hn : r.l ≠ [] := fun e => by rw [e] at hi; simp at hi
  have okk := hm.own k _ hk
  obtain ⟨B', cur, h1, h2, h3⟩ := scr_open okk.1 hr hn
  rw [hB] at h1; cases h1
  obtain ⟨v0, hv0, _⟩ := h3 i hi
  have hlt : i < cur.size := (Array.getElem?_eq_some_iff.1 hv0).1
  obtain ⟨w', hr', hu⟩ := run_storeVar (P := P) (t := t) (off := i) (v := v) hs h2 (by rw [hv]; rfl) (by omega) (by rw [hv]; simp [ho])
  have hcur : ∀ j, (wrC cur i v.cells.toList)[j]? = if j = i then some v else cur[j]? := fun j => by
    obtain ⟨pre, post, hc, hpl⟩ : ∃ pre post, cur.toList = pre ++ v0 :: post ∧ pre.length = i := by
      rw [← Array.getElem?_toList] at hv0
      have hl := (List.getElem?_eq_some_iff.1 hv0).1
      refine ⟨cur.toList.take i, cur.toList.drop (i + 1), ?_, by rw [List.length_take]; omega⟩
      have e := List.take_append_drop i cur.toList
      rw [List.drop_eq_getElem_cons hl] at e
      rw [List.getElem?_eq_getElem hl] at hv0
      rw [← Option.some.inj hv0]; exact e.symm
    have h5 := wrC_list [v] [v0] pre post rfl
    have e6 : cur = (pre ++ [v0] ++ post).toArray := by apply Array.ext'; rw [hc]; simp
    rw [hv]
    show (wrC cur i [v])[j]? = _
    rw [e6, ← hpl, h5]
    simp only [List.getElem?_toArray, List.append_assoc, List.singleton_append]
    by_cases e : j = pre.length
    · subst e; rw [if_pos rfl, List.getElem?_append_right (Nat.le_refl _), Nat.sub_self]; rfl
    · rw [if_neg e]
      rcases Nat.lt_or_ge j pre.length with h7 | h7
      · rw [List.getElem?_append_left h7, List.getElem?_append_left h7]
      · rw [List.getElem?_append_right h7, List.getElem?_append_right h7]
        obtain ⟨m, hm'⟩ : ∃ m, j - pre.length = m + 1 := ⟨j - pre.length - 1, by omega⟩
        rw [hm']; rfl
  refine ⟨w', ?_, ?_⟩
  · show (do Instr.storeAt t (ρ x) (ρ y); pure Next.skip : Sem Next).run P w = _
    rw [hx, hy, run_bind_ok (a := ()) (w' := w')]
    · rfl
    · unfold Instr.storeAt
      rw [run_bind_ok (a := ⟨B, i, none⟩) (w' := w) rfl]
      exact hr'
  · have hF : manyF rs B := ⟨r, hr, by show (Value.slice r.a _ _).ownBlock = some B; rw [hB]; rfl⟩
    have hlo := okk.2.1 B hF
    refine hm.set k _ ⟨hu.os.trans hm.ext.os, hu.tape.trans hm.ext.tape, hu.output.trans hm.ext.output, by rw [hu.size]; exact hm.ext.size, fun j hj => (hu.other j (by omega)).trans (hm.ext.block j hj)⟩ ⟨fun q hq => ?_, fun b hb => ⟨(okk.2.1 b hb).1, by rw [hu.size]; exact (okk.2.1 b hb).2⟩, scr_keep⟩ (fun j q hj hne b hb => ⟨hu.other b (fun e => hm.sep k j _ _ hk hj (Ne.symm hne) B hF (e ▸ hb)), fun hF' => hm.sep k j _ _ hk hj (Ne.symm hne) b hF' hb⟩)
    rcases okk.1 q hq with h1 | ⟨B2, cur2, g1, g2, g3⟩
    · exact .inl h1
    · by_cases eB : B2 = B
      · subst eB
        rw [h2] at g2; cases g2
        refine .inr ⟨_, _, g1, hu.this, fun j hj => ?_⟩
        rw [hcur]
        by_cases e : j = i
        · exact ⟨v, by rw [if_pos e], hok⟩
        · rw [if_neg e]; exact g3 j hj
      · exact .inr ⟨B2, cur2, g1, (hu.other B2 eB).trans g2, g3⟩
end
end
end Go.Proofs.Ytcidgbjgeegepaa
/- net: parcels, plainly and in memory. -/
namespace Go.Proofs.Ytcidgbjgeegepaa
open Go Go.RowKit
/-- A parcel, plainly. -/
structure PV where
  to : Int
  l : List By
  sp : Bool
  deriving DecidableEq
/-- A parcel: its bytes lie somewhere. -/
structure Pcl where
  to : Int
  r : RowG By
  sp : Bool
abbrev Pcl.cells (p : Pcl) : List Value := [.int .i64 p.to, .slice p.r.a p.r.l.length p.r.cap, .bool p.sp]
theorem Pcl.cells_len (p : Pcl) : p.cells.length = 3 := rfl
theorem Pcl.cells_one (p : Pcl) : ∀ u ∈ p.cells, u.oneCell' = true := by simp [Pcl.cells, Value.oneCell']
abbrev Pcl.pv (p : Pcl) : PV := ⟨p.to, p.r.l, p.sp⟩
abbrev Pcl.v (p : Pcl) : Value := .agg p.cells.toArray
/-- Its bytes lie in memory, and are not too many. -/
abbrev Pcl.ok (w : World) (p : Pcl) : Prop := SliceAt w p.r.a p.r.cap 1 byc p.r.l ∧ p.r.cap ≤ Go.maxLen ∧ p.r.l.length ≤ 10000
abbrev pvs (l : List Pcl) : List PV := l.map Pcl.pv
def PcsAt (w : World) (l : List Pcl) : Prop := ∀ p ∈ l, p.ok w
theorem PcsAt.keep {w w' : World} {l : List Pcl} (h : PcsAt w l) (hb : Below w.heap.size w w') : PcsAt w' l := fun p hp => ⟨(h p hp).1.keep hb, (h p hp).2⟩
theorem PcsAt.sub {w : World} {l m : List Pcl} (h : PcsAt w l) (hs : ∀ p ∈ m, p ∈ l) : PcsAt w m := fun p hp => h p (hs p hp)
theorem pcsNil (w : World) : PcsAt w [] := fun _ h => nomatch h
theorem pcs_pool {w : World} {bs : List (RowG By)} {l : List Pcl} (h : poolH 5 1 byc bs w) (hl : ∀ p ∈ l, p.r ∈ bs ∧ p.r.l.length ≤ 10000) : PcsAt w l := fun p hp => ⟨poolAt byc_len h (hl p hp).1, poolCap h (hl p hp).1, (hl p hp).2⟩
theorem len62 {w : World} {p : Pcl} (h : p.ok w) : p.r.l.length ≤ 4611686018427387904 := Nat.le_trans h.2.2 (Nat.le_of_ble_eq_true rfl)
/-- A row of parcels, to be read. -/
abbrev NetR := RowG Pcl
def NAt (w : World) (n : NetR) : Prop := SliceAt w n.a n.cap 3 Pcl.cells n.l ∧ n.cap ≤ Go.maxLen ∧ PcsAt w n.l
def netF (n : NetR) (b : Nat) : Prop := slF n.a n.l b ∨ ∃ p ∈ n.l, slF p.r.a p.r.l b
def netK : ShK NetR where
  foot := netF
  At := NAt
  keep := fun h hb => ⟨h.1.keepF fun b hf => hb b (.inl hf), h.2.1, fun p hp => ⟨(h.2.2 p hp).1.keepF fun b hf => hb b (.inr ⟨p, hp, hf⟩), (h.2.2 p hp).2⟩⟩
  low := fun h hf => hf.elim (fun h1 => h.1.lowF h1) fun ⟨p, hp, h1⟩ => (h.2.2 p hp).1.lowF h1
abbrev NNew := ShNew netK
abbrev Res.nets (l : List NetR) : Res := .shelf netK l
/-! ### plainly -/
/-- The zero parcel. -/
abbrev zeroP : PV := ⟨0, [], false⟩
def mayV (p : PV) : Bool := decide (0 ≤ p.to ∧ p.to ≤ 8 ∧ p.l.length ≤ 8192)
abbrev MT : Int := 4611686018427387904
def checkV (l : List PV) (lost : Int) : Bool := decide (l.length ≤ 64 ∧ lost ≤ MT) && l.all mayV
/-- A net: its parcels, and how many were lost. -/
abbrev NV := List PV × Int
def putV (n : NV) (p : PV) : NV := if n.1.length < 64 then (n.1 ++ [p], n.2) else if n.2 < MT then (n.1, n.2 + 1) else n
def putsV (n : NV) (l : List PV) : NV := l.foldl putV n
theorem putsV_step {n : NV} {l : List PV} {k : Nat} {p : PV} (h : l[k]? = some p) : putsV n (l.take (k + 1)) = putV (putsV n (l.take k)) p := by
  unfold putsV
  rw [List.take_add_one, h, List.foldl_append]; rfl
/-- A trick. -/
structure Trk where
  kind : Int
  at' : Int
  bit : Int
  mask : Wd
abbrev Trk.cells (t : Trk) : List Value := [.int .i64 t.kind, .int .i64 t.at', .int .i64 t.bit, .int .u32 (t.mask.toNat : Int)]
theorem Trk.cells_len (t : Trk) : t.cells.length = 4 := rfl
theorem Trk.cells_one (t : Trk) : ∀ u ∈ t.cells, u.oneCell' = true := by simp [Trk.cells, Value.oneCell']
abbrev Trk.v (t : Trk) : Value := .agg t.cells.toArray
/-- What comes of bytes whose bits are turned. -/
def spoilI (l : List By) (bit : Int) (mask : Wd) : Option (List By) := if 0 ≤ bit then spoilP l bit.toNat mask else none
/-- What a trick does: the error, the net, what is told. -/
def doV (n : NV) (t : Trk) : Int × NV × List PV :=
  if ¬ (1 ≤ t.kind ∧ t.kind ≤ 4) then (2, n, [])
  else if 0 ≤ t.at' then match n.1[t.at'.toNat]? with
    | none => (4, n, [])
    | some p =>
      if t.kind = 1 then (0, (n.1.eraseIdx t.at'.toNat, n.2), [p])
      else if t.kind = 2 then (0, (n.1.eraseIdx t.at'.toNat, n.2), [])
      else if t.kind = 3 then (0, putV n p, [])
      else if p.sp = true then (5, n, [])
      else match spoilI p.l t.bit t.mask with
        | none => (2, n, [])
        | some b => (0, (n.1.set t.at'.toNat ⟨p.to, b, true⟩, n.2), [])
  else (4, n, [])
theorem checkV_len {l : List PV} {lost : Int} (h : checkV l lost = true) : l.length ≤ 64 ∧ lost ≤ MT ∧ ∀ p ∈ l, mayV p = true := by
  unfold checkV at h
  rw [Bool.and_eq_true] at h
  exact ⟨(of_decide_eq_true h.1).1, (of_decide_eq_true h.1).2, List.all_eq_true.1 h.2⟩
end Go.Proofs.Ytcidgbjgeegepaa
/- net and journal: may, all, Check, same. Printed by a program of this seat's prover. -/
namespace Go.Proofs.Ytcidgbjgeegepaa
open Go Go.RowKit
set_option maxRecDepth 10000
theorem may_c (p : Pcl) (w : World) : Calls Try.prog 65 #[p.v] w fun e w' => e = .returned (.bool (mayV p.pv)) ∧ Below w.heap.size w w' := by
  refine calls_of_T (l := [.agg #[.int .i64 p.to, .slice p.r.a p.r.l.length p.r.cap, .bool p.sp]]) 17 Try.func65 rfl rfl rfl ?_
  show T _ _ _ [(0, .agg #[.int .i64 p.to, .slice p.r.a p.r.l.length p.r.cap, .bool p.sp])] []
  refine T_seq (T_region ?_)
  refine TL_new 1 (.cells #[.int .i64 p.to, .slice p.r.a p.r.l.length p.r.cap, .bool p.sp] 36) (fun B => .pointer (some ⟨B, 0, none⟩)) (fun _ _ hρ _ => r_box (hρ _ _ rfl) rfl) rfl rfl rfl (w_n rfl) ?_
  intro B1
  refine TL_q (.bool false) (fun _ _ hρ _ => r_assign (hρ _ _ rfl)) rfl rfl rfl (w_n rfl) ?_
  refine TL_seq ?_
  by_cases c1 : (0 : Int) ≤ p.to
  · skip
    by_cases c2 : p.to ≤ 8
    · skip
      by_cases c3 : ((p.r.l.length : Nat) : Int) ≤ 8192
      · skip
        refine T_seq (T_region ?_)
        refine TL_q (.pointer (some ⟨B1, 0, none⟩)) (fun _ _ hρ _ => r_fieldAddr fl36_0 sz3 (hρ _ _ rfl)) rfl rfl rfl (w_n rfl) ?_
        refine TL_q (.int .i64 p.to) (fun _ _ hρ hm => r_load ag3 (hρ _ _ rfl) (hm.at 1 rfl) rfl) rfl rfl rfl (w_n rfl) ?_
        refine TL_q (.bool true) (fun _ _ hρ _ => r_as (r_geq (hρ _ _ rfl) (hρ _ _ rfl)) (bool_as (decide_eq_true c1))) rfl rfl rfl (w_n rfl) ?_
        refine TL_q (.bool true) (fun _ _ hρ _ => r_move (hρ _ _ rfl)) rfl rfl rfl (w_n rfl) ?_
        refine TL_q (.pointer (some ⟨B1, 0, none⟩)) (fun _ _ hρ _ => r_fieldAddr fl36_0 sz3 (hρ _ _ rfl)) rfl rfl rfl (want_y 6 rfl rfl rfl) ?_
        refine TL_q (.int .i64 p.to) (fun _ _ hρ hm => r_load ag3 (hρ _ _ rfl) (hm.at 1 rfl) rfl) rfl rfl rfl (want_y 6 rfl rfl rfl) ?_
        refine TL_q (.bool true) (fun _ _ hρ _ => r_as (r_leq (hρ _ _ rfl) (hρ _ _ rfl)) (bool_as (decide_eq_true c2))) rfl rfl rfl (want_y 6 rfl rfl rfl) ?_
        refine TL_q (.bool true) (fun _ _ hρ _ => r_pick_t (hρ _ _ rfl) (hρ _ _ rfl)) rfl rfl rfl (w_n rfl) ?_
        refine TL_q (.bool true) (fun _ _ hρ _ => r_move (hρ _ _ rfl)) rfl rfl rfl (w_n rfl) ?_
        refine TL_q (.pointer (some ⟨B1, 1, none⟩)) (fun _ _ hρ _ => r_fieldAddr fl36_1 sz34 (hρ _ _ rfl)) rfl rfl rfl (want_y 11 rfl rfl rfl) ?_
        refine TL_q (.slice p.r.a p.r.l.length p.r.cap) (fun _ _ hρ hm => r_load ag34 (hρ _ _ rfl) (hm.at 1 rfl) rfl) rfl rfl rfl (want_y 11 rfl rfl rfl) ?_
        refine TL_q (.int .i64 ((p.r.l.length : Nat) : Int)) (fun _ _ hρ _ => r_len sl34 (hρ _ _ rfl)) rfl rfl rfl (want_y 11 rfl rfl rfl) ?_
        refine TL_q (.bool true) (fun _ _ hρ _ => r_as (r_leq (hρ _ _ rfl) (hρ _ _ rfl)) (bool_as (decide_eq_true c3))) rfl rfl rfl (want_y 11 rfl rfl rfl) ?_
        refine TL_q (.bool true) (fun _ _ hρ _ => r_pick_t (hρ _ _ rfl) (hρ _ _ rfl)) rfl rfl rfl (w_n rfl) ?_
        refine TL_q (.bool true) (fun _ _ hρ _ => r_assign (hρ _ _ rfl)) rfl rfl rfl (w_n rfl) ?_
        refine TL_seq ?_
        refine T_ret' ?_
        refine ret_of rfl (.bool true) (fun tmps w hk hm => res1 rfl (res_tmp (hk 2 _ rfl))) (fun w hm => ?_)
        exact ⟨congrArg Ending.returned (bool_as (decide_eq_true (by dsimp only; omega)).symm), hm.ext⟩
      · skip
        refine T_seq (T_region ?_)
        refine TL_q (.pointer (some ⟨B1, 0, none⟩)) (fun _ _ hρ _ => r_fieldAddr fl36_0 sz3 (hρ _ _ rfl)) rfl rfl rfl (w_n rfl) ?_
        refine TL_q (.int .i64 p.to) (fun _ _ hρ hm => r_load ag3 (hρ _ _ rfl) (hm.at 1 rfl) rfl) rfl rfl rfl (w_n rfl) ?_
        refine TL_q (.bool true) (fun _ _ hρ _ => r_as (r_geq (hρ _ _ rfl) (hρ _ _ rfl)) (bool_as (decide_eq_true c1))) rfl rfl rfl (w_n rfl) ?_
        refine TL_q (.bool true) (fun _ _ hρ _ => r_move (hρ _ _ rfl)) rfl rfl rfl (w_n rfl) ?_
        refine TL_q (.pointer (some ⟨B1, 0, none⟩)) (fun _ _ hρ _ => r_fieldAddr fl36_0 sz3 (hρ _ _ rfl)) rfl rfl rfl (want_y 6 rfl rfl rfl) ?_
        refine TL_q (.int .i64 p.to) (fun _ _ hρ hm => r_load ag3 (hρ _ _ rfl) (hm.at 1 rfl) rfl) rfl rfl rfl (want_y 6 rfl rfl rfl) ?_
        refine TL_q (.bool true) (fun _ _ hρ _ => r_as (r_leq (hρ _ _ rfl) (hρ _ _ rfl)) (bool_as (decide_eq_true c2))) rfl rfl rfl (want_y 6 rfl rfl rfl) ?_
        refine TL_q (.bool true) (fun _ _ hρ _ => r_pick_t (hρ _ _ rfl) (hρ _ _ rfl)) rfl rfl rfl (w_n rfl) ?_
        refine TL_q (.bool true) (fun _ _ hρ _ => r_move (hρ _ _ rfl)) rfl rfl rfl (w_n rfl) ?_
        refine TL_q (.pointer (some ⟨B1, 1, none⟩)) (fun _ _ hρ _ => r_fieldAddr fl36_1 sz34 (hρ _ _ rfl)) rfl rfl rfl (want_y 11 rfl rfl rfl) ?_
        refine TL_q (.slice p.r.a p.r.l.length p.r.cap) (fun _ _ hρ hm => r_load ag34 (hρ _ _ rfl) (hm.at 1 rfl) rfl) rfl rfl rfl (want_y 11 rfl rfl rfl) ?_
        refine TL_q (.int .i64 ((p.r.l.length : Nat) : Int)) (fun _ _ hρ _ => r_len sl34 (hρ _ _ rfl)) rfl rfl rfl (want_y 11 rfl rfl rfl) ?_
        refine TL_q (.bool false) (fun _ _ hρ _ => r_as (r_leq (hρ _ _ rfl) (hρ _ _ rfl)) (bool_as (decide_eq_false c3))) rfl rfl rfl (want_y 11 rfl rfl rfl) ?_
        refine TL_q (.bool false) (fun _ _ hρ _ => r_pick_t (hρ _ _ rfl) (hρ _ _ rfl)) rfl rfl rfl (w_n rfl) ?_
        refine TL_q (.bool false) (fun _ _ hρ _ => r_assign (hρ _ _ rfl)) rfl rfl rfl (w_n rfl) ?_
        refine TL_seq ?_
        refine T_ret' ?_
        refine ret_of rfl (.bool false) (fun tmps w hk hm => res1 rfl (res_tmp (hk 2 _ rfl))) (fun w hm => ?_)
        exact ⟨congrArg Ending.returned (bool_as (decide_eq_false (by dsimp only; omega)).symm), hm.ext⟩
    · skip
      refine T_seq (T_region ?_)
      refine TL_q (.pointer (some ⟨B1, 0, none⟩)) (fun _ _ hρ _ => r_fieldAddr fl36_0 sz3 (hρ _ _ rfl)) rfl rfl rfl (w_n rfl) ?_
      refine TL_q (.int .i64 p.to) (fun _ _ hρ hm => r_load ag3 (hρ _ _ rfl) (hm.at 1 rfl) rfl) rfl rfl rfl (w_n rfl) ?_
      refine TL_q (.bool true) (fun _ _ hρ _ => r_as (r_geq (hρ _ _ rfl) (hρ _ _ rfl)) (bool_as (decide_eq_true c1))) rfl rfl rfl (w_n rfl) ?_
      refine TL_q (.bool true) (fun _ _ hρ _ => r_move (hρ _ _ rfl)) rfl rfl rfl (w_n rfl) ?_
      refine TL_q (.pointer (some ⟨B1, 0, none⟩)) (fun _ _ hρ _ => r_fieldAddr fl36_0 sz3 (hρ _ _ rfl)) rfl rfl rfl (want_y 6 rfl rfl rfl) ?_
      refine TL_q (.int .i64 p.to) (fun _ _ hρ hm => r_load ag3 (hρ _ _ rfl) (hm.at 1 rfl) rfl) rfl rfl rfl (want_y 6 rfl rfl rfl) ?_
      refine TL_q (.bool false) (fun _ _ hρ _ => r_as (r_leq (hρ _ _ rfl) (hρ _ _ rfl)) (bool_as (decide_eq_false c2))) rfl rfl rfl (want_y 6 rfl rfl rfl) ?_
      refine TL_q (.bool false) (fun _ _ hρ _ => r_pick_t (hρ _ _ rfl) (hρ _ _ rfl)) rfl rfl rfl (w_n rfl) ?_
      refine TL_q (.bool false) (fun _ _ hρ _ => r_move (hρ _ _ rfl)) rfl rfl rfl (w_n rfl) ?_
      refine TL_no rfl rfl (want_n 11 rfl rfl rfl) ?_
      refine TL_no rfl rfl (want_n 11 rfl rfl rfl) ?_
      refine TL_no rfl rfl (want_n 11 rfl rfl rfl) ?_
      refine TL_no rfl rfl (want_n 11 rfl rfl rfl) ?_
      refine TL_q (.bool false) (fun _ _ hρ _ => r_pick_f (hρ _ _ rfl) (hρ _ _ rfl)) rfl rfl rfl (w_n rfl) ?_
      refine TL_q (.bool false) (fun _ _ hρ _ => r_assign (hρ _ _ rfl)) rfl rfl rfl (w_n rfl) ?_
      refine TL_seq ?_
      refine T_ret' ?_
      refine ret_of rfl (.bool false) (fun tmps w hk hm => res1 rfl (res_tmp (hk 2 _ rfl))) (fun w hm => ?_)
      exact ⟨congrArg Ending.returned (bool_as (decide_eq_false (by dsimp only; omega)).symm), hm.ext⟩
  · skip
    refine T_seq (T_region ?_)
    refine TL_q (.pointer (some ⟨B1, 0, none⟩)) (fun _ _ hρ _ => r_fieldAddr fl36_0 sz3 (hρ _ _ rfl)) rfl rfl rfl (w_n rfl) ?_
    refine TL_q (.int .i64 p.to) (fun _ _ hρ hm => r_load ag3 (hρ _ _ rfl) (hm.at 1 rfl) rfl) rfl rfl rfl (w_n rfl) ?_
    refine TL_q (.bool false) (fun _ _ hρ _ => r_as (r_geq (hρ _ _ rfl) (hρ _ _ rfl)) (bool_as (decide_eq_false c1))) rfl rfl rfl (w_n rfl) ?_
    refine TL_q (.bool false) (fun _ _ hρ _ => r_move (hρ _ _ rfl)) rfl rfl rfl (w_n rfl) ?_
    refine TL_no rfl rfl (want_n 6 rfl rfl rfl) ?_
    refine TL_no rfl rfl (want_n 6 rfl rfl rfl) ?_
    refine TL_no rfl rfl (want_n 6 rfl rfl rfl) ?_
    refine TL_q (.bool false) (fun _ _ hρ _ => r_pick_f (hρ _ _ rfl) (hρ _ _ rfl)) rfl rfl rfl (w_n rfl) ?_
    refine TL_q (.bool false) (fun _ _ hρ _ => r_move (hρ _ _ rfl)) rfl rfl rfl (w_n rfl) ?_
    refine TL_no rfl rfl (want_n 11 rfl rfl rfl) ?_
    refine TL_no rfl rfl (want_n 11 rfl rfl rfl) ?_
    refine TL_no rfl rfl (want_n 11 rfl rfl rfl) ?_
    refine TL_no rfl rfl (want_n 11 rfl rfl rfl) ?_
    refine TL_q (.bool false) (fun _ _ hρ _ => r_pick_f (hρ _ _ rfl) (hρ _ _ rfl)) rfl rfl rfl (w_n rfl) ?_
    refine TL_q (.bool false) (fun _ _ hρ _ => r_assign (hρ _ _ rfl)) rfl rfl rfl (w_n rfl) ?_
    refine TL_seq ?_
    refine T_ret' ?_
    refine ret_of rfl (.bool false) (fun tmps w hk hm => res1 rfl (res_tmp (hk 2 _ rfl))) (fun w hm => ?_)
    exact ⟨congrArg Ending.returned (bool_as (decide_eq_false (by dsimp only; omega)).symm), hm.ext⟩

theorem rmay_c (p : Pcl) (w : World) : Calls Try.prog 34 #[p.v] w fun e w' => e = .returned (.bool (mayV p.pv)) ∧ Below w.heap.size w w' := by
  refine calls_of_T (l := [.agg #[.int .i64 p.to, .slice p.r.a p.r.l.length p.r.cap, .bool p.sp]]) 17 Try.func34 rfl rfl rfl ?_
  show T _ _ _ [(0, .agg #[.int .i64 p.to, .slice p.r.a p.r.l.length p.r.cap, .bool p.sp])] []
  refine T_seq (T_region ?_)
  refine TL_new 1 (.cells #[.int .i64 p.to, .slice p.r.a p.r.l.length p.r.cap, .bool p.sp] 36) (fun B => .pointer (some ⟨B, 0, none⟩)) (fun _ _ hρ _ => r_box (hρ _ _ rfl) rfl) rfl rfl rfl (w_n rfl) ?_
  intro B1
  refine TL_q (.bool false) (fun _ _ hρ _ => r_assign (hρ _ _ rfl)) rfl rfl rfl (w_n rfl) ?_
  refine TL_seq ?_
  by_cases c1 : (0 : Int) ≤ p.to
  · skip
    by_cases c2 : p.to ≤ 8
    · skip
      by_cases c3 : ((p.r.l.length : Nat) : Int) ≤ 8192
      · skip
        refine T_seq (T_region ?_)
        refine TL_q (.pointer (some ⟨B1, 0, none⟩)) (fun _ _ hρ _ => r_fieldAddr fl36_0 sz3 (hρ _ _ rfl)) rfl rfl rfl (w_n rfl) ?_
        refine TL_q (.int .i64 p.to) (fun _ _ hρ hm => r_load ag3 (hρ _ _ rfl) (hm.at 1 rfl) rfl) rfl rfl rfl (w_n rfl) ?_
        refine TL_q (.bool true) (fun _ _ hρ _ => r_as (r_geq (hρ _ _ rfl) (hρ _ _ rfl)) (bool_as (decide_eq_true c1))) rfl rfl rfl (w_n rfl) ?_
        refine TL_q (.bool true) (fun _ _ hρ _ => r_move (hρ _ _ rfl)) rfl rfl rfl (w_n rfl) ?_
        refine TL_q (.pointer (some ⟨B1, 0, none⟩)) (fun _ _ hρ _ => r_fieldAddr fl36_0 sz3 (hρ _ _ rfl)) rfl rfl rfl (want_y 6 rfl rfl rfl) ?_
        refine TL_q (.int .i64 p.to) (fun _ _ hρ hm => r_load ag3 (hρ _ _ rfl) (hm.at 1 rfl) rfl) rfl rfl rfl (want_y 6 rfl rfl rfl) ?_
        refine TL_q (.bool true) (fun _ _ hρ _ => r_as (r_leq (hρ _ _ rfl) (hρ _ _ rfl)) (bool_as (decide_eq_true c2))) rfl rfl rfl (want_y 6 rfl rfl rfl) ?_
        refine TL_q (.bool true) (fun _ _ hρ _ => r_pick_t (hρ _ _ rfl) (hρ _ _ rfl)) rfl rfl rfl (w_n rfl) ?_
        refine TL_q (.bool true) (fun _ _ hρ _ => r_move (hρ _ _ rfl)) rfl rfl rfl (w_n rfl) ?_
        refine TL_q (.pointer (some ⟨B1, 1, none⟩)) (fun _ _ hρ _ => r_fieldAddr fl36_1 sz34 (hρ _ _ rfl)) rfl rfl rfl (want_y 11 rfl rfl rfl) ?_
        refine TL_q (.slice p.r.a p.r.l.length p.r.cap) (fun _ _ hρ hm => r_load ag34 (hρ _ _ rfl) (hm.at 1 rfl) rfl) rfl rfl rfl (want_y 11 rfl rfl rfl) ?_
        refine TL_q (.int .i64 ((p.r.l.length : Nat) : Int)) (fun _ _ hρ _ => r_len sl34 (hρ _ _ rfl)) rfl rfl rfl (want_y 11 rfl rfl rfl) ?_
        refine TL_q (.bool true) (fun _ _ hρ _ => r_as (r_leq (hρ _ _ rfl) (hρ _ _ rfl)) (bool_as (decide_eq_true c3))) rfl rfl rfl (want_y 11 rfl rfl rfl) ?_
        refine TL_q (.bool true) (fun _ _ hρ _ => r_pick_t (hρ _ _ rfl) (hρ _ _ rfl)) rfl rfl rfl (w_n rfl) ?_
        refine TL_q (.bool true) (fun _ _ hρ _ => r_assign (hρ _ _ rfl)) rfl rfl rfl (w_n rfl) ?_
        refine TL_seq ?_
        refine T_ret' ?_
        refine ret_of rfl (.bool true) (fun tmps w hk hm => res1 rfl (res_tmp (hk 2 _ rfl))) (fun w hm => ?_)
        exact ⟨congrArg Ending.returned (bool_as (decide_eq_true (by dsimp only; omega)).symm), hm.ext⟩
      · skip
        refine T_seq (T_region ?_)
        refine TL_q (.pointer (some ⟨B1, 0, none⟩)) (fun _ _ hρ _ => r_fieldAddr fl36_0 sz3 (hρ _ _ rfl)) rfl rfl rfl (w_n rfl) ?_
        refine TL_q (.int .i64 p.to) (fun _ _ hρ hm => r_load ag3 (hρ _ _ rfl) (hm.at 1 rfl) rfl) rfl rfl rfl (w_n rfl) ?_
        refine TL_q (.bool true) (fun _ _ hρ _ => r_as (r_geq (hρ _ _ rfl) (hρ _ _ rfl)) (bool_as (decide_eq_true c1))) rfl rfl rfl (w_n rfl) ?_
        refine TL_q (.bool true) (fun _ _ hρ _ => r_move (hρ _ _ rfl)) rfl rfl rfl (w_n rfl) ?_
        refine TL_q (.pointer (some ⟨B1, 0, none⟩)) (fun _ _ hρ _ => r_fieldAddr fl36_0 sz3 (hρ _ _ rfl)) rfl rfl rfl (want_y 6 rfl rfl rfl) ?_
        refine TL_q (.int .i64 p.to) (fun _ _ hρ hm => r_load ag3 (hρ _ _ rfl) (hm.at 1 rfl) rfl) rfl rfl rfl (want_y 6 rfl rfl rfl) ?_
        refine TL_q (.bool true) (fun _ _ hρ _ => r_as (r_leq (hρ _ _ rfl) (hρ _ _ rfl)) (bool_as (decide_eq_true c2))) rfl rfl rfl (want_y 6 rfl rfl rfl) ?_
        refine TL_q (.bool true) (fun _ _ hρ _ => r_pick_t (hρ _ _ rfl) (hρ _ _ rfl)) rfl rfl rfl (w_n rfl) ?_
        refine TL_q (.bool true) (fun _ _ hρ _ => r_move (hρ _ _ rfl)) rfl rfl rfl (w_n rfl) ?_
        refine TL_q (.pointer (some ⟨B1, 1, none⟩)) (fun _ _ hρ _ => r_fieldAddr fl36_1 sz34 (hρ _ _ rfl)) rfl rfl rfl (want_y 11 rfl rfl rfl) ?_
        refine TL_q (.slice p.r.a p.r.l.length p.r.cap) (fun _ _ hρ hm => r_load ag34 (hρ _ _ rfl) (hm.at 1 rfl) rfl) rfl rfl rfl (want_y 11 rfl rfl rfl) ?_
        refine TL_q (.int .i64 ((p.r.l.length : Nat) : Int)) (fun _ _ hρ _ => r_len sl34 (hρ _ _ rfl)) rfl rfl rfl (want_y 11 rfl rfl rfl) ?_
        refine TL_q (.bool false) (fun _ _ hρ _ => r_as (r_leq (hρ _ _ rfl) (hρ _ _ rfl)) (bool_as (decide_eq_false c3))) rfl rfl rfl (want_y 11 rfl rfl rfl) ?_
        refine TL_q (.bool false) (fun _ _ hρ _ => r_pick_t (hρ _ _ rfl) (hρ _ _ rfl)) rfl rfl rfl (w_n rfl) ?_
        refine TL_q (.bool false) (fun _ _ hρ _ => r_assign (hρ _ _ rfl)) rfl rfl rfl (w_n rfl) ?_
        refine TL_seq ?_
        refine T_ret' ?_
        refine ret_of rfl (.bool false) (fun tmps w hk hm => res1 rfl (res_tmp (hk 2 _ rfl))) (fun w hm => ?_)
        exact ⟨congrArg Ending.returned (bool_as (decide_eq_false (by dsimp only; omega)).symm), hm.ext⟩
    · skip
      refine T_seq (T_region ?_)
      refine TL_q (.pointer (some ⟨B1, 0, none⟩)) (fun _ _ hρ _ => r_fieldAddr fl36_0 sz3 (hρ _ _ rfl)) rfl rfl rfl (w_n rfl) ?_
      refine TL_q (.int .i64 p.to) (fun _ _ hρ hm => r_load ag3 (hρ _ _ rfl) (hm.at 1 rfl) rfl) rfl rfl rfl (w_n rfl) ?_
      refine TL_q (.bool true) (fun _ _ hρ _ => r_as (r_geq (hρ _ _ rfl) (hρ _ _ rfl)) (bool_as (decide_eq_true c1))) rfl rfl rfl (w_n rfl) ?_
      refine TL_q (.bool true) (fun _ _ hρ _ => r_move (hρ _ _ rfl)) rfl rfl rfl (w_n rfl) ?_
      refine TL_q (.pointer (some ⟨B1, 0, none⟩)) (fun _ _ hρ _ => r_fieldAddr fl36_0 sz3 (hρ _ _ rfl)) rfl rfl rfl (want_y 6 rfl rfl rfl) ?_
      refine TL_q (.int .i64 p.to) (fun _ _ hρ hm => r_load ag3 (hρ _ _ rfl) (hm.at 1 rfl) rfl) rfl rfl rfl (want_y 6 rfl rfl rfl) ?_
      refine TL_q (.bool false) (fun _ _ hρ _ => r_as (r_leq (hρ _ _ rfl) (hρ _ _ rfl)) (bool_as (decide_eq_false c2))) rfl rfl rfl (want_y 6 rfl rfl rfl) ?_
      refine TL_q (.bool false) (fun _ _ hρ _ => r_pick_t (hρ _ _ rfl) (hρ _ _ rfl)) rfl rfl rfl (w_n rfl) ?_
      refine TL_q (.bool false) (fun _ _ hρ _ => r_move (hρ _ _ rfl)) rfl rfl rfl (w_n rfl) ?_
      refine TL_no rfl rfl (want_n 11 rfl rfl rfl) ?_
      refine TL_no rfl rfl (want_n 11 rfl rfl rfl) ?_
      refine TL_no rfl rfl (want_n 11 rfl rfl rfl) ?_
      refine TL_no rfl rfl (want_n 11 rfl rfl rfl) ?_
      refine TL_q (.bool false) (fun _ _ hρ _ => r_pick_f (hρ _ _ rfl) (hρ _ _ rfl)) rfl rfl rfl (w_n rfl) ?_
      refine TL_q (.bool false) (fun _ _ hρ _ => r_assign (hρ _ _ rfl)) rfl rfl rfl (w_n rfl) ?_
      refine TL_seq ?_
      refine T_ret' ?_
      refine ret_of rfl (.bool false) (fun tmps w hk hm => res1 rfl (res_tmp (hk 2 _ rfl))) (fun w hm => ?_)
      exact ⟨congrArg Ending.returned (bool_as (decide_eq_false (by dsimp only; omega)).symm), hm.ext⟩
  · skip
    refine T_seq (T_region ?_)
    refine TL_q (.pointer (some ⟨B1, 0, none⟩)) (fun _ _ hρ _ => r_fieldAddr fl36_0 sz3 (hρ _ _ rfl)) rfl rfl rfl (w_n rfl) ?_
    refine TL_q (.int .i64 p.to) (fun _ _ hρ hm => r_load ag3 (hρ _ _ rfl) (hm.at 1 rfl) rfl) rfl rfl rfl (w_n rfl) ?_
    refine TL_q (.bool false) (fun _ _ hρ _ => r_as (r_geq (hρ _ _ rfl) (hρ _ _ rfl)) (bool_as (decide_eq_false c1))) rfl rfl rfl (w_n rfl) ?_
    refine TL_q (.bool false) (fun _ _ hρ _ => r_move (hρ _ _ rfl)) rfl rfl rfl (w_n rfl) ?_
    refine TL_no rfl rfl (want_n 6 rfl rfl rfl) ?_
    refine TL_no rfl rfl (want_n 6 rfl rfl rfl) ?_
    refine TL_no rfl rfl (want_n 6 rfl rfl rfl) ?_
    refine TL_q (.bool false) (fun _ _ hρ _ => r_pick_f (hρ _ _ rfl) (hρ _ _ rfl)) rfl rfl rfl (w_n rfl) ?_
    refine TL_q (.bool false) (fun _ _ hρ _ => r_move (hρ _ _ rfl)) rfl rfl rfl (w_n rfl) ?_
    refine TL_no rfl rfl (want_n 11 rfl rfl rfl) ?_
    refine TL_no rfl rfl (want_n 11 rfl rfl rfl) ?_
    refine TL_no rfl rfl (want_n 11 rfl rfl rfl) ?_
    refine TL_no rfl rfl (want_n 11 rfl rfl rfl) ?_
    refine TL_q (.bool false) (fun _ _ hρ _ => r_pick_f (hρ _ _ rfl) (hρ _ _ rfl)) rfl rfl rfl (w_n rfl) ?_
    refine TL_q (.bool false) (fun _ _ hρ _ => r_assign (hρ _ _ rfl)) rfl rfl rfl (w_n rfl) ?_
    refine TL_seq ?_
    refine T_ret' ?_
    refine ret_of rfl (.bool false) (fun tmps w hk hm => res1 rfl (res_tmp (hk 2 _ rfl))) (fun w hm => ?_)
    exact ⟨congrArg Ending.returned (bool_as (decide_eq_false (by dsimp only; omega)).symm), hm.ext⟩

/-- Where the first of a kind stands; -1: nowhere. -/
def idxI {α : Type} (φ : α → Bool) (l : List α) : Int := match l.findIdx? φ with
  | some i => (i : Int)
  | none => -1
theorem no_step {α : Type} {φ : α → Bool} {l : List α} {k : Nat} {p : α} (h : ∀ x ∈ l.take k, φ x = false) (hp : l[k]? = some p) (hf : φ p = false) : ∀ x ∈ l.take (k + 1), φ x = false := fun x hx => by
  rw [List.take_add_one, hp] at hx
  rcases List.mem_append.1 hx with h1 | h1
  · exact h x h1
  · rw [List.mem_singleton.1 h1]; exact hf
theorem idx_none {α : Type} {φ : α → Bool} {l : List α} (h : ∀ x ∈ l, φ x = false) : idxI φ l = -1 := by
  unfold idxI
  rw [List.findIdx?_eq_none_iff.2 h]
theorem idx_some {α : Type} {φ : α → Bool} {l : List α} {k : Nat} {p : α} (hp : l[k]? = some p) (h : ∀ x ∈ l.take k, φ x = false) (hy : φ p = true) : idxI φ l = k := by
  unfold idxI
  obtain ⟨hk, he⟩ := List.getElem?_eq_some_iff.1 hp
  have : l.findIdx? φ = some k := List.findIdx?_eq_some_iff_getElem.2 ⟨hk, by rw [he]; exact hy, fun j hj => by
    have h1 := h l[j] (List.mem_take_iff_getElem.2 ⟨j, by omega, rfl⟩)
    simp [h1]⟩
  rw [this]
theorem idx_any {α : Type} (φ : α → Bool) (l : List α) : decide (0 ≤ idxI φ l) = l.any φ := by
  cases h : l.any φ with
  | true =>
    obtain ⟨x, hx, hy⟩ := List.any_eq_true.1 h
    unfold idxI
    cases e : l.findIdx? φ with
    | none => rw [List.findIdx?_eq_none_iff.1 e x hx] at hy; cases hy
    | some i => exact decide_eq_true (by show (0 : Int) ≤ (i : Int); omega)
  | false =>
    have : ∀ x ∈ l, φ x = false := fun x hx => by
      cases e : φ x with
      | false => rfl
      | true => rw [List.any_eq_true.2 ⟨x, hx, e⟩] at h; cases h
    rw [idx_none this]; rfl
theorem idx_lt {α : Type} (φ : α → Bool) (l : List α) : idxI φ l < l.length := by
  unfold idxI
  cases e : l.findIdx? φ with
  | none => show (-1 : Int) < _; omega
  | some i =>
    have := (List.findIdx?_eq_some_iff_getElem.1 e).1
    show (i : Int) < _; omega
theorem idx_ge {α : Type} (φ : α → Bool) (l : List α) : -1 ≤ idxI φ l := by
  unfold idxI
  cases e : l.findIdx? φ with
  | none => show (-1 : Int) ≤ -1; omega
  | some i => show (-1 : Int) ≤ (i : Int); omega
theorem all_not {α : Type} (φ : α → Bool) (l : List α) : (!(l.any fun x => !φ x)) = l.all φ := by
  induction l with
  | nil => rfl
  | cons x l ih => rw [List.any_cons, List.all_cons, ← ih]; cases φ x <;> simp

theorem pidx_c (ps : List Pcl) (a : Option Addr) (cap : Nat) (w : World) (hv : SliceAt w a cap 3 Pcl.cells ps) (hcap : cap ≤ Go.maxLen) (hb : PcsAt w ps) (g : Nat) (cp : Array Value) (hE : Enters Try.prog g) (φ : Pcl → Bool) (hto : ∀ w2, Below w.heap.size w w2 → ∀ x ∈ ps, Calls Try.prog g (#[x.v] ++ cp) w2 fun e w3 => e = .returned (.bool (φ x)) ∧ Below w2.heap.size w2 w3) : Calls Try.prog 18 #[.slice a ps.length cap, .func (.func g) #[] cp] w fun e w' => e = .returned (.int .i64 (idxI φ ps)) ∧ Below w.heap.size w w' := by
  have hvl := hv.1
  unfold Go.maxLen at hcap
  refine calls_of_T (l := [.slice a ps.length cap, .func (.func g) #[] cp]) 19 Try.func18 rfl rfl rfl ?_
  show T _ _ _ [(0, .slice a ps.length cap), (1, .func (.func g) #[] cp)] []
  refine T_seq (T_region ?_)
  refine TL_q (.int .i64 0) (fun _ _ hρ _ => r_assign (hρ _ _ rfl)) rfl rfl rfl (w_n rfl) ?_
  refine TL_seq ?_
  refine T_seq ?_
  refine T_seq (T_region ?_)
  refine TL_q (.slice a ps.length cap) (fun _ _ hρ _ => r_move (hρ _ _ rfl)) rfl rfl rfl (w_n rfl) ?_
  refine TL_q (.int .i64 ((ps.length : Nat) : Int)) (fun _ _ hρ _ => r_len sl22 (hρ _ _ rfl)) rfl rfl rfl (w_n rfl) ?_
  refine TL_q (.int .i64 0) (fun _ _ hρ _ => r_move (hρ _ _ rfl)) rfl rfl rfl (w_n rfl) ?_
  refine TL_seq ?_
  refine T_block ?_
  refine T_loop (ι := Nat) (fun (k : Nat) => k ≤ ps.length ∧ ∀ x ∈ ps.take k, φ x = false) (fun (k : Nat) => [(0, .slice a ps.length cap), (1, .func (.func g) #[] cp), (7, .int .i64 ((ps.length : Nat) : Int)), (8, .int .i64 ((k : Nat) : Int))]) (fun (k : Nat) => []) (fun (k : Nat) => ps.length - k) 0 ⟨Nat.zero_le _, fun _ h => nomatch h⟩ (sub_cons rfl (sub_cons rfl (sub_cons rfl (sub_cons rfl sub_nil)))) sub_nil ?_
  rintro k hp
  obtain ⟨hk, hno⟩ := hp
  show T _ _ _ [(0, .slice a ps.length cap), (1, .func (.func g) #[] cp), (7, .int .i64 ((ps.length : Nat) : Int)), (8, .int .i64 ((k : Nat) : Int))] []
  refine T_seq (T_region ?_)
  refine TL_q (.bool (decide (((k : Nat) : Int) < ((ps.length : Nat) : Int)))) (fun _ _ hρ _ => r_lss (hρ _ _ rfl) (hρ _ _ rfl)) rfl rfl rfl (w_n rfl) ?_
  refine TL_seq ?_
  refine T_seq ?_
  refine T_cond rfl (fun h1 => ?_) (fun h1 => ?_)
  · replace h1 := of_decide_eq_true h1
    refine T_skip' ?_
    refine p_seq ?_
    refine T_seq ?_
    refine T_block ?_
    refine T_seq (T_region ?_)
    refine TL_q (.int .i64 ((k : Nat) : Int)) (fun _ _ hρ _ => r_move (hρ _ _ rfl)) rfl rfl rfl (w_n rfl) ?_
    refine TL_q (.int .i64 ((k : Nat) : Int)) (fun _ _ hρ _ => r_assign (hρ _ _ rfl)) rfl rfl rfl (w_n rfl) ?_
    refine TL_seq ?_
    obtain ⟨p, hp⟩ : ∃ x, ps[k]? = some x := ⟨_, List.getElem?_eq_getElem (by omega)⟩
    have hokp := hb p (List.mem_of_getElem? hp)
    obtain ⟨b1, of1, cs1, T1, fz1, ha1, hq1, hr1⟩ := hv.open (i := k) (by omega)
    subst ha1
    refine T_seq (T_region ?_)
    refine TL_q (.func (.func g) #[] cp) (fun _ _ hρ _ => r_move (hρ _ _ rfl)) rfl rfl rfl (w_n rfl) ?_
    refine TL_q (.slice (some ⟨b1, of1, none⟩) ps.length cap) (fun _ _ hρ _ => r_move (hρ _ _ rfl)) rfl rfl rfl (w_n rfl) ?_
    refine TL_q (.int .i64 ((k : Nat) : Int)) (fun _ _ hρ _ => r_move (hρ _ _ rfl)) rfl rfl rfl (w_n rfl) ?_
    refine TL_q (.pointer (some ⟨b1, of1 + k * 3, none⟩)) (fun _ _ hρ _ => r_indexAddrS (i := k) sl22 sz36 (hρ _ _ rfl) (hρ _ _ rfl) (by omega)) rfl rfl rfl (w_n rfl) ?_
    refine TL_q (.agg #[.int .i64 p.to, .slice p.r.a p.r.l.length p.r.cap, .bool p.sp]) (fun _ _ hρ hm => r_loadRow (f := Pcl.cells) (u := p) ag36 sz36 (hρ _ _ rfl) (hm.old hq1) hr1 hp) rfl rfl rfl (w_n rfl) ?_
    refine TL_call (.bool (φ p)) (fun _ _ hρ _ => r_call (args := [.agg #[.int .i64 p.to, .slice p.r.a p.r.l.length p.r.cap, .bool p.sp]]) hE (hρ _ _ rfl) ((cons2 (hρ _ _ rfl) rfl)) (by simp)) (fun w hm => hto w hm.ext p (List.mem_of_getElem? hp)) rfl rfl rfl (w_n rfl) ?_
    refine TL_seq ?_
    refine T_cond rfl (fun h2 => ?_) (fun h2 => ?_)
    · skip
      refine T_seq (T_region ?_)
      refine TL_q (.int .i64 ((k : Nat) : Int)) (fun _ _ hρ _ => r_move (hρ _ _ rfl)) rfl rfl rfl (w_n rfl) ?_
      refine TL_q (.int .i64 ((k : Nat) : Int)) (fun _ _ hρ _ => r_assign (hρ _ _ rfl)) rfl rfl rfl (w_n rfl) ?_
      refine TL_seq ?_
      refine T_ret' ?_
      refine p_blk_r ?_
      refine p_then_r ?_
      refine p_then_r ?_
      refine p_blk_r ?_
      refine p_then_r ?_
      refine ret_of rfl (.int .i64 ((k : Nat) : Int)) (fun tmps w hk hm => res1 rfl (res_tmp (hk 4 _ rfl))) (fun w hm => ?_)
      exact ⟨by rw [idx_some hp hno h2], hm.ext⟩
    · skip
      refine T_skip' ?_
      refine p_blk_n ?_
      refine p_seq ?_
      refine T_region ?_
      refine TL_q (.int .i64 ((k + 1 : Nat) : Int)) (fun _ _ hρ _ => r_as (r_add (hρ _ _ rfl) (hρ _ _ rfl)) (int_as ((wrap64 (by omega) (by omega)).trans (by omega)))) rfl rfl rfl (w_n rfl) ?_
      refine TL_q (.int .i64 ((k + 1 : Nat) : Int)) (fun _ _ hρ _ => r_move (hρ _ _ rfl)) rfl rfl rfl (w_n rfl) ?_
      refine TL_nil ?_
      exact p_at (k + 1) ⟨⟨by omega, no_step hno hp h2⟩, by omega⟩ (sub_cons rfl (sub_cons rfl (sub_cons rfl (sub_cons rfl sub_nil)))) sub_nil
  · replace h1 := of_decide_eq_false h1
    refine T_exit' ?_
    refine p_then_x ?_
    refine p_then_x ?_
    refine p_blk_x ?_
    refine p_seq ?_
    refine T_seq (T_region ?_)
    refine TL_q (.int .i64 (-1)) (fun _ _ hρ _ => r_assign (hρ _ _ rfl)) rfl rfl rfl (w_n rfl) ?_
    refine TL_seq ?_
    refine T_ret' ?_
    refine ret_of rfl (.int .i64 (-1)) (fun tmps w hk hm => res1 rfl (res_tmp (hk 4 _ rfl))) (fun w hm => ?_)
    have hke : k = ps.length := by omega
    subst hke
    rw [List.take_length] at hno
    exact ⟨by rw [idx_none hno], hm.ext⟩

theorem pcon_c (ps : List Pcl) (a : Option Addr) (cap : Nat) (w : World) (hv : SliceAt w a cap 3 Pcl.cells ps) (hcap : cap ≤ Go.maxLen) (hb : PcsAt w ps) (g : Nat) (cp : Array Value) (hE : Enters Try.prog g) (φ : Pcl → Bool) (hto : ∀ w2, Below w.heap.size w w2 → ∀ x ∈ ps, Calls Try.prog g (#[x.v] ++ cp) w2 fun e w3 => e = .returned (.bool (φ x)) ∧ Below w2.heap.size w2 w3) : Calls Try.prog 100 #[.slice a ps.length cap, .func (.func g) #[] cp] w fun e w' => e = .returned (.bool (ps.any φ)) ∧ Below w.heap.size w w' := by
  have hvl := hv.1
  unfold Go.maxLen at hcap
  have hix := idx_lt φ ps
  have hiy := idx_ge φ ps
  refine calls_of_T (l := [.slice a ps.length cap, .func (.func g) #[] cp]) 9 Try.func100 rfl rfl rfl ?_
  show T _ _ _ [(0, .slice a ps.length cap), (1, .func (.func g) #[] cp)] []
  refine T_seq (T_region ?_)
  refine TL_q (.bool false) (fun _ _ hρ _ => r_assign (hρ _ _ rfl)) rfl rfl rfl (w_n rfl) ?_
  refine TL_seq ?_
  refine T_seq (T_region ?_)
  refine TL_q (.slice a ps.length cap) (fun _ _ hρ _ => r_move (hρ _ _ rfl)) rfl rfl rfl (w_n rfl) ?_
  refine TL_q (.func (.func g) #[] cp) (fun _ _ hρ _ => r_move (hρ _ _ rfl)) rfl rfl rfl (w_n rfl) ?_
  refine TL_call (.int .i64 (idxI φ ps)) (fun _ _ hρ _ => r_call (args := [.slice a ps.length cap, .func (.func g) #[] cp]) (enters_of Try.func18 (by kernel_rfl) rfl) (hρ _ _ rfl) ((cons2 (hρ _ _ rfl) (cons2 (hρ _ _ rfl) rfl))) rfl) (fun w hm => pidx_c ps a cap w (hv.keep hm.ext) hcap (hb.keep hm.ext) g cp hE φ (fun w2 hb2 x hx => hto w2 (hm.ext.trans (hb2.mono hm.ext.size)) x hx)) rfl rfl rfl (w_n rfl) ?_
  refine TL_q (.bool (decide ((0 : Int) ≤ (idxI φ ps)))) (fun _ _ hρ _ => r_geq (hρ _ _ rfl) (hρ _ _ rfl)) rfl rfl rfl (w_n rfl) ?_
  refine TL_q (.bool (decide ((0 : Int) ≤ (idxI φ ps)))) (fun _ _ hρ _ => r_assign (hρ _ _ rfl)) rfl rfl rfl (w_n rfl) ?_
  refine TL_seq ?_
  refine T_ret' ?_
  refine ret_of rfl (.bool (decide ((0 : Int) ≤ (idxI φ ps)))) (fun tmps w hk hm => res1 rfl (res_tmp (hk 4 _ rfl))) (fun w hm => ?_)
  exact ⟨congrArg Ending.returned (bool_as (idx_any φ ps)), hm.ext⟩

theorem allf_c (p : Pcl) (C : Nat) (w : World) (g : Nat) (cp : Array Value) (hE : Enters Try.prog g) (φ : Pcl → Bool) (hC : hp w C = some (.cells #[.func (.func g) #[] cp] 41)) (hto : ∀ w2, Below w.heap.size w w2 → Calls Try.prog g (#[p.v] ++ cp) w2 fun e w3 => e = .returned (.bool (φ p)) ∧ Below w2.heap.size w2 w3) : Calls Try.prog 101 #[p.v, .pointer (some ⟨C, 0, none⟩)] w fun e w' => e = .returned (.bool (!φ p)) ∧ Below w.heap.size w w' := by
  refine calls_of_T (l := [.agg #[.int .i64 p.to, .slice p.r.a p.r.l.length p.r.cap, .bool p.sp], .pointer (some ⟨C, 0, none⟩)]) 8 Try.func101 rfl rfl rfl ?_
  show T _ _ _ [(0, .agg #[.int .i64 p.to, .slice p.r.a p.r.l.length p.r.cap, .bool p.sp]), (1, .pointer (some ⟨C, 0, none⟩))] []
  refine T_seq (T_region ?_)
  refine TL_new 1 (.cells #[.int .i64 p.to, .slice p.r.a p.r.l.length p.r.cap, .bool p.sp] 36) (fun B => .pointer (some ⟨B, 0, none⟩)) (fun _ _ hρ _ => r_box (hρ _ _ rfl) rfl) rfl rfl rfl (w_n rfl) ?_
  intro B1
  refine TL_q (.bool false) (fun _ _ hρ _ => r_assign (hρ _ _ rfl)) rfl rfl rfl (w_n rfl) ?_
  refine TL_seq ?_
  refine T_seq (T_region ?_)
  refine TL_q (.func (.func g) #[] cp) (fun _ _ hρ hm => r_load ag41 (hρ _ _ rfl) (hm.old hC) rfl) rfl rfl rfl (w_n rfl) ?_
  refine TL_q (.agg #[.int .i64 p.to, .slice p.r.a p.r.l.length p.r.cap, .bool p.sp]) (fun _ _ hρ hm => r_loadA ag36 sz36 (hρ _ _ rfl) (hm.at 1 rfl) rfl rfl) rfl rfl rfl (w_n rfl) ?_
  refine TL_call (.bool (φ p)) (fun _ _ hρ _ => r_call (args := [.agg #[.int .i64 p.to, .slice p.r.a p.r.l.length p.r.cap, .bool p.sp]]) hE (hρ _ _ rfl) ((cons2 (hρ _ _ rfl) rfl)) (by simp)) (fun w hm => hto w hm.ext) rfl rfl rfl (w_n rfl) ?_
  refine TL_q (.bool (!(φ p))) (fun _ _ hρ _ => r_not (b := φ p) (hρ _ _ rfl)) rfl rfl rfl (w_n rfl) ?_
  refine TL_q (.bool (!(φ p))) (fun _ _ hρ _ => r_assign (hρ _ _ rfl)) rfl rfl rfl (w_n rfl) ?_
  refine TL_seq ?_
  refine T_ret' ?_
  refine ret_of rfl (.bool (!(φ p))) (fun tmps w hk hm => res1 rfl (res_tmp (hk 3 _ rfl))) (fun w hm => ?_)
  exact ⟨rfl, hm.ext⟩

theorem all_c (ps : List Pcl) (a : Option Addr) (cap : Nat) (w : World) (hv : SliceAt w a cap 3 Pcl.cells ps) (hcap : cap ≤ Go.maxLen) (hb : PcsAt w ps) (g : Nat) (cp : Array Value) (hE : Enters Try.prog g) (φ : Pcl → Bool) (hto : ∀ w2, Below w.heap.size w w2 → ∀ x ∈ ps, Calls Try.prog g (#[x.v] ++ cp) w2 fun e w3 => e = .returned (.bool (φ x)) ∧ Below w2.heap.size w2 w3) : Calls Try.prog 63 #[.slice a ps.length cap, .func (.func g) #[] cp] w fun e w' => e = .returned (.bool (ps.all φ)) ∧ Below w.heap.size w w' := by
  have hvl := hv.1
  unfold Go.maxLen at hcap
  refine calls_of_T (l := [.slice a ps.length cap, .func (.func g) #[] cp]) 9 Try.func63 rfl rfl rfl ?_
  show T _ _ _ [(0, .slice a ps.length cap), (1, .func (.func g) #[] cp)] []
  refine T_seq (T_region ?_)
  refine TL_new 1 (.cells #[.func (.func g) #[] cp] 41) (fun B => .pointer (some ⟨B, 0, none⟩)) (fun _ _ hρ _ => r_box (hρ _ _ rfl) rfl) rfl rfl rfl (w_n rfl) ?_
  intro B1
  refine TL_q (.bool false) (fun _ _ hρ _ => r_assign (hρ _ _ rfl)) rfl rfl rfl (w_n rfl) ?_
  refine TL_seq ?_
  refine T_seq (T_region ?_)
  refine TL_q (.slice a ps.length cap) (fun _ _ hρ _ => r_move (hρ _ _ rfl)) rfl rfl rfl (w_n rfl) ?_
  refine TL_q (.func (.func 101) #[] #[.pointer (some ⟨B1, 0, none⟩)]) (fun _ _ hρ _ => r_makeFunc (by simp) (map_arr (cons2 (hρ _ _ rfl) rfl))) rfl rfl rfl (w_n rfl) ?_
  refine TL_call (.bool (ps.any (fun x => !φ x))) (fun _ _ hρ _ => r_call (args := [.slice a ps.length cap, .func (.func 101) #[] #[.pointer (some ⟨B1, 0, none⟩)]]) (enters_of Try.func100 (by kernel_rfl) rfl) (hρ _ _ rfl) ((cons2 (hρ _ _ rfl) (cons2 (hρ _ _ rfl) rfl))) rfl) (fun w hm => pcon_c ps a cap w (hv.keep hm.ext) hcap (hb.keep hm.ext) 101 #[.pointer (some ⟨B1, 0, none⟩)] (enters_of Try.func101 (by kernel_rfl) rfl) (fun x => !φ x) (fun w2 hb2 x hx => allf_c x B1 w2 g cp hE φ (kept hb2 (hm.at 1 rfl)) (fun w3 hb3 => hto w3 (hm.ext.trans ((hb2.mono hm.ext.size).trans (hb3.mono (Nat.le_trans hm.ext.size hb2.size)))) x hx))) rfl rfl rfl (w_n rfl) ?_
  refine TL_q (.bool (!(ps.any (fun x => !φ x)))) (fun _ _ hρ _ => r_not (b := ps.any (fun x => !φ x)) (hρ _ _ rfl)) rfl rfl rfl (w_n rfl) ?_
  refine TL_q (.bool (!(ps.any (fun x => !φ x)))) (fun _ _ hρ _ => r_assign (hρ _ _ rfl)) rfl rfl rfl (w_n rfl) ?_
  refine TL_seq ?_
  refine T_ret' ?_
  refine ret_of rfl (.bool (!(ps.any (fun x => !φ x)))) (fun tmps w hk hm => res1 rfl (res_tmp (hk 4 _ rfl))) (fun w hm => ?_)
  exact ⟨congrArg Ending.returned (bool_as (all_not φ ps)), hm.ext⟩

theorem check_yes {ps : List Pcl} {lost : Int} (h1 : ps.length ≤ 64) (h2 : lost ≤ 4611686018427387904) (h3 : ps.all (fun p => mayV p.pv) = true) : checkV (pvs ps) lost = true := by
  unfold checkV pvs
  rw [List.length_map, decide_eq_true ⟨h1, h2⟩, List.all_map]
  exact h3
theorem check_no {ps : List Pcl} {lost : Int} (h : 64 < ps.length ∨ 4611686018427387904 < lost ∨ ¬ ps.all (fun p => mayV p.pv) = true) : ¬ checkV (pvs ps) lost = true := fun e => by
  unfold checkV pvs at e
  rw [Bool.and_eq_true, List.all_map] at e
  have e1 := of_decide_eq_true e.1
  rw [List.length_map] at e1
  rcases h with h | h | h
  · omega
  · have := e1.2; unfold MT at this; omega
  · exact h e.2
theorem check_all {ps : List Pcl} {lost : Int} : checkV (pvs ps) lost = (decide (ps.length ≤ 64) && decide (lost ≤ 4611686018427387904) && ps.all (fun p => mayV p.pv)) := by
  unfold checkV pvs
  rw [List.length_map, List.all_map, Bool.decide_and]; rfl

theorem ncheck_c (ps : List Pcl) (a : Option Addr) (cap : Nat) (lost : Int) (w : World) (hv : SliceAt w a cap 3 Pcl.cells ps) (hcap : cap ≤ Go.maxLen) (hb : PcsAt w ps) : Calls Try.prog 31 #[.agg #[.slice a ps.length cap, .int .u64 lost]] w fun e w' => e = .returned (.int .i64 (if checkV (pvs ps) lost = true then 0 else 350)) ∧ Below w.heap.size w w' := by
  have hvl := hv.1
  unfold Go.maxLen at hcap
  refine calls_of_T (l := [.agg #[.slice a ps.length cap, .int .u64 lost]]) 18 Try.func31 rfl rfl rfl ?_
  show T _ _ _ [(0, .agg #[.slice a ps.length cap, .int .u64 lost])] []
  refine T_seq (T_region ?_)
  refine TL_new 1 (.cells #[.slice a ps.length cap, .int .u64 lost] 27) (fun B => .pointer (some ⟨B, 0, none⟩)) (fun _ _ hρ _ => r_box (hρ _ _ rfl) rfl) rfl rfl rfl (w_n rfl) ?_
  intro B1
  refine TL_q (.int .i64 0) (fun _ _ hρ _ => r_assign (hρ _ _ rfl)) rfl rfl rfl (w_n rfl) ?_
  refine TL_seq ?_
  refine T_seq ?_
  by_cases c1 : (64 : Int) < ((ps.length : Nat) : Int)
  · skip
    refine T_seq (T_region ?_)
    refine TL_q (.pointer (some ⟨B1, 0, none⟩)) (fun _ _ hρ _ => r_fieldAddr fl27_0 sz22 (hρ _ _ rfl)) rfl rfl rfl (w_n rfl) ?_
    refine TL_q (.slice a ps.length cap) (fun _ _ hρ hm => r_load ag22 (hρ _ _ rfl) (hm.at 1 rfl) rfl) rfl rfl rfl (w_n rfl) ?_
    refine TL_q (.int .i64 ((ps.length : Nat) : Int)) (fun _ _ hρ _ => r_len sl22 (hρ _ _ rfl)) rfl rfl rfl (w_n rfl) ?_
    refine TL_q (.bool true) (fun _ _ hρ _ => r_as (r_gtr (hρ _ _ rfl) (hρ _ _ rfl)) (bool_as (decide_eq_true c1))) rfl rfl rfl (w_n rfl) ?_
    refine TL_q (.bool true) (fun _ _ hρ _ => r_move (hρ _ _ rfl)) rfl rfl rfl (w_n rfl) ?_
    refine TL_no rfl rfl (want_n 7 rfl rfl rfl) ?_
    refine TL_no rfl rfl (want_n 7 rfl rfl rfl) ?_
    refine TL_no rfl rfl (want_n 7 rfl rfl rfl) ?_
    refine TL_q (.bool true) (fun _ _ hρ _ => r_pick_t (hρ _ _ rfl) (hρ _ _ rfl)) rfl rfl rfl (w_n rfl) ?_
    refine TL_q (.bool true) (fun _ _ hρ _ => r_move (hρ _ _ rfl)) rfl rfl rfl (w_n rfl) ?_
    refine TL_no rfl rfl (want_n 12 rfl rfl rfl) ?_
    refine TL_no rfl rfl (want_n 12 rfl rfl rfl) ?_
    refine TL_no rfl rfl (want_n 12 rfl rfl rfl) ?_
    refine TL_no rfl rfl (want_n 12 rfl rfl rfl) ?_
    refine TL_q (.bool true) (fun _ _ hρ _ => r_pick_t (hρ _ _ rfl) (hρ _ _ rfl)) rfl rfl rfl (w_n rfl) ?_
    refine TL_seq ?_
    refine T_cond_t rfl ?_
    refine T_seq (T_region ?_)
    refine TL_q (.int .i64 350) (fun _ _ hρ _ => r_assign (hρ _ _ rfl)) rfl rfl rfl (w_n rfl) ?_
    refine TL_seq ?_
    refine T_ret' ?_
    refine p_then_r ?_
    refine ret_of rfl (.int .i64 350) (fun tmps w hk hm => res1 rfl (res_tmp (hk 2 _ rfl))) (fun w hm => ?_)
    exact ⟨by rw [if_neg (check_no (.inl (by omega)))], hm.ext⟩
  · skip
    by_cases c2 : (4611686018427387904 : Int) < lost
    · skip
      refine T_seq (T_region ?_)
      refine TL_q (.pointer (some ⟨B1, 0, none⟩)) (fun _ _ hρ _ => r_fieldAddr fl27_0 sz22 (hρ _ _ rfl)) rfl rfl rfl (w_n rfl) ?_
      refine TL_q (.slice a ps.length cap) (fun _ _ hρ hm => r_load ag22 (hρ _ _ rfl) (hm.at 1 rfl) rfl) rfl rfl rfl (w_n rfl) ?_
      refine TL_q (.int .i64 ((ps.length : Nat) : Int)) (fun _ _ hρ _ => r_len sl22 (hρ _ _ rfl)) rfl rfl rfl (w_n rfl) ?_
      refine TL_q (.bool false) (fun _ _ hρ _ => r_as (r_gtr (hρ _ _ rfl) (hρ _ _ rfl)) (bool_as (decide_eq_false c1))) rfl rfl rfl (w_n rfl) ?_
      refine TL_q (.bool false) (fun _ _ hρ _ => r_move (hρ _ _ rfl)) rfl rfl rfl (w_n rfl) ?_
      refine TL_q (.pointer (some ⟨B1, 1, none⟩)) (fun _ _ hρ _ => r_fieldAddr fl27_1 sz25 (hρ _ _ rfl)) rfl rfl rfl (want_y 7 rfl rfl rfl) ?_
      refine TL_q (.int .u64 lost) (fun _ _ hρ hm => r_load ag25 (hρ _ _ rfl) (hm.at 1 rfl) rfl) rfl rfl rfl (want_y 7 rfl rfl rfl) ?_
      refine TL_q (.bool true) (fun _ _ hρ _ => r_as (r_gtr (hρ _ _ rfl) (hρ _ _ rfl)) (bool_as (decide_eq_true c2))) rfl rfl rfl (want_y 7 rfl rfl rfl) ?_
      refine TL_q (.bool true) (fun _ _ hρ _ => r_pick_f (hρ _ _ rfl) (hρ _ _ rfl)) rfl rfl rfl (w_n rfl) ?_
      refine TL_q (.bool true) (fun _ _ hρ _ => r_move (hρ _ _ rfl)) rfl rfl rfl (w_n rfl) ?_
      refine TL_no rfl rfl (want_n 12 rfl rfl rfl) ?_
      refine TL_no rfl rfl (want_n 12 rfl rfl rfl) ?_
      refine TL_no rfl rfl (want_n 12 rfl rfl rfl) ?_
      refine TL_no rfl rfl (want_n 12 rfl rfl rfl) ?_
      refine TL_q (.bool true) (fun _ _ hρ _ => r_pick_t (hρ _ _ rfl) (hρ _ _ rfl)) rfl rfl rfl (w_n rfl) ?_
      refine TL_seq ?_
      refine T_cond_t rfl ?_
      refine T_seq (T_region ?_)
      refine TL_q (.int .i64 350) (fun _ _ hρ _ => r_assign (hρ _ _ rfl)) rfl rfl rfl (w_n rfl) ?_
      refine TL_seq ?_
      refine T_ret' ?_
      refine p_then_r ?_
      refine ret_of rfl (.int .i64 350) (fun tmps w hk hm => res1 rfl (res_tmp (hk 2 _ rfl))) (fun w hm => ?_)
      exact ⟨by rw [if_neg (check_no (.inr (.inl (by omega))))], hm.ext⟩
    · skip
      by_cases c3 : ps.all (fun p => mayV p.pv) = true
      · skip
        refine T_seq (T_region ?_)
        refine TL_q (.pointer (some ⟨B1, 0, none⟩)) (fun _ _ hρ _ => r_fieldAddr fl27_0 sz22 (hρ _ _ rfl)) rfl rfl rfl (w_n rfl) ?_
        refine TL_q (.slice a ps.length cap) (fun _ _ hρ hm => r_load ag22 (hρ _ _ rfl) (hm.at 1 rfl) rfl) rfl rfl rfl (w_n rfl) ?_
        refine TL_q (.int .i64 ((ps.length : Nat) : Int)) (fun _ _ hρ _ => r_len sl22 (hρ _ _ rfl)) rfl rfl rfl (w_n rfl) ?_
        refine TL_q (.bool false) (fun _ _ hρ _ => r_as (r_gtr (hρ _ _ rfl) (hρ _ _ rfl)) (bool_as (decide_eq_false c1))) rfl rfl rfl (w_n rfl) ?_
        refine TL_q (.bool false) (fun _ _ hρ _ => r_move (hρ _ _ rfl)) rfl rfl rfl (w_n rfl) ?_
        refine TL_q (.pointer (some ⟨B1, 1, none⟩)) (fun _ _ hρ _ => r_fieldAddr fl27_1 sz25 (hρ _ _ rfl)) rfl rfl rfl (want_y 7 rfl rfl rfl) ?_
        refine TL_q (.int .u64 lost) (fun _ _ hρ hm => r_load ag25 (hρ _ _ rfl) (hm.at 1 rfl) rfl) rfl rfl rfl (want_y 7 rfl rfl rfl) ?_
        refine TL_q (.bool false) (fun _ _ hρ _ => r_as (r_gtr (hρ _ _ rfl) (hρ _ _ rfl)) (bool_as (decide_eq_false c2))) rfl rfl rfl (want_y 7 rfl rfl rfl) ?_
        refine TL_q (.bool false) (fun _ _ hρ _ => r_pick_f (hρ _ _ rfl) (hρ _ _ rfl)) rfl rfl rfl (w_n rfl) ?_
        refine TL_q (.bool false) (fun _ _ hρ _ => r_move (hρ _ _ rfl)) rfl rfl rfl (w_n rfl) ?_
        refine TL_q (.pointer (some ⟨B1, 0, none⟩)) (fun _ _ hρ _ => r_fieldAddr fl27_0 sz22 (hρ _ _ rfl)) rfl rfl rfl (want_y 12 rfl rfl rfl) ?_
        refine TL_q (.slice a ps.length cap) (fun _ _ hρ hm => r_load ag22 (hρ _ _ rfl) (hm.at 1 rfl) rfl) rfl rfl rfl (want_y 12 rfl rfl rfl) ?_
        refine TL_call (.bool true) (fun _ _ hρ _ => r_call (args := [.slice a ps.length cap, .func (.func 65) #[] #[]]) (enters_of Try.func63 (by kernel_rfl) rfl) (hρ _ _ rfl) ((cons2 (hρ _ _ rfl) (cons2 (hρ _ _ rfl) rfl))) rfl) (fun w hm => (all_c ps a cap w (hv.keep hm.ext) hcap (hb.keep hm.ext) 65 #[] (enters_of Try.func65 (by kernel_rfl) rfl) (fun p => mayV p.pv) (fun w2 _ x _ => may_c x w2)).mono fun _ _ h => ⟨h.1.trans (congrArg Ending.returned (bool_as c3)), h.2⟩) rfl rfl rfl (want_y 12 rfl rfl rfl) ?_
        refine TL_q (.bool false) (fun _ _ hρ _ => r_not (b := true) (hρ _ _ rfl)) rfl rfl rfl (want_y 12 rfl rfl rfl) ?_
        refine TL_q (.bool false) (fun _ _ hρ _ => r_pick_f (hρ _ _ rfl) (hρ _ _ rfl)) rfl rfl rfl (w_n rfl) ?_
        refine TL_seq ?_
        refine T_cond_f rfl ?_
        refine T_skip' ?_
        refine p_seq ?_
        refine T_seq (T_region ?_)
        refine TL_q (.int .i64 0) (fun _ _ hρ _ => r_assign (hρ _ _ rfl)) rfl rfl rfl (w_n rfl) ?_
        refine TL_seq ?_
        refine T_ret' ?_
        refine ret_of rfl (.int .i64 0) (fun tmps w hk hm => res1 rfl (res_tmp (hk 2 _ rfl))) (fun w hm => ?_)
        exact ⟨by rw [if_pos (check_yes (by omega) (by omega) c3)], hm.ext⟩
      · skip
        refine T_seq (T_region ?_)
        refine TL_q (.pointer (some ⟨B1, 0, none⟩)) (fun _ _ hρ _ => r_fieldAddr fl27_0 sz22 (hρ _ _ rfl)) rfl rfl rfl (w_n rfl) ?_
        refine TL_q (.slice a ps.length cap) (fun _ _ hρ hm => r_load ag22 (hρ _ _ rfl) (hm.at 1 rfl) rfl) rfl rfl rfl (w_n rfl) ?_
        refine TL_q (.int .i64 ((ps.length : Nat) : Int)) (fun _ _ hρ _ => r_len sl22 (hρ _ _ rfl)) rfl rfl rfl (w_n rfl) ?_
        refine TL_q (.bool false) (fun _ _ hρ _ => r_as (r_gtr (hρ _ _ rfl) (hρ _ _ rfl)) (bool_as (decide_eq_false c1))) rfl rfl rfl (w_n rfl) ?_
        refine TL_q (.bool false) (fun _ _ hρ _ => r_move (hρ _ _ rfl)) rfl rfl rfl (w_n rfl) ?_
        refine TL_q (.pointer (some ⟨B1, 1, none⟩)) (fun _ _ hρ _ => r_fieldAddr fl27_1 sz25 (hρ _ _ rfl)) rfl rfl rfl (want_y 7 rfl rfl rfl) ?_
        refine TL_q (.int .u64 lost) (fun _ _ hρ hm => r_load ag25 (hρ _ _ rfl) (hm.at 1 rfl) rfl) rfl rfl rfl (want_y 7 rfl rfl rfl) ?_
        refine TL_q (.bool false) (fun _ _ hρ _ => r_as (r_gtr (hρ _ _ rfl) (hρ _ _ rfl)) (bool_as (decide_eq_false c2))) rfl rfl rfl (want_y 7 rfl rfl rfl) ?_
        refine TL_q (.bool false) (fun _ _ hρ _ => r_pick_f (hρ _ _ rfl) (hρ _ _ rfl)) rfl rfl rfl (w_n rfl) ?_
        refine TL_q (.bool false) (fun _ _ hρ _ => r_move (hρ _ _ rfl)) rfl rfl rfl (w_n rfl) ?_
        refine TL_q (.pointer (some ⟨B1, 0, none⟩)) (fun _ _ hρ _ => r_fieldAddr fl27_0 sz22 (hρ _ _ rfl)) rfl rfl rfl (want_y 12 rfl rfl rfl) ?_
        refine TL_q (.slice a ps.length cap) (fun _ _ hρ hm => r_load ag22 (hρ _ _ rfl) (hm.at 1 rfl) rfl) rfl rfl rfl (want_y 12 rfl rfl rfl) ?_
        refine TL_call (.bool false) (fun _ _ hρ _ => r_call (args := [.slice a ps.length cap, .func (.func 65) #[] #[]]) (enters_of Try.func63 (by kernel_rfl) rfl) (hρ _ _ rfl) ((cons2 (hρ _ _ rfl) (cons2 (hρ _ _ rfl) rfl))) rfl) (fun w hm => (all_c ps a cap w (hv.keep hm.ext) hcap (hb.keep hm.ext) 65 #[] (enters_of Try.func65 (by kernel_rfl) rfl) (fun p => mayV p.pv) (fun w2 _ x _ => may_c x w2)).mono fun _ _ h => ⟨h.1.trans (congrArg Ending.returned (bool_as (eq_false_of_ne_true c3))), h.2⟩) rfl rfl rfl (want_y 12 rfl rfl rfl) ?_
        refine TL_q (.bool true) (fun _ _ hρ _ => r_not (b := false) (hρ _ _ rfl)) rfl rfl rfl (want_y 12 rfl rfl rfl) ?_
        refine TL_q (.bool true) (fun _ _ hρ _ => r_pick_f (hρ _ _ rfl) (hρ _ _ rfl)) rfl rfl rfl (w_n rfl) ?_
        refine TL_seq ?_
        refine T_cond_t rfl ?_
        refine T_seq (T_region ?_)
        refine TL_q (.int .i64 350) (fun _ _ hρ _ => r_assign (hρ _ _ rfl)) rfl rfl rfl (w_n rfl) ?_
        refine TL_seq ?_
        refine T_ret' ?_
        refine p_then_r ?_
        refine ret_of rfl (.int .i64 350) (fun tmps w hk hm => res1 rfl (res_tmp (hk 2 _ rfl))) (fun w hm => ?_)
        exact ⟨by rw [if_neg (check_no (.inr (.inr c3)))], hm.ext⟩

theorem yes_step {α : Type} {φ : α → Bool} {l : List α} {k : Nat} {p : α} (h : ∀ x ∈ l.take k, φ x = true) (hp : l[k]? = some p) (hf : φ p = true) : ∀ x ∈ l.take (k + 1), φ x = true := fun x hx => by
  rw [List.take_add_one, hp] at hx
  rcases List.mem_append.1 hx with h1 | h1
  · exact h x h1
  · rw [List.mem_singleton.1 h1]; exact hf
theorem all_false {α : Type} {φ : α → Bool} {l : List α} {k : Nat} {p : α} (hp : l[k]? = some p) (hf : φ p = false) : l.all φ = false := by
  cases e : l.all φ with
  | false => rfl
  | true => rw [List.all_eq_true.1 e p (List.mem_of_getElem? hp)] at hf; cases hf

theorem nright_c (ps : List Pcl) (a : Option Addr) (cap : Nat) (lost : Int) (w : World) (hv : SliceAt w a cap 3 Pcl.cells ps) (hcap : cap ≤ Go.maxLen) (hb : PcsAt w ps) : Calls Try.prog 22 #[.agg #[.slice a ps.length cap, .int .u64 lost]] w fun e w' => e = .returned (.bool (checkV (pvs ps) lost)) ∧ Below w.heap.size w w' := by
  have hvl := hv.1
  unfold Go.maxLen at hcap
  refine calls_of_T (l := [.agg #[.slice a ps.length cap, .int .u64 lost]]) 25 Try.func22 rfl rfl rfl ?_
  show T _ _ _ [(0, .agg #[.slice a ps.length cap, .int .u64 lost])] []
  refine T_seq (T_region ?_)
  refine TL_new 1 (.cells #[.slice a ps.length cap, .int .u64 lost] 27) (fun B => .pointer (some ⟨B, 0, none⟩)) (fun _ _ hρ _ => r_box (hρ _ _ rfl) rfl) rfl rfl rfl (w_n rfl) ?_
  intro B1
  refine TL_q (.bool false) (fun _ _ hρ _ => r_assign (hρ _ _ rfl)) rfl rfl rfl (w_n rfl) ?_
  refine TL_seq ?_
  refine T_seq ?_
  refine T_seq (T_region ?_)
  refine TL_q (.pointer (some ⟨B1, 0, none⟩)) (fun _ _ hρ _ => r_fieldAddr fl27_0 sz22 (hρ _ _ rfl)) rfl rfl rfl (w_n rfl) ?_
  refine TL_q (.slice a ps.length cap) (fun _ _ hρ hm => r_load ag22 (hρ _ _ rfl) (hm.at 1 rfl) rfl) rfl rfl rfl (w_n rfl) ?_
  refine TL_q (.int .i64 ((ps.length : Nat) : Int)) (fun _ _ hρ _ => r_len sl22 (hρ _ _ rfl)) rfl rfl rfl (w_n rfl) ?_
  refine TL_q (.int .i64 0) (fun _ _ hρ _ => r_move (hρ _ _ rfl)) rfl rfl rfl (w_n rfl) ?_
  refine TL_seq ?_
  refine T_block ?_
  refine T_loop (ι := Nat) (fun (k : Nat) => k ≤ ps.length ∧ ∀ x ∈ ps.take k, mayV x.pv = true) (fun (k : Nat) => [(1, .pointer (some ⟨B1, 0, none⟩)), (6, .slice a ps.length cap), (7, .int .i64 ((ps.length : Nat) : Int)), (8, .int .i64 ((k : Nat) : Int))]) (fun (k : Nat) => [(1, .blk B1 (.cells #[.slice a ps.length cap, .int .u64 lost] 27))]) (fun (k : Nat) => ps.length - k) 0 ⟨Nat.zero_le _, fun _ h => nomatch h⟩ (sub_cons rfl (sub_cons rfl (sub_cons rfl (sub_cons rfl sub_nil)))) (sub_cons rfl sub_nil) ?_
  rintro k hp
  obtain ⟨hk, hyes⟩ := hp
  show T _ _ _ [(1, .pointer (some ⟨B1, 0, none⟩)), (6, .slice a ps.length cap), (7, .int .i64 ((ps.length : Nat) : Int)), (8, .int .i64 ((k : Nat) : Int))] [(1, .blk B1 (.cells #[.slice a ps.length cap, .int .u64 lost] 27))]
  refine T_seq (T_region ?_)
  refine TL_q (.bool (decide (((k : Nat) : Int) < ((ps.length : Nat) : Int)))) (fun _ _ hρ _ => r_lss (hρ _ _ rfl) (hρ _ _ rfl)) rfl rfl rfl (w_n rfl) ?_
  refine TL_seq ?_
  refine T_seq ?_
  refine T_cond rfl (fun h1 => ?_) (fun h1 => ?_)
  · replace h1 := of_decide_eq_true h1
    refine T_skip' ?_
    refine p_seq ?_
    refine T_seq ?_
    refine T_block ?_
    obtain ⟨p, hp⟩ : ∃ x, ps[k]? = some x := ⟨_, List.getElem?_eq_getElem (by omega)⟩
    have hokp := hb p (List.mem_of_getElem? hp)
    obtain ⟨b2, of2, cs2, T2, fz2, ha2, hq2, hr2⟩ := hv.open (i := k) (by omega)
    subst ha2
    refine T_seq (T_region ?_)
    refine TL_q (.pointer (some ⟨b2, of2 + k * 3, none⟩)) (fun _ _ hρ _ => r_indexAddrS (i := k) sl22 sz36 (hρ _ _ rfl) (hρ _ _ rfl) (by omega)) rfl rfl rfl (w_n rfl) ?_
    refine TL_q (.agg #[.int .i64 p.to, .slice p.r.a p.r.l.length p.r.cap, .bool p.sp]) (fun _ _ hρ hm => r_loadRow (f := Pcl.cells) (u := p) ag36 sz36 (hρ _ _ rfl) (hm.old hq2) hr2 hp) rfl rfl rfl (w_n rfl) ?_
    refine TL_new 2 (.cells #[.int .i64 0, .slice none 0 0, .bool false] 36) (fun B => .pointer (some ⟨B, 0, none⟩)) (fun _ _ _ _ => r_alloc (v := .agg #[.int .i64 0, .slice none 0 0, .bool false]) (by kernel_rfl) rfl) rfl rfl rfl (w_n rfl) ?_
    intro B3
    refine TL_store 2 (.cells #[.int .i64 p.to, .slice p.r.a p.r.l.length p.r.cap, .bool p.sp] 36) rfl (fun _ _ hρ hm => r_store sz36 (hρ _ _ rfl) (hρ _ _ rfl) (hm.at 2 rfl) rfl rfl rfl rfl) rfl rfl (w_n rfl) ?_
    refine TL_seq ?_
    by_cases hmp : mayV p.pv = true
    · skip
      refine T_seq (T_region ?_)
      refine TL_q (.agg #[.int .i64 p.to, .slice p.r.a p.r.l.length p.r.cap, .bool p.sp]) (fun _ _ hρ hm => r_loadA ag36 sz36 (hρ _ _ rfl) (hm.at 2 rfl) rfl rfl) rfl rfl rfl (w_n rfl) ?_
      refine TL_call (.bool true) (fun _ _ hρ _ => r_call (args := [.agg #[.int .i64 p.to, .slice p.r.a p.r.l.length p.r.cap, .bool p.sp]]) (enters_of Try.func34 (by kernel_rfl) rfl) (hρ _ _ rfl) ((cons2 (hρ _ _ rfl) rfl)) rfl) (fun w _ => (rmay_c p w).mono fun _ _ h => ⟨h.1.trans (congrArg Ending.returned (bool_as hmp)), h.2⟩) rfl rfl rfl (w_n rfl) ?_
      refine TL_q (.bool false) (fun _ _ hρ _ => r_not (b := true) (hρ _ _ rfl)) rfl rfl rfl (w_n rfl) ?_
      refine TL_seq ?_
      refine T_cond_f rfl ?_
      refine T_skip' ?_
      refine p_blk_n ?_
      refine p_seq ?_
      refine T_region ?_
      refine TL_q (.int .i64 ((k + 1 : Nat) : Int)) (fun _ _ hρ _ => r_as (r_add (hρ _ _ rfl) (hρ _ _ rfl)) (int_as ((wrap64 (by omega) (by omega)).trans (by omega)))) rfl rfl rfl (w_n rfl) ?_
      refine TL_q (.int .i64 ((k + 1 : Nat) : Int)) (fun _ _ hρ _ => r_move (hρ _ _ rfl)) rfl rfl rfl (w_n rfl) ?_
      refine TL_nil ?_
      exact p_at (k + 1) ⟨⟨by omega, yes_step hyes hp hmp⟩, by omega⟩ (sub_cons rfl (sub_cons rfl (sub_cons rfl (sub_cons rfl sub_nil)))) (sub_cons rfl sub_nil)
    · skip
      refine T_seq (T_region ?_)
      refine TL_q (.agg #[.int .i64 p.to, .slice p.r.a p.r.l.length p.r.cap, .bool p.sp]) (fun _ _ hρ hm => r_loadA ag36 sz36 (hρ _ _ rfl) (hm.at 2 rfl) rfl rfl) rfl rfl rfl (w_n rfl) ?_
      refine TL_call (.bool false) (fun _ _ hρ _ => r_call (args := [.agg #[.int .i64 p.to, .slice p.r.a p.r.l.length p.r.cap, .bool p.sp]]) (enters_of Try.func34 (by kernel_rfl) rfl) (hρ _ _ rfl) ((cons2 (hρ _ _ rfl) rfl)) rfl) (fun w _ => (rmay_c p w).mono fun _ _ h => ⟨h.1.trans (congrArg Ending.returned (bool_as (eq_false_of_ne_true hmp))), h.2⟩) rfl rfl rfl (w_n rfl) ?_
      refine TL_q (.bool true) (fun _ _ hρ _ => r_not (b := false) (hρ _ _ rfl)) rfl rfl rfl (w_n rfl) ?_
      refine TL_seq ?_
      refine T_cond_t rfl ?_
      refine T_seq (T_region ?_)
      refine TL_q (.bool false) (fun _ _ hρ _ => r_assign (hρ _ _ rfl)) rfl rfl rfl (w_n rfl) ?_
      refine TL_seq ?_
      refine T_ret' ?_
      refine p_blk_r ?_
      refine p_then_r ?_
      refine p_then_r ?_
      refine p_blk_r ?_
      refine p_then_r ?_
      refine ret_of rfl (.bool false) (fun tmps w hk hm => res1 rfl (res_tmp (hk 2 _ rfl))) (fun w hm => ?_)
      exact ⟨congrArg Ending.returned (bool_as (by rw [check_all, all_false hp (eq_false_of_ne_true hmp), Bool.and_false])), hm.ext⟩
  · replace h1 := of_decide_eq_false h1
    refine T_exit' ?_
    refine p_then_x ?_
    refine p_then_x ?_
    refine p_blk_x ?_
    refine p_seq ?_
    by_cases c4 : ((ps.length : Nat) : Int) ≤ 64
    · skip
      refine T_seq (T_region ?_)
      refine TL_q (.pointer (some ⟨B1, 0, none⟩)) (fun _ _ hρ _ => r_fieldAddr fl27_0 sz22 (hρ _ _ rfl)) rfl rfl rfl (w_n rfl) ?_
      refine TL_q (.slice a ps.length cap) (fun _ _ hρ hm => r_load ag22 (hρ _ _ rfl) (hm.at 1 rfl) rfl) rfl rfl rfl (w_n rfl) ?_
      refine TL_q (.int .i64 ((ps.length : Nat) : Int)) (fun _ _ hρ _ => r_len sl22 (hρ _ _ rfl)) rfl rfl rfl (w_n rfl) ?_
      refine TL_q (.bool true) (fun _ _ hρ _ => r_as (r_leq (hρ _ _ rfl) (hρ _ _ rfl)) (bool_as (decide_eq_true c4))) rfl rfl rfl (w_n rfl) ?_
      refine TL_q (.bool true) (fun _ _ hρ _ => r_move (hρ _ _ rfl)) rfl rfl rfl (w_n rfl) ?_
      refine TL_q (.pointer (some ⟨B1, 1, none⟩)) (fun _ _ hρ _ => r_fieldAddr fl27_1 sz25 (hρ _ _ rfl)) rfl rfl rfl (want_y 20 rfl rfl rfl) ?_
      refine TL_q (.int .u64 lost) (fun _ _ hρ hm => r_load ag25 (hρ _ _ rfl) (hm.at 1 rfl) rfl) rfl rfl rfl (want_y 20 rfl rfl rfl) ?_
      refine TL_q (.bool (decide (lost ≤ 4611686018427387904))) (fun _ _ hρ _ => r_leq (hρ _ _ rfl) (hρ _ _ rfl)) rfl rfl rfl (want_y 20 rfl rfl rfl) ?_
      refine TL_q (.bool (decide (lost ≤ 4611686018427387904))) (fun _ _ hρ _ => r_pick_t (hρ _ _ rfl) (hρ _ _ rfl)) rfl rfl rfl (w_n rfl) ?_
      refine TL_q (.bool (decide (lost ≤ 4611686018427387904))) (fun _ _ hρ _ => r_assign (hρ _ _ rfl)) rfl rfl rfl (w_n rfl) ?_
      refine TL_seq ?_
      refine T_ret' ?_
      refine ret_of rfl (.bool (decide (lost ≤ 4611686018427387904))) (fun tmps w hk hm => res1 rfl (res_tmp (hk 2 _ rfl))) (fun w hm => ?_)
      have hke : k = ps.length := by omega
      subst hke
      rw [List.take_length] at hyes
      exact ⟨congrArg Ending.returned (bool_as (by rw [check_all, decide_eq_true (show ps.length ≤ 64 by omega), List.all_eq_true.2 hyes, Bool.true_and, Bool.and_true])), hm.ext⟩
    · skip
      refine T_seq (T_region ?_)
      refine TL_q (.pointer (some ⟨B1, 0, none⟩)) (fun _ _ hρ _ => r_fieldAddr fl27_0 sz22 (hρ _ _ rfl)) rfl rfl rfl (w_n rfl) ?_
      refine TL_q (.slice a ps.length cap) (fun _ _ hρ hm => r_load ag22 (hρ _ _ rfl) (hm.at 1 rfl) rfl) rfl rfl rfl (w_n rfl) ?_
      refine TL_q (.int .i64 ((ps.length : Nat) : Int)) (fun _ _ hρ _ => r_len sl22 (hρ _ _ rfl)) rfl rfl rfl (w_n rfl) ?_
      refine TL_q (.bool false) (fun _ _ hρ _ => r_as (r_leq (hρ _ _ rfl) (hρ _ _ rfl)) (bool_as (decide_eq_false c4))) rfl rfl rfl (w_n rfl) ?_
      refine TL_q (.bool false) (fun _ _ hρ _ => r_move (hρ _ _ rfl)) rfl rfl rfl (w_n rfl) ?_
      refine TL_no rfl rfl (want_n 20 rfl rfl rfl) ?_
      refine TL_no rfl rfl (want_n 20 rfl rfl rfl) ?_
      refine TL_no rfl rfl (want_n 20 rfl rfl rfl) ?_
      refine TL_q (.bool false) (fun _ _ hρ _ => r_pick_f (hρ _ _ rfl) (hρ _ _ rfl)) rfl rfl rfl (w_n rfl) ?_
      refine TL_q (.bool false) (fun _ _ hρ _ => r_assign (hρ _ _ rfl)) rfl rfl rfl (w_n rfl) ?_
      refine TL_seq ?_
      refine T_ret' ?_
      refine ret_of rfl (.bool false) (fun tmps w hk hm => res1 rfl (res_tmp (hk 2 _ rfl))) (fun w hm => ?_)
      exact ⟨congrArg Ending.returned (bool_as (by rw [check_all, decide_eq_false (show ¬ ps.length ≤ 64 by omega), Bool.false_and, Bool.false_and])), hm.ext⟩

theorem rsameb_c (l : List By) (a : Option Addr) (ca : Nat) (m : List By) (b : Option Addr) (cb : Nat) (w : World) (hv : SliceAt w a ca 1 byc l) (hu : SliceAt w b cb 1 byc m) (hl : l.length ≤ 4611686018427387904) (hl' : m.length ≤ 4611686018427387904) : Calls Try.prog 73 #[.slice a l.length ca, .slice b m.length cb] w fun e w' => e = .returned (.bool (decide (l = m))) ∧ Below w.heap.size w w' := by
  have hvl := hv.1
  have hul := hu.1
  refine calls_of_T (l := [.slice a l.length ca, .slice b m.length cb]) 26 Try.func73 rfl rfl rfl ?_
  show T _ _ _ [(0, .slice a l.length ca), (1, .slice b m.length cb)] []
  refine T_seq (T_region ?_)
  refine TL_q (.bool false) (fun _ _ hρ _ => r_assign (hρ _ _ rfl)) rfl rfl rfl (w_n rfl) ?_
  refine TL_seq ?_
  refine T_seq ?_
  by_cases c1 : ((l.length : Nat) : Int) = ((m.length : Nat) : Int)
  · skip
    refine T_seq (T_region ?_)
    refine TL_q (.slice a l.length ca) (fun _ _ hρ _ => r_move (hρ _ _ rfl)) rfl rfl rfl (w_n rfl) ?_
    refine TL_q (.int .i64 ((l.length : Nat) : Int)) (fun _ _ hρ _ => r_len sl34 (hρ _ _ rfl)) rfl rfl rfl (w_n rfl) ?_
    refine TL_q (.slice b m.length cb) (fun _ _ hρ _ => r_move (hρ _ _ rfl)) rfl rfl rfl (w_n rfl) ?_
    refine TL_q (.int .i64 ((m.length : Nat) : Int)) (fun _ _ hρ _ => r_len sl34 (hρ _ _ rfl)) rfl rfl rfl (w_n rfl) ?_
    refine TL_q (.bool false) (fun _ _ hρ _ => r_as (r_neq (hρ _ _ rfl) (hρ _ _ rfl)) (bool_as (by rw [decide_eq_true c1]; rfl))) rfl rfl rfl (w_n rfl) ?_
    refine TL_seq ?_
    refine T_cond_f rfl ?_
    refine T_skip' ?_
    refine p_seq ?_
    refine T_seq ?_
    refine T_seq (T_region ?_)
    refine TL_q (.slice a l.length ca) (fun _ _ hρ _ => r_move (hρ _ _ rfl)) rfl rfl rfl (w_n rfl) ?_
    refine TL_q (.int .i64 ((l.length : Nat) : Int)) (fun _ _ hρ _ => r_len sl34 (hρ _ _ rfl)) rfl rfl rfl (w_n rfl) ?_
    refine TL_q (.int .i64 0) (fun _ _ hρ _ => r_move (hρ _ _ rfl)) rfl rfl rfl (w_n rfl) ?_
    refine TL_seq ?_
    refine T_block ?_
    refine T_loop (ι := Nat) (fun (k : Nat) => k ≤ l.length ∧ l.take k = m.take k) (fun (k : Nat) => [(1, .slice b m.length cb), (12, .slice a l.length ca), (13, .int .i64 ((l.length : Nat) : Int)), (14, .int .i64 ((k : Nat) : Int))]) (fun (k : Nat) => []) (fun (k : Nat) => l.length - k) 0 ⟨Nat.zero_le _, by simp⟩ (sub_cons rfl (sub_cons rfl (sub_cons rfl (sub_cons rfl sub_nil)))) sub_nil ?_
    rintro k hp
    obtain ⟨hk1, hk2⟩ := hp
    show T _ _ _ [(1, .slice b m.length cb), (12, .slice a l.length ca), (13, .int .i64 ((l.length : Nat) : Int)), (14, .int .i64 ((k : Nat) : Int))] []
    refine T_seq (T_region ?_)
    refine TL_q (.bool (decide (((k : Nat) : Int) < ((l.length : Nat) : Int)))) (fun _ _ hρ _ => r_lss (hρ _ _ rfl) (hρ _ _ rfl)) rfl rfl rfl (w_n rfl) ?_
    refine TL_seq ?_
    refine T_seq ?_
    refine T_cond rfl (fun h1 => ?_) (fun h1 => ?_)
    · replace h1 := of_decide_eq_true h1
      refine T_skip' ?_
      refine p_seq ?_
      refine T_seq ?_
      refine T_block ?_
      obtain ⟨x, hx⟩ : ∃ x, l[k]? = some x := ⟨_, List.getElem?_eq_getElem (by omega)⟩
      obtain ⟨y, hy⟩ : ∃ x, m[k]? = some x := ⟨_, List.getElem?_eq_getElem (by omega)⟩
      obtain ⟨b1, of1, cs1, T1, fz1, ha1, hq1, hr1⟩ := hv.open (i := k) (by omega)
      subst ha1
      obtain ⟨b2, of2, cs2, T2, fz2, ha2, hq2, hr2⟩ := hu.open (i := k) (by omega)
      subst ha2
      refine T_seq (T_region ?_)
      refine TL_q (.int .i64 ((k : Nat) : Int)) (fun _ _ hρ _ => r_move (hρ _ _ rfl)) rfl rfl rfl (w_n rfl) ?_
      refine TL_q (.pointer (some ⟨b1, of1 + k * 1, none⟩)) (fun _ _ hρ _ => r_indexAddrS (i := k) sl34 sz5 (hρ _ _ rfl) (hρ _ _ rfl) (by omega)) rfl rfl rfl (w_n rfl) ?_
      refine TL_q (.int .u8 ((x).toNat : Int)) (fun _ _ hρ hm => r_loadRow1 (f := byc) (u := x) ag5 (hρ _ _ rfl) (hm.old hq1) hr1 hx rfl) rfl rfl rfl (w_n rfl) ?_
      refine TL_q (.int .i64 ((k : Nat) : Int)) (fun _ _ hρ _ => r_assign (hρ _ _ rfl)) rfl rfl rfl (w_n rfl) ?_
      refine TL_q (.int .u8 ((x).toNat : Int)) (fun _ _ hρ _ => r_assign (hρ _ _ rfl)) rfl rfl rfl (w_n rfl) ?_
      refine TL_seq ?_
      refine T_seq (T_region ?_)
      refine TL_q (.int .u8 ((x).toNat : Int)) (fun _ _ hρ _ => r_move (hρ _ _ rfl)) rfl rfl rfl (w_n rfl) ?_
      refine TL_q (.slice (some ⟨b2, of2, none⟩) m.length cb) (fun _ _ hρ _ => r_move (hρ _ _ rfl)) rfl rfl rfl (w_n rfl) ?_
      refine TL_q (.int .i64 ((k : Nat) : Int)) (fun _ _ hρ _ => r_move (hρ _ _ rfl)) rfl rfl rfl (w_n rfl) ?_
      refine TL_q (.pointer (some ⟨b2, of2 + k * 1, none⟩)) (fun _ _ hρ _ => r_indexAddrS (i := k) sl34 sz5 (hρ _ _ rfl) (hρ _ _ rfl) (by omega)) rfl rfl rfl (w_n rfl) ?_
      refine TL_q (.int .u8 ((y).toNat : Int)) (fun _ _ hρ hm => r_loadRow1 (f := byc) (u := y) ag5 (hρ _ _ rfl) (hm.old hq2) hr2 hy rfl) rfl rfl rfl (w_n rfl) ?_
      refine TL_q (.bool (!decide (x = y))) (fun _ _ hρ _ => r_as (r_neq (hρ _ _ rfl) (hρ _ _ rfl)) (bool_as (congrArg (fun b => !b) (bv_dec x y)))) rfl rfl rfl (w_n rfl) ?_
      refine TL_seq ?_
      refine T_cond rfl (fun h2 => ?_) (fun h2 => ?_)
      · replace h2 := of_decide_eq_false (bnot_t h2)
        refine T_seq (T_region ?_)
        refine TL_q (.bool false) (fun _ _ hρ _ => r_assign (hρ _ _ rfl)) rfl rfl rfl (w_n rfl) ?_
        refine TL_seq ?_
        refine T_ret' ?_
        refine p_blk_r ?_
        refine p_then_r ?_
        refine p_then_r ?_
        refine p_blk_r ?_
        refine p_then_r ?_
        refine ret_of rfl (.bool false) (fun tmps w hk hm => res1 rfl (res_tmp (hk 4 _ rfl))) (fun w hm => ?_)
        exact ⟨congrArg Ending.returned (bool_as (decide_eq_false (fun e => h2 (by subst e; rw [hx] at hy; exact Option.some.inj hy))).symm), hm.ext⟩
      · replace h2 := of_decide_eq_true (bnot_f h2)
        refine T_skip' ?_
        refine p_blk_n ?_
        refine p_seq ?_
        refine T_region ?_
        refine TL_q (.int .i64 ((k + 1 : Nat) : Int)) (fun _ _ hρ _ => r_as (r_add (hρ _ _ rfl) (hρ _ _ rfl)) (int_as ((wrap64 (by omega) (by omega)).trans (by omega)))) rfl rfl rfl (w_n rfl) ?_
        refine TL_q (.int .i64 ((k + 1 : Nat) : Int)) (fun _ _ hρ _ => r_move (hρ _ _ rfl)) rfl rfl rfl (w_n rfl) ?_
        refine TL_nil ?_
        exact p_at (k + 1) ⟨⟨by omega, by rw [List.take_add_one, List.take_add_one, hx, hy, hk2, h2]⟩, by omega⟩ (sub_cons rfl (sub_cons rfl (sub_cons rfl (sub_cons rfl sub_nil)))) sub_nil
    · replace h1 := of_decide_eq_false h1
      refine T_exit' ?_
      refine p_then_x ?_
      refine p_then_x ?_
      refine p_blk_x ?_
      refine p_seq ?_
      refine T_seq (T_region ?_)
      refine TL_q (.bool true) (fun _ _ hρ _ => r_assign (hρ _ _ rfl)) rfl rfl rfl (w_n rfl) ?_
      refine TL_seq ?_
      refine T_ret' ?_
      refine ret_of rfl (.bool true) (fun tmps w hk hm => res1 rfl (res_tmp (hk 4 _ rfl))) (fun w hm => ?_)
      have hke : k = l.length := by omega
      subst hke
      rw [List.take_length, show l.length = m.length by omega, List.take_length] at hk2
      exact ⟨congrArg Ending.returned (bool_as (decide_eq_true hk2).symm), hm.ext⟩
  · skip
    refine T_seq (T_region ?_)
    refine TL_q (.slice a l.length ca) (fun _ _ hρ _ => r_move (hρ _ _ rfl)) rfl rfl rfl (w_n rfl) ?_
    refine TL_q (.int .i64 ((l.length : Nat) : Int)) (fun _ _ hρ _ => r_len sl34 (hρ _ _ rfl)) rfl rfl rfl (w_n rfl) ?_
    refine TL_q (.slice b m.length cb) (fun _ _ hρ _ => r_move (hρ _ _ rfl)) rfl rfl rfl (w_n rfl) ?_
    refine TL_q (.int .i64 ((m.length : Nat) : Int)) (fun _ _ hρ _ => r_len sl34 (hρ _ _ rfl)) rfl rfl rfl (w_n rfl) ?_
    refine TL_q (.bool true) (fun _ _ hρ _ => r_as (r_neq (hρ _ _ rfl) (hρ _ _ rfl)) (bool_as (by rw [decide_eq_false c1]; rfl))) rfl rfl rfl (w_n rfl) ?_
    refine TL_seq ?_
    refine T_cond_t rfl ?_
    refine T_seq (T_region ?_)
    refine TL_q (.bool false) (fun _ _ hρ _ => r_assign (hρ _ _ rfl)) rfl rfl rfl (w_n rfl) ?_
    refine TL_seq ?_
    refine T_ret' ?_
    refine p_then_r ?_
    refine ret_of rfl (.bool false) (fun tmps w hk hm => res1 rfl (res_tmp (hk 4 _ rfl))) (fun w hm => ?_)
    exact ⟨congrArg Ending.returned (bool_as (decide_eq_false (fun e => c1 (by rw [e]))).symm), hm.ext⟩

theorem pv_ext {x y : Pcl} (h1 : x.to = y.to) (h2 : x.sp = y.sp) (h3 : x.r.l = y.r.l) : x.pv = y.pv := by unfold Pcl.pv; rw [h1, h2, h3]

theorem rpsame_c (x y : Pcl) (w : World) (hx : x.ok w) (hy : y.ok w) : Calls Try.prog 26 #[x.v, y.v] w fun e w' => e = .returned (.bool (decide (x.pv = y.pv))) ∧ Below w.heap.size w w' := by
  have hxl := hx.1.1
  have hyl := hy.1.1
  have hxc := hx.2.1
  have hyc := hy.2.1
  unfold Go.maxLen at hxc hyc
  refine calls_of_T (l := [.agg #[.int .i64 x.to, .slice x.r.a x.r.l.length x.r.cap, .bool x.sp], .agg #[.int .i64 y.to, .slice y.r.a y.r.l.length y.r.cap, .bool y.sp]]) 24 Try.func26 rfl rfl rfl ?_
  show T _ _ _ [(0, .agg #[.int .i64 x.to, .slice x.r.a x.r.l.length x.r.cap, .bool x.sp]), (1, .agg #[.int .i64 y.to, .slice y.r.a y.r.l.length y.r.cap, .bool y.sp])] []
  refine T_seq (T_region ?_)
  refine TL_new 1 (.cells #[.int .i64 x.to, .slice x.r.a x.r.l.length x.r.cap, .bool x.sp] 36) (fun B => .pointer (some ⟨B, 0, none⟩)) (fun _ _ hρ _ => r_box (hρ _ _ rfl) rfl) rfl rfl rfl (w_n rfl) ?_
  intro B1
  refine TL_new 2 (.cells #[.int .i64 y.to, .slice y.r.a y.r.l.length y.r.cap, .bool y.sp] 36) (fun B => .pointer (some ⟨B, 0, none⟩)) (fun _ _ hρ _ => r_box (hρ _ _ rfl) rfl) rfl rfl rfl (w_n rfl) ?_
  intro B2
  refine TL_q (.bool false) (fun _ _ hρ _ => r_assign (hρ _ _ rfl)) rfl rfl rfl (w_n rfl) ?_
  refine TL_seq ?_
  by_cases c1 : x.to = y.to
  · skip
    by_cases c2 : x.sp = y.sp
    · skip
      by_cases c3 : x.r.l = y.r.l
      · skip
        refine T_seq (T_region ?_)
        refine TL_q (.pointer (some ⟨B1, 0, none⟩)) (fun _ _ hρ _ => r_fieldAddr fl36_0 sz3 (hρ _ _ rfl)) rfl rfl rfl (w_n rfl) ?_
        refine TL_q (.int .i64 x.to) (fun _ _ hρ hm => r_load ag3 (hρ _ _ rfl) (hm.at 1 rfl) rfl) rfl rfl rfl (w_n rfl) ?_
        refine TL_q (.pointer (some ⟨B2, 0, none⟩)) (fun _ _ hρ _ => r_fieldAddr fl36_0 sz3 (hρ _ _ rfl)) rfl rfl rfl (w_n rfl) ?_
        refine TL_q (.int .i64 y.to) (fun _ _ hρ hm => r_load ag3 (hρ _ _ rfl) (hm.at 2 rfl) rfl) rfl rfl rfl (w_n rfl) ?_
        refine TL_q (.bool true) (fun _ _ hρ _ => r_as (r_eql (hρ _ _ rfl) (hρ _ _ rfl)) (bool_as (decide_eq_true c1))) rfl rfl rfl (w_n rfl) ?_
        refine TL_q (.bool true) (fun _ _ hρ _ => r_move (hρ _ _ rfl)) rfl rfl rfl (w_n rfl) ?_
        refine TL_q (.pointer (some ⟨B1, 2, none⟩)) (fun _ _ hρ _ => r_fieldAddr fl36_2 sz4 (hρ _ _ rfl)) rfl rfl rfl (want_y 10 rfl rfl rfl) ?_
        refine TL_q (.bool x.sp) (fun _ _ hρ hm => r_load ag4 (hρ _ _ rfl) (hm.at 1 rfl) rfl) rfl rfl rfl (want_y 10 rfl rfl rfl) ?_
        refine TL_q (.pointer (some ⟨B2, 2, none⟩)) (fun _ _ hρ _ => r_fieldAddr fl36_2 sz4 (hρ _ _ rfl)) rfl rfl rfl (want_y 10 rfl rfl rfl) ?_
        refine TL_q (.bool y.sp) (fun _ _ hρ hm => r_load ag4 (hρ _ _ rfl) (hm.at 2 rfl) rfl) rfl rfl rfl (want_y 10 rfl rfl rfl) ?_
        refine TL_q (.bool true) (fun _ _ hρ _ => r_as (r_eqlB (by kernel_rfl) (hρ _ _ rfl) (hρ _ _ rfl)) (bool_as (beq_iff_eq.2 c2))) rfl rfl rfl (want_y 10 rfl rfl rfl) ?_
        refine TL_q (.bool true) (fun _ _ hρ _ => r_pick_t (hρ _ _ rfl) (hρ _ _ rfl)) rfl rfl rfl (w_n rfl) ?_
        refine TL_q (.bool true) (fun _ _ hρ _ => r_move (hρ _ _ rfl)) rfl rfl rfl (w_n rfl) ?_
        refine TL_q (.pointer (some ⟨B1, 1, none⟩)) (fun _ _ hρ _ => r_fieldAddr fl36_1 sz34 (hρ _ _ rfl)) rfl rfl rfl (want_y 17 rfl rfl rfl) ?_
        refine TL_q (.slice x.r.a x.r.l.length x.r.cap) (fun _ _ hρ hm => r_load ag34 (hρ _ _ rfl) (hm.at 1 rfl) rfl) rfl rfl rfl (want_y 17 rfl rfl rfl) ?_
        refine TL_q (.pointer (some ⟨B2, 1, none⟩)) (fun _ _ hρ _ => r_fieldAddr fl36_1 sz34 (hρ _ _ rfl)) rfl rfl rfl (want_y 17 rfl rfl rfl) ?_
        refine TL_q (.slice y.r.a y.r.l.length y.r.cap) (fun _ _ hρ hm => r_load ag34 (hρ _ _ rfl) (hm.at 2 rfl) rfl) rfl rfl rfl (want_y 17 rfl rfl rfl) ?_
        refine TL_call (.bool true) (fun _ _ hρ _ => r_call (args := [.slice x.r.a x.r.l.length x.r.cap, .slice y.r.a y.r.l.length y.r.cap]) (enters_of Try.func73 (by kernel_rfl) rfl) (hρ _ _ rfl) ((cons2 (hρ _ _ rfl) (cons2 (hρ _ _ rfl) rfl))) rfl) (fun w hm => (rsameb_c x.r.l x.r.a x.r.cap y.r.l y.r.a y.r.cap w (hx.1.keep hm.ext) (hy.1.keep hm.ext) (len62 hx) (len62 hy)).mono fun _ _ h => ⟨h.1.trans (congrArg Ending.returned (bool_as (decide_eq_true c3))), h.2⟩) rfl rfl rfl (want_y 17 rfl rfl rfl) ?_
        refine TL_q (.bool true) (fun _ _ hρ _ => r_pick_t (hρ _ _ rfl) (hρ _ _ rfl)) rfl rfl rfl (w_n rfl) ?_
        refine TL_q (.bool true) (fun _ _ hρ _ => r_assign (hρ _ _ rfl)) rfl rfl rfl (w_n rfl) ?_
        refine TL_seq ?_
        refine T_ret' ?_
        refine ret_of rfl (.bool true) (fun tmps w hk hm => res1 rfl (res_tmp (hk 4 _ rfl))) (fun w hm => ?_)
        exact ⟨congrArg Ending.returned (bool_as (decide_eq_true (pv_ext c1 c2 c3)).symm), hm.ext⟩
      · skip
        refine T_seq (T_region ?_)
        refine TL_q (.pointer (some ⟨B1, 0, none⟩)) (fun _ _ hρ _ => r_fieldAddr fl36_0 sz3 (hρ _ _ rfl)) rfl rfl rfl (w_n rfl) ?_
        refine TL_q (.int .i64 x.to) (fun _ _ hρ hm => r_load ag3 (hρ _ _ rfl) (hm.at 1 rfl) rfl) rfl rfl rfl (w_n rfl) ?_
        refine TL_q (.pointer (some ⟨B2, 0, none⟩)) (fun _ _ hρ _ => r_fieldAddr fl36_0 sz3 (hρ _ _ rfl)) rfl rfl rfl (w_n rfl) ?_
        refine TL_q (.int .i64 y.to) (fun _ _ hρ hm => r_load ag3 (hρ _ _ rfl) (hm.at 2 rfl) rfl) rfl rfl rfl (w_n rfl) ?_
        refine TL_q (.bool true) (fun _ _ hρ _ => r_as (r_eql (hρ _ _ rfl) (hρ _ _ rfl)) (bool_as (decide_eq_true c1))) rfl rfl rfl (w_n rfl) ?_
        refine TL_q (.bool true) (fun _ _ hρ _ => r_move (hρ _ _ rfl)) rfl rfl rfl (w_n rfl) ?_
        refine TL_q (.pointer (some ⟨B1, 2, none⟩)) (fun _ _ hρ _ => r_fieldAddr fl36_2 sz4 (hρ _ _ rfl)) rfl rfl rfl (want_y 10 rfl rfl rfl) ?_
        refine TL_q (.bool x.sp) (fun _ _ hρ hm => r_load ag4 (hρ _ _ rfl) (hm.at 1 rfl) rfl) rfl rfl rfl (want_y 10 rfl rfl rfl) ?_
        refine TL_q (.pointer (some ⟨B2, 2, none⟩)) (fun _ _ hρ _ => r_fieldAddr fl36_2 sz4 (hρ _ _ rfl)) rfl rfl rfl (want_y 10 rfl rfl rfl) ?_
        refine TL_q (.bool y.sp) (fun _ _ hρ hm => r_load ag4 (hρ _ _ rfl) (hm.at 2 rfl) rfl) rfl rfl rfl (want_y 10 rfl rfl rfl) ?_
        refine TL_q (.bool true) (fun _ _ hρ _ => r_as (r_eqlB (by kernel_rfl) (hρ _ _ rfl) (hρ _ _ rfl)) (bool_as (beq_iff_eq.2 c2))) rfl rfl rfl (want_y 10 rfl rfl rfl) ?_
        refine TL_q (.bool true) (fun _ _ hρ _ => r_pick_t (hρ _ _ rfl) (hρ _ _ rfl)) rfl rfl rfl (w_n rfl) ?_
        refine TL_q (.bool true) (fun _ _ hρ _ => r_move (hρ _ _ rfl)) rfl rfl rfl (w_n rfl) ?_
        refine TL_q (.pointer (some ⟨B1, 1, none⟩)) (fun _ _ hρ _ => r_fieldAddr fl36_1 sz34 (hρ _ _ rfl)) rfl rfl rfl (want_y 17 rfl rfl rfl) ?_
        refine TL_q (.slice x.r.a x.r.l.length x.r.cap) (fun _ _ hρ hm => r_load ag34 (hρ _ _ rfl) (hm.at 1 rfl) rfl) rfl rfl rfl (want_y 17 rfl rfl rfl) ?_
        refine TL_q (.pointer (some ⟨B2, 1, none⟩)) (fun _ _ hρ _ => r_fieldAddr fl36_1 sz34 (hρ _ _ rfl)) rfl rfl rfl (want_y 17 rfl rfl rfl) ?_
        refine TL_q (.slice y.r.a y.r.l.length y.r.cap) (fun _ _ hρ hm => r_load ag34 (hρ _ _ rfl) (hm.at 2 rfl) rfl) rfl rfl rfl (want_y 17 rfl rfl rfl) ?_
        refine TL_call (.bool false) (fun _ _ hρ _ => r_call (args := [.slice x.r.a x.r.l.length x.r.cap, .slice y.r.a y.r.l.length y.r.cap]) (enters_of Try.func73 (by kernel_rfl) rfl) (hρ _ _ rfl) ((cons2 (hρ _ _ rfl) (cons2 (hρ _ _ rfl) rfl))) rfl) (fun w hm => (rsameb_c x.r.l x.r.a x.r.cap y.r.l y.r.a y.r.cap w (hx.1.keep hm.ext) (hy.1.keep hm.ext) (len62 hx) (len62 hy)).mono fun _ _ h => ⟨h.1.trans (congrArg Ending.returned (bool_as (decide_eq_false c3))), h.2⟩) rfl rfl rfl (want_y 17 rfl rfl rfl) ?_
        refine TL_q (.bool false) (fun _ _ hρ _ => r_pick_t (hρ _ _ rfl) (hρ _ _ rfl)) rfl rfl rfl (w_n rfl) ?_
        refine TL_q (.bool false) (fun _ _ hρ _ => r_assign (hρ _ _ rfl)) rfl rfl rfl (w_n rfl) ?_
        refine TL_seq ?_
        refine T_ret' ?_
        refine ret_of rfl (.bool false) (fun tmps w hk hm => res1 rfl (res_tmp (hk 4 _ rfl))) (fun w hm => ?_)
        exact ⟨congrArg Ending.returned (bool_as (decide_eq_false (fun e => c3 (congrArg PV.l e))).symm), hm.ext⟩
    · skip
      refine T_seq (T_region ?_)
      refine TL_q (.pointer (some ⟨B1, 0, none⟩)) (fun _ _ hρ _ => r_fieldAddr fl36_0 sz3 (hρ _ _ rfl)) rfl rfl rfl (w_n rfl) ?_
      refine TL_q (.int .i64 x.to) (fun _ _ hρ hm => r_load ag3 (hρ _ _ rfl) (hm.at 1 rfl) rfl) rfl rfl rfl (w_n rfl) ?_
      refine TL_q (.pointer (some ⟨B2, 0, none⟩)) (fun _ _ hρ _ => r_fieldAddr fl36_0 sz3 (hρ _ _ rfl)) rfl rfl rfl (w_n rfl) ?_
      refine TL_q (.int .i64 y.to) (fun _ _ hρ hm => r_load ag3 (hρ _ _ rfl) (hm.at 2 rfl) rfl) rfl rfl rfl (w_n rfl) ?_
      refine TL_q (.bool true) (fun _ _ hρ _ => r_as (r_eql (hρ _ _ rfl) (hρ _ _ rfl)) (bool_as (decide_eq_true c1))) rfl rfl rfl (w_n rfl) ?_
      refine TL_q (.bool true) (fun _ _ hρ _ => r_move (hρ _ _ rfl)) rfl rfl rfl (w_n rfl) ?_
      refine TL_q (.pointer (some ⟨B1, 2, none⟩)) (fun _ _ hρ _ => r_fieldAddr fl36_2 sz4 (hρ _ _ rfl)) rfl rfl rfl (want_y 10 rfl rfl rfl) ?_
      refine TL_q (.bool x.sp) (fun _ _ hρ hm => r_load ag4 (hρ _ _ rfl) (hm.at 1 rfl) rfl) rfl rfl rfl (want_y 10 rfl rfl rfl) ?_
      refine TL_q (.pointer (some ⟨B2, 2, none⟩)) (fun _ _ hρ _ => r_fieldAddr fl36_2 sz4 (hρ _ _ rfl)) rfl rfl rfl (want_y 10 rfl rfl rfl) ?_
      refine TL_q (.bool y.sp) (fun _ _ hρ hm => r_load ag4 (hρ _ _ rfl) (hm.at 2 rfl) rfl) rfl rfl rfl (want_y 10 rfl rfl rfl) ?_
      refine TL_q (.bool false) (fun _ _ hρ _ => r_as (r_eqlB (by kernel_rfl) (hρ _ _ rfl) (hρ _ _ rfl)) (bool_as (beq_eq_false_iff_ne.2 c2))) rfl rfl rfl (want_y 10 rfl rfl rfl) ?_
      refine TL_q (.bool false) (fun _ _ hρ _ => r_pick_t (hρ _ _ rfl) (hρ _ _ rfl)) rfl rfl rfl (w_n rfl) ?_
      refine TL_q (.bool false) (fun _ _ hρ _ => r_move (hρ _ _ rfl)) rfl rfl rfl (w_n rfl) ?_
      refine TL_no rfl rfl (want_n 17 rfl rfl rfl) ?_
      refine TL_no rfl rfl (want_n 17 rfl rfl rfl) ?_
      refine TL_no rfl rfl (want_n 17 rfl rfl rfl) ?_
      refine TL_no rfl rfl (want_n 17 rfl rfl rfl) ?_
      refine TL_no rfl rfl (want_n 17 rfl rfl rfl) ?_
      refine TL_q (.bool false) (fun _ _ hρ _ => r_pick_f (hρ _ _ rfl) (hρ _ _ rfl)) rfl rfl rfl (w_n rfl) ?_
      refine TL_q (.bool false) (fun _ _ hρ _ => r_assign (hρ _ _ rfl)) rfl rfl rfl (w_n rfl) ?_
      refine TL_seq ?_
      refine T_ret' ?_
      refine ret_of rfl (.bool false) (fun tmps w hk hm => res1 rfl (res_tmp (hk 4 _ rfl))) (fun w hm => ?_)
      exact ⟨congrArg Ending.returned (bool_as (decide_eq_false (fun e => c2 (congrArg PV.sp e))).symm), hm.ext⟩
  · skip
    refine T_seq (T_region ?_)
    refine TL_q (.pointer (some ⟨B1, 0, none⟩)) (fun _ _ hρ _ => r_fieldAddr fl36_0 sz3 (hρ _ _ rfl)) rfl rfl rfl (w_n rfl) ?_
    refine TL_q (.int .i64 x.to) (fun _ _ hρ hm => r_load ag3 (hρ _ _ rfl) (hm.at 1 rfl) rfl) rfl rfl rfl (w_n rfl) ?_
    refine TL_q (.pointer (some ⟨B2, 0, none⟩)) (fun _ _ hρ _ => r_fieldAddr fl36_0 sz3 (hρ _ _ rfl)) rfl rfl rfl (w_n rfl) ?_
    refine TL_q (.int .i64 y.to) (fun _ _ hρ hm => r_load ag3 (hρ _ _ rfl) (hm.at 2 rfl) rfl) rfl rfl rfl (w_n rfl) ?_
    refine TL_q (.bool false) (fun _ _ hρ _ => r_as (r_eql (hρ _ _ rfl) (hρ _ _ rfl)) (bool_as (decide_eq_false c1))) rfl rfl rfl (w_n rfl) ?_
    refine TL_q (.bool false) (fun _ _ hρ _ => r_move (hρ _ _ rfl)) rfl rfl rfl (w_n rfl) ?_
    refine TL_no rfl rfl (want_n 10 rfl rfl rfl) ?_
    refine TL_no rfl rfl (want_n 10 rfl rfl rfl) ?_
    refine TL_no rfl rfl (want_n 10 rfl rfl rfl) ?_
    refine TL_no rfl rfl (want_n 10 rfl rfl rfl) ?_
    refine TL_no rfl rfl (want_n 10 rfl rfl rfl) ?_
    refine TL_q (.bool false) (fun _ _ hρ _ => r_pick_f (hρ _ _ rfl) (hρ _ _ rfl)) rfl rfl rfl (w_n rfl) ?_
    refine TL_q (.bool false) (fun _ _ hρ _ => r_move (hρ _ _ rfl)) rfl rfl rfl (w_n rfl) ?_
    refine TL_no rfl rfl (want_n 17 rfl rfl rfl) ?_
    refine TL_no rfl rfl (want_n 17 rfl rfl rfl) ?_
    refine TL_no rfl rfl (want_n 17 rfl rfl rfl) ?_
    refine TL_no rfl rfl (want_n 17 rfl rfl rfl) ?_
    refine TL_no rfl rfl (want_n 17 rfl rfl rfl) ?_
    refine TL_q (.bool false) (fun _ _ hρ _ => r_pick_f (hρ _ _ rfl) (hρ _ _ rfl)) rfl rfl rfl (w_n rfl) ?_
    refine TL_q (.bool false) (fun _ _ hρ _ => r_assign (hρ _ _ rfl)) rfl rfl rfl (w_n rfl) ?_
    refine TL_seq ?_
    refine T_ret' ?_
    refine ret_of rfl (.bool false) (fun tmps w hk hm => res1 rfl (res_tmp (hk 4 _ rfl))) (fun w hm => ?_)
    exact ⟨congrArg Ending.returned (bool_as (decide_eq_false (fun e => c1 (congrArg PV.to e))).symm), hm.ext⟩
end Go.Proofs.Ytcidgbjgeegepaa
/- net and journal: nets compared; own. Printed by a program of this seat's prover. -/
namespace Go.Proofs.Ytcidgbjgeegepaa
open Go Go.RowKit
set_option maxRecDepth 10000
theorem pvs_step {ps qs : List Pcl} {k : Nat} {p q : Pcl} (h : pvs (ps.take k) = pvs (qs.take k)) (hp : ps[k]? = some p) (hq : qs[k]? = some q) (e : p.pv = q.pv) : pvs (ps.take (k + 1)) = pvs (qs.take (k + 1)) := by
  unfold pvs at h ⊢
  rw [List.take_add_one, List.take_add_one, hp, hq, List.map_append, List.map_append, h]
  simp only [Option.toList_some, List.map_cons, List.map_nil, e]
theorem pvs_at {ps qs : List Pcl} {k : Nat} {p q : Pcl} (h : pvs ps = pvs qs) (hp : ps[k]? = some p) (hq : qs[k]? = some q) : p.pv = q.pv := by
  have := congrArg (fun l => l[k]?) h
  simp only [List.getElem?_map, hp, hq, Option.map_some] at this
  exact Option.some.inj this

theorem peqf_c (ps : List Pcl) (a : Option Addr) (cap : Nat) (qs : List Pcl) (b : Option Addr) (capb : Nat) (w : World) (hv : SliceAt w a cap 3 Pcl.cells ps) (hcap : cap ≤ Go.maxLen) (hb : PcsAt w ps) (hu : SliceAt w b capb 3 Pcl.cells qs) (hcapb : capb ≤ Go.maxLen) (hb2 : PcsAt w qs) (g : Nat) (hE : Enters Try.prog g) (hto : ∀ w2, Below w.heap.size w w2 → ∀ x ∈ ps, ∀ y ∈ qs, Calls Try.prog g #[x.v, y.v] w2 fun e w3 => e = .returned (.bool (decide (x.pv = y.pv))) ∧ Below w2.heap.size w2 w3) : Calls Try.prog 29 #[.slice a ps.length cap, .slice b qs.length capb, .func (.func g) #[] #[]] w fun e w' => e = .returned (.bool (decide (pvs ps = pvs qs))) ∧ Below w.heap.size w w' := by
  have hvl := hv.1
  unfold Go.maxLen at hcap
  have hul := hu.1
  unfold Go.maxLen at hcapb
  refine calls_of_T (l := [.slice a ps.length cap, .slice b qs.length capb, .func (.func g) #[] #[]]) 32 Try.func29 rfl rfl rfl ?_
  show T _ _ _ [(0, .slice a ps.length cap), (1, .slice b qs.length capb), (2, .func (.func g) #[] #[])] []
  refine T_seq (T_region ?_)
  refine TL_q (.bool false) (fun _ _ hρ _ => r_assign (hρ _ _ rfl)) rfl rfl rfl (w_n rfl) ?_
  refine TL_seq ?_
  refine T_seq ?_
  by_cases c1 : ((ps.length : Nat) : Int) = ((qs.length : Nat) : Int)
  · skip
    refine T_seq (T_region ?_)
    refine TL_q (.slice a ps.length cap) (fun _ _ hρ _ => r_move (hρ _ _ rfl)) rfl rfl rfl (w_n rfl) ?_
    refine TL_q (.int .i64 ((ps.length : Nat) : Int)) (fun _ _ hρ _ => r_len sl22 (hρ _ _ rfl)) rfl rfl rfl (w_n rfl) ?_
    refine TL_q (.slice b qs.length capb) (fun _ _ hρ _ => r_move (hρ _ _ rfl)) rfl rfl rfl (w_n rfl) ?_
    refine TL_q (.int .i64 ((qs.length : Nat) : Int)) (fun _ _ hρ _ => r_len sl22 (hρ _ _ rfl)) rfl rfl rfl (w_n rfl) ?_
    refine TL_q (.bool false) (fun _ _ hρ _ => r_as (r_neq (hρ _ _ rfl) (hρ _ _ rfl)) (bool_as (by rw [decide_eq_true c1]; rfl))) rfl rfl rfl (w_n rfl) ?_
    refine TL_seq ?_
    refine T_cond_f rfl ?_
    refine T_skip' ?_
    refine p_seq ?_
    refine T_seq ?_
    refine T_seq (T_region ?_)
    refine TL_q (.slice a ps.length cap) (fun _ _ hρ _ => r_move (hρ _ _ rfl)) rfl rfl rfl (w_n rfl) ?_
    refine TL_q (.int .i64 ((ps.length : Nat) : Int)) (fun _ _ hρ _ => r_len sl22 (hρ _ _ rfl)) rfl rfl rfl (w_n rfl) ?_
    refine TL_q (.int .i64 0) (fun _ _ hρ _ => r_move (hρ _ _ rfl)) rfl rfl rfl (w_n rfl) ?_
    refine TL_seq ?_
    refine T_block ?_
    refine T_loop (ι := Nat) (fun (k : Nat) => k ≤ ps.length ∧ pvs (ps.take k) = pvs (qs.take k)) (fun (k : Nat) => [(1, .slice b qs.length capb), (2, .func (.func g) #[] #[]), (15, .slice a ps.length cap), (16, .int .i64 ((ps.length : Nat) : Int)), (17, .int .i64 ((k : Nat) : Int))]) (fun (k : Nat) => []) (fun (k : Nat) => ps.length - k) 0 ⟨Nat.zero_le _, by simp⟩ (sub_cons rfl (sub_cons rfl (sub_cons rfl (sub_cons rfl (sub_cons rfl sub_nil))))) sub_nil ?_
    rintro k hp
    obtain ⟨hk1, hk2⟩ := hp
    show T _ _ _ [(1, .slice b qs.length capb), (2, .func (.func g) #[] #[]), (15, .slice a ps.length cap), (16, .int .i64 ((ps.length : Nat) : Int)), (17, .int .i64 ((k : Nat) : Int))] []
    refine T_seq (T_region ?_)
    refine TL_q (.bool (decide (((k : Nat) : Int) < ((ps.length : Nat) : Int)))) (fun _ _ hρ _ => r_lss (hρ _ _ rfl) (hρ _ _ rfl)) rfl rfl rfl (w_n rfl) ?_
    refine TL_seq ?_
    refine T_seq ?_
    refine T_cond rfl (fun h1 => ?_) (fun h1 => ?_)
    · replace h1 := of_decide_eq_true h1
      refine T_skip' ?_
      refine p_seq ?_
      refine T_seq ?_
      refine T_block ?_
      obtain ⟨p, hp⟩ : ∃ x, ps[k]? = some x := ⟨_, List.getElem?_eq_getElem (by omega)⟩
      have hokp := hb p (List.mem_of_getElem? hp)
      obtain ⟨b1, of1, cs1, T1, fz1, ha1, hq1, hr1⟩ := hv.open (i := k) (by omega)
      subst ha1
      refine T_seq (T_region ?_)
      refine TL_q (.int .i64 ((k : Nat) : Int)) (fun _ _ hρ _ => r_move (hρ _ _ rfl)) rfl rfl rfl (w_n rfl) ?_
      refine TL_q (.pointer (some ⟨b1, of1 + k * 3, none⟩)) (fun _ _ hρ _ => r_indexAddrS (i := k) sl22 sz36 (hρ _ _ rfl) (hρ _ _ rfl) (by omega)) rfl rfl rfl (w_n rfl) ?_
      refine TL_q (.agg #[.int .i64 p.to, .slice p.r.a p.r.l.length p.r.cap, .bool p.sp]) (fun _ _ hρ hm => r_loadRow (f := Pcl.cells) (u := p) ag36 sz36 (hρ _ _ rfl) (hm.old hq1) hr1 hp) rfl rfl rfl (w_n rfl) ?_
      refine TL_new 1 (.cells #[.int .i64 0, .slice none 0 0, .bool false] 36) (fun B => .pointer (some ⟨B, 0, none⟩)) (fun _ _ _ _ => r_alloc (v := .agg #[.int .i64 0, .slice none 0 0, .bool false]) (by kernel_rfl) rfl) rfl rfl rfl (w_n rfl) ?_
      intro B2
      refine TL_q (.int .i64 ((k : Nat) : Int)) (fun _ _ hρ _ => r_assign (hρ _ _ rfl)) rfl rfl rfl (w_n rfl) ?_
      refine TL_store 1 (.cells #[.int .i64 p.to, .slice p.r.a p.r.l.length p.r.cap, .bool p.sp] 36) rfl (fun _ _ hρ hm => r_store sz36 (hρ _ _ rfl) (hρ _ _ rfl) (hm.at 1 rfl) rfl rfl rfl rfl) rfl rfl (w_n rfl) ?_
      refine TL_seq ?_
      obtain ⟨q, hq⟩ : ∃ x, qs[k]? = some x := ⟨_, List.getElem?_eq_getElem (by omega)⟩
      have hokq := hb2 q (List.mem_of_getElem? hq)
      obtain ⟨b3, of3, cs3, T3, fz3, ha3, hq3, hr3⟩ := hu.open (i := k) (by omega)
      subst ha3
      refine T_seq (T_region ?_)
      refine TL_q (.slice (some ⟨b3, of3, none⟩) qs.length capb) (fun _ _ hρ _ => r_move (hρ _ _ rfl)) rfl rfl rfl (w_n rfl) ?_
      refine TL_q (.int .i64 ((k : Nat) : Int)) (fun _ _ hρ _ => r_move (hρ _ _ rfl)) rfl rfl rfl (w_n rfl) ?_
      refine TL_q (.pointer (some ⟨b3, of3 + k * 3, none⟩)) (fun _ _ hρ _ => r_indexAddrS (i := k) sl22 sz36 (hρ _ _ rfl) (hρ _ _ rfl) (by omega)) rfl rfl rfl (w_n rfl) ?_
      refine TL_q (.agg #[.int .i64 q.to, .slice q.r.a q.r.l.length q.r.cap, .bool q.sp]) (fun _ _ hρ hm => r_loadRow (f := Pcl.cells) (u := q) ag36 sz36 (hρ _ _ rfl) (hm.old hq3) hr3 hq) rfl rfl rfl (w_n rfl) ?_
      refine TL_new 2 (.cells #[.int .i64 0, .slice none 0 0, .bool false] 36) (fun B => .pointer (some ⟨B, 0, none⟩)) (fun _ _ _ _ => r_alloc (v := .agg #[.int .i64 0, .slice none 0 0, .bool false]) (by kernel_rfl) rfl) rfl rfl rfl (w_n rfl) ?_
      intro B4
      refine TL_store 2 (.cells #[.int .i64 q.to, .slice q.r.a q.r.l.length q.r.cap, .bool q.sp] 36) rfl (fun _ _ hρ hm => r_store sz36 (hρ _ _ rfl) (hρ _ _ rfl) (hm.at 2 rfl) rfl rfl rfl rfl) rfl rfl (w_n rfl) ?_
      refine TL_seq ?_
      by_cases he : p.pv = q.pv
      · skip
        refine T_seq (T_region ?_)
        refine TL_q (.func (.func g) #[] #[]) (fun _ _ hρ _ => r_move (hρ _ _ rfl)) rfl rfl rfl (w_n rfl) ?_
        refine TL_q (.agg #[.int .i64 p.to, .slice p.r.a p.r.l.length p.r.cap, .bool p.sp]) (fun _ _ hρ hm => r_loadA ag36 sz36 (hρ _ _ rfl) (hm.at 1 rfl) rfl rfl) rfl rfl rfl (w_n rfl) ?_
        refine TL_q (.agg #[.int .i64 q.to, .slice q.r.a q.r.l.length q.r.cap, .bool q.sp]) (fun _ _ hρ hm => r_loadA ag36 sz36 (hρ _ _ rfl) (hm.at 2 rfl) rfl rfl) rfl rfl rfl (w_n rfl) ?_
        refine TL_call (.bool true) (fun _ _ hρ _ => r_call (args := [.agg #[.int .i64 p.to, .slice p.r.a p.r.l.length p.r.cap, .bool p.sp], .agg #[.int .i64 q.to, .slice q.r.a q.r.l.length q.r.cap, .bool q.sp]]) hE (hρ _ _ rfl) ((cons2 (hρ _ _ rfl) (cons2 (hρ _ _ rfl) rfl))) (by simp)) (fun w hm => (hto w hm.ext p (List.mem_of_getElem? hp) q (List.mem_of_getElem? hq)).mono fun _ _ h => ⟨h.1.trans (congrArg Ending.returned (bool_as (decide_eq_true he))), h.2⟩) rfl rfl rfl (w_n rfl) ?_
        refine TL_q (.bool false) (fun _ _ hρ _ => r_not (b := true) (hρ _ _ rfl)) rfl rfl rfl (w_n rfl) ?_
        refine TL_seq ?_
        refine T_cond_f rfl ?_
        refine T_skip' ?_
        refine p_blk_n ?_
        refine p_seq ?_
        refine T_region ?_
        refine TL_q (.int .i64 ((k + 1 : Nat) : Int)) (fun _ _ hρ _ => r_as (r_add (hρ _ _ rfl) (hρ _ _ rfl)) (int_as ((wrap64 (by omega) (by omega)).trans (by omega)))) rfl rfl rfl (w_n rfl) ?_
        refine TL_q (.int .i64 ((k + 1 : Nat) : Int)) (fun _ _ hρ _ => r_move (hρ _ _ rfl)) rfl rfl rfl (w_n rfl) ?_
        refine TL_nil ?_
        exact p_at (k + 1) ⟨⟨by omega, pvs_step hk2 hp hq he⟩, by omega⟩ (sub_cons rfl (sub_cons rfl (sub_cons rfl (sub_cons rfl (sub_cons rfl sub_nil))))) sub_nil
      · skip
        refine T_seq (T_region ?_)
        refine TL_q (.func (.func g) #[] #[]) (fun _ _ hρ _ => r_move (hρ _ _ rfl)) rfl rfl rfl (w_n rfl) ?_
        refine TL_q (.agg #[.int .i64 p.to, .slice p.r.a p.r.l.length p.r.cap, .bool p.sp]) (fun _ _ hρ hm => r_loadA ag36 sz36 (hρ _ _ rfl) (hm.at 1 rfl) rfl rfl) rfl rfl rfl (w_n rfl) ?_
        refine TL_q (.agg #[.int .i64 q.to, .slice q.r.a q.r.l.length q.r.cap, .bool q.sp]) (fun _ _ hρ hm => r_loadA ag36 sz36 (hρ _ _ rfl) (hm.at 2 rfl) rfl rfl) rfl rfl rfl (w_n rfl) ?_
        refine TL_call (.bool false) (fun _ _ hρ _ => r_call (args := [.agg #[.int .i64 p.to, .slice p.r.a p.r.l.length p.r.cap, .bool p.sp], .agg #[.int .i64 q.to, .slice q.r.a q.r.l.length q.r.cap, .bool q.sp]]) hE (hρ _ _ rfl) ((cons2 (hρ _ _ rfl) (cons2 (hρ _ _ rfl) rfl))) (by simp)) (fun w hm => (hto w hm.ext p (List.mem_of_getElem? hp) q (List.mem_of_getElem? hq)).mono fun _ _ h => ⟨h.1.trans (congrArg Ending.returned (bool_as (decide_eq_false he))), h.2⟩) rfl rfl rfl (w_n rfl) ?_
        refine TL_q (.bool true) (fun _ _ hρ _ => r_not (b := false) (hρ _ _ rfl)) rfl rfl rfl (w_n rfl) ?_
        refine TL_seq ?_
        refine T_cond_t rfl ?_
        refine T_seq (T_region ?_)
        refine TL_q (.bool false) (fun _ _ hρ _ => r_assign (hρ _ _ rfl)) rfl rfl rfl (w_n rfl) ?_
        refine TL_seq ?_
        refine T_ret' ?_
        refine p_blk_r ?_
        refine p_then_r ?_
        refine p_then_r ?_
        refine p_blk_r ?_
        refine p_then_r ?_
        refine ret_of rfl (.bool false) (fun tmps w hk hm => res1 rfl (res_tmp (hk 6 _ rfl))) (fun w hm => ?_)
        exact ⟨congrArg Ending.returned (bool_as (decide_eq_false (fun e => he (pvs_at e hp hq))).symm), hm.ext⟩
    · replace h1 := of_decide_eq_false h1
      refine T_exit' ?_
      refine p_then_x ?_
      refine p_then_x ?_
      refine p_blk_x ?_
      refine p_seq ?_
      refine T_seq (T_region ?_)
      refine TL_q (.bool true) (fun _ _ hρ _ => r_assign (hρ _ _ rfl)) rfl rfl rfl (w_n rfl) ?_
      refine TL_seq ?_
      refine T_ret' ?_
      refine ret_of rfl (.bool true) (fun tmps w hk hm => res1 rfl (res_tmp (hk 6 _ rfl))) (fun w hm => ?_)
      have hke : k = ps.length := by omega
      subst hke
      rw [List.take_length, show ps.length = qs.length by omega, List.take_length] at hk2
      exact ⟨congrArg Ending.returned (bool_as (decide_eq_true hk2).symm), hm.ext⟩
  · skip
    refine T_seq (T_region ?_)
    refine TL_q (.slice a ps.length cap) (fun _ _ hρ _ => r_move (hρ _ _ rfl)) rfl rfl rfl (w_n rfl) ?_
    refine TL_q (.int .i64 ((ps.length : Nat) : Int)) (fun _ _ hρ _ => r_len sl22 (hρ _ _ rfl)) rfl rfl rfl (w_n rfl) ?_
    refine TL_q (.slice b qs.length capb) (fun _ _ hρ _ => r_move (hρ _ _ rfl)) rfl rfl rfl (w_n rfl) ?_
    refine TL_q (.int .i64 ((qs.length : Nat) : Int)) (fun _ _ hρ _ => r_len sl22 (hρ _ _ rfl)) rfl rfl rfl (w_n rfl) ?_
    refine TL_q (.bool true) (fun _ _ hρ _ => r_as (r_neq (hρ _ _ rfl) (hρ _ _ rfl)) (bool_as (by rw [decide_eq_false c1]; rfl))) rfl rfl rfl (w_n rfl) ?_
    refine TL_seq ?_
    refine T_cond_t rfl ?_
    refine T_seq (T_region ?_)
    refine TL_q (.bool false) (fun _ _ hρ _ => r_assign (hρ _ _ rfl)) rfl rfl rfl (w_n rfl) ?_
    refine TL_seq ?_
    refine T_ret' ?_
    refine p_then_r ?_
    refine ret_of rfl (.bool false) (fun tmps w hk hm => res1 rfl (res_tmp (hk 6 _ rfl))) (fun w hm => ?_)
    exact ⟨congrArg Ending.returned (bool_as (decide_eq_false (fun e => c1 (by have := congrArg List.length e; simp only [List.length_map] at this; omega))).symm), hm.ext⟩

theorem nrsame_c (ps : List Pcl) (a : Option Addr) (cap : Nat) (lost : Int) (qs : List Pcl) (b : Option Addr) (capb : Nat) (lost2 : Int) (w : World) (hv : SliceAt w a cap 3 Pcl.cells ps) (hcap : cap ≤ Go.maxLen) (hb : PcsAt w ps) (hu : SliceAt w b capb 3 Pcl.cells qs) (hcapb : capb ≤ Go.maxLen) (hb2 : PcsAt w qs) : Calls Try.prog 25 #[.agg #[.slice a ps.length cap, .int .u64 lost], .agg #[.slice b qs.length capb, .int .u64 lost2]] w fun e w' => e = .returned (.bool (decide (lost = lost2 ∧ pvs ps = pvs qs))) ∧ Below w.heap.size w w' := by
  have hvl := hv.1
  unfold Go.maxLen at hcap
  have hul := hu.1
  unfold Go.maxLen at hcapb
  refine calls_of_T (l := [.agg #[.slice a ps.length cap, .int .u64 lost], .agg #[.slice b qs.length capb, .int .u64 lost2]]) 38 Try.func25 rfl rfl rfl ?_
  show T _ _ _ [(0, .agg #[.slice a ps.length cap, .int .u64 lost]), (1, .agg #[.slice b qs.length capb, .int .u64 lost2])] []
  refine T_seq (T_region ?_)
  refine TL_new 1 (.cells #[.slice a ps.length cap, .int .u64 lost] 27) (fun B => .pointer (some ⟨B, 0, none⟩)) (fun _ _ hρ _ => r_box (hρ _ _ rfl) rfl) rfl rfl rfl (w_n rfl) ?_
  intro B1
  refine TL_new 2 (.cells #[.slice b qs.length capb, .int .u64 lost2] 27) (fun B => .pointer (some ⟨B, 0, none⟩)) (fun _ _ hρ _ => r_box (hρ _ _ rfl) rfl) rfl rfl rfl (w_n rfl) ?_
  intro B2
  refine TL_q (.bool false) (fun _ _ hρ _ => r_assign (hρ _ _ rfl)) rfl rfl rfl (w_n rfl) ?_
  refine TL_seq ?_
  refine T_seq ?_
  by_cases c1 : lost = lost2
  · skip
    by_cases c2 : ((ps.length : Nat) : Int) = ((qs.length : Nat) : Int)
    · skip
      refine T_seq (T_region ?_)
      refine TL_q (.pointer (some ⟨B1, 1, none⟩)) (fun _ _ hρ _ => r_fieldAddr fl27_1 sz25 (hρ _ _ rfl)) rfl rfl rfl (w_n rfl) ?_
      refine TL_q (.int .u64 lost) (fun _ _ hρ hm => r_load ag25 (hρ _ _ rfl) (hm.at 1 rfl) rfl) rfl rfl rfl (w_n rfl) ?_
      refine TL_q (.pointer (some ⟨B2, 1, none⟩)) (fun _ _ hρ _ => r_fieldAddr fl27_1 sz25 (hρ _ _ rfl)) rfl rfl rfl (w_n rfl) ?_
      refine TL_q (.int .u64 lost2) (fun _ _ hρ hm => r_load ag25 (hρ _ _ rfl) (hm.at 2 rfl) rfl) rfl rfl rfl (w_n rfl) ?_
      refine TL_q (.bool false) (fun _ _ hρ _ => r_as (r_neq (hρ _ _ rfl) (hρ _ _ rfl)) (bool_as (by rw [decide_eq_true c1]; rfl))) rfl rfl rfl (w_n rfl) ?_
      refine TL_q (.bool false) (fun _ _ hρ _ => r_move (hρ _ _ rfl)) rfl rfl rfl (w_n rfl) ?_
      refine TL_q (.pointer (some ⟨B1, 0, none⟩)) (fun _ _ hρ _ => r_fieldAddr fl27_0 sz22 (hρ _ _ rfl)) rfl rfl rfl (want_y 12 rfl rfl rfl) ?_
      refine TL_q (.slice a ps.length cap) (fun _ _ hρ hm => r_load ag22 (hρ _ _ rfl) (hm.at 1 rfl) rfl) rfl rfl rfl (want_y 12 rfl rfl rfl) ?_
      refine TL_q (.int .i64 ((ps.length : Nat) : Int)) (fun _ _ hρ _ => r_len sl22 (hρ _ _ rfl)) rfl rfl rfl (want_y 12 rfl rfl rfl) ?_
      refine TL_q (.pointer (some ⟨B2, 0, none⟩)) (fun _ _ hρ _ => r_fieldAddr fl27_0 sz22 (hρ _ _ rfl)) rfl rfl rfl (want_y 12 rfl rfl rfl) ?_
      refine TL_q (.slice b qs.length capb) (fun _ _ hρ hm => r_load ag22 (hρ _ _ rfl) (hm.at 2 rfl) rfl) rfl rfl rfl (want_y 12 rfl rfl rfl) ?_
      refine TL_q (.int .i64 ((qs.length : Nat) : Int)) (fun _ _ hρ _ => r_len sl22 (hρ _ _ rfl)) rfl rfl rfl (want_y 12 rfl rfl rfl) ?_
      refine TL_q (.bool false) (fun _ _ hρ _ => r_as (r_neq (hρ _ _ rfl) (hρ _ _ rfl)) (bool_as (by rw [decide_eq_true c2]; rfl))) rfl rfl rfl (want_y 12 rfl rfl rfl) ?_
      refine TL_q (.bool false) (fun _ _ hρ _ => r_pick_f (hρ _ _ rfl) (hρ _ _ rfl)) rfl rfl rfl (w_n rfl) ?_
      refine TL_seq ?_
      refine T_cond_f rfl ?_
      refine T_skip' ?_
      refine p_seq ?_
      refine T_seq ?_
      refine T_seq (T_region ?_)
      refine TL_q (.pointer (some ⟨B1, 0, none⟩)) (fun _ _ hρ _ => r_fieldAddr fl27_0 sz22 (hρ _ _ rfl)) rfl rfl rfl (w_n rfl) ?_
      refine TL_q (.slice a ps.length cap) (fun _ _ hρ hm => r_load ag22 (hρ _ _ rfl) (hm.at 1 rfl) rfl) rfl rfl rfl (w_n rfl) ?_
      refine TL_q (.int .i64 ((ps.length : Nat) : Int)) (fun _ _ hρ _ => r_len sl22 (hρ _ _ rfl)) rfl rfl rfl (w_n rfl) ?_
      refine TL_q (.int .i64 0) (fun _ _ hρ _ => r_move (hρ _ _ rfl)) rfl rfl rfl (w_n rfl) ?_
      refine TL_seq ?_
      refine T_block ?_
      refine T_loop (ι := Nat) (fun (k : Nat) => k ≤ ps.length ∧ pvs (ps.take k) = pvs (qs.take k)) (fun (k : Nat) => [(3, .pointer (some ⟨B2, 0, none⟩)), (22, .slice a ps.length cap), (23, .int .i64 ((ps.length : Nat) : Int)), (24, .int .i64 ((k : Nat) : Int))]) (fun (k : Nat) => [(1, .blk B1 (.cells #[.slice a ps.length cap, .int .u64 lost] 27)), (2, .blk B2 (.cells #[.slice b qs.length capb, .int .u64 lost2] 27))]) (fun (k : Nat) => ps.length - k) 0 ⟨Nat.zero_le _, by simp⟩ (sub_cons rfl (sub_cons rfl (sub_cons rfl (sub_cons rfl sub_nil)))) (sub_cons rfl (sub_cons rfl sub_nil)) ?_
      rintro k hp
      obtain ⟨hk1, hk2⟩ := hp
      show T _ _ _ [(3, .pointer (some ⟨B2, 0, none⟩)), (22, .slice a ps.length cap), (23, .int .i64 ((ps.length : Nat) : Int)), (24, .int .i64 ((k : Nat) : Int))] [(1, .blk B1 (.cells #[.slice a ps.length cap, .int .u64 lost] 27)), (2, .blk B2 (.cells #[.slice b qs.length capb, .int .u64 lost2] 27))]
      refine T_seq (T_region ?_)
      refine TL_q (.bool (decide (((k : Nat) : Int) < ((ps.length : Nat) : Int)))) (fun _ _ hρ _ => r_lss (hρ _ _ rfl) (hρ _ _ rfl)) rfl rfl rfl (w_n rfl) ?_
      refine TL_seq ?_
      refine T_seq ?_
      refine T_cond rfl (fun h1 => ?_) (fun h1 => ?_)
      · replace h1 := of_decide_eq_true h1
        refine T_skip' ?_
        refine p_seq ?_
        refine T_seq ?_
        refine T_block ?_
        obtain ⟨p, hp⟩ : ∃ x, ps[k]? = some x := ⟨_, List.getElem?_eq_getElem (by omega)⟩
        have hokp := hb p (List.mem_of_getElem? hp)
        obtain ⟨b3, of3, cs3, T3, fz3, ha3, hq3, hr3⟩ := hv.open (i := k) (by omega)
        subst ha3
        refine T_seq (T_region ?_)
        refine TL_q (.int .i64 ((k : Nat) : Int)) (fun _ _ hρ _ => r_move (hρ _ _ rfl)) rfl rfl rfl (w_n rfl) ?_
        refine TL_q (.pointer (some ⟨b3, of3 + k * 3, none⟩)) (fun _ _ hρ _ => r_indexAddrS (i := k) sl22 sz36 (hρ _ _ rfl) (hρ _ _ rfl) (by omega)) rfl rfl rfl (w_n rfl) ?_
        refine TL_q (.agg #[.int .i64 p.to, .slice p.r.a p.r.l.length p.r.cap, .bool p.sp]) (fun _ _ hρ hm => r_loadRow (f := Pcl.cells) (u := p) ag36 sz36 (hρ _ _ rfl) (hm.old hq3) hr3 hp) rfl rfl rfl (w_n rfl) ?_
        refine TL_new 3 (.cells #[.int .i64 0, .slice none 0 0, .bool false] 36) (fun B => .pointer (some ⟨B, 0, none⟩)) (fun _ _ _ _ => r_alloc (v := .agg #[.int .i64 0, .slice none 0 0, .bool false]) (by kernel_rfl) rfl) rfl rfl rfl (w_n rfl) ?_
        intro B4
        refine TL_q (.int .i64 ((k : Nat) : Int)) (fun _ _ hρ _ => r_assign (hρ _ _ rfl)) rfl rfl rfl (w_n rfl) ?_
        refine TL_store 3 (.cells #[.int .i64 p.to, .slice p.r.a p.r.l.length p.r.cap, .bool p.sp] 36) rfl (fun _ _ hρ hm => r_store sz36 (hρ _ _ rfl) (hρ _ _ rfl) (hm.at 3 rfl) rfl rfl rfl rfl) rfl rfl (w_n rfl) ?_
        refine TL_seq ?_
        obtain ⟨q, hq⟩ : ∃ x, qs[k]? = some x := ⟨_, List.getElem?_eq_getElem (by omega)⟩
        have hokq := hb2 q (List.mem_of_getElem? hq)
        obtain ⟨b5, of5, cs5, T5, fz5, ha5, hq5, hr5⟩ := hu.open (i := k) (by omega)
        subst ha5
        by_cases he : p.pv = q.pv
        · skip
          refine T_seq (T_draw (V := [(0, .agg #[.int .i64 p.to, .slice p.r.a p.r.l.length p.r.cap, .bool p.sp]), (1, .pointer (some ⟨B2, 0, none⟩)), (2, .slice (some ⟨b5, of5, none⟩) qs.length capb), (3, .int .i64 ((k : Nat) : Int)), (4, .pointer (some ⟨b5, of5 + k * 3, none⟩)), (5, .agg #[.int .i64 q.to, .slice q.r.a q.r.l.length q.r.cap, .bool q.sp])]) [0, 0, 2, 0, 14, 30, 63, 127] [[(6, none)], [(3, none)], [(30, some 1)], [(5, none)], [(31, some 2), (32, some 3)], [(33, some 4)], [(29, some 0), (34, some 5)], [(35, some 6)]] 64 mixed (by kernel_rfl) ?_)
          refine G_step [0, 1, 2, 3, 4, 5] 6 [] (by kernel_rfl) (allM (all_cons (q_run (.agg #[.int .i64 p.to, .slice p.r.a p.r.l.length p.r.cap, .bool p.sp]) rfl rfl (wv_n rfl) rfl (fun _ _ hρ hm => r_loadA ag36 sz36 (hρ _ _ rfl) (hm.at 3 rfl) rfl rfl)) (all_cons (q_run (.pointer (some ⟨B2, 0, none⟩)) rfl rfl (wv_n rfl) rfl (fun _ _ hρ _ => r_fieldAddr fl27_0 sz22 (hρ _ _ rfl))) (all_cons (q_run (.slice (some ⟨b5, of5, none⟩) qs.length capb) rfl rfl (wv_n rfl) rfl (fun _ _ hρ hm => r_load ag22 (hρ _ _ rfl) (hm.at 2 rfl) rfl)) (all_cons (q_run (.int .i64 ((k : Nat) : Int)) rfl rfl (wv_n rfl) rfl (fun _ _ hρ _ => r_move (hρ _ _ rfl))) (all_cons (q_run (.pointer (some ⟨b5, of5 + k * 3, none⟩)) rfl rfl (wv_n rfl) rfl (fun _ _ hρ _ => r_indexAddrS (i := k) sl22 sz36 (hρ _ _ rfl) (hρ _ _ rfl) (by omega))) (all_cons (q_run (.agg #[.int .i64 q.to, .slice q.r.a q.r.l.length q.r.cap, .bool q.sp]) rfl rfl (wv_n rfl) rfl (fun _ _ hρ hm => r_loadRow (f := Pcl.cells) (u := q) ag36 sz36 (hρ _ _ rfl) (hm.old hq5) hr5 hq)) all_nil))))))) (allM (all_cons ?_ all_nil))
          refine LOb_call (.bool true) [(7, .bool false)] rfl (wv_n rfl) rfl rfl (fun _ _ hρ _ => r_call (args := [.agg #[.int .i64 p.to, .slice p.r.a p.r.l.length p.r.cap, .bool p.sp], .agg #[.int .i64 q.to, .slice q.r.a q.r.l.length q.r.cap, .bool q.sp]]) (enters_of Try.func26 (by kernel_rfl) rfl) (hρ _ _ rfl) ((cons2 (hρ _ _ rfl) (cons2 (hρ _ _ rfl) rfl))) rfl) (fun w hm => (rpsame_c p q w ((hb.keep hm.ext) p (List.mem_of_getElem? hp)) ((hb2.keep hm.ext) q (List.mem_of_getElem? hq))).mono fun _ _ h => ⟨h.1.trans (congrArg Ending.returned (bool_as (decide_eq_true he))), h.2⟩) (by kernel_rfl) ?_
          refine G_last [7] [(3, .pointer (some ⟨B2, 0, none⟩)), (22, .slice (some ⟨b3, of3, none⟩) ps.length cap), (23, .int .i64 ((ps.length : Nat) : Int)), (24, .int .i64 ((k : Nat) : Int)), (25, .bool (decide (((k : Nat) : Int) < ((ps.length : Nat) : Int)))), (26, .int .i64 ((k : Nat) : Int)), (27, .pointer (some ⟨b3, of3 + k * 3, none⟩)), (28, .agg #[.int .i64 p.to, .slice p.r.a p.r.l.length p.r.cap, .bool p.sp]), (6, .pointer (some ⟨B4, 0, none⟩)), (5, .int .i64 ((k : Nat) : Int)), (29, .agg #[.int .i64 p.to, .slice p.r.a p.r.l.length p.r.cap, .bool p.sp]), (30, .pointer (some ⟨B2, 0, none⟩)), (31, .slice (some ⟨b5, of5, none⟩) qs.length capb), (32, .int .i64 ((k : Nat) : Int)), (33, .pointer (some ⟨b5, of5 + k * 3, none⟩)), (34, .agg #[.int .i64 q.to, .slice q.r.a q.r.l.length q.r.cap, .bool q.sp]), (35, .bool true), (36, .bool false)] (by kernel_rfl) (allM (all_cons (q_run (.bool false) rfl rfl (wv_n rfl) rfl (fun _ _ hρ _ => r_not (b := true) (hρ _ _ rfl))) all_nil)) (end_old rfl rfl (end_old rfl rfl (end_old rfl rfl (end_old rfl rfl (end_old rfl rfl (end_old rfl rfl (end_old rfl rfl (end_old rfl rfl (end_old rfl rfl (end_old rfl rfl (end_new 0 rfl rfl (end_new 1 rfl rfl (end_new 2 rfl rfl (end_new 3 rfl rfl (end_new 4 rfl rfl (end_new 5 rfl rfl (end_new 6 rfl rfl (end_new 7 rfl rfl end_nil)))))))))))))))))) ?_
          refine T_cond_f rfl ?_
          refine T_skip' ?_
          refine p_blk_n ?_
          refine p_seq ?_
          refine T_region ?_
          refine TL_q (.int .i64 ((k + 1 : Nat) : Int)) (fun _ _ hρ _ => r_as (r_add (hρ _ _ rfl) (hρ _ _ rfl)) (int_as ((wrap64 (by omega) (by omega)).trans (by omega)))) rfl rfl rfl (w_n rfl) ?_
          refine TL_q (.int .i64 ((k + 1 : Nat) : Int)) (fun _ _ hρ _ => r_move (hρ _ _ rfl)) rfl rfl rfl (w_n rfl) ?_
          refine TL_nil ?_
          exact p_at (k + 1) ⟨⟨by omega, pvs_step hk2 hp hq he⟩, by omega⟩ (sub_cons rfl (sub_cons rfl (sub_cons rfl (sub_cons rfl sub_nil)))) (sub_cons rfl (sub_cons rfl sub_nil))
        · skip
          refine T_seq (T_draw (V := [(0, .agg #[.int .i64 p.to, .slice p.r.a p.r.l.length p.r.cap, .bool p.sp]), (1, .pointer (some ⟨B2, 0, none⟩)), (2, .slice (some ⟨b5, of5, none⟩) qs.length capb), (3, .int .i64 ((k : Nat) : Int)), (4, .pointer (some ⟨b5, of5 + k * 3, none⟩)), (5, .agg #[.int .i64 q.to, .slice q.r.a q.r.l.length q.r.cap, .bool q.sp])]) [0, 0, 2, 0, 14, 30, 63, 127] [[(6, none)], [(3, none)], [(30, some 1)], [(5, none)], [(31, some 2), (32, some 3)], [(33, some 4)], [(29, some 0), (34, some 5)], [(35, some 6)]] 64 mixed (by kernel_rfl) ?_)
          refine G_step [0, 1, 2, 3, 4, 5] 6 [] (by kernel_rfl) (allM (all_cons (q_run (.agg #[.int .i64 p.to, .slice p.r.a p.r.l.length p.r.cap, .bool p.sp]) rfl rfl (wv_n rfl) rfl (fun _ _ hρ hm => r_loadA ag36 sz36 (hρ _ _ rfl) (hm.at 3 rfl) rfl rfl)) (all_cons (q_run (.pointer (some ⟨B2, 0, none⟩)) rfl rfl (wv_n rfl) rfl (fun _ _ hρ _ => r_fieldAddr fl27_0 sz22 (hρ _ _ rfl))) (all_cons (q_run (.slice (some ⟨b5, of5, none⟩) qs.length capb) rfl rfl (wv_n rfl) rfl (fun _ _ hρ hm => r_load ag22 (hρ _ _ rfl) (hm.at 2 rfl) rfl)) (all_cons (q_run (.int .i64 ((k : Nat) : Int)) rfl rfl (wv_n rfl) rfl (fun _ _ hρ _ => r_move (hρ _ _ rfl))) (all_cons (q_run (.pointer (some ⟨b5, of5 + k * 3, none⟩)) rfl rfl (wv_n rfl) rfl (fun _ _ hρ _ => r_indexAddrS (i := k) sl22 sz36 (hρ _ _ rfl) (hρ _ _ rfl) (by omega))) (all_cons (q_run (.agg #[.int .i64 q.to, .slice q.r.a q.r.l.length q.r.cap, .bool q.sp]) rfl rfl (wv_n rfl) rfl (fun _ _ hρ hm => r_loadRow (f := Pcl.cells) (u := q) ag36 sz36 (hρ _ _ rfl) (hm.old hq5) hr5 hq)) all_nil))))))) (allM (all_cons ?_ all_nil))
          refine LOb_call (.bool false) [(7, .bool true)] rfl (wv_n rfl) rfl rfl (fun _ _ hρ _ => r_call (args := [.agg #[.int .i64 p.to, .slice p.r.a p.r.l.length p.r.cap, .bool p.sp], .agg #[.int .i64 q.to, .slice q.r.a q.r.l.length q.r.cap, .bool q.sp]]) (enters_of Try.func26 (by kernel_rfl) rfl) (hρ _ _ rfl) ((cons2 (hρ _ _ rfl) (cons2 (hρ _ _ rfl) rfl))) rfl) (fun w hm => (rpsame_c p q w ((hb.keep hm.ext) p (List.mem_of_getElem? hp)) ((hb2.keep hm.ext) q (List.mem_of_getElem? hq))).mono fun _ _ h => ⟨h.1.trans (congrArg Ending.returned (bool_as (decide_eq_false he))), h.2⟩) (by kernel_rfl) ?_
          refine G_last [7] [(3, .pointer (some ⟨B2, 0, none⟩)), (22, .slice (some ⟨b3, of3, none⟩) ps.length cap), (23, .int .i64 ((ps.length : Nat) : Int)), (24, .int .i64 ((k : Nat) : Int)), (25, .bool (decide (((k : Nat) : Int) < ((ps.length : Nat) : Int)))), (26, .int .i64 ((k : Nat) : Int)), (27, .pointer (some ⟨b3, of3 + k * 3, none⟩)), (28, .agg #[.int .i64 p.to, .slice p.r.a p.r.l.length p.r.cap, .bool p.sp]), (6, .pointer (some ⟨B4, 0, none⟩)), (5, .int .i64 ((k : Nat) : Int)), (29, .agg #[.int .i64 p.to, .slice p.r.a p.r.l.length p.r.cap, .bool p.sp]), (30, .pointer (some ⟨B2, 0, none⟩)), (31, .slice (some ⟨b5, of5, none⟩) qs.length capb), (32, .int .i64 ((k : Nat) : Int)), (33, .pointer (some ⟨b5, of5 + k * 3, none⟩)), (34, .agg #[.int .i64 q.to, .slice q.r.a q.r.l.length q.r.cap, .bool q.sp]), (35, .bool false), (36, .bool true)] (by kernel_rfl) (allM (all_cons (q_run (.bool true) rfl rfl (wv_n rfl) rfl (fun _ _ hρ _ => r_not (b := false) (hρ _ _ rfl))) all_nil)) (end_old rfl rfl (end_old rfl rfl (end_old rfl rfl (end_old rfl rfl (end_old rfl rfl (end_old rfl rfl (end_old rfl rfl (end_old rfl rfl (end_old rfl rfl (end_old rfl rfl (end_new 0 rfl rfl (end_new 1 rfl rfl (end_new 2 rfl rfl (end_new 3 rfl rfl (end_new 4 rfl rfl (end_new 5 rfl rfl (end_new 6 rfl rfl (end_new 7 rfl rfl end_nil)))))))))))))))))) ?_
          refine T_cond_t rfl ?_
          refine T_seq (T_region ?_)
          refine TL_q (.bool false) (fun _ _ hρ _ => r_assign (hρ _ _ rfl)) rfl rfl rfl (w_n rfl) ?_
          refine TL_seq ?_
          refine T_ret' ?_
          refine p_blk_r ?_
          refine p_then_r ?_
          refine p_then_r ?_
          refine p_blk_r ?_
          refine p_then_r ?_
          refine ret_of rfl (.bool false) (fun tmps w hk hm => res1 rfl (res_tmp (hk 4 _ rfl))) (fun w hm => ?_)
          exact ⟨congrArg Ending.returned (bool_as (decide_eq_false (fun e => he (pvs_at e.2 hp hq))).symm), hm.ext⟩
      · replace h1 := of_decide_eq_false h1
        refine T_exit' ?_
        refine p_then_x ?_
        refine p_then_x ?_
        refine p_blk_x ?_
        refine p_seq ?_
        refine T_seq (T_region ?_)
        refine TL_q (.bool true) (fun _ _ hρ _ => r_assign (hρ _ _ rfl)) rfl rfl rfl (w_n rfl) ?_
        refine TL_seq ?_
        refine T_ret' ?_
        refine ret_of rfl (.bool true) (fun tmps w hk hm => res1 rfl (res_tmp (hk 4 _ rfl))) (fun w hm => ?_)
        have hke : k = ps.length := by omega
        subst hke
        rw [List.take_length, show ps.length = qs.length by omega, List.take_length] at hk2
        exact ⟨congrArg Ending.returned (bool_as (decide_eq_true ⟨c1, hk2⟩).symm), hm.ext⟩
    · skip
      refine T_seq (T_region ?_)
      refine TL_q (.pointer (some ⟨B1, 1, none⟩)) (fun _ _ hρ _ => r_fieldAddr fl27_1 sz25 (hρ _ _ rfl)) rfl rfl rfl (w_n rfl) ?_
      refine TL_q (.int .u64 lost) (fun _ _ hρ hm => r_load ag25 (hρ _ _ rfl) (hm.at 1 rfl) rfl) rfl rfl rfl (w_n rfl) ?_
      refine TL_q (.pointer (some ⟨B2, 1, none⟩)) (fun _ _ hρ _ => r_fieldAddr fl27_1 sz25 (hρ _ _ rfl)) rfl rfl rfl (w_n rfl) ?_
      refine TL_q (.int .u64 lost2) (fun _ _ hρ hm => r_load ag25 (hρ _ _ rfl) (hm.at 2 rfl) rfl) rfl rfl rfl (w_n rfl) ?_
      refine TL_q (.bool false) (fun _ _ hρ _ => r_as (r_neq (hρ _ _ rfl) (hρ _ _ rfl)) (bool_as (by rw [decide_eq_true c1]; rfl))) rfl rfl rfl (w_n rfl) ?_
      refine TL_q (.bool false) (fun _ _ hρ _ => r_move (hρ _ _ rfl)) rfl rfl rfl (w_n rfl) ?_
      refine TL_q (.pointer (some ⟨B1, 0, none⟩)) (fun _ _ hρ _ => r_fieldAddr fl27_0 sz22 (hρ _ _ rfl)) rfl rfl rfl (want_y 12 rfl rfl rfl) ?_
      refine TL_q (.slice a ps.length cap) (fun _ _ hρ hm => r_load ag22 (hρ _ _ rfl) (hm.at 1 rfl) rfl) rfl rfl rfl (want_y 12 rfl rfl rfl) ?_
      refine TL_q (.int .i64 ((ps.length : Nat) : Int)) (fun _ _ hρ _ => r_len sl22 (hρ _ _ rfl)) rfl rfl rfl (want_y 12 rfl rfl rfl) ?_
      refine TL_q (.pointer (some ⟨B2, 0, none⟩)) (fun _ _ hρ _ => r_fieldAddr fl27_0 sz22 (hρ _ _ rfl)) rfl rfl rfl (want_y 12 rfl rfl rfl) ?_
      refine TL_q (.slice b qs.length capb) (fun _ _ hρ hm => r_load ag22 (hρ _ _ rfl) (hm.at 2 rfl) rfl) rfl rfl rfl (want_y 12 rfl rfl rfl) ?_
      refine TL_q (.int .i64 ((qs.length : Nat) : Int)) (fun _ _ hρ _ => r_len sl22 (hρ _ _ rfl)) rfl rfl rfl (want_y 12 rfl rfl rfl) ?_
      refine TL_q (.bool true) (fun _ _ hρ _ => r_as (r_neq (hρ _ _ rfl) (hρ _ _ rfl)) (bool_as (by rw [decide_eq_false c2]; rfl))) rfl rfl rfl (want_y 12 rfl rfl rfl) ?_
      refine TL_q (.bool true) (fun _ _ hρ _ => r_pick_f (hρ _ _ rfl) (hρ _ _ rfl)) rfl rfl rfl (w_n rfl) ?_
      refine TL_seq ?_
      refine T_cond_t rfl ?_
      refine T_seq (T_region ?_)
      refine TL_q (.bool false) (fun _ _ hρ _ => r_assign (hρ _ _ rfl)) rfl rfl rfl (w_n rfl) ?_
      refine TL_seq ?_
      refine T_ret' ?_
      refine p_then_r ?_
      refine ret_of rfl (.bool false) (fun tmps w hk hm => res1 rfl (res_tmp (hk 4 _ rfl))) (fun w hm => ?_)
      exact ⟨congrArg Ending.returned (bool_as (decide_eq_false (fun e => c2 (by have := congrArg List.length e.2; simp only [List.length_map] at this; omega))).symm), hm.ext⟩
  · skip
    refine T_seq (T_region ?_)
    refine TL_q (.pointer (some ⟨B1, 1, none⟩)) (fun _ _ hρ _ => r_fieldAddr fl27_1 sz25 (hρ _ _ rfl)) rfl rfl rfl (w_n rfl) ?_
    refine TL_q (.int .u64 lost) (fun _ _ hρ hm => r_load ag25 (hρ _ _ rfl) (hm.at 1 rfl) rfl) rfl rfl rfl (w_n rfl) ?_
    refine TL_q (.pointer (some ⟨B2, 1, none⟩)) (fun _ _ hρ _ => r_fieldAddr fl27_1 sz25 (hρ _ _ rfl)) rfl rfl rfl (w_n rfl) ?_
    refine TL_q (.int .u64 lost2) (fun _ _ hρ hm => r_load ag25 (hρ _ _ rfl) (hm.at 2 rfl) rfl) rfl rfl rfl (w_n rfl) ?_
    refine TL_q (.bool true) (fun _ _ hρ _ => r_as (r_neq (hρ _ _ rfl) (hρ _ _ rfl)) (bool_as (by rw [decide_eq_false c1]; rfl))) rfl rfl rfl (w_n rfl) ?_
    refine TL_q (.bool true) (fun _ _ hρ _ => r_move (hρ _ _ rfl)) rfl rfl rfl (w_n rfl) ?_
    refine TL_no rfl rfl (want_n 12 rfl rfl rfl) ?_
    refine TL_no rfl rfl (want_n 12 rfl rfl rfl) ?_
    refine TL_no rfl rfl (want_n 12 rfl rfl rfl) ?_
    refine TL_no rfl rfl (want_n 12 rfl rfl rfl) ?_
    refine TL_no rfl rfl (want_n 12 rfl rfl rfl) ?_
    refine TL_no rfl rfl (want_n 12 rfl rfl rfl) ?_
    refine TL_no rfl rfl (want_n 12 rfl rfl rfl) ?_
    refine TL_q (.bool true) (fun _ _ hρ _ => r_pick_t (hρ _ _ rfl) (hρ _ _ rfl)) rfl rfl rfl (w_n rfl) ?_
    refine TL_seq ?_
    refine T_cond_t rfl ?_
    refine T_seq (T_region ?_)
    refine TL_q (.bool false) (fun _ _ hρ _ => r_assign (hρ _ _ rfl)) rfl rfl rfl (w_n rfl) ?_
    refine TL_seq ?_
    refine T_ret' ?_
    refine p_then_r ?_
    refine ret_of rfl (.bool false) (fun tmps w hk hm => res1 rfl (res_tmp (hk 4 _ rfl))) (fun w hm => ?_)
    exact ⟨congrArg Ending.returned (bool_as (decide_eq_false (fun e => c1 e.1)).symm), hm.ext⟩

theorem byc_one1 : ∀ {l : List By}, ∀ u ∈ l.flatMap byc, u.oneCell' = true := by
  intro l u hu
  obtain ⟨x, _, hx⟩ := List.mem_flatMap.1 hu
  exact byc_one x u hx

theorem nown_c (p : Pcl) (w : World) (hp : p.ok w) : Calls Try.prog 99 #[p.v] w fun e w' => ∃ a' cap', e = .returned (.agg #[.int .i64 p.to, .slice a' p.r.l.length cap', .bool p.sp]) ∧ Below w.heap.size w w' ∧ w'.ownsRow w.heap.size 5 1 (.slice a' (p.r.l).length cap') (p.r.l).length ((p.r.l).flatMap byc) := by
  have hpl := hp.1.1
  have hpc := hp.2.1
  have hpn := hp.2.2
  unfold Go.maxLen at hpc
  refine calls_of_T (l := [.agg #[.int .i64 p.to, .slice p.r.a p.r.l.length p.r.cap, .bool p.sp]]) 15 Try.func99 rfl rfl rfl ?_
  show T _ _ _ [(0, .agg #[.int .i64 p.to, .slice p.r.a p.r.l.length p.r.cap, .bool p.sp])] []
  refine T_seq (T_region ?_)
  refine TL_new 1 (.cells #[.int .i64 p.to, .slice p.r.a p.r.l.length p.r.cap, .bool p.sp] 36) (fun B => .pointer (some ⟨B, 0, none⟩)) (fun _ _ hρ _ => r_box (hρ _ _ rfl) rfl) rfl rfl rfl (w_n rfl) ?_
  intro B1
  refine TL_new 2 (.cells #[.int .i64 0, .slice none 0 0, .bool false] 36) (fun B => .pointer (some ⟨B, 0, none⟩)) (fun _ _ _ _ => r_alloc (v := .agg #[.int .i64 0, .slice none 0 0, .bool false]) (by kernel_rfl) rfl) rfl rfl rfl (w_n rfl) ?_
  intro B2
  refine TL_seq ?_
  refine T_seq (T_region ?_)
  refine TL_q (.pointer (some ⟨B1, 1, none⟩)) (fun _ _ hρ _ => r_fieldAddr fl36_1 sz34 (hρ _ _ rfl)) rfl rfl rfl (w_n rfl) ?_
  refine TL_q (.slice p.r.a p.r.l.length p.r.cap) (fun _ _ hρ hm => r_load ag34 (hρ _ _ rfl) (hm.at 1 rfl) rfl) rfl rfl rfl (w_n rfl) ?_
  refine TL_q (.int .i64 ((p.r.l.length : Nat) : Int)) (fun _ _ hρ _ => r_len sl34 (hρ _ _ rfl)) rfl rfl rfl (w_n rfl) ?_
  refine TL_op (ι := Nat) (fun B => .slice (some ⟨B, 0, none⟩) p.r.l.length p.r.l.length) _ (fun _ _ hρ hm => o_make (n := p.r.l.length) (cap := p.r.l.length) (z := .int .u8 0) (f := byc) (u := 0#8) 940 rfl (hρ _ _ rfl) (hρ _ _ rfl) sl34 by5 sz5 rfl (by kernel_rfl) rfl byc_len (by omega) (by omega) (by omega) hm) rfl rfl rfl (w_n rfl) ?_
  intro B3
  refine TL_q (.slice (some ⟨B3, 0, none⟩) p.r.l.length p.r.l.length) (fun _ _ hρ _ => r_assign (hρ _ _ rfl)) rfl rfl rfl (w_n rfl) ?_
  refine TL_seq ?_
  refine T_seq (T_region ?_)
  refine TL_q (.slice (some ⟨B3, 0, none⟩) p.r.l.length p.r.l.length) (fun _ _ hρ _ => r_move (hρ _ _ rfl)) rfl rfl rfl (w_n rfl) ?_
  refine TL_q (.pointer (some ⟨B1, 1, none⟩)) (fun _ _ hρ _ => r_fieldAddr fl36_1 sz34 (hρ _ _ rfl)) rfl rfl rfl (w_n rfl) ?_
  refine TL_q (.slice p.r.a p.r.l.length p.r.cap) (fun _ _ hρ hm => r_load ag34 (hρ _ _ rfl) (hm.at 1 rfl) rfl) rfl rfl rfl (w_n rfl) ?_
  refine TL_op1 (.int .i64 ((p.r.l.length : Nat) : Int)) _ (fun _ _ hρ hm => o_copy (s := 1) (news := (p.r.l.flatMap byc)) 940 rfl (hρ _ _ rfl) (hρ _ _ rfl) rfl sl34 sz5 (src_of byc_len (hp.1.keep hm.ext)) byc_one1 hm) rfl rfl rfl (w_n rfl) ?_
  refine TL_seq ?_
  refine T_seq (T_region ?_)
  refine TL_q (.slice (some ⟨B3, 0, none⟩) p.r.l.length p.r.l.length) (fun _ _ hρ _ => r_move (hρ _ _ rfl)) rfl rfl rfl (w_n rfl) ?_
  refine TL_q (.pointer (some ⟨B1, 1, none⟩)) (fun _ _ hρ _ => r_fieldAddr fl36_1 sz34 (hρ _ _ rfl)) rfl rfl rfl (w_n rfl) ?_
  refine TL_store 1 (.cells #[.int .i64 p.to, .slice (some ⟨B3, 0, none⟩) p.r.l.length p.r.l.length, .bool p.sp] 36) rfl (fun _ _ hρ hm => r_store sz34 (hρ _ _ rfl) (hρ _ _ rfl) (hm.at 1 rfl) rfl rfl rfl rfl) rfl rfl (w_n rfl) ?_
  refine TL_seq ?_
  refine T_seq (T_region ?_)
  refine TL_q (.agg #[.int .i64 p.to, .slice (some ⟨B3, 0, none⟩) p.r.l.length p.r.l.length, .bool p.sp]) (fun _ _ hρ hm => r_loadA ag36 sz36 (hρ _ _ rfl) (hm.at 1 rfl) rfl rfl) rfl rfl rfl (w_n rfl) ?_
  refine TL_store 2 (.cells #[.int .i64 p.to, .slice (some ⟨B3, 0, none⟩) p.r.l.length p.r.l.length, .bool p.sp] 36) rfl (fun _ _ hρ hm => r_store sz36 (hρ _ _ rfl) (hρ _ _ rfl) (hm.at 2 rfl) rfl rfl rfl rfl) rfl rfl (w_n rfl) ?_
  refine TL_seq ?_
  refine T_ret' ?_
  refine ret_of rfl (.agg #[.int .i64 p.to, .slice (some ⟨B3, 0, none⟩) p.r.l.length p.r.l.length, .bool p.sp]) (fun tmps w hk hm => res1 rfl (res_cell (hk 2 _ rfl) (run_loadVar_agg ag36 sz36 (hm.at 2 rfl) (Nat.le_of_ble_eq_true rfl) rfl))) (fun w hm => ?_)
  exact ⟨(some ⟨B3, 0, none⟩), p.r.l.length, rfl, hm.ext, hm.row 940 rfl⟩

theorem nnew_c (w : World) : Calls Try.prog 14 #[] w fun e w' => e = .returned (.agg #[.slice none 0 0, .int .u64 0]) ∧ Below w.heap.size w w' := by
  refine calls_of_T (l := []) 2 Try.func14 rfl rfl rfl ?_
  show T _ _ _ [] []
  refine T_seq (T_region ?_)
  refine TL_new 1 (.cells #[.slice none 0 0, .int .u64 0] 27) (fun B => .pointer (some ⟨B, 0, none⟩)) (fun _ _ _ _ => r_alloc (v := .agg #[.slice none 0 0, .int .u64 0]) (by kernel_rfl) rfl) rfl rfl rfl (w_n rfl) ?_
  intro B1
  refine TL_seq ?_
  refine T_seq (T_region ?_)
  refine TL_q (.agg #[.slice none 0 0, .int .u64 0]) (fun _ _ _ _ => r_build (vs := []) (by kernel_rfl) rfl) rfl rfl rfl (w_n rfl) ?_
  refine TL_store 1 (.cells #[.slice none 0 0, .int .u64 0] 27) rfl (fun _ _ hρ hm => r_store sz27 (hρ _ _ rfl) (hρ _ _ rfl) (hm.at 1 rfl) rfl rfl rfl rfl) rfl rfl (w_n rfl) ?_
  refine TL_seq ?_
  refine T_ret' ?_
  refine ret_of rfl (.agg #[.slice none 0 0, .int .u64 0]) (fun tmps w hk hm => res1 rfl (res_cell (hk 0 _ rfl) (run_loadVar_agg ag27 sz27 (hm.at 1 rfl) (Nat.le_of_ble_eq_true rfl) rfl))) (fun w hm => ?_)
  exact ⟨rfl, hm.ext⟩
end Go.Proofs.Ytcidgbjgeegepaa
/- append of so many zeros onto nil. Over any program. -/
namespace Go.Proofs.Ytcidgbjgeegepaa
open Go Go.RowKit
section
variable {P : Program} {w₀ w : World} {L : Heap} {ρ : Operand → Value} {d : Option Tmp} {ty : TypeId} {ps : String} {af : Array Edge} {g : Option (Nat × Bool)}
theorem o_growZ {x y : Operand} {ats : Array TypeId} {t tn e : TypeId} {kn : IntKind} {n s by' : Nat} {z : Value} (i : Nat) (hfr : lk L i = none) (hat : ats = #[t, tn]) (hx : ρ x = .slice none 0 0) (hy : ρ y = .int .i64 (n : Nat)) (ht : sliOf P t = some e) (htn : intOf? P tn = some kn)
    (hs : szOf P e = some s) (hs0 : Nat.blt 0 s = true) (hby : byOf P e = some by') (hz : zeroOf P e = some z) (hzs : z.cells.size = s) (h0 : 0 < n) (h63 : n ≤ 4611686018427387904) (hb : n * by' ≤ 140737488355328) (hm : MemOk w₀ L w) :
    ∃ (c : Nat × Nat) (w' : World), (execOp ρ (mk d (.call { callee := .builtin .append, args := #[x, y], argTypes := ats }) ty ps af g)).run P w = .ok (.value (.slice (some ⟨c.1, 0, none⟩) n c.2)) w' ∧ MemOk w₀ ((i, .row (.slice (some ⟨c.1, 0, none⟩) 0 c.2) e s 0 []) :: L) w' := by
  subst hat
  obtain ⟨ti, hi, hsz⟩ := Option.map_eq_some_iff.1 hs
  obtain ⟨ti', hi', hbz⟩ := Option.map_eq_some_iff.1 hby
  rw [hi] at hi'; cases hi'
  have hzz : ti.zero = some z := by simpa [zeroOf, hi] using hz
  have hs1 : 0 < s := by rw [Nat.blt_eq] at hs0; exact hs0
  have hr := Go.Lib.run_append_nil_zeros (P := P) w t tn ty e ti z .i64 kn (und_sli ht) (und_int htn) hi hzz n h0 (by rw [hsz]; exact hs1) (by omega) (by rw [hbz]; omega)
  refine ⟨(w.heap.size, grownCap w n 0 e), _, by rw [run_builtin]; simp only [List.map_toArray, List.map_cons, List.map_nil, hx, hy]; exact run_v hr, ?_⟩
  · have hcm : grownCap w n 0 e ≤ Go.maxLen := grownCap_le_maxLen w n 0 e (by unfold Go.maxLen; omega)
    have hge := grownCap_ge w n 0 e
    refine hm.grow (n := 0) (xs := []) (.inr ⟨hfr, (rfl : (Value.slice none 0 0).ownBlock = none)⟩) ⟨rfl, rfl, rfl, by simp, fun k hk _ => Go.heap_alloc_old w.drew _ k hk⟩ ⟨by simp, .inr ⟨w.heap.size, _, _, rfl, hm.ext.size, Go.heap_alloc_new w.drew _, Nat.zero_le _, hcm, ?_, by simp⟩⟩ (.inr rfl)
    simp only [Array.size_append, size_zeroCells, hzs, ← Nat.add_mul]
    congr 1
    omega
end
end Go.Proofs.Ytcidgbjgeegepaa
