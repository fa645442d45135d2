/- crc: the references of words. Printed by a program of this seat's prover. -/
import Derived.Test.YtnjcffhpfmnbfaaIter
import Derived.Test.YtnjcffhpfmnbfaaCrcL
import Derived.Test.YtnjcffhpfmnbfaaBit2
namespace Go.Proofs.Ytnjcffhpfmnbfaa
open Go Go.RowKit
set_option maxRecDepth 10000
theorem turned_eq (x : Wd) : 4294967295#32 - x = ~~~ x := by
  apply BitVec.eq_of_toNat_eq
  have := x.isLt
  rw [BitVec.toNat_sub, BitVec.toNat_not]
  show (2 ^ 32 - x.toNat + 4294967295) % 2 ^ 32 = 2 ^ 32 - 1 - x.toNat
  omega
theorem half_w (x : Wd) (k : Nat) : (x >>> k) / 2#32 = x >>> (k + 1) := by rw [half_b (n := 30), BitVec.shiftRight_add]
theorem half0 (x : Wd) : x / 2#32 = x >>> 1 := half_b (n := 30) x
theorem odd_w (x : Wd) : x % 2#32 = bw (x.getLsbD 0) := odd_b (n := 30) x
theorem dbl_w (x : Wd) : 2#32 * x = x <<< 1 := by
  apply BitVec.eq_of_toNat_eq
  rw [BitVec.toNat_mul, BitVec.toNat_shiftLeft, Nat.shiftLeft_eq]
  show (2 * x.toNat) % 2 ^ 32 = x.toNat * 2 % 2 ^ 32
  rw [Nat.mul_comm]
theorem dbl_s (k : Nat) : 2#32 * (1#32 <<< k) = 1#32 <<< (k + 1) := by rw [dbl_w, BitVec.shiftLeft_add]
theorem bw_inj {a b : Bool} : bw a = bw b ↔ a = b := by cases a <;> cases b <;> decide
theorem par_ne (a b : Wd) (k : Nat) : (a >>> k) % 2#32 = (b >>> k) % 2#32 ↔ (a ^^^ b).getLsbD k = false := by
  rw [odd_w, odd_w, bw_inj, BitVec.getLsbD_ushiftRight, BitVec.getLsbD_ushiftRight, Nat.add_zero, BitVec.getLsbD_xor]
  cases a.getLsbD k <;> cases b.getLsbD k <;> simp
theorem low_same {x : Wd} {k : Nat} (hk : k < 32) (h : x.getLsbD k = false) : lowW k x = lowW (k + 1) x := by
  rw [lowW_succ k x hk, h]
  show _ = _ ^^^ (0#32 <<< k)
  simp
theorem low_add {x : Wd} {k : Nat} (hk : k < 32) (h : x.getLsbD k = true) : lowW k x + (1#32 <<< k) = lowW (k + 1) x := by
  have hb : ∀ i, (1#32 <<< k).getLsbD i = (decide (i < 32) && decide (i = k)) := by
    intro i
    rw [BitVec.getLsbD_shiftLeft, BitVec.getLsbD_one]
    by_cases e : i = k
    · subst e; simp
    · by_cases hl : i < k
      · simp [hl, e]
      · simp [hl, e]; omega
  rw [BitVec.add_eq_or_of_and_eq_zero _ _ (by
    apply BitVec.eq_of_getLsbD_eq
    intro i hi
    rw [BitVec.getLsbD_and, lowW_bit, hb]
    by_cases e : i = k
    · subst e; simp
    · simp [e])]
  apply BitVec.eq_of_getLsbD_eq
  intro i hi
  rw [BitVec.getLsbD_or, lowW_bit, lowW_bit, hb]
  by_cases e : i = k
  · subst e; simp [hi, h]
  · simp only [e, decide_false, Bool.and_false, Bool.or_false]
    congr 1
    simp only [decide_eq_decide]; omega
theorem back_ge {x : Wd} (h : (2147483648 : Int) ≤ (x.toNat : Int)) : x.getLsbD 31 = true := by
  rw [← BitVec.msb_eq_getLsbD_last, BitVec.msb_eq_decide]
  exact decide_eq_true (by show 2 ^ 31 ≤ x.toNat; omega)
theorem back_lt {x : Wd} (h : ¬ (2147483648 : Int) ≤ (x.toNat : Int)) : x.getLsbD 31 = false := by
  rw [← BitVec.msb_eq_getLsbD_last, BitVec.msb_eq_decide]
  exact decide_eq_false (by show ¬ 2 ^ 31 ≤ x.toNat; omega)
theorem back_eq {x : Wd} (h : x.getLsbD 31 = true) : 2#32 * (x ^^^ 3988292384#32) + 1#32 = back0 x := by
  rw [dbl_w, BitVec.add_eq_or_of_and_eq_zero _ _ (by
    apply BitVec.eq_of_getLsbD_eq
    intro i hi
    rw [BitVec.getLsbD_and, BitVec.getLsbD_shiftLeft, BitVec.getLsbD_one]
    by_cases e : i = 0
    · subst e; simp
    · simp [e])]
  exact (if_pos h).symm
theorem back_eq0 {x : Wd} (h : x.getLsbD 31 = false) : 2#32 * x = back0 x := by
  rw [dbl_w]
  exact (if_neg (by rw [h]; decide)).symm
theorem feed_eq {r : Wd} {c : Bool} (h : ¬ r % 2#32 = bw c) : (r / 2#32) ^^^ 3988292384#32 = fed0 (r ^^^ bw c) := by
  rw [odd_w, bw_inj] at h
  unfold fed0
  rw [if_pos (by rw [BitVec.getLsbD_xor, bw_bit]; cases hr : r.getLsbD 0 <;> cases c <;> simp_all), shr_xor, half0]
  have : bw c >>> 1 = 0#32 := by cases c <;> rfl
  rw [this, BitVec.xor_zero]
theorem feed_eq0 {r : Wd} {c : Bool} (h : r % 2#32 = bw c) : r / 2#32 = fed0 (r ^^^ bw c) := by
  rw [odd_w, bw_inj] at h
  unfold fed0
  rw [if_neg (by rw [BitVec.getLsbD_xor, bw_bit]; cases hr : r.getLsbD 0 <;> cases c <;> simp_all), shr_xor, half0]
  have : bw c >>> 1 = 0#32 := by cases c <;> rfl
  rw [this, BitVec.xor_zero]
theorem bit_eq {l : List By} {n : Nat} {b : By} (h : l[n / 8]? = some b) : ((b.setWidth 32 : Wd) >>> (n % 8)) % 2#32 = bw (bitA l n) := by
  rw [odd_w]
  congr 1
  rw [BitVec.getLsbD_ushiftRight, Nat.add_zero, BitVec.getLsbD_setWidth]
  unfold bitA
  rw [h]
  show (decide (n % 8 < 32) && _) = _
  rw [decide_eq_true (by omega)]; rfl
theorem four0 (x : Wd) : (x % 256#32).setWidth 8 = x.setWidth 8 := by
  apply BitVec.eq_of_toNat_eq
  rw [BitVec.toNat_setWidth, BitVec.toNat_setWidth, BitVec.toNat_umod]
  show (x.toNat % 256) % 256 = x.toNat % 256
  omega
theorem four1 (x : Wd) : ((x / 256#32) % 256#32).setWidth 8 = (x >>> 8).setWidth 8 := by
  apply BitVec.eq_of_toNat_eq
  rw [BitVec.toNat_setWidth, BitVec.toNat_setWidth, BitVec.toNat_umod, BitVec.toNat_udiv, BitVec.toNat_ushiftRight, Nat.shiftRight_eq_div_pow]
  show (x.toNat / 256 % 256) % 256 = x.toNat / 256 % 256
  omega
theorem four2 (x : Wd) : ((x / 65536#32) % 256#32).setWidth 8 = (x >>> 16).setWidth 8 := by
  apply BitVec.eq_of_toNat_eq
  rw [BitVec.toNat_setWidth, BitVec.toNat_setWidth, BitVec.toNat_umod, BitVec.toNat_udiv, BitVec.toNat_ushiftRight, Nat.shiftRight_eq_div_pow]
  show (x.toNat / 65536 % 256) % 256 = x.toNat / 65536 % 256
  omega
theorem four3 (x : Wd) : (x / 16777216#32).setWidth 8 = (x >>> 24).setWidth 8 := by
  apply BitVec.eq_of_toNat_eq
  rw [BitVec.toNat_setWidth, BitVec.toNat_setWidth, BitVec.toNat_udiv, BitVec.toNat_ushiftRight, Nat.shiftRight_eq_div_pow]
  rfl

theorem turned_ref (x : Wd) (w : World) : Calls Try.prog 27 #[.int .u32 (x.toNat : Int)] w fun e w' => e = .returned (.int .u32 ((~~~x).toNat : Int)) ∧ Below w.heap.size w w' := by
  refine calls_of_T (l := [.int .u32 ((x).toNat : Int)]) 5 Try.func27 rfl rfl rfl ?_
  show T _ _ _ [(0, .int .u32 ((x).toNat : Int))] []
  refine T_seq (T_region ?_)
  refine TL_q (.int .u32 0) (fun _ _ hρ _ => r_assign (hρ _ _ rfl)) rfl rfl rfl (w_n rfl) ?_
  refine TL_seq ?_
  refine T_seq (T_region ?_)
  refine TL_q (.int .u32 ((x).toNat : Int)) (fun _ _ hρ _ => r_move (hρ _ _ rfl)) rfl rfl rfl (w_n rfl) ?_
  refine TL_q (.int .u32 (((4294967295#32) - x).toNat : Int)) (fun _ _ hρ _ => r_subB (k := .u32) (a := (4294967295#32)) (b := x) rfl (hρ _ _ rfl) (hρ _ _ rfl)) rfl rfl rfl (w_n rfl) ?_
  refine TL_q (.int .u32 (((4294967295#32) - x).toNat : Int)) (fun _ _ hρ _ => r_assign (hρ _ _ rfl)) rfl rfl rfl (w_n rfl) ?_
  refine TL_seq ?_
  refine T_ret' ?_
  refine ret_of rfl (.int .u32 (((4294967295#32) - x).toNat : Int)) (fun tmps w hk hm => res1 rfl (res_tmp (hk 2 _ rfl))) (fun w hm => ?_)
  exact ⟨congrArg (fun x : Wd => Ending.returned (.int .u32 (x.toNat : Int))) (turned_eq x), hm.ext⟩

theorem xor_ref (a b : Wd) (w : World) : Calls Try.prog 30 #[.int .u32 (a.toNat : Int), .int .u32 (b.toNat : Int)] w fun e w' => e = .returned (.int .u32 ((a ^^^ b).toNat : Int)) ∧ Below w.heap.size w w' := by
  refine calls_of_T (l := [.int .u32 ((a).toNat : Int), .int .u32 ((b).toNat : Int)]) 25 Try.func30 rfl rfl rfl ?_
  show T _ _ _ [(0, .int .u32 ((a).toNat : Int)), (1, .int .u32 ((b).toNat : Int))] []
  refine T_seq (T_region ?_)
  refine TL_q (.int .u32 0) (fun _ _ hρ _ => r_assign (hρ _ _ rfl)) rfl rfl rfl (w_n rfl) ?_
  refine TL_seq ?_
  refine T_seq (T_region ?_)
  refine TL_q (.int .u32 0) (fun _ _ hρ _ => r_assign (hρ _ _ rfl)) rfl rfl rfl (w_n rfl) ?_
  refine TL_q (.int .u32 1) (fun _ _ hρ _ => r_assign (hρ _ _ rfl)) rfl rfl rfl (w_n rfl) ?_
  refine TL_seq ?_
  refine T_seq ?_
  refine T_seq (T_region ?_)
  refine TL_q (.int .i64 0) (fun _ _ hρ _ => r_move (hρ _ _ rfl)) rfl rfl rfl (w_n rfl) ?_
  refine TL_seq ?_
  refine T_block ?_
  refine T_loop (ι := Nat) (fun (k : Nat) => k ≤ 32) (fun (k : Nat) => [(4, .int .u32 0), (7, .int .i64 ((k : Nat) : Int)), (0, .int .u32 ((a >>> k).toNat : Int)), (1, .int .u32 ((b >>> k).toNat : Int)), (6, .int .u32 ((1#32 <<< k).toNat : Int)), (5, .int .u32 ((lowW k (a ^^^ b)).toNat : Int))]) (fun (k : Nat) => []) (fun (k : Nat) => 32 - k) 0 (Nat.zero_le _) (sub_cons rfl (sub_cons rfl (sub_cons (by exact (congrArg (fun x : Wd => some (Value.int .u32 (x.toNat : Int))) ((BitVec.ushiftRight_zero a).symm))) (sub_cons (by exact (congrArg (fun x : Wd => some (Value.int .u32 (x.toNat : Int))) ((BitVec.ushiftRight_zero b).symm))) (sub_cons (by exact (congrArg (fun x : Wd => some (Value.int .u32 (x.toNat : Int))) ((BitVec.shiftLeft_zero 1#32).symm))) (sub_cons (by exact (congrArg (fun x : Wd => some (Value.int .u32 (x.toNat : Int))) ((lowW_zero (a ^^^ b)).symm))) sub_nil)))))) sub_nil ?_
  rintro k hp
  show T _ _ _ [(4, .int .u32 0), (7, .int .i64 ((k : Nat) : Int)), (0, .int .u32 ((a >>> k).toNat : Int)), (1, .int .u32 ((b >>> k).toNat : Int)), (6, .int .u32 ((1#32 <<< k).toNat : Int)), (5, .int .u32 ((lowW k (a ^^^ b)).toNat : Int))] []
  refine T_seq (T_region ?_)
  refine TL_q (.bool (decide (((k : Nat) : Int) < 32))) (fun _ _ hρ _ => r_lss (hρ _ _ rfl) (hρ _ _ rfl)) rfl rfl rfl (w_n rfl) ?_
  refine TL_seq ?_
  refine T_seq ?_
  refine T_cond rfl (fun h1 => ?_) (fun h1 => ?_)
  · replace h1 := of_decide_eq_true h1
    refine T_skip' ?_
    refine p_seq ?_
    refine T_seq ?_
    refine T_block ?_
    refine T_seq ?_
    refine T_seq (T_region ?_)
    refine TL_q (.int .u32 ((a >>> k).toNat : Int)) (fun _ _ hρ _ => r_move (hρ _ _ rfl)) rfl rfl rfl (w_n rfl) ?_
    refine TL_q (.int .u32 (((a >>> k) % (2#32)).toNat : Int)) (fun _ _ hρ _ => r_remB (k := .u32) (a := (a >>> k)) (b := (2#32)) rfl (hρ _ _ rfl) (hρ _ _ rfl)) rfl rfl rfl (w_n rfl) ?_
    refine TL_q (.int .u32 ((b >>> k).toNat : Int)) (fun _ _ hρ _ => r_move (hρ _ _ rfl)) rfl rfl rfl (w_n rfl) ?_
    refine TL_q (.int .u32 (((b >>> k) % (2#32)).toNat : Int)) (fun _ _ hρ _ => r_remB (k := .u32) (a := (b >>> k)) (b := (2#32)) rfl (hρ _ _ rfl) (hρ _ _ rfl)) rfl rfl rfl (w_n rfl) ?_
    refine TL_q (.bool (!decide (((a >>> k) % (2#32)) = ((b >>> k) % (2#32))))) (fun _ _ hρ _ => r_as (r_neq (hρ _ _ rfl) (hρ _ _ rfl)) (bool_as (congrArg (fun b => !b) (bv_dec ((a >>> k) % (2#32)) ((b >>> k) % (2#32)))))) rfl rfl rfl (w_n rfl) ?_
    refine TL_seq ?_
    refine T_cond rfl (fun h2 => ?_) (fun h2 => ?_)
    · replace h2 := of_decide_eq_false (bnot_t h2)
      refine T_region ?_
      refine TL_q (.int .u32 ((lowW k (a ^^^ b)).toNat : Int)) (fun _ _ hρ _ => r_move (hρ _ _ rfl)) rfl rfl rfl (w_n rfl) ?_
      refine TL_q (.int .u32 ((1#32 <<< k).toNat : Int)) (fun _ _ hρ _ => r_move (hρ _ _ rfl)) rfl rfl rfl (w_n rfl) ?_
      refine TL_q (.int .u32 (((lowW k (a ^^^ b)) + (1#32 <<< k)).toNat : Int)) (fun _ _ hρ _ => r_addB (k := .u32) (a := (lowW k (a ^^^ b))) (b := (1#32 <<< k)) rfl (hρ _ _ rfl) (hρ _ _ rfl)) rfl rfl rfl (w_n rfl) ?_
      refine TL_q (.int .u32 (((lowW k (a ^^^ b)) + (1#32 <<< k)).toNat : Int)) (fun _ _ hρ _ => r_assign (hρ _ _ rfl)) rfl rfl rfl (w_n rfl) ?_
      refine TL_nil ?_
      refine p_seq ?_
      refine T_region ?_
      refine TL_q (.int .u32 ((a >>> k).toNat : Int)) (fun _ _ hρ _ => r_move (hρ _ _ rfl)) rfl rfl rfl (w_n rfl) ?_
      refine TL_q (.int .u32 (((a >>> k) / (2#32)).toNat : Int)) (fun _ _ hρ _ => r_quoB (k := .u32) (a := (a >>> k)) (b := (2#32)) rfl rfl (hρ _ _ rfl) (hρ _ _ rfl)) rfl rfl rfl (w_n rfl) ?_
      refine TL_q (.int .u32 ((b >>> k).toNat : Int)) (fun _ _ hρ _ => r_move (hρ _ _ rfl)) rfl rfl rfl (w_n rfl) ?_
      refine TL_q (.int .u32 (((b >>> k) / (2#32)).toNat : Int)) (fun _ _ hρ _ => r_quoB (k := .u32) (a := (b >>> k)) (b := (2#32)) rfl rfl (hρ _ _ rfl) (hρ _ _ rfl)) rfl rfl rfl (w_n rfl) ?_
      refine TL_q (.int .u32 ((1#32 <<< k).toNat : Int)) (fun _ _ hρ _ => r_move (hρ _ _ rfl)) rfl rfl rfl (w_n rfl) ?_
      refine TL_q (.int .u32 (((2#32) * (1#32 <<< k)).toNat : Int)) (fun _ _ hρ _ => r_mulB (k := .u32) (a := (2#32)) (b := (1#32 <<< k)) rfl (hρ _ _ rfl) (hρ _ _ rfl)) rfl rfl rfl (w_n rfl) ?_
      refine TL_q (.int .u32 (((a >>> k) / (2#32)).toNat : Int)) (fun _ _ hρ _ => r_assign (hρ _ _ rfl)) rfl rfl rfl (w_n rfl) ?_
      refine TL_q (.int .u32 (((b >>> k) / (2#32)).toNat : Int)) (fun _ _ hρ _ => r_assign (hρ _ _ rfl)) rfl rfl rfl (w_n rfl) ?_
      refine TL_q (.int .u32 (((2#32) * (1#32 <<< k)).toNat : Int)) (fun _ _ hρ _ => r_assign (hρ _ _ rfl)) rfl rfl rfl (w_n rfl) ?_
      refine TL_nil ?_
      refine p_blk_n ?_
      refine p_seq ?_
      refine T_region ?_
      refine TL_q (.int .i64 ((k + 1 : Nat) : Int)) (fun _ _ hρ _ => r_as (r_add (hρ _ _ rfl) (hρ _ _ rfl)) (int_as ((wrap64 (by omega) (by omega)).trans (by omega)))) rfl rfl rfl (w_n rfl) ?_
      refine TL_q (.int .i64 ((k + 1 : Nat) : Int)) (fun _ _ hρ _ => r_move (hρ _ _ rfl)) rfl rfl rfl (w_n rfl) ?_
      refine TL_nil ?_
      exact p_at (k + 1) ⟨by omega, by omega⟩ (sub_cons rfl (sub_cons rfl (sub_cons (congrArg (fun x : Wd => some (Value.int .u32 (x.toNat : Int))) (half_w a k)) (sub_cons (congrArg (fun x : Wd => some (Value.int .u32 (x.toNat : Int))) (half_w b k)) (sub_cons (congrArg (fun x : Wd => some (Value.int .u32 (x.toNat : Int))) (dbl_s k)) (sub_cons (congrArg (fun x : Wd => some (Value.int .u32 (x.toNat : Int))) ((low_add (x := a ^^^ b) (by omega) (by cases hb : (a ^^^ b).getLsbD k with | true => rfl | false => exact absurd ((par_ne a b k).2 hb) h2)))) sub_nil)))))) sub_nil
    · replace h2 := of_decide_eq_true (bnot_f h2)
      refine T_skip' ?_
      refine p_seq ?_
      refine T_region ?_
      refine TL_q (.int .u32 ((a >>> k).toNat : Int)) (fun _ _ hρ _ => r_move (hρ _ _ rfl)) rfl rfl rfl (w_n rfl) ?_
      refine TL_q (.int .u32 (((a >>> k) / (2#32)).toNat : Int)) (fun _ _ hρ _ => r_quoB (k := .u32) (a := (a >>> k)) (b := (2#32)) rfl rfl (hρ _ _ rfl) (hρ _ _ rfl)) rfl rfl rfl (w_n rfl) ?_
      refine TL_q (.int .u32 ((b >>> k).toNat : Int)) (fun _ _ hρ _ => r_move (hρ _ _ rfl)) rfl rfl rfl (w_n rfl) ?_
      refine TL_q (.int .u32 (((b >>> k) / (2#32)).toNat : Int)) (fun _ _ hρ _ => r_quoB (k := .u32) (a := (b >>> k)) (b := (2#32)) rfl rfl (hρ _ _ rfl) (hρ _ _ rfl)) rfl rfl rfl (w_n rfl) ?_
      refine TL_q (.int .u32 ((1#32 <<< k).toNat : Int)) (fun _ _ hρ _ => r_move (hρ _ _ rfl)) rfl rfl rfl (w_n rfl) ?_
      refine TL_q (.int .u32 (((2#32) * (1#32 <<< k)).toNat : Int)) (fun _ _ hρ _ => r_mulB (k := .u32) (a := (2#32)) (b := (1#32 <<< k)) rfl (hρ _ _ rfl) (hρ _ _ rfl)) rfl rfl rfl (w_n rfl) ?_
      refine TL_q (.int .u32 (((a >>> k) / (2#32)).toNat : Int)) (fun _ _ hρ _ => r_assign (hρ _ _ rfl)) rfl rfl rfl (w_n rfl) ?_
      refine TL_q (.int .u32 (((b >>> k) / (2#32)).toNat : Int)) (fun _ _ hρ _ => r_assign (hρ _ _ rfl)) rfl rfl rfl (w_n rfl) ?_
      refine TL_q (.int .u32 (((2#32) * (1#32 <<< k)).toNat : Int)) (fun _ _ hρ _ => r_assign (hρ _ _ rfl)) rfl rfl rfl (w_n rfl) ?_
      refine TL_nil ?_
      refine p_blk_n ?_
      refine p_seq ?_
      refine T_region ?_
      refine TL_q (.int .i64 ((k + 1 : Nat) : Int)) (fun _ _ hρ _ => r_as (r_add (hρ _ _ rfl) (hρ _ _ rfl)) (int_as ((wrap64 (by omega) (by omega)).trans (by omega)))) rfl rfl rfl (w_n rfl) ?_
      refine TL_q (.int .i64 ((k + 1 : Nat) : Int)) (fun _ _ hρ _ => r_move (hρ _ _ rfl)) rfl rfl rfl (w_n rfl) ?_
      refine TL_nil ?_
      exact p_at (k + 1) ⟨by omega, by omega⟩ (sub_cons rfl (sub_cons rfl (sub_cons (congrArg (fun x : Wd => some (Value.int .u32 (x.toNat : Int))) (half_w a k)) (sub_cons (congrArg (fun x : Wd => some (Value.int .u32 (x.toNat : Int))) (half_w b k)) (sub_cons (congrArg (fun x : Wd => some (Value.int .u32 (x.toNat : Int))) (dbl_s k)) (sub_cons (congrArg (fun x : Wd => some (Value.int .u32 (x.toNat : Int))) ((low_same (x := a ^^^ b) (by omega) ((par_ne a b k).1 h2)))) sub_nil)))))) sub_nil
  · replace h1 := of_decide_eq_false h1
    refine T_exit' ?_
    refine p_then_x ?_
    refine p_then_x ?_
    refine p_blk_x ?_
    refine p_seq ?_
    refine T_seq (T_region ?_)
    refine TL_q (.int .u32 ((lowW k (a ^^^ b)).toNat : Int)) (fun _ _ hρ _ => r_move (hρ _ _ rfl)) rfl rfl rfl (w_n rfl) ?_
    refine TL_q (.int .u32 ((lowW k (a ^^^ b)).toNat : Int)) (fun _ _ hρ _ => r_assign (hρ _ _ rfl)) rfl rfl rfl (w_n rfl) ?_
    refine TL_seq ?_
    refine T_ret' ?_
    refine ret_of rfl (.int .u32 ((lowW k (a ^^^ b)).toNat : Int)) (fun tmps w hk hm => res1 rfl (res_tmp (hk 4 _ rfl))) (fun w hm => ?_)
    have hk : k = 32 := by omega
    subst hk
    exact ⟨congrArg (fun x : Wd => Ending.returned (.int .u32 (x.toNat : Int))) (lowW_all (a ^^^ b)), hm.ext⟩

theorem feedb_ref (r : Wd) (c : Bool) (w : World) : Calls Try.prog 36 #[.int .u32 (r.toNat : Int), .int .u32 ((bw c).toNat : Int)] w fun e w' => e = .returned (.int .u32 ((fed0 (r ^^^ bw c)).toNat : Int)) ∧ Below w.heap.size w w' := by
  refine calls_of_T (l := [.int .u32 ((r).toNat : Int), .int .u32 ((bw c).toNat : Int)]) 14 Try.func36 rfl rfl rfl ?_
  show T _ _ _ [(0, .int .u32 ((r).toNat : Int)), (1, .int .u32 ((bw c).toNat : Int))] []
  refine T_seq (T_region ?_)
  refine TL_q (.int .u32 0) (fun _ _ hρ _ => r_assign (hρ _ _ rfl)) rfl rfl rfl (w_n rfl) ?_
  refine TL_seq ?_
  refine T_seq ?_
  refine T_seq (T_region ?_)
  refine TL_q (.int .u32 ((r).toNat : Int)) (fun _ _ hρ _ => r_move (hρ _ _ rfl)) rfl rfl rfl (w_n rfl) ?_
  refine TL_q (.int .u32 ((r % (2#32)).toNat : Int)) (fun _ _ hρ _ => r_remB (k := .u32) (a := r) (b := (2#32)) rfl (hρ _ _ rfl) (hρ _ _ rfl)) rfl rfl rfl (w_n rfl) ?_
  refine TL_q (.int .u32 ((bw c).toNat : Int)) (fun _ _ hρ _ => r_move (hρ _ _ rfl)) rfl rfl rfl (w_n rfl) ?_
  refine TL_q (.bool (!decide ((r % (2#32)) = (bw c)))) (fun _ _ hρ _ => r_as (r_neq (hρ _ _ rfl) (hρ _ _ rfl)) (bool_as (congrArg (fun b => !b) (bv_dec (r % (2#32)) (bw c))))) rfl rfl rfl (w_n rfl) ?_
  refine TL_seq ?_
  refine T_cond rfl (fun h1 => ?_) (fun h1 => ?_)
  · replace h1 := of_decide_eq_false (bnot_t h1)
    refine T_seq (T_region ?_)
    refine TL_q (.int .u32 ((r).toNat : Int)) (fun _ _ hρ _ => r_move (hρ _ _ rfl)) rfl rfl rfl (w_n rfl) ?_
    refine TL_q (.int .u32 ((r / (2#32)).toNat : Int)) (fun _ _ hρ _ => r_quoB (k := .u32) (a := r) (b := (2#32)) rfl rfl (hρ _ _ rfl) (hρ _ _ rfl)) rfl rfl rfl (w_n rfl) ?_
    refine TL_call (.int .u32 (((r / (2#32)) ^^^ (3988292384#32)).toNat : Int)) (fun _ _ hρ _ => r_call (args := [.int .u32 ((r / (2#32)).toNat : Int), .int .u32 3988292384]) (enters_of Try.func30 (by kernel_rfl) rfl) (hρ _ _ rfl) ((cons2 (hρ _ _ rfl) (cons2 (hρ _ _ rfl) rfl))) rfl) (fun w _ => xor_ref (r / (2#32)) (3988292384#32) w) rfl rfl rfl (w_n rfl) ?_
    refine TL_q (.int .u32 (((r / (2#32)) ^^^ (3988292384#32)).toNat : Int)) (fun _ _ hρ _ => r_assign (hρ _ _ rfl)) rfl rfl rfl (w_n rfl) ?_
    refine TL_seq ?_
    refine T_ret' ?_
    refine p_then_r ?_
    refine ret_of rfl (.int .u32 (((r / (2#32)) ^^^ (3988292384#32)).toNat : Int)) (fun tmps w hk hm => res1 rfl (res_tmp (hk 4 _ rfl))) (fun w hm => ?_)
    exact ⟨congrArg (fun x : Wd => Ending.returned (.int .u32 (x.toNat : Int))) (feed_eq h1), hm.ext⟩
  · replace h1 := of_decide_eq_true (bnot_f h1)
    refine T_skip' ?_
    refine p_seq ?_
    refine T_seq (T_region ?_)
    refine TL_q (.int .u32 ((r).toNat : Int)) (fun _ _ hρ _ => r_move (hρ _ _ rfl)) rfl rfl rfl (w_n rfl) ?_
    refine TL_q (.int .u32 ((r / (2#32)).toNat : Int)) (fun _ _ hρ _ => r_quoB (k := .u32) (a := r) (b := (2#32)) rfl rfl (hρ _ _ rfl) (hρ _ _ rfl)) rfl rfl rfl (w_n rfl) ?_
    refine TL_q (.int .u32 ((r / (2#32)).toNat : Int)) (fun _ _ hρ _ => r_assign (hρ _ _ rfl)) rfl rfl rfl (w_n rfl) ?_
    refine TL_seq ?_
    refine T_ret' ?_
    refine ret_of rfl (.int .u32 ((r / (2#32)).toNat : Int)) (fun tmps w hk hm => res1 rfl (res_tmp (hk 4 _ rfl))) (fun w hm => ?_)
    exact ⟨congrArg (fun x : Wd => Ending.returned (.int .u32 (x.toNat : Int))) (feed_eq0 h1), hm.ext⟩

theorem bit_ref (n : Nat) (l : List By) (a : Option Addr) (cap : Nat) (w : World) (hv : SliceAt w a cap 1 byc l) (hl : l.length ≤ 140737488355328) (hn : n < 8 * l.length) : Calls Try.prog 33 #[.slice a l.length cap, .int .i64 (n : Int)] w fun e w' => e = .returned (.int .u32 ((bw (bitA l n)).toNat : Int)) ∧ Below w.heap.size w w' := by
  refine calls_of_T (l := [.slice a l.length cap, .int .i64 ((n : Nat) : Int)]) 21 Try.func33 rfl rfl rfl ?_
  show T _ _ _ [(0, .slice a l.length cap), (1, .int .i64 ((n : Nat) : Int))] []
  refine T_seq (T_region ?_)
  refine TL_q (.int .u32 0) (fun _ _ hρ _ => r_assign (hρ _ _ rfl)) rfl rfl rfl (w_n rfl) ?_
  refine TL_seq ?_
  have hvl := hv.1
  obtain ⟨y, hy⟩ : ∃ y, l[n / 8]? = some y := ⟨_, List.getElem?_eq_getElem (by omega)⟩
  obtain ⟨b1, of1, cs1, T1, fz1, ha1, hq1, hr1⟩ := hv.open (i := n / 8) (by omega)
  subst ha1
  refine T_seq (T_region ?_)
  refine TL_q (.slice (some ⟨b1, of1, none⟩) l.length cap) (fun _ _ hρ _ => r_move (hρ _ _ rfl)) rfl rfl rfl (w_n rfl) ?_
  refine TL_q (.int .i64 ((n : Nat) : Int)) (fun _ _ hρ _ => r_move (hρ _ _ rfl)) rfl rfl rfl (w_n rfl) ?_
  refine TL_q (.int .i64 ((n / 8 : Nat) : Int)) (fun _ _ hρ _ => r_as (r_quo (hρ _ _ rfl) (hρ _ _ rfl) (by omega)) (int_as ((quo_i64 (by omega) (by omega) (by omega)).trans (by omega)))) rfl rfl rfl (w_n rfl) ?_
  refine TL_q (.pointer (some ⟨b1, of1 + (n / 8) * 1, none⟩)) (fun _ _ hρ _ => r_indexAddrS (i := n / 8) sl29 sz5 (hρ _ _ rfl) (hρ _ _ rfl) (by omega)) rfl rfl rfl (w_n rfl) ?_
  refine TL_q (.int .u8 ((y).toNat : Int)) (fun _ _ hρ hm => r_loadRow1 (f := byc) (u := y) ag5 (hρ _ _ rfl) (hm.old hq1) hr1 hy rfl) rfl rfl rfl (w_n rfl) ?_
  refine TL_q (.int .u32 ((y.setWidth 32).toNat : Int)) (fun _ _ hρ _ => r_convB (k := .u8) (k' := .u32) (a := y) un5 io24 rfl (hρ _ _ rfl)) rfl rfl rfl (w_n rfl) ?_
  refine TL_q (.int .u32 ((y.setWidth 32).toNat : Int)) (fun _ _ hρ _ => r_assign (hρ _ _ rfl)) rfl rfl rfl (w_n rfl) ?_
  refine TL_seq ?_
  refine T_seq ?_
  refine T_seq (T_region ?_)
  refine TL_q (.int .i64 ((n : Nat) : Int)) (fun _ _ hρ _ => r_move (hρ _ _ rfl)) rfl rfl rfl (w_n rfl) ?_
  refine TL_q (.int .i64 ((n % 8 : Nat) : Int)) (fun _ _ hρ _ => r_as (r_rem (hρ _ _ rfl) (hρ _ _ rfl) (by omega)) (int_as ((Int.tmod_eq_emod_of_nonneg (by omega)).trans (by omega)))) rfl rfl rfl (w_n rfl) ?_
  refine TL_q (.int .i64 0) (fun _ _ hρ _ => r_move (hρ _ _ rfl)) rfl rfl rfl (w_n rfl) ?_
  refine TL_seq ?_
  refine T_block ?_
  refine T_loop (ι := Nat) (fun (k : Nat) => k ≤ n % 8) (fun (k : Nat) => [(4, .int .u32 0), (13, .int .i64 ((n % 8 : Nat) : Int)), (14, .int .i64 ((k : Nat) : Int)), (5, .int .u32 (((y.setWidth 32) >>> k).toNat : Int))]) (fun (k : Nat) => []) (fun (k : Nat) => n % 8 - k) 0 (Nat.zero_le _) (sub_cons rfl (sub_cons rfl (sub_cons rfl (sub_cons (by exact (congrArg (fun x : Wd => some (Value.int .u32 (x.toNat : Int))) ((BitVec.ushiftRight_zero (y.setWidth 32)).symm))) sub_nil)))) sub_nil ?_
  rintro k hp
  show T _ _ _ [(4, .int .u32 0), (13, .int .i64 ((n % 8 : Nat) : Int)), (14, .int .i64 ((k : Nat) : Int)), (5, .int .u32 (((y.setWidth 32) >>> k).toNat : Int))] []
  refine T_seq (T_region ?_)
  refine TL_q (.bool (decide (((k : Nat) : Int) < ((n % 8 : Nat) : Int)))) (fun _ _ hρ _ => r_lss (hρ _ _ rfl) (hρ _ _ rfl)) rfl rfl rfl (w_n rfl) ?_
  refine TL_seq ?_
  refine T_seq ?_
  refine T_cond rfl (fun h1 => ?_) (fun h1 => ?_)
  · replace h1 := of_decide_eq_true h1
    refine T_skip' ?_
    refine p_seq ?_
    refine T_seq ?_
    refine T_block ?_
    refine T_region ?_
    refine TL_q (.int .u32 (((y.setWidth 32) >>> k).toNat : Int)) (fun _ _ hρ _ => r_move (hρ _ _ rfl)) rfl rfl rfl (w_n rfl) ?_
    refine TL_q (.int .u32 ((((y.setWidth 32) >>> k) / (2#32)).toNat : Int)) (fun _ _ hρ _ => r_quoB (k := .u32) (a := ((y.setWidth 32) >>> k)) (b := (2#32)) rfl rfl (hρ _ _ rfl) (hρ _ _ rfl)) rfl rfl rfl (w_n rfl) ?_
    refine TL_q (.int .u32 ((((y.setWidth 32) >>> k) / (2#32)).toNat : Int)) (fun _ _ hρ _ => r_assign (hρ _ _ rfl)) rfl rfl rfl (w_n rfl) ?_
    refine TL_nil ?_
    refine p_blk_n ?_
    refine p_seq ?_
    refine T_region ?_
    refine TL_q (.int .i64 ((k + 1 : Nat) : Int)) (fun _ _ hρ _ => r_as (r_add (hρ _ _ rfl) (hρ _ _ rfl)) (int_as ((wrap64 (by omega) (by omega)).trans (by omega)))) rfl rfl rfl (w_n rfl) ?_
    refine TL_q (.int .i64 ((k + 1 : Nat) : Int)) (fun _ _ hρ _ => r_move (hρ _ _ rfl)) rfl rfl rfl (w_n rfl) ?_
    refine TL_nil ?_
    exact p_at (k + 1) ⟨by omega, by omega⟩ (sub_cons rfl (sub_cons rfl (sub_cons rfl (sub_cons (congrArg (fun x : Wd => some (Value.int .u32 (x.toNat : Int))) (half_w (y.setWidth 32) k)) sub_nil)))) sub_nil
  · replace h1 := of_decide_eq_false h1
    refine T_exit' ?_
    refine p_then_x ?_
    refine p_then_x ?_
    refine p_blk_x ?_
    refine p_seq ?_
    refine T_seq (T_region ?_)
    refine TL_q (.int .u32 (((y.setWidth 32) >>> k).toNat : Int)) (fun _ _ hρ _ => r_move (hρ _ _ rfl)) rfl rfl rfl (w_n rfl) ?_
    refine TL_q (.int .u32 ((((y.setWidth 32) >>> k) % (2#32)).toNat : Int)) (fun _ _ hρ _ => r_remB (k := .u32) (a := ((y.setWidth 32) >>> k)) (b := (2#32)) rfl (hρ _ _ rfl) (hρ _ _ rfl)) rfl rfl rfl (w_n rfl) ?_
    refine TL_q (.int .u32 ((((y.setWidth 32) >>> k) % (2#32)).toNat : Int)) (fun _ _ hρ _ => r_assign (hρ _ _ rfl)) rfl rfl rfl (w_n rfl) ?_
    refine TL_seq ?_
    refine T_ret' ?_
    refine ret_of rfl (.int .u32 ((((y.setWidth 32) >>> k) % (2#32)).toNat : Int)) (fun tmps w hk hm => res1 rfl (res_tmp (hk 4 _ rfl))) (fun w hm => ?_)
    have hk : k = n % 8 := by omega
    subst hk
    exact ⟨congrArg (fun x : Wd => Ending.returned (.int .u32 (x.toNat : Int))) (bit_eq hy), hm.ext⟩

theorem fed_ref (r : Wd) (l : List By) (a : Option Addr) (cap : Nat) (w : World) (hv : SliceAt w a cap 1 byc l) (hl : l.length ≤ 140737488355328) : Calls Try.prog 25 #[.int .u32 (r.toNat : Int), .slice a l.length cap] w fun e w' => e = .returned (.int .u32 ((regL r l).toNat : Int)) ∧ Below w.heap.size w w' := by
  refine calls_of_T (l := [.int .u32 ((r).toNat : Int), .slice a l.length cap]) 19 Try.func25 rfl rfl rfl ?_
  show T _ _ _ [(0, .int .u32 ((r).toNat : Int)), (1, .slice a l.length cap)] []
  refine T_seq (T_region ?_)
  refine TL_q (.int .u32 0) (fun _ _ hρ _ => r_assign (hρ _ _ rfl)) rfl rfl rfl (w_n rfl) ?_
  refine TL_seq ?_
  refine T_seq ?_
  refine T_seq (T_region ?_)
  refine TL_q (.slice a l.length cap) (fun _ _ hρ _ => r_move (hρ _ _ rfl)) rfl rfl rfl (w_n rfl) ?_
  refine TL_q (.int .i64 ((l.length : Nat) : Int)) (fun _ _ hρ _ => r_len sl29 (hρ _ _ rfl)) rfl rfl rfl (w_n rfl) ?_
  refine TL_q (.int .i64 ((8 * l.length : Nat) : Int)) (fun _ _ hρ _ => r_as (r_mul (hρ _ _ rfl) (hρ _ _ rfl)) (int_as ((wrap64 (by omega) (by omega)).trans (by omega)))) rfl rfl rfl (w_n rfl) ?_
  refine TL_q (.int .i64 0) (fun _ _ hρ _ => r_move (hρ _ _ rfl)) rfl rfl rfl (w_n rfl) ?_
  refine TL_seq ?_
  refine T_block ?_
  refine T_loop (ι := Nat) (fun (n : Nat) => n ≤ 8 * l.length) (fun (n : Nat) => [(1, .slice a l.length cap), (4, .int .u32 0), (8, .int .i64 ((8 * l.length : Nat) : Int)), (9, .int .i64 ((n : Nat) : Int)), (0, .int .u32 ((regF r (bitA l) n).toNat : Int))]) (fun (n : Nat) => []) (fun (n : Nat) => 8 * l.length - n) 0 (Nat.zero_le _) (sub_cons rfl (sub_cons rfl (sub_cons rfl (sub_cons rfl (sub_cons rfl sub_nil))))) sub_nil ?_
  rintro n hp
  show T _ _ _ [(1, .slice a l.length cap), (4, .int .u32 0), (8, .int .i64 ((8 * l.length : Nat) : Int)), (9, .int .i64 ((n : Nat) : Int)), (0, .int .u32 ((regF r (bitA l) n).toNat : Int))] []
  refine T_seq (T_region ?_)
  refine TL_q (.bool (decide (((n : Nat) : Int) < ((8 * l.length : Nat) : Int)))) (fun _ _ hρ _ => r_lss (hρ _ _ rfl) (hρ _ _ rfl)) rfl rfl rfl (w_n rfl) ?_
  refine TL_seq ?_
  refine T_seq ?_
  refine T_cond rfl (fun h1 => ?_) (fun h1 => ?_)
  · replace h1 := of_decide_eq_true h1
    refine T_skip' ?_
    refine p_seq ?_
    refine T_seq ?_
    refine T_block ?_
    refine T_seq (T_region ?_)
    refine TL_q (.int .i64 ((n : Nat) : Int)) (fun _ _ hρ _ => r_move (hρ _ _ rfl)) rfl rfl rfl (w_n rfl) ?_
    refine TL_q (.int .i64 ((n : Nat) : Int)) (fun _ _ hρ _ => r_assign (hρ _ _ rfl)) rfl rfl rfl (w_n rfl) ?_
    refine TL_seq ?_
    refine T_region ?_
    refine TL_q (.int .u32 ((regF r (bitA l) n).toNat : Int)) (fun _ _ hρ _ => r_move (hρ _ _ rfl)) rfl rfl rfl (w_n rfl) ?_
    refine TL_q (.slice a l.length cap) (fun _ _ hρ _ => r_move (hρ _ _ rfl)) rfl rfl rfl (w_n rfl) ?_
    refine TL_q (.int .i64 ((n : Nat) : Int)) (fun _ _ hρ _ => r_move (hρ _ _ rfl)) rfl rfl rfl (w_n rfl) ?_
    refine TL_call (.int .u32 ((bw (bitA l n)).toNat : Int)) (fun _ _ hρ _ => r_call (args := [.slice a l.length cap, .int .i64 ((n : Nat) : Int)]) (enters_of Try.func33 (by kernel_rfl) rfl) (hρ _ _ rfl) ((cons2 (hρ _ _ rfl) (cons2 (hρ _ _ rfl) rfl))) rfl) (fun w hm => bit_ref n l a cap w (hv.keep hm.ext) (by omega) (by omega)) rfl rfl rfl (w_n rfl) ?_
    refine TL_call (.int .u32 ((regF r (bitA l) (n + 1)).toNat : Int)) (fun _ _ hρ _ => r_call (args := [.int .u32 ((regF r (bitA l) n).toNat : Int), .int .u32 ((bw (bitA l n)).toNat : Int)]) (enters_of Try.func36 (by kernel_rfl) rfl) (hρ _ _ rfl) ((cons2 (hρ _ _ rfl) (cons2 (hρ _ _ rfl) rfl))) rfl) (fun w _ => feedb_ref (regF r (bitA l) n) (bitA l n) w) rfl rfl rfl (w_n rfl) ?_
    refine TL_q (.int .u32 ((regF r (bitA l) (n + 1)).toNat : Int)) (fun _ _ hρ _ => r_assign (hρ _ _ rfl)) rfl rfl rfl (w_n rfl) ?_
    refine TL_nil ?_
    refine p_blk_n ?_
    refine p_seq ?_
    refine T_region ?_
    refine TL_q (.int .i64 ((n + 1 : Nat) : Int)) (fun _ _ hρ _ => r_as (r_add (hρ _ _ rfl) (hρ _ _ rfl)) (int_as ((wrap64 (by omega) (by omega)).trans (by omega)))) rfl rfl rfl (w_n rfl) ?_
    refine TL_q (.int .i64 ((n + 1 : Nat) : Int)) (fun _ _ hρ _ => r_move (hρ _ _ rfl)) rfl rfl rfl (w_n rfl) ?_
    refine TL_nil ?_
    exact p_at (n + 1) ⟨by omega, by omega⟩ (sub_cons rfl (sub_cons rfl (sub_cons rfl (sub_cons rfl (sub_cons rfl sub_nil))))) sub_nil
  · replace h1 := of_decide_eq_false h1
    refine T_exit' ?_
    refine p_then_x ?_
    refine p_then_x ?_
    refine p_blk_x ?_
    refine p_seq ?_
    refine T_seq (T_region ?_)
    refine TL_q (.int .u32 ((regF r (bitA l) n).toNat : Int)) (fun _ _ hρ _ => r_move (hρ _ _ rfl)) rfl rfl rfl (w_n rfl) ?_
    refine TL_q (.int .u32 ((regF r (bitA l) n).toNat : Int)) (fun _ _ hρ _ => r_assign (hρ _ _ rfl)) rfl rfl rfl (w_n rfl) ?_
    refine TL_seq ?_
    refine T_ret' ?_
    refine ret_of rfl (.int .u32 ((regF r (bitA l) n).toNat : Int)) (fun tmps w hk hm => res1 rfl (res_tmp (hk 4 _ rfl))) (fun w hm => ?_)
    have hk : n = 8 * l.length := by omega
    subst hk
    exact ⟨congrArg (fun x : Wd => Ending.returned (.int .u32 (x.toNat : Int))) ((regL_bits r l).symm), hm.ext⟩

theorem more_ref (r : Wd) (l : List By) (a : Option Addr) (cap : Nat) (w : World) (hv : SliceAt w a cap 1 byc l) (hl : l.length ≤ 140737488355328) : Calls Try.prog 23 #[.int .u32 (r.toNat : Int), .slice a l.length cap] w fun e w' => e = .returned (.int .u32 ((sumC r l).toNat : Int)) ∧ Below w.heap.size w w' := by
  refine calls_of_T (l := [.int .u32 ((r).toNat : Int), .slice a l.length cap]) 10 Try.func23 rfl rfl rfl ?_
  show T _ _ _ [(0, .int .u32 ((r).toNat : Int)), (1, .slice a l.length cap)] []
  refine T_seq (T_region ?_)
  refine TL_q (.int .u32 0) (fun _ _ hρ _ => r_assign (hρ _ _ rfl)) rfl rfl rfl (w_n rfl) ?_
  refine TL_seq ?_
  refine T_seq (T_region ?_)
  refine TL_q (.int .u32 ((r).toNat : Int)) (fun _ _ hρ _ => r_move (hρ _ _ rfl)) rfl rfl rfl (w_n rfl) ?_
  refine TL_call (.int .u32 ((~~~r).toNat : Int)) (fun _ _ hρ _ => r_call (args := [.int .u32 ((r).toNat : Int)]) (enters_of Try.func27 (by kernel_rfl) rfl) (hρ _ _ rfl) ((cons2 (hρ _ _ rfl) rfl)) rfl) (fun w _ => turned_ref r w) rfl rfl rfl (w_n rfl) ?_
  refine TL_q (.slice a l.length cap) (fun _ _ hρ _ => r_move (hρ _ _ rfl)) rfl rfl rfl (w_n rfl) ?_
  refine TL_call (.int .u32 ((regL (~~~r) l).toNat : Int)) (fun _ _ hρ _ => r_call (args := [.int .u32 ((~~~r).toNat : Int), .slice a l.length cap]) (enters_of Try.func25 (by kernel_rfl) rfl) (hρ _ _ rfl) ((cons2 (hρ _ _ rfl) (cons2 (hρ _ _ rfl) rfl))) rfl) (fun w hm => fed_ref (~~~r) l a cap w (hv.keep hm.ext) hl) rfl rfl rfl (w_n rfl) ?_
  refine TL_call (.int .u32 ((~~~(regL (~~~r) l)).toNat : Int)) (fun _ _ hρ _ => r_call (args := [.int .u32 ((regL (~~~r) l).toNat : Int)]) (enters_of Try.func27 (by kernel_rfl) rfl) (hρ _ _ rfl) ((cons2 (hρ _ _ rfl) rfl)) rfl) (fun w _ => turned_ref (regL (~~~r) l) w) rfl rfl rfl (w_n rfl) ?_
  refine TL_q (.int .u32 ((~~~(regL (~~~r) l)).toNat : Int)) (fun _ _ hρ _ => r_assign (hρ _ _ rfl)) rfl rfl rfl (w_n rfl) ?_
  refine TL_seq ?_
  refine T_ret' ?_
  refine ret_of rfl (.int .u32 ((~~~(regL (~~~r) l)).toNat : Int)) (fun tmps w hk hm => res1 rfl (res_tmp (hk 4 _ rfl))) (fun w hm => ?_)
  exact ⟨rfl, hm.ext⟩

theorem sum_ref (l : List By) (a : Option Addr) (cap : Nat) (w : World) (hv : SliceAt w a cap 1 byc l) (hl : l.length ≤ 140737488355328) : Calls Try.prog 21 #[.slice a l.length cap] w fun e w' => e = .returned (.int .u32 ((sumC 0#32 l).toNat : Int)) ∧ Below w.heap.size w w' := by
  refine calls_of_T (l := [.slice a l.length cap]) 5 Try.func21 rfl rfl rfl ?_
  show T _ _ _ [(0, .slice a l.length cap)] []
  refine T_seq (T_region ?_)
  refine TL_q (.int .u32 0) (fun _ _ hρ _ => r_assign (hρ _ _ rfl)) rfl rfl rfl (w_n rfl) ?_
  refine TL_seq ?_
  refine T_seq (T_region ?_)
  refine TL_q (.slice a l.length cap) (fun _ _ hρ _ => r_move (hρ _ _ rfl)) rfl rfl rfl (w_n rfl) ?_
  refine TL_call (.int .u32 ((sumC (0#32) l).toNat : Int)) (fun _ _ hρ _ => r_call (args := [.int .u32 0, .slice a l.length cap]) (enters_of Try.func23 (by kernel_rfl) rfl) (hρ _ _ rfl) ((cons2 (hρ _ _ rfl) (cons2 (hρ _ _ rfl) rfl))) rfl) (fun w hm => more_ref (0#32) l a cap w (hv.keep hm.ext) hl) rfl rfl rfl (w_n rfl) ?_
  refine TL_q (.int .u32 ((sumC (0#32) l).toNat : Int)) (fun _ _ hρ _ => r_assign (hρ _ _ rfl)) rfl rfl rfl (w_n rfl) ?_
  refine TL_seq ?_
  refine T_ret' ?_
  refine ret_of rfl (.int .u32 ((sumC (0#32) l).toNat : Int)) (fun tmps w hk hm => res1 rfl (res_tmp (hk 2 _ rfl))) (fun w hm => ?_)
  exact ⟨rfl, hm.ext⟩

theorem four_cells (x : Wd) : (four x).flatMap byc = [.int .u8 ((x.setWidth 8).toNat : Int), .int .u8 (((x >>> 8).setWidth 8).toNat : Int), .int .u8 (((x >>> 16).setWidth 8).toNat : Int), .int .u8 (((x >>> 24).setWidth 8).toNat : Int)] := rfl

theorem four_ref (x : Wd) (w : World) : Calls Try.prog 29 #[.int .u32 (x.toNat : Int)] w (Ans (fun _ : Nat => True) (fun z => .slice (some ⟨z, 0, none⟩) 4 4) (fun z => [(1, .blk z (.cells ((four x).flatMap byc).toArray 5))]) w) := by
  refine calls_of_T (l := [.int .u32 ((x).toNat : Int)]) 18 Try.func29 rfl rfl rfl ?_
  show T _ _ _ [(0, .int .u32 ((x).toNat : Int))] []
  refine T_seq (T_region ?_)
  refine TL_q (.slice none 0 0) (fun _ _ hρ _ => r_assign (hρ _ _ rfl)) rfl rfl rfl (w_n rfl) ?_
  refine TL_seq ?_
  refine T_seq (T_region ?_)
  refine TL_q (.int .u32 ((x).toNat : Int)) (fun _ _ hρ _ => r_move (hρ _ _ rfl)) rfl rfl rfl (w_n rfl) ?_
  refine TL_q (.int .u32 ((x % (256#32)).toNat : Int)) (fun _ _ hρ _ => r_remB (k := .u32) (a := x) (b := (256#32)) rfl (hρ _ _ rfl) (hρ _ _ rfl)) rfl rfl rfl (w_n rfl) ?_
  refine TL_q (.int .u8 (((x % (256#32)).setWidth 8).toNat : Int)) (fun _ _ hρ _ => r_convB (k := .u32) (k' := .u8) (a := (x % (256#32))) un24 io5 rfl (hρ _ _ rfl)) rfl rfl rfl (w_n rfl) ?_
  refine TL_q (.int .u32 ((x).toNat : Int)) (fun _ _ hρ _ => r_move (hρ _ _ rfl)) rfl rfl rfl (w_n rfl) ?_
  refine TL_q (.int .u32 ((x / (256#32)).toNat : Int)) (fun _ _ hρ _ => r_quoB (k := .u32) (a := x) (b := (256#32)) rfl rfl (hρ _ _ rfl) (hρ _ _ rfl)) rfl rfl rfl (w_n rfl) ?_
  refine TL_q (.int .u32 (((x / (256#32)) % (256#32)).toNat : Int)) (fun _ _ hρ _ => r_remB (k := .u32) (a := (x / (256#32))) (b := (256#32)) rfl (hρ _ _ rfl) (hρ _ _ rfl)) rfl rfl rfl (w_n rfl) ?_
  refine TL_q (.int .u8 ((((x / (256#32)) % (256#32)).setWidth 8).toNat : Int)) (fun _ _ hρ _ => r_convB (k := .u32) (k' := .u8) (a := ((x / (256#32)) % (256#32))) un24 io5 rfl (hρ _ _ rfl)) rfl rfl rfl (w_n rfl) ?_
  refine TL_q (.int .u32 ((x).toNat : Int)) (fun _ _ hρ _ => r_move (hρ _ _ rfl)) rfl rfl rfl (w_n rfl) ?_
  refine TL_q (.int .u32 ((x / (65536#32)).toNat : Int)) (fun _ _ hρ _ => r_quoB (k := .u32) (a := x) (b := (65536#32)) rfl rfl (hρ _ _ rfl) (hρ _ _ rfl)) rfl rfl rfl (w_n rfl) ?_
  refine TL_q (.int .u32 (((x / (65536#32)) % (256#32)).toNat : Int)) (fun _ _ hρ _ => r_remB (k := .u32) (a := (x / (65536#32))) (b := (256#32)) rfl (hρ _ _ rfl) (hρ _ _ rfl)) rfl rfl rfl (w_n rfl) ?_
  refine TL_q (.int .u8 ((((x / (65536#32)) % (256#32)).setWidth 8).toNat : Int)) (fun _ _ hρ _ => r_convB (k := .u32) (k' := .u8) (a := ((x / (65536#32)) % (256#32))) un24 io5 rfl (hρ _ _ rfl)) rfl rfl rfl (w_n rfl) ?_
  refine TL_q (.int .u32 ((x).toNat : Int)) (fun _ _ hρ _ => r_move (hρ _ _ rfl)) rfl rfl rfl (w_n rfl) ?_
  refine TL_q (.int .u32 ((x / (16777216#32)).toNat : Int)) (fun _ _ hρ _ => r_quoB (k := .u32) (a := x) (b := (16777216#32)) rfl rfl (hρ _ _ rfl) (hρ _ _ rfl)) rfl rfl rfl (w_n rfl) ?_
  refine TL_q (.int .u8 (((x / (16777216#32)).setWidth 8).toNat : Int)) (fun _ _ hρ _ => r_convB (k := .u32) (k' := .u8) (a := (x / (16777216#32))) un24 io5 rfl (hρ _ _ rfl)) rfl rfl rfl (w_n rfl) ?_
  refine TL_new 1 (.cells #[.int .u8 (((x % (256#32)).setWidth 8).toNat : Int), .int .u8 ((((x / (256#32)) % (256#32)).setWidth 8).toNat : Int), .int .u8 ((((x / (65536#32)) % (256#32)).setWidth 8).toNat : Int), .int .u8 (((x / (16777216#32)).setWidth 8).toNat : Int)] 5) (fun B => .slice (some ⟨B, 0, none⟩) 4 4) (fun _ _ hρ _ => r_buildSlice (vs := [(0, .int .u8 (((x % (256#32)).setWidth 8).toNat : Int)), (1, .int .u8 ((((x / (256#32)) % (256#32)).setWidth 8).toNat : Int)), (2, .int .u8 ((((x / (65536#32)) % (256#32)).setWidth 8).toNat : Int)), (3, .int .u8 (((x / (16777216#32)).setWidth 8).toNat : Int))]) (by kernel_rfl) (cons2 (pair2 (hρ _ _ rfl)) (cons2 (pair2 (hρ _ _ rfl)) (cons2 (pair2 (hρ _ _ rfl)) (cons2 (pair2 (hρ _ _ rfl)) rfl))))) rfl rfl rfl (w_n rfl) ?_
  intro B1
  refine TL_q (.slice (some ⟨B1, 0, none⟩) 4 4) (fun _ _ hρ _ => r_assign (hρ _ _ rfl)) rfl rfl rfl (w_n rfl) ?_
  refine TL_seq ?_
  refine T_ret' ?_
  refine ret_of rfl (.slice (some ⟨B1, 0, none⟩) 4 4) (fun tmps w hk hm => res1 rfl (res_tmp (hk 2 _ rfl))) (fun w hm => ?_)
  refine ⟨B1, trivial, rfl, hm.ext, ?_⟩
  have := NewOk.mem hm
  rw [four0, four1, four2, four3] at this
  exact this

theorem back_ref (x : Wd) (w : World) : Calls Try.prog 28 #[.int .u32 (x.toNat : Int)] w fun e w' => e = .returned (.int .u32 ((back0 x).toNat : Int)) ∧ Below w.heap.size w w' := by
  refine calls_of_T (l := [.int .u32 ((x).toNat : Int)]) 11 Try.func28 rfl rfl rfl ?_
  show T _ _ _ [(0, .int .u32 ((x).toNat : Int))] []
  refine T_seq (T_region ?_)
  refine TL_q (.int .u32 0) (fun _ _ hρ _ => r_assign (hρ _ _ rfl)) rfl rfl rfl (w_n rfl) ?_
  refine TL_seq ?_
  refine T_seq ?_
  refine T_seq (T_region ?_)
  refine TL_q (.int .u32 ((x).toNat : Int)) (fun _ _ hρ _ => r_move (hρ _ _ rfl)) rfl rfl rfl (w_n rfl) ?_
  refine TL_q (.bool (decide ((2147483648 : Int) ≤ ((x).toNat : Int)))) (fun _ _ hρ _ => r_geq (hρ _ _ rfl) (hρ _ _ rfl)) rfl rfl rfl (w_n rfl) ?_
  refine TL_seq ?_
  refine T_cond rfl (fun h1 => ?_) (fun h1 => ?_)
  · replace h1 := of_decide_eq_true h1
    refine T_seq (T_region ?_)
    refine TL_q (.int .u32 ((x).toNat : Int)) (fun _ _ hρ _ => r_move (hρ _ _ rfl)) rfl rfl rfl (w_n rfl) ?_
    refine TL_call (.int .u32 ((x ^^^ (3988292384#32)).toNat : Int)) (fun _ _ hρ _ => r_call (args := [.int .u32 ((x).toNat : Int), .int .u32 3988292384]) (enters_of Try.func30 (by kernel_rfl) rfl) (hρ _ _ rfl) ((cons2 (hρ _ _ rfl) (cons2 (hρ _ _ rfl) rfl))) rfl) (fun w _ => xor_ref x (3988292384#32) w) rfl rfl rfl (w_n rfl) ?_
    refine TL_q (.int .u32 (((2#32) * (x ^^^ (3988292384#32))).toNat : Int)) (fun _ _ hρ _ => r_mulB (k := .u32) (a := (2#32)) (b := (x ^^^ (3988292384#32))) rfl (hρ _ _ rfl) (hρ _ _ rfl)) rfl rfl rfl (w_n rfl) ?_
    refine TL_q (.int .u32 ((((2#32) * (x ^^^ (3988292384#32))) + (1#32)).toNat : Int)) (fun _ _ hρ _ => r_addB (k := .u32) (a := ((2#32) * (x ^^^ (3988292384#32)))) (b := (1#32)) rfl (hρ _ _ rfl) (hρ _ _ rfl)) rfl rfl rfl (w_n rfl) ?_
    refine TL_q (.int .u32 ((((2#32) * (x ^^^ (3988292384#32))) + (1#32)).toNat : Int)) (fun _ _ hρ _ => r_assign (hρ _ _ rfl)) rfl rfl rfl (w_n rfl) ?_
    refine TL_seq ?_
    refine T_ret' ?_
    refine p_then_r ?_
    refine ret_of rfl (.int .u32 ((((2#32) * (x ^^^ (3988292384#32))) + (1#32)).toNat : Int)) (fun tmps w hk hm => res1 rfl (res_tmp (hk 2 _ rfl))) (fun w hm => ?_)
    exact ⟨congrArg (fun x : Wd => Ending.returned (.int .u32 (x.toNat : Int))) (back_eq (back_ge h1)), hm.ext⟩
  · replace h1 := of_decide_eq_false h1
    refine T_skip' ?_
    refine p_seq ?_
    refine T_seq (T_region ?_)
    refine TL_q (.int .u32 ((x).toNat : Int)) (fun _ _ hρ _ => r_move (hρ _ _ rfl)) rfl rfl rfl (w_n rfl) ?_
    refine TL_q (.int .u32 (((2#32) * x).toNat : Int)) (fun _ _ hρ _ => r_mulB (k := .u32) (a := (2#32)) (b := x) rfl (hρ _ _ rfl) (hρ _ _ rfl)) rfl rfl rfl (w_n rfl) ?_
    refine TL_q (.int .u32 (((2#32) * x).toNat : Int)) (fun _ _ hρ _ => r_assign (hρ _ _ rfl)) rfl rfl rfl (w_n rfl) ?_
    refine TL_seq ?_
    refine T_ret' ?_
    refine ret_of rfl (.int .u32 (((2#32) * x).toNat : Int)) (fun tmps w hk hm => res1 rfl (res_tmp (hk 2 _ rfl))) (fun w hm => ?_)
    exact ⟨congrArg (fun x : Wd => Ending.returned (.int .u32 (x.toNat : Int))) (back_eq0 (back_lt h1)), hm.ext⟩

theorem newOk_at {w w' : World} {r : Res} {j : Nat} (i : Nat) (h : NewOk w w' [(j, r)]) : NewOk w w' [(i, r)] := by
  refine ⟨fun k q hk => ?_, fun k m q q' hk hm hne => ?_⟩
  · have : i = k ∧ r = q := by
      unfold lk at hk
      split at hk
      · rename_i e; exact ⟨Nat.eq_of_beq_eq_true e, Option.some.inj hk⟩
      · cases hk
    obtain ⟨rfl, rfl⟩ := this
    exact h.own j _ (lk_cons_same _ _ _)
  · have key : ∀ k q, lk [(i, r)] k = some q → i = k := fun k q hk => by
      unfold lk at hk
      split at hk
      · rename_i e; exact Nat.eq_of_beq_eq_true e
      · cases hk
    exact absurd ((key k q hk).symm.trans (key m q' hm)) hne

theorem tail_ref (s t : Wd) (w : World) : Calls Try.prog 12 #[.int .u32 (s.toNat : Int), .int .u32 (t.toNat : Int)] w (Ans (fun _ : Nat => True) (fun z => .slice (some ⟨z, 0, none⟩) 4 4) (fun z => [(1, .blk z (.cells ((four (tailW s t)).flatMap byc).toArray 5))]) w) := by
  refine calls_of_T (l := [.int .u32 ((s).toNat : Int), .int .u32 ((t).toNat : Int)]) 18 Try.func12 rfl rfl rfl ?_
  show T _ _ _ [(0, .int .u32 ((s).toNat : Int)), (1, .int .u32 ((t).toNat : Int))] []
  refine T_seq (T_region ?_)
  refine TL_q (.slice none 0 0) (fun _ _ hρ _ => r_assign (hρ _ _ rfl)) rfl rfl rfl (w_n rfl) ?_
  refine TL_seq ?_
  refine T_seq (T_region ?_)
  refine TL_q (.int .u32 ((t).toNat : Int)) (fun _ _ hρ _ => r_move (hρ _ _ rfl)) rfl rfl rfl (w_n rfl) ?_
  refine TL_call (.int .u32 ((~~~t).toNat : Int)) (fun _ _ hρ _ => r_call (args := [.int .u32 ((t).toNat : Int)]) (enters_of Try.func27 (by kernel_rfl) rfl) (hρ _ _ rfl) ((cons2 (hρ _ _ rfl) rfl)) rfl) (fun w _ => turned_ref t w) rfl rfl rfl (w_n rfl) ?_
  refine TL_q (.int .u32 ((~~~t).toNat : Int)) (fun _ _ hρ _ => r_assign (hρ _ _ rfl)) rfl rfl rfl (w_n rfl) ?_
  refine TL_seq ?_
  refine T_seq ?_
  refine T_seq (T_region ?_)
  refine TL_q (.int .i64 0) (fun _ _ hρ _ => r_move (hρ _ _ rfl)) rfl rfl rfl (w_n rfl) ?_
  refine TL_seq ?_
  refine T_block ?_
  refine T_loop (ι := Nat) (fun (k : Nat) => k ≤ 32) (fun (k : Nat) => [(0, .int .u32 ((s).toNat : Int)), (4, .slice none 0 0), (8, .int .i64 ((k : Nat) : Int)), (5, .int .u32 ((backN k (~~~t)).toNat : Int))]) (fun (k : Nat) => []) (fun (k : Nat) => 32 - k) 0 (Nat.zero_le _) (sub_cons rfl (sub_cons rfl (sub_cons rfl (sub_cons rfl sub_nil)))) sub_nil ?_
  rintro k hp
  show T _ _ _ [(0, .int .u32 ((s).toNat : Int)), (4, .slice none 0 0), (8, .int .i64 ((k : Nat) : Int)), (5, .int .u32 ((backN k (~~~t)).toNat : Int))] []
  refine T_seq (T_region ?_)
  refine TL_q (.bool (decide (((k : Nat) : Int) < 32))) (fun _ _ hρ _ => r_lss (hρ _ _ rfl) (hρ _ _ rfl)) rfl rfl rfl (w_n rfl) ?_
  refine TL_seq ?_
  refine T_seq ?_
  refine T_cond rfl (fun h1 => ?_) (fun h1 => ?_)
  · replace h1 := of_decide_eq_true h1
    refine T_skip' ?_
    refine p_seq ?_
    refine T_seq ?_
    refine T_block ?_
    refine T_region ?_
    refine TL_q (.int .u32 ((backN k (~~~t)).toNat : Int)) (fun _ _ hρ _ => r_move (hρ _ _ rfl)) rfl rfl rfl (w_n rfl) ?_
    refine TL_call (.int .u32 ((backN (k + 1) (~~~t)).toNat : Int)) (fun _ _ hρ _ => r_call (args := [.int .u32 ((backN k (~~~t)).toNat : Int)]) (enters_of Try.func28 (by kernel_rfl) rfl) (hρ _ _ rfl) ((cons2 (hρ _ _ rfl) rfl)) rfl) (fun w _ => back_ref (backN k (~~~t)) w) rfl rfl rfl (w_n rfl) ?_
    refine TL_q (.int .u32 ((backN (k + 1) (~~~t)).toNat : Int)) (fun _ _ hρ _ => r_assign (hρ _ _ rfl)) rfl rfl rfl (w_n rfl) ?_
    refine TL_nil ?_
    refine p_blk_n ?_
    refine p_seq ?_
    refine T_region ?_
    refine TL_q (.int .i64 ((k + 1 : Nat) : Int)) (fun _ _ hρ _ => r_as (r_add (hρ _ _ rfl) (hρ _ _ rfl)) (int_as ((wrap64 (by omega) (by omega)).trans (by omega)))) rfl rfl rfl (w_n rfl) ?_
    refine TL_q (.int .i64 ((k + 1 : Nat) : Int)) (fun _ _ hρ _ => r_move (hρ _ _ rfl)) rfl rfl rfl (w_n rfl) ?_
    refine TL_nil ?_
    exact p_at (k + 1) ⟨by omega, by omega⟩ (sub_cons rfl (sub_cons rfl (sub_cons rfl (sub_cons rfl sub_nil)))) sub_nil
  · replace h1 := of_decide_eq_false h1
    refine T_exit' ?_
    refine p_then_x ?_
    refine p_then_x ?_
    refine p_blk_x ?_
    refine p_seq ?_
    refine T_seq (T_region ?_)
    refine TL_q (.int .u32 ((backN k (~~~t)).toNat : Int)) (fun _ _ hρ _ => r_move (hρ _ _ rfl)) rfl rfl rfl (w_n rfl) ?_
    refine TL_q (.int .u32 ((s).toNat : Int)) (fun _ _ hρ _ => r_move (hρ _ _ rfl)) rfl rfl rfl (w_n rfl) ?_
    refine TL_call (.int .u32 ((~~~s).toNat : Int)) (fun _ _ hρ _ => r_call (args := [.int .u32 ((s).toNat : Int)]) (enters_of Try.func27 (by kernel_rfl) rfl) (hρ _ _ rfl) ((cons2 (hρ _ _ rfl) rfl)) rfl) (fun w _ => turned_ref s w) rfl rfl rfl (w_n rfl) ?_
    refine TL_call (.int .u32 (((backN k (~~~t)) ^^^ (~~~s)).toNat : Int)) (fun _ _ hρ _ => r_call (args := [.int .u32 ((backN k (~~~t)).toNat : Int), .int .u32 ((~~~s).toNat : Int)]) (enters_of Try.func30 (by kernel_rfl) rfl) (hρ _ _ rfl) ((cons2 (hρ _ _ rfl) (cons2 (hρ _ _ rfl) rfl))) rfl) (fun w _ => xor_ref (backN k (~~~t)) (~~~s) w) rfl rfl rfl (w_n rfl) ?_
    refine TL_callN (fun (_ : Nat) => True) (fun F1 => .slice (some ⟨F1, 0, none⟩) 4 4) (fun F1 => [(1, .blk F1 (.cells (((four ((backN k (~~~t)) ^^^ (~~~s))).flatMap byc).toArray) 5))]) (fun _ _ hρ _ => r_call (args := [.int .u32 (((backN k (~~~t)) ^^^ (~~~s)).toNat : Int)]) (enters_of Try.func29 (by kernel_rfl) rfl) (hρ _ _ rfl) ((cons2 (hρ _ _ rfl) rfl)) rfl) (fun w _ => (four_ref ((backN k (~~~t)) ^^^ (~~~s)) w).mono fun e w' ⟨z, h1, h2, h3, h4⟩ => ⟨z, h1, h2, h3, newOk_at 1 h4⟩) rfl rfl rfl (w_n rfl) ?_
    rintro F1 -
    refine TL_q (.slice (some ⟨F1, 0, none⟩) 4 4) (fun _ _ hρ _ => r_assign (hρ _ _ rfl)) rfl rfl rfl (w_n rfl) ?_
    refine TL_seq ?_
    refine T_ret' ?_
    refine ret_of rfl (.slice (some ⟨F1, 0, none⟩) 4 4) (fun tmps w hk hm => res1 rfl (res_tmp (hk 4 _ rfl))) (fun w hm => ?_)
    have hk : k = 32 := by omega
    subst hk
    exact ⟨_, trivial, rfl, hm.ext, NewOk.mem hm⟩
end Go.Proofs.Ytnjcffhpfmnbfaa
