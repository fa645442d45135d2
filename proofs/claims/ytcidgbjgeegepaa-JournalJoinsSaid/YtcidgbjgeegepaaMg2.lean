/- Texts of this seat, merged: part 2. -/
import Derived.Test.YtcidgbjgeegepaaMg1
import Derived.Laws.MakeOwn
import Derived.Laws.CopyOwn
import Derived.Laws.IdiomCopy
import Derived.Maps.RangeRun
import Derived.ScopeJumps
import Derived.Recover
import Derived.Laws.Build
import Derived.WideLaws
/- crc: the references of words. Printed by a program of this seat's prover. -/
namespace Go.Proofs.Ytcidgbjgeegepaa
open Go Go.RowKit
set_option maxRecDepth 10000
theorem turned_eq (x : Wd) : 4294967295#32 - x = ~~~ x := by
  apply BitVec.eq_of_toNat_eq
  have := x.isLt
  rw [BitVec.toNat_sub, BitVec.toNat_not]
  show (2 ^ 32 - x.toNat + 4294967295) % 2 ^ 32 = 2 ^ 32 - 1 - x.toNat
  omega
theorem half_w (x : Wd) (k : Nat) : (x >>> k) / 2#32 = x >>> (k + 1) := by rw [half_b (n := 30), BitVec.shiftRight_add]
theorem half0 (x : Wd) : x / 2#32 = x >>> 1 := half_b (n := 30) x
theorem odd_w (x : Wd) : x % 2#32 = bw (x.getLsbD 0) := odd_b (n := 30) x
theorem dbl_w (x : Wd) : 2#32 * x = x <<< 1 := by
  apply BitVec.eq_of_toNat_eq
  rw [BitVec.toNat_mul, BitVec.toNat_shiftLeft, Nat.shiftLeft_eq]
  show (2 * x.toNat) % 2 ^ 32 = x.toNat * 2 % 2 ^ 32
  rw [Nat.mul_comm]
theorem dbl_s (k : Nat) : 2#32 * (1#32 <<< k) = 1#32 <<< (k + 1) := by rw [dbl_w, BitVec.shiftLeft_add]
theorem bw_inj {a b : Bool} : bw a = bw b ↔ a = b := by cases a <;> cases b <;> decide
theorem par_ne (a b : Wd) (k : Nat) : (a >>> k) % 2#32 = (b >>> k) % 2#32 ↔ (a ^^^ b).getLsbD k = false := by
  rw [odd_w, odd_w, bw_inj, BitVec.getLsbD_ushiftRight, BitVec.getLsbD_ushiftRight, Nat.add_zero, BitVec.getLsbD_xor]
  cases a.getLsbD k <;> cases b.getLsbD k <;> simp
theorem low_same {x : Wd} {k : Nat} (hk : k < 32) (h : x.getLsbD k = false) : lowW k x = lowW (k + 1) x := by
  rw [lowW_succ k x hk, h]
  show _ = _ ^^^ (0#32 <<< k)
  simp
theorem low_add {x : Wd} {k : Nat} (hk : k < 32) (h : x.getLsbD k = true) : lowW k x + (1#32 <<< k) = lowW (k + 1) x := by
  have hb : ∀ i, (1#32 <<< k).getLsbD i = (decide (i < 32) && decide (i = k)) := by
    intro i
    rw [BitVec.getLsbD_shiftLeft, BitVec.getLsbD_one]
    by_cases e : i = k
    · subst e; simp
    · by_cases hl : i < k
      · simp [hl, e]
      · simp [hl, e]; omega
  rw [BitVec.add_eq_or_of_and_eq_zero _ _ (by
    apply BitVec.eq_of_getLsbD_eq
    intro i hi
    rw [BitVec.getLsbD_and, lowW_bit, hb]
    by_cases e : i = k
    · subst e; simp
    · simp [e])]
  apply BitVec.eq_of_getLsbD_eq
  intro i hi
  rw [BitVec.getLsbD_or, lowW_bit, lowW_bit, hb]
  by_cases e : i = k
  · subst e; simp [hi, h]
  · simp only [e, decide_false, Bool.and_false, Bool.or_false]
    congr 1
    simp only [decide_eq_decide]; omega
theorem feed_eq {r : Wd} {c : Bool} (h : ¬ r % 2#32 = bw c) : (r / 2#32) ^^^ 3988292384#32 = fed0 (r ^^^ bw c) := by
  rw [odd_w, bw_inj] at h
  unfold fed0
  rw [if_pos (by rw [BitVec.getLsbD_xor, bw_bit]; cases hr : r.getLsbD 0 <;> cases c <;> simp_all), shr_xor, half0]
  have : bw c >>> 1 = 0#32 := by cases c <;> rfl
  rw [this, BitVec.xor_zero]
theorem feed_eq0 {r : Wd} {c : Bool} (h : r % 2#32 = bw c) : r / 2#32 = fed0 (r ^^^ bw c) := by
  rw [odd_w, bw_inj] at h
  unfold fed0
  rw [if_neg (by rw [BitVec.getLsbD_xor, bw_bit]; cases hr : r.getLsbD 0 <;> cases c <;> simp_all), shr_xor, half0]
  have : bw c >>> 1 = 0#32 := by cases c <;> rfl
  rw [this, BitVec.xor_zero]
theorem bit_eq {l : List By} {n : Nat} {b : By} (h : l[n / 8]? = some b) : ((b.setWidth 32 : Wd) >>> (n % 8)) % 2#32 = bw (bitA l n) := by
  rw [odd_w]
  congr 1
  rw [BitVec.getLsbD_ushiftRight, Nat.add_zero, BitVec.getLsbD_setWidth]
  unfold bitA
  rw [h]
  show (decide (n % 8 < 32) && _) = _
  rw [decide_eq_true (by omega)]; rfl
theorem four0 (x : Wd) : (x % 256#32).setWidth 8 = x.setWidth 8 := by
  apply BitVec.eq_of_toNat_eq
  rw [BitVec.toNat_setWidth, BitVec.toNat_setWidth, BitVec.toNat_umod]
  show (x.toNat % 256) % 256 = x.toNat % 256
  omega
theorem four1 (x : Wd) : ((x / 256#32) % 256#32).setWidth 8 = (x >>> 8).setWidth 8 := by
  apply BitVec.eq_of_toNat_eq
  rw [BitVec.toNat_setWidth, BitVec.toNat_setWidth, BitVec.toNat_umod, BitVec.toNat_udiv, BitVec.toNat_ushiftRight, Nat.shiftRight_eq_div_pow]
  show (x.toNat / 256 % 256) % 256 = x.toNat / 256 % 256
  omega
theorem four2 (x : Wd) : ((x / 65536#32) % 256#32).setWidth 8 = (x >>> 16).setWidth 8 := by
  apply BitVec.eq_of_toNat_eq
  rw [BitVec.toNat_setWidth, BitVec.toNat_setWidth, BitVec.toNat_umod, BitVec.toNat_udiv, BitVec.toNat_ushiftRight, Nat.shiftRight_eq_div_pow]
  show (x.toNat / 65536 % 256) % 256 = x.toNat / 65536 % 256
  omega
theorem four3 (x : Wd) : (x / 16777216#32).setWidth 8 = (x >>> 24).setWidth 8 := by
  apply BitVec.eq_of_toNat_eq
  rw [BitVec.toNat_setWidth, BitVec.toNat_setWidth, BitVec.toNat_udiv, BitVec.toNat_ushiftRight, Nat.shiftRight_eq_div_pow]
  rfl

theorem turned_ref (x : Wd) (w : World) : Calls Try.prog 138 #[.int .u32 (x.toNat : Int)] w fun e w' => e = .returned (.int .u32 ((~~~x).toNat : Int)) ∧ Below w.heap.size w w' := by
  refine calls_of_T (l := [.int .u32 ((x).toNat : Int)]) 5 Try.func138 rfl rfl rfl ?_
  show T _ _ _ [(0, .int .u32 ((x).toNat : Int))] []
  refine T_seq (T_region ?_)
  refine TL_q (.int .u32 0) (fun _ _ hρ _ => r_assign (hρ _ _ rfl)) rfl rfl rfl (w_n rfl) ?_
  refine TL_seq ?_
  refine T_seq (T_region ?_)
  refine TL_q (.int .u32 ((x).toNat : Int)) (fun _ _ hρ _ => r_move (hρ _ _ rfl)) rfl rfl rfl (w_n rfl) ?_
  refine TL_q (.int .u32 (((4294967295#32) - x).toNat : Int)) (fun _ _ hρ _ => r_subB (k := .u32) (a := (4294967295#32)) (b := x) rfl (hρ _ _ rfl) (hρ _ _ rfl)) rfl rfl rfl (w_n rfl) ?_
  refine TL_q (.int .u32 (((4294967295#32) - x).toNat : Int)) (fun _ _ hρ _ => r_assign (hρ _ _ rfl)) rfl rfl rfl (w_n rfl) ?_
  refine TL_seq ?_
  refine T_ret' ?_
  refine ret_of rfl (.int .u32 (((4294967295#32) - x).toNat : Int)) (fun tmps w hk hm => res1 rfl (res_tmp (hk 2 _ rfl))) (fun w hm => ?_)
  exact ⟨congrArg (fun x : Wd => Ending.returned (.int .u32 (x.toNat : Int))) (turned_eq x), hm.ext⟩

theorem xor_ref (a b : Wd) (w : World) : Calls Try.prog 148 #[.int .u32 (a.toNat : Int), .int .u32 (b.toNat : Int)] w fun e w' => e = .returned (.int .u32 ((a ^^^ b).toNat : Int)) ∧ Below w.heap.size w w' := by
  refine calls_of_T (l := [.int .u32 ((a).toNat : Int), .int .u32 ((b).toNat : Int)]) 25 Try.func148 rfl rfl rfl ?_
  show T _ _ _ [(0, .int .u32 ((a).toNat : Int)), (1, .int .u32 ((b).toNat : Int))] []
  refine T_seq (T_region ?_)
  refine TL_q (.int .u32 0) (fun _ _ hρ _ => r_assign (hρ _ _ rfl)) rfl rfl rfl (w_n rfl) ?_
  refine TL_seq ?_
  refine T_seq (T_region ?_)
  refine TL_q (.int .u32 0) (fun _ _ hρ _ => r_assign (hρ _ _ rfl)) rfl rfl rfl (w_n rfl) ?_
  refine TL_q (.int .u32 1) (fun _ _ hρ _ => r_assign (hρ _ _ rfl)) rfl rfl rfl (w_n rfl) ?_
  refine TL_seq ?_
  refine T_seq ?_
  refine T_seq (T_region ?_)
  refine TL_q (.int .i64 0) (fun _ _ hρ _ => r_move (hρ _ _ rfl)) rfl rfl rfl (w_n rfl) ?_
  refine TL_seq ?_
  refine T_block ?_
  refine T_loop (ι := Nat) (fun (k : Nat) => k ≤ 32) (fun (k : Nat) => [(4, .int .u32 0), (7, .int .i64 ((k : Nat) : Int)), (0, .int .u32 ((a >>> k).toNat : Int)), (1, .int .u32 ((b >>> k).toNat : Int)), (6, .int .u32 ((1#32 <<< k).toNat : Int)), (5, .int .u32 ((lowW k (a ^^^ b)).toNat : Int))]) (fun (k : Nat) => []) (fun (k : Nat) => 32 - k) 0 (Nat.zero_le _) (sub_cons rfl (sub_cons rfl (sub_cons (by exact (congrArg (fun x : Wd => some (Value.int .u32 (x.toNat : Int))) ((BitVec.ushiftRight_zero a).symm))) (sub_cons (by exact (congrArg (fun x : Wd => some (Value.int .u32 (x.toNat : Int))) ((BitVec.ushiftRight_zero b).symm))) (sub_cons (by exact (congrArg (fun x : Wd => some (Value.int .u32 (x.toNat : Int))) ((BitVec.shiftLeft_zero 1#32).symm))) (sub_cons (by exact (congrArg (fun x : Wd => some (Value.int .u32 (x.toNat : Int))) ((lowW_zero (a ^^^ b)).symm))) sub_nil)))))) sub_nil ?_
  rintro k hp
  show T _ _ _ [(4, .int .u32 0), (7, .int .i64 ((k : Nat) : Int)), (0, .int .u32 ((a >>> k).toNat : Int)), (1, .int .u32 ((b >>> k).toNat : Int)), (6, .int .u32 ((1#32 <<< k).toNat : Int)), (5, .int .u32 ((lowW k (a ^^^ b)).toNat : Int))] []
  refine T_seq (T_region ?_)
  refine TL_q (.bool (decide (((k : Nat) : Int) < 32))) (fun _ _ hρ _ => r_lss (hρ _ _ rfl) (hρ _ _ rfl)) rfl rfl rfl (w_n rfl) ?_
  refine TL_seq ?_
  refine T_seq ?_
  refine T_cond rfl (fun h1 => ?_) (fun h1 => ?_)
  · replace h1 := of_decide_eq_true h1
    refine T_skip' ?_
    refine p_seq ?_
    refine T_seq ?_
    refine T_block ?_
    refine T_seq ?_
    refine T_seq (T_region ?_)
    refine TL_q (.int .u32 ((a >>> k).toNat : Int)) (fun _ _ hρ _ => r_move (hρ _ _ rfl)) rfl rfl rfl (w_n rfl) ?_
    refine TL_q (.int .u32 (((a >>> k) % (2#32)).toNat : Int)) (fun _ _ hρ _ => r_remB (k := .u32) (a := (a >>> k)) (b := (2#32)) rfl (hρ _ _ rfl) (hρ _ _ rfl)) rfl rfl rfl (w_n rfl) ?_
    refine TL_q (.int .u32 ((b >>> k).toNat : Int)) (fun _ _ hρ _ => r_move (hρ _ _ rfl)) rfl rfl rfl (w_n rfl) ?_
    refine TL_q (.int .u32 (((b >>> k) % (2#32)).toNat : Int)) (fun _ _ hρ _ => r_remB (k := .u32) (a := (b >>> k)) (b := (2#32)) rfl (hρ _ _ rfl) (hρ _ _ rfl)) rfl rfl rfl (w_n rfl) ?_
    refine TL_q (.bool (!decide (((a >>> k) % (2#32)) = ((b >>> k) % (2#32))))) (fun _ _ hρ _ => r_as (r_neq (hρ _ _ rfl) (hρ _ _ rfl)) (bool_as (congrArg (fun b => !b) (bv_dec ((a >>> k) % (2#32)) ((b >>> k) % (2#32)))))) rfl rfl rfl (w_n rfl) ?_
    refine TL_seq ?_
    refine T_cond rfl (fun h2 => ?_) (fun h2 => ?_)
    · replace h2 := of_decide_eq_false (bnot_t h2)
      refine T_region ?_
      refine TL_q (.int .u32 ((lowW k (a ^^^ b)).toNat : Int)) (fun _ _ hρ _ => r_move (hρ _ _ rfl)) rfl rfl rfl (w_n rfl) ?_
      refine TL_q (.int .u32 ((1#32 <<< k).toNat : Int)) (fun _ _ hρ _ => r_move (hρ _ _ rfl)) rfl rfl rfl (w_n rfl) ?_
      refine TL_q (.int .u32 (((lowW k (a ^^^ b)) + (1#32 <<< k)).toNat : Int)) (fun _ _ hρ _ => r_addB (k := .u32) (a := (lowW k (a ^^^ b))) (b := (1#32 <<< k)) rfl (hρ _ _ rfl) (hρ _ _ rfl)) rfl rfl rfl (w_n rfl) ?_
      refine TL_q (.int .u32 (((lowW k (a ^^^ b)) + (1#32 <<< k)).toNat : Int)) (fun _ _ hρ _ => r_assign (hρ _ _ rfl)) rfl rfl rfl (w_n rfl) ?_
      refine TL_nil ?_
      refine p_seq ?_
      refine T_region ?_
      refine TL_q (.int .u32 ((a >>> k).toNat : Int)) (fun _ _ hρ _ => r_move (hρ _ _ rfl)) rfl rfl rfl (w_n rfl) ?_
      refine TL_q (.int .u32 (((a >>> k) / (2#32)).toNat : Int)) (fun _ _ hρ _ => r_quoB (k := .u32) (a := (a >>> k)) (b := (2#32)) rfl rfl (hρ _ _ rfl) (hρ _ _ rfl)) rfl rfl rfl (w_n rfl) ?_
      refine TL_q (.int .u32 ((b >>> k).toNat : Int)) (fun _ _ hρ _ => r_move (hρ _ _ rfl)) rfl rfl rfl (w_n rfl) ?_
      refine TL_q (.int .u32 (((b >>> k) / (2#32)).toNat : Int)) (fun _ _ hρ _ => r_quoB (k := .u32) (a := (b >>> k)) (b := (2#32)) rfl rfl (hρ _ _ rfl) (hρ _ _ rfl)) rfl rfl rfl (w_n rfl) ?_
      refine TL_q (.int .u32 ((1#32 <<< k).toNat : Int)) (fun _ _ hρ _ => r_move (hρ _ _ rfl)) rfl rfl rfl (w_n rfl) ?_
      refine TL_q (.int .u32 (((2#32) * (1#32 <<< k)).toNat : Int)) (fun _ _ hρ _ => r_mulB (k := .u32) (a := (2#32)) (b := (1#32 <<< k)) rfl (hρ _ _ rfl) (hρ _ _ rfl)) rfl rfl rfl (w_n rfl) ?_
      refine TL_q (.int .u32 (((a >>> k) / (2#32)).toNat : Int)) (fun _ _ hρ _ => r_assign (hρ _ _ rfl)) rfl rfl rfl (w_n rfl) ?_
      refine TL_q (.int .u32 (((b >>> k) / (2#32)).toNat : Int)) (fun _ _ hρ _ => r_assign (hρ _ _ rfl)) rfl rfl rfl (w_n rfl) ?_
      refine TL_q (.int .u32 (((2#32) * (1#32 <<< k)).toNat : Int)) (fun _ _ hρ _ => r_assign (hρ _ _ rfl)) rfl rfl rfl (w_n rfl) ?_
      refine TL_nil ?_
      refine p_blk_n ?_
      refine p_seq ?_
      refine T_region ?_
      refine TL_q (.int .i64 ((k + 1 : Nat) : Int)) (fun _ _ hρ _ => r_as (r_add (hρ _ _ rfl) (hρ _ _ rfl)) (int_as ((wrap64 (by omega) (by omega)).trans (by omega)))) rfl rfl rfl (w_n rfl) ?_
      refine TL_q (.int .i64 ((k + 1 : Nat) : Int)) (fun _ _ hρ _ => r_move (hρ _ _ rfl)) rfl rfl rfl (w_n rfl) ?_
      refine TL_nil ?_
      exact p_at (k + 1) ⟨by omega, by omega⟩ (sub_cons rfl (sub_cons rfl (sub_cons (congrArg (fun x : Wd => some (Value.int .u32 (x.toNat : Int))) (half_w a k)) (sub_cons (congrArg (fun x : Wd => some (Value.int .u32 (x.toNat : Int))) (half_w b k)) (sub_cons (congrArg (fun x : Wd => some (Value.int .u32 (x.toNat : Int))) (dbl_s k)) (sub_cons (congrArg (fun x : Wd => some (Value.int .u32 (x.toNat : Int))) ((low_add (x := a ^^^ b) (by omega) (by cases hb : (a ^^^ b).getLsbD k with | true => rfl | false => exact absurd ((par_ne a b k).2 hb) h2)))) sub_nil)))))) sub_nil
    · replace h2 := of_decide_eq_true (bnot_f h2)
      refine T_skip' ?_
      refine p_seq ?_
      refine T_region ?_
      refine TL_q (.int .u32 ((a >>> k).toNat : Int)) (fun _ _ hρ _ => r_move (hρ _ _ rfl)) rfl rfl rfl (w_n rfl) ?_
      refine TL_q (.int .u32 (((a >>> k) / (2#32)).toNat : Int)) (fun _ _ hρ _ => r_quoB (k := .u32) (a := (a >>> k)) (b := (2#32)) rfl rfl (hρ _ _ rfl) (hρ _ _ rfl)) rfl rfl rfl (w_n rfl) ?_
      refine TL_q (.int .u32 ((b >>> k).toNat : Int)) (fun _ _ hρ _ => r_move (hρ _ _ rfl)) rfl rfl rfl (w_n rfl) ?_
      refine TL_q (.int .u32 (((b >>> k) / (2#32)).toNat : Int)) (fun _ _ hρ _ => r_quoB (k := .u32) (a := (b >>> k)) (b := (2#32)) rfl rfl (hρ _ _ rfl) (hρ _ _ rfl)) rfl rfl rfl (w_n rfl) ?_
      refine TL_q (.int .u32 ((1#32 <<< k).toNat : Int)) (fun _ _ hρ _ => r_move (hρ _ _ rfl)) rfl rfl rfl (w_n rfl) ?_
      refine TL_q (.int .u32 (((2#32) * (1#32 <<< k)).toNat : Int)) (fun _ _ hρ _ => r_mulB (k := .u32) (a := (2#32)) (b := (1#32 <<< k)) rfl (hρ _ _ rfl) (hρ _ _ rfl)) rfl rfl rfl (w_n rfl) ?_
      refine TL_q (.int .u32 (((a >>> k) / (2#32)).toNat : Int)) (fun _ _ hρ _ => r_assign (hρ _ _ rfl)) rfl rfl rfl (w_n rfl) ?_
      refine TL_q (.int .u32 (((b >>> k) / (2#32)).toNat : Int)) (fun _ _ hρ _ => r_assign (hρ _ _ rfl)) rfl rfl rfl (w_n rfl) ?_
      refine TL_q (.int .u32 (((2#32) * (1#32 <<< k)).toNat : Int)) (fun _ _ hρ _ => r_assign (hρ _ _ rfl)) rfl rfl rfl (w_n rfl) ?_
      refine TL_nil ?_
      refine p_blk_n ?_
      refine p_seq ?_
      refine T_region ?_
      refine TL_q (.int .i64 ((k + 1 : Nat) : Int)) (fun _ _ hρ _ => r_as (r_add (hρ _ _ rfl) (hρ _ _ rfl)) (int_as ((wrap64 (by omega) (by omega)).trans (by omega)))) rfl rfl rfl (w_n rfl) ?_
      refine TL_q (.int .i64 ((k + 1 : Nat) : Int)) (fun _ _ hρ _ => r_move (hρ _ _ rfl)) rfl rfl rfl (w_n rfl) ?_
      refine TL_nil ?_
      exact p_at (k + 1) ⟨by omega, by omega⟩ (sub_cons rfl (sub_cons rfl (sub_cons (congrArg (fun x : Wd => some (Value.int .u32 (x.toNat : Int))) (half_w a k)) (sub_cons (congrArg (fun x : Wd => some (Value.int .u32 (x.toNat : Int))) (half_w b k)) (sub_cons (congrArg (fun x : Wd => some (Value.int .u32 (x.toNat : Int))) (dbl_s k)) (sub_cons (congrArg (fun x : Wd => some (Value.int .u32 (x.toNat : Int))) ((low_same (x := a ^^^ b) (by omega) ((par_ne a b k).1 h2)))) sub_nil)))))) sub_nil
  · replace h1 := of_decide_eq_false h1
    refine T_exit' ?_
    refine p_then_x ?_
    refine p_then_x ?_
    refine p_blk_x ?_
    refine p_seq ?_
    refine T_seq (T_region ?_)
    refine TL_q (.int .u32 ((lowW k (a ^^^ b)).toNat : Int)) (fun _ _ hρ _ => r_move (hρ _ _ rfl)) rfl rfl rfl (w_n rfl) ?_
    refine TL_q (.int .u32 ((lowW k (a ^^^ b)).toNat : Int)) (fun _ _ hρ _ => r_assign (hρ _ _ rfl)) rfl rfl rfl (w_n rfl) ?_
    refine TL_seq ?_
    refine T_ret' ?_
    refine ret_of rfl (.int .u32 ((lowW k (a ^^^ b)).toNat : Int)) (fun tmps w hk hm => res1 rfl (res_tmp (hk 4 _ rfl))) (fun w hm => ?_)
    have hk : k = 32 := by omega
    subst hk
    exact ⟨congrArg (fun x : Wd => Ending.returned (.int .u32 (x.toNat : Int))) (lowW_all (a ^^^ b)), hm.ext⟩

theorem feedb_ref (r : Wd) (c : Bool) (w : World) : Calls Try.prog 144 #[.int .u32 (r.toNat : Int), .int .u32 ((bw c).toNat : Int)] w fun e w' => e = .returned (.int .u32 ((fed0 (r ^^^ bw c)).toNat : Int)) ∧ Below w.heap.size w w' := by
  refine calls_of_T (l := [.int .u32 ((r).toNat : Int), .int .u32 ((bw c).toNat : Int)]) 14 Try.func144 rfl rfl rfl ?_
  show T _ _ _ [(0, .int .u32 ((r).toNat : Int)), (1, .int .u32 ((bw c).toNat : Int))] []
  refine T_seq (T_region ?_)
  refine TL_q (.int .u32 0) (fun _ _ hρ _ => r_assign (hρ _ _ rfl)) rfl rfl rfl (w_n rfl) ?_
  refine TL_seq ?_
  refine T_seq ?_
  refine T_seq (T_region ?_)
  refine TL_q (.int .u32 ((r).toNat : Int)) (fun _ _ hρ _ => r_move (hρ _ _ rfl)) rfl rfl rfl (w_n rfl) ?_
  refine TL_q (.int .u32 ((r % (2#32)).toNat : Int)) (fun _ _ hρ _ => r_remB (k := .u32) (a := r) (b := (2#32)) rfl (hρ _ _ rfl) (hρ _ _ rfl)) rfl rfl rfl (w_n rfl) ?_
  refine TL_q (.int .u32 ((bw c).toNat : Int)) (fun _ _ hρ _ => r_move (hρ _ _ rfl)) rfl rfl rfl (w_n rfl) ?_
  refine TL_q (.bool (!decide ((r % (2#32)) = (bw c)))) (fun _ _ hρ _ => r_as (r_neq (hρ _ _ rfl) (hρ _ _ rfl)) (bool_as (congrArg (fun b => !b) (bv_dec (r % (2#32)) (bw c))))) rfl rfl rfl (w_n rfl) ?_
  refine TL_seq ?_
  refine T_cond rfl (fun h1 => ?_) (fun h1 => ?_)
  · replace h1 := of_decide_eq_false (bnot_t h1)
    refine T_seq (T_region ?_)
    refine TL_q (.int .u32 ((r).toNat : Int)) (fun _ _ hρ _ => r_move (hρ _ _ rfl)) rfl rfl rfl (w_n rfl) ?_
    refine TL_q (.int .u32 ((r / (2#32)).toNat : Int)) (fun _ _ hρ _ => r_quoB (k := .u32) (a := r) (b := (2#32)) rfl rfl (hρ _ _ rfl) (hρ _ _ rfl)) rfl rfl rfl (w_n rfl) ?_
    refine TL_call (.int .u32 (((r / (2#32)) ^^^ (3988292384#32)).toNat : Int)) (fun _ _ hρ _ => r_call (args := [.int .u32 ((r / (2#32)).toNat : Int), .int .u32 3988292384]) (enters_of Try.func148 (by kernel_rfl) rfl) (hρ _ _ rfl) ((cons2 (hρ _ _ rfl) (cons2 (hρ _ _ rfl) rfl))) rfl) (fun w _ => xor_ref (r / (2#32)) (3988292384#32) w) rfl rfl rfl (w_n rfl) ?_
    refine TL_q (.int .u32 (((r / (2#32)) ^^^ (3988292384#32)).toNat : Int)) (fun _ _ hρ _ => r_assign (hρ _ _ rfl)) rfl rfl rfl (w_n rfl) ?_
    refine TL_seq ?_
    refine T_ret' ?_
    refine p_then_r ?_
    refine ret_of rfl (.int .u32 (((r / (2#32)) ^^^ (3988292384#32)).toNat : Int)) (fun tmps w hk hm => res1 rfl (res_tmp (hk 4 _ rfl))) (fun w hm => ?_)
    exact ⟨congrArg (fun x : Wd => Ending.returned (.int .u32 (x.toNat : Int))) (feed_eq h1), hm.ext⟩
  · replace h1 := of_decide_eq_true (bnot_f h1)
    refine T_skip' ?_
    refine p_seq ?_
    refine T_seq (T_region ?_)
    refine TL_q (.int .u32 ((r).toNat : Int)) (fun _ _ hρ _ => r_move (hρ _ _ rfl)) rfl rfl rfl (w_n rfl) ?_
    refine TL_q (.int .u32 ((r / (2#32)).toNat : Int)) (fun _ _ hρ _ => r_quoB (k := .u32) (a := r) (b := (2#32)) rfl rfl (hρ _ _ rfl) (hρ _ _ rfl)) rfl rfl rfl (w_n rfl) ?_
    refine TL_q (.int .u32 ((r / (2#32)).toNat : Int)) (fun _ _ hρ _ => r_assign (hρ _ _ rfl)) rfl rfl rfl (w_n rfl) ?_
    refine TL_seq ?_
    refine T_ret' ?_
    refine ret_of rfl (.int .u32 ((r / (2#32)).toNat : Int)) (fun tmps w hk hm => res1 rfl (res_tmp (hk 4 _ rfl))) (fun w hm => ?_)
    exact ⟨congrArg (fun x : Wd => Ending.returned (.int .u32 (x.toNat : Int))) (feed_eq0 h1), hm.ext⟩

theorem bit_ref (n : Nat) (l : List By) (a : Option Addr) (cap : Nat) (w : World) (hv : SliceAt w a cap 1 byc l) (hl : l.length ≤ 140737488355328) (hn : n < 8 * l.length) : Calls Try.prog 109 #[.slice a l.length cap, .int .i64 (n : Int)] w fun e w' => e = .returned (.int .u32 ((bw (bitA l n)).toNat : Int)) ∧ Below w.heap.size w w' := by
  refine calls_of_T (l := [.slice a l.length cap, .int .i64 ((n : Nat) : Int)]) 21 Try.func109 rfl rfl rfl ?_
  show T _ _ _ [(0, .slice a l.length cap), (1, .int .i64 ((n : Nat) : Int))] []
  refine T_seq (T_region ?_)
  refine TL_q (.int .u32 0) (fun _ _ hρ _ => r_assign (hρ _ _ rfl)) rfl rfl rfl (w_n rfl) ?_
  refine TL_seq ?_
  have hvl := hv.1
  obtain ⟨y, hy⟩ : ∃ y, l[n / 8]? = some y := ⟨_, List.getElem?_eq_getElem (by omega)⟩
  obtain ⟨b1, of1, cs1, T1, fz1, ha1, hq1, hr1⟩ := hv.open (i := n / 8) (by omega)
  subst ha1
  refine T_seq (T_region ?_)
  refine TL_q (.slice (some ⟨b1, of1, none⟩) l.length cap) (fun _ _ hρ _ => r_move (hρ _ _ rfl)) rfl rfl rfl (w_n rfl) ?_
  refine TL_q (.int .i64 ((n : Nat) : Int)) (fun _ _ hρ _ => r_move (hρ _ _ rfl)) rfl rfl rfl (w_n rfl) ?_
  refine TL_q (.int .i64 ((n / 8 : Nat) : Int)) (fun _ _ hρ _ => r_as (r_quo (hρ _ _ rfl) (hρ _ _ rfl) (by omega)) (int_as ((quo_i64 (by omega) (by omega) (by omega)).trans (by omega)))) rfl rfl rfl (w_n rfl) ?_
  refine TL_q (.pointer (some ⟨b1, of1 + (n / 8) * 1, none⟩)) (fun _ _ hρ _ => r_indexAddrS (i := n / 8) sl34 sz5 (hρ _ _ rfl) (hρ _ _ rfl) (by omega)) rfl rfl rfl (w_n rfl) ?_
  refine TL_q (.int .u8 ((y).toNat : Int)) (fun _ _ hρ hm => r_loadRow1 (f := byc) (u := y) ag5 (hρ _ _ rfl) (hm.old hq1) hr1 hy rfl) rfl rfl rfl (w_n rfl) ?_
  refine TL_q (.int .u32 ((y.setWidth 32).toNat : Int)) (fun _ _ hρ _ => r_convB (k := .u8) (k' := .u32) (a := y) un5 io46 rfl (hρ _ _ rfl)) rfl rfl rfl (w_n rfl) ?_
  refine TL_q (.int .u32 ((y.setWidth 32).toNat : Int)) (fun _ _ hρ _ => r_assign (hρ _ _ rfl)) rfl rfl rfl (w_n rfl) ?_
  refine TL_seq ?_
  refine T_seq ?_
  refine T_seq (T_region ?_)
  refine TL_q (.int .i64 ((n : Nat) : Int)) (fun _ _ hρ _ => r_move (hρ _ _ rfl)) rfl rfl rfl (w_n rfl) ?_
  refine TL_q (.int .i64 ((n % 8 : Nat) : Int)) (fun _ _ hρ _ => r_as (r_rem (hρ _ _ rfl) (hρ _ _ rfl) (by omega)) (int_as ((Int.tmod_eq_emod_of_nonneg (by omega)).trans (by omega)))) rfl rfl rfl (w_n rfl) ?_
  refine TL_q (.int .i64 0) (fun _ _ hρ _ => r_move (hρ _ _ rfl)) rfl rfl rfl (w_n rfl) ?_
  refine TL_seq ?_
  refine T_block ?_
  refine T_loop (ι := Nat) (fun (k : Nat) => k ≤ n % 8) (fun (k : Nat) => [(4, .int .u32 0), (13, .int .i64 ((n % 8 : Nat) : Int)), (14, .int .i64 ((k : Nat) : Int)), (5, .int .u32 (((y.setWidth 32) >>> k).toNat : Int))]) (fun (k : Nat) => []) (fun (k : Nat) => n % 8 - k) 0 (Nat.zero_le _) (sub_cons rfl (sub_cons rfl (sub_cons rfl (sub_cons (by exact (congrArg (fun x : Wd => some (Value.int .u32 (x.toNat : Int))) ((BitVec.ushiftRight_zero (y.setWidth 32)).symm))) sub_nil)))) sub_nil ?_
  rintro k hp
  show T _ _ _ [(4, .int .u32 0), (13, .int .i64 ((n % 8 : Nat) : Int)), (14, .int .i64 ((k : Nat) : Int)), (5, .int .u32 (((y.setWidth 32) >>> k).toNat : Int))] []
  refine T_seq (T_region ?_)
  refine TL_q (.bool (decide (((k : Nat) : Int) < ((n % 8 : Nat) : Int)))) (fun _ _ hρ _ => r_lss (hρ _ _ rfl) (hρ _ _ rfl)) rfl rfl rfl (w_n rfl) ?_
  refine TL_seq ?_
  refine T_seq ?_
  refine T_cond rfl (fun h1 => ?_) (fun h1 => ?_)
  · replace h1 := of_decide_eq_true h1
    refine T_skip' ?_
    refine p_seq ?_
    refine T_seq ?_
    refine T_block ?_
    refine T_region ?_
    refine TL_q (.int .u32 (((y.setWidth 32) >>> k).toNat : Int)) (fun _ _ hρ _ => r_move (hρ _ _ rfl)) rfl rfl rfl (w_n rfl) ?_
    refine TL_q (.int .u32 ((((y.setWidth 32) >>> k) / (2#32)).toNat : Int)) (fun _ _ hρ _ => r_quoB (k := .u32) (a := ((y.setWidth 32) >>> k)) (b := (2#32)) rfl rfl (hρ _ _ rfl) (hρ _ _ rfl)) rfl rfl rfl (w_n rfl) ?_
    refine TL_q (.int .u32 ((((y.setWidth 32) >>> k) / (2#32)).toNat : Int)) (fun _ _ hρ _ => r_assign (hρ _ _ rfl)) rfl rfl rfl (w_n rfl) ?_
    refine TL_nil ?_
    refine p_blk_n ?_
    refine p_seq ?_
    refine T_region ?_
    refine TL_q (.int .i64 ((k + 1 : Nat) : Int)) (fun _ _ hρ _ => r_as (r_add (hρ _ _ rfl) (hρ _ _ rfl)) (int_as ((wrap64 (by omega) (by omega)).trans (by omega)))) rfl rfl rfl (w_n rfl) ?_
    refine TL_q (.int .i64 ((k + 1 : Nat) : Int)) (fun _ _ hρ _ => r_move (hρ _ _ rfl)) rfl rfl rfl (w_n rfl) ?_
    refine TL_nil ?_
    exact p_at (k + 1) ⟨by omega, by omega⟩ (sub_cons rfl (sub_cons rfl (sub_cons rfl (sub_cons (congrArg (fun x : Wd => some (Value.int .u32 (x.toNat : Int))) (half_w (y.setWidth 32) k)) sub_nil)))) sub_nil
  · replace h1 := of_decide_eq_false h1
    refine T_exit' ?_
    refine p_then_x ?_
    refine p_then_x ?_
    refine p_blk_x ?_
    refine p_seq ?_
    refine T_seq (T_region ?_)
    refine TL_q (.int .u32 (((y.setWidth 32) >>> k).toNat : Int)) (fun _ _ hρ _ => r_move (hρ _ _ rfl)) rfl rfl rfl (w_n rfl) ?_
    refine TL_q (.int .u32 ((((y.setWidth 32) >>> k) % (2#32)).toNat : Int)) (fun _ _ hρ _ => r_remB (k := .u32) (a := ((y.setWidth 32) >>> k)) (b := (2#32)) rfl (hρ _ _ rfl) (hρ _ _ rfl)) rfl rfl rfl (w_n rfl) ?_
    refine TL_q (.int .u32 ((((y.setWidth 32) >>> k) % (2#32)).toNat : Int)) (fun _ _ hρ _ => r_assign (hρ _ _ rfl)) rfl rfl rfl (w_n rfl) ?_
    refine TL_seq ?_
    refine T_ret' ?_
    refine ret_of rfl (.int .u32 ((((y.setWidth 32) >>> k) % (2#32)).toNat : Int)) (fun tmps w hk hm => res1 rfl (res_tmp (hk 4 _ rfl))) (fun w hm => ?_)
    have hk : k = n % 8 := by omega
    subst hk
    exact ⟨congrArg (fun x : Wd => Ending.returned (.int .u32 (x.toNat : Int))) (bit_eq hy), hm.ext⟩

theorem fed_ref (r : Wd) (l : List By) (a : Option Addr) (cap : Nat) (w : World) (hv : SliceAt w a cap 1 byc l) (hl : l.length ≤ 140737488355328) : Calls Try.prog 139 #[.int .u32 (r.toNat : Int), .slice a l.length cap] w fun e w' => e = .returned (.int .u32 ((regL r l).toNat : Int)) ∧ Below w.heap.size w w' := by
  refine calls_of_T (l := [.int .u32 ((r).toNat : Int), .slice a l.length cap]) 19 Try.func139 rfl rfl rfl ?_
  show T _ _ _ [(0, .int .u32 ((r).toNat : Int)), (1, .slice a l.length cap)] []
  refine T_seq (T_region ?_)
  refine TL_q (.int .u32 0) (fun _ _ hρ _ => r_assign (hρ _ _ rfl)) rfl rfl rfl (w_n rfl) ?_
  refine TL_seq ?_
  refine T_seq ?_
  refine T_seq (T_region ?_)
  refine TL_q (.slice a l.length cap) (fun _ _ hρ _ => r_move (hρ _ _ rfl)) rfl rfl rfl (w_n rfl) ?_
  refine TL_q (.int .i64 ((l.length : Nat) : Int)) (fun _ _ hρ _ => r_len sl34 (hρ _ _ rfl)) rfl rfl rfl (w_n rfl) ?_
  refine TL_q (.int .i64 ((8 * l.length : Nat) : Int)) (fun _ _ hρ _ => r_as (r_mul (hρ _ _ rfl) (hρ _ _ rfl)) (int_as ((wrap64 (by omega) (by omega)).trans (by omega)))) rfl rfl rfl (w_n rfl) ?_
  refine TL_q (.int .i64 0) (fun _ _ hρ _ => r_move (hρ _ _ rfl)) rfl rfl rfl (w_n rfl) ?_
  refine TL_seq ?_
  refine T_block ?_
  refine T_loop (ι := Nat) (fun (n : Nat) => n ≤ 8 * l.length) (fun (n : Nat) => [(1, .slice a l.length cap), (4, .int .u32 0), (8, .int .i64 ((8 * l.length : Nat) : Int)), (9, .int .i64 ((n : Nat) : Int)), (0, .int .u32 ((regF r (bitA l) n).toNat : Int))]) (fun (n : Nat) => []) (fun (n : Nat) => 8 * l.length - n) 0 (Nat.zero_le _) (sub_cons rfl (sub_cons rfl (sub_cons rfl (sub_cons rfl (sub_cons rfl sub_nil))))) sub_nil ?_
  rintro n hp
  show T _ _ _ [(1, .slice a l.length cap), (4, .int .u32 0), (8, .int .i64 ((8 * l.length : Nat) : Int)), (9, .int .i64 ((n : Nat) : Int)), (0, .int .u32 ((regF r (bitA l) n).toNat : Int))] []
  refine T_seq (T_region ?_)
  refine TL_q (.bool (decide (((n : Nat) : Int) < ((8 * l.length : Nat) : Int)))) (fun _ _ hρ _ => r_lss (hρ _ _ rfl) (hρ _ _ rfl)) rfl rfl rfl (w_n rfl) ?_
  refine TL_seq ?_
  refine T_seq ?_
  refine T_cond rfl (fun h1 => ?_) (fun h1 => ?_)
  · replace h1 := of_decide_eq_true h1
    refine T_skip' ?_
    refine p_seq ?_
    refine T_seq ?_
    refine T_block ?_
    refine T_seq (T_region ?_)
    refine TL_q (.int .i64 ((n : Nat) : Int)) (fun _ _ hρ _ => r_move (hρ _ _ rfl)) rfl rfl rfl (w_n rfl) ?_
    refine TL_q (.int .i64 ((n : Nat) : Int)) (fun _ _ hρ _ => r_assign (hρ _ _ rfl)) rfl rfl rfl (w_n rfl) ?_
    refine TL_seq ?_
    refine T_region ?_
    refine TL_q (.int .u32 ((regF r (bitA l) n).toNat : Int)) (fun _ _ hρ _ => r_move (hρ _ _ rfl)) rfl rfl rfl (w_n rfl) ?_
    refine TL_q (.slice a l.length cap) (fun _ _ hρ _ => r_move (hρ _ _ rfl)) rfl rfl rfl (w_n rfl) ?_
    refine TL_q (.int .i64 ((n : Nat) : Int)) (fun _ _ hρ _ => r_move (hρ _ _ rfl)) rfl rfl rfl (w_n rfl) ?_
    refine TL_call (.int .u32 ((bw (bitA l n)).toNat : Int)) (fun _ _ hρ _ => r_call (args := [.slice a l.length cap, .int .i64 ((n : Nat) : Int)]) (enters_of Try.func109 (by kernel_rfl) rfl) (hρ _ _ rfl) ((cons2 (hρ _ _ rfl) (cons2 (hρ _ _ rfl) rfl))) rfl) (fun w hm => bit_ref n l a cap w (hv.keep hm.ext) (by omega) (by omega)) rfl rfl rfl (w_n rfl) ?_
    refine TL_call (.int .u32 ((regF r (bitA l) (n + 1)).toNat : Int)) (fun _ _ hρ _ => r_call (args := [.int .u32 ((regF r (bitA l) n).toNat : Int), .int .u32 ((bw (bitA l n)).toNat : Int)]) (enters_of Try.func144 (by kernel_rfl) rfl) (hρ _ _ rfl) ((cons2 (hρ _ _ rfl) (cons2 (hρ _ _ rfl) rfl))) rfl) (fun w _ => feedb_ref (regF r (bitA l) n) (bitA l n) w) rfl rfl rfl (w_n rfl) ?_
    refine TL_q (.int .u32 ((regF r (bitA l) (n + 1)).toNat : Int)) (fun _ _ hρ _ => r_assign (hρ _ _ rfl)) rfl rfl rfl (w_n rfl) ?_
    refine TL_nil ?_
    refine p_blk_n ?_
    refine p_seq ?_
    refine T_region ?_
    refine TL_q (.int .i64 ((n + 1 : Nat) : Int)) (fun _ _ hρ _ => r_as (r_add (hρ _ _ rfl) (hρ _ _ rfl)) (int_as ((wrap64 (by omega) (by omega)).trans (by omega)))) rfl rfl rfl (w_n rfl) ?_
    refine TL_q (.int .i64 ((n + 1 : Nat) : Int)) (fun _ _ hρ _ => r_move (hρ _ _ rfl)) rfl rfl rfl (w_n rfl) ?_
    refine TL_nil ?_
    exact p_at (n + 1) ⟨by omega, by omega⟩ (sub_cons rfl (sub_cons rfl (sub_cons rfl (sub_cons rfl (sub_cons rfl sub_nil))))) sub_nil
  · replace h1 := of_decide_eq_false h1
    refine T_exit' ?_
    refine p_then_x ?_
    refine p_then_x ?_
    refine p_blk_x ?_
    refine p_seq ?_
    refine T_seq (T_region ?_)
    refine TL_q (.int .u32 ((regF r (bitA l) n).toNat : Int)) (fun _ _ hρ _ => r_move (hρ _ _ rfl)) rfl rfl rfl (w_n rfl) ?_
    refine TL_q (.int .u32 ((regF r (bitA l) n).toNat : Int)) (fun _ _ hρ _ => r_assign (hρ _ _ rfl)) rfl rfl rfl (w_n rfl) ?_
    refine TL_seq ?_
    refine T_ret' ?_
    refine ret_of rfl (.int .u32 ((regF r (bitA l) n).toNat : Int)) (fun tmps w hk hm => res1 rfl (res_tmp (hk 4 _ rfl))) (fun w hm => ?_)
    have hk : n = 8 * l.length := by omega
    subst hk
    exact ⟨congrArg (fun x : Wd => Ending.returned (.int .u32 (x.toNat : Int))) ((regL_bits r l).symm), hm.ext⟩

theorem more_ref (r : Wd) (l : List By) (a : Option Addr) (cap : Nat) (w : World) (hv : SliceAt w a cap 1 byc l) (hl : l.length ≤ 140737488355328) : Calls Try.prog 126 #[.int .u32 (r.toNat : Int), .slice a l.length cap] w fun e w' => e = .returned (.int .u32 ((sumC r l).toNat : Int)) ∧ Below w.heap.size w w' := by
  refine calls_of_T (l := [.int .u32 ((r).toNat : Int), .slice a l.length cap]) 10 Try.func126 rfl rfl rfl ?_
  show T _ _ _ [(0, .int .u32 ((r).toNat : Int)), (1, .slice a l.length cap)] []
  refine T_seq (T_region ?_)
  refine TL_q (.int .u32 0) (fun _ _ hρ _ => r_assign (hρ _ _ rfl)) rfl rfl rfl (w_n rfl) ?_
  refine TL_seq ?_
  refine T_seq (T_region ?_)
  refine TL_q (.int .u32 ((r).toNat : Int)) (fun _ _ hρ _ => r_move (hρ _ _ rfl)) rfl rfl rfl (w_n rfl) ?_
  refine TL_call (.int .u32 ((~~~r).toNat : Int)) (fun _ _ hρ _ => r_call (args := [.int .u32 ((r).toNat : Int)]) (enters_of Try.func138 (by kernel_rfl) rfl) (hρ _ _ rfl) ((cons2 (hρ _ _ rfl) rfl)) rfl) (fun w _ => turned_ref r w) rfl rfl rfl (w_n rfl) ?_
  refine TL_q (.slice a l.length cap) (fun _ _ hρ _ => r_move (hρ _ _ rfl)) rfl rfl rfl (w_n rfl) ?_
  refine TL_call (.int .u32 ((regL (~~~r) l).toNat : Int)) (fun _ _ hρ _ => r_call (args := [.int .u32 ((~~~r).toNat : Int), .slice a l.length cap]) (enters_of Try.func139 (by kernel_rfl) rfl) (hρ _ _ rfl) ((cons2 (hρ _ _ rfl) (cons2 (hρ _ _ rfl) rfl))) rfl) (fun w hm => fed_ref (~~~r) l a cap w (hv.keep hm.ext) hl) rfl rfl rfl (w_n rfl) ?_
  refine TL_call (.int .u32 ((~~~(regL (~~~r) l)).toNat : Int)) (fun _ _ hρ _ => r_call (args := [.int .u32 ((regL (~~~r) l).toNat : Int)]) (enters_of Try.func138 (by kernel_rfl) rfl) (hρ _ _ rfl) ((cons2 (hρ _ _ rfl) rfl)) rfl) (fun w _ => turned_ref (regL (~~~r) l) w) rfl rfl rfl (w_n rfl) ?_
  refine TL_q (.int .u32 ((~~~(regL (~~~r) l)).toNat : Int)) (fun _ _ hρ _ => r_assign (hρ _ _ rfl)) rfl rfl rfl (w_n rfl) ?_
  refine TL_seq ?_
  refine T_ret' ?_
  refine ret_of rfl (.int .u32 ((~~~(regL (~~~r) l)).toNat : Int)) (fun tmps w hk hm => res1 rfl (res_tmp (hk 4 _ rfl))) (fun w hm => ?_)
  exact ⟨rfl, hm.ext⟩

theorem sum_ref (l : List By) (a : Option Addr) (cap : Nat) (w : World) (hv : SliceAt w a cap 1 byc l) (hl : l.length ≤ 140737488355328) : Calls Try.prog 113 #[.slice a l.length cap] w fun e w' => e = .returned (.int .u32 ((sumC 0#32 l).toNat : Int)) ∧ Below w.heap.size w w' := by
  refine calls_of_T (l := [.slice a l.length cap]) 5 Try.func113 rfl rfl rfl ?_
  show T _ _ _ [(0, .slice a l.length cap)] []
  refine T_seq (T_region ?_)
  refine TL_q (.int .u32 0) (fun _ _ hρ _ => r_assign (hρ _ _ rfl)) rfl rfl rfl (w_n rfl) ?_
  refine TL_seq ?_
  refine T_seq (T_region ?_)
  refine TL_q (.slice a l.length cap) (fun _ _ hρ _ => r_move (hρ _ _ rfl)) rfl rfl rfl (w_n rfl) ?_
  refine TL_call (.int .u32 ((sumC (0#32) l).toNat : Int)) (fun _ _ hρ _ => r_call (args := [.int .u32 0, .slice a l.length cap]) (enters_of Try.func126 (by kernel_rfl) rfl) (hρ _ _ rfl) ((cons2 (hρ _ _ rfl) (cons2 (hρ _ _ rfl) rfl))) rfl) (fun w hm => more_ref (0#32) l a cap w (hv.keep hm.ext) hl) rfl rfl rfl (w_n rfl) ?_
  refine TL_q (.int .u32 ((sumC (0#32) l).toNat : Int)) (fun _ _ hρ _ => r_assign (hρ _ _ rfl)) rfl rfl rfl (w_n rfl) ?_
  refine TL_seq ?_
  refine T_ret' ?_
  refine ret_of rfl (.int .u32 ((sumC (0#32) l).toNat : Int)) (fun tmps w hk hm => res1 rfl (res_tmp (hk 2 _ rfl))) (fun w hm => ?_)
  exact ⟨rfl, hm.ext⟩

theorem four_ref (x : Wd) (w : World) : Calls Try.prog 112 #[.int .u32 (x.toNat : Int)] w (Ans (fun _ : Nat => True) (fun z => .slice (some ⟨z, 0, none⟩) 4 4) (fun z => [(1, .blk z (.cells ((four x).flatMap byc).toArray 5))]) w) := by
  refine calls_of_T (l := [.int .u32 ((x).toNat : Int)]) 18 Try.func112 rfl rfl rfl ?_
  show T _ _ _ [(0, .int .u32 ((x).toNat : Int))] []
  refine T_seq (T_region ?_)
  refine TL_q (.slice none 0 0) (fun _ _ hρ _ => r_assign (hρ _ _ rfl)) rfl rfl rfl (w_n rfl) ?_
  refine TL_seq ?_
  refine T_seq (T_region ?_)
  refine TL_q (.int .u32 ((x).toNat : Int)) (fun _ _ hρ _ => r_move (hρ _ _ rfl)) rfl rfl rfl (w_n rfl) ?_
  refine TL_q (.int .u32 ((x % (256#32)).toNat : Int)) (fun _ _ hρ _ => r_remB (k := .u32) (a := x) (b := (256#32)) rfl (hρ _ _ rfl) (hρ _ _ rfl)) rfl rfl rfl (w_n rfl) ?_
  refine TL_q (.int .u8 (((x % (256#32)).setWidth 8).toNat : Int)) (fun _ _ hρ _ => r_convB (k := .u32) (k' := .u8) (a := (x % (256#32))) un46 io5 rfl (hρ _ _ rfl)) rfl rfl rfl (w_n rfl) ?_
  refine TL_q (.int .u32 ((x).toNat : Int)) (fun _ _ hρ _ => r_move (hρ _ _ rfl)) rfl rfl rfl (w_n rfl) ?_
  refine TL_q (.int .u32 ((x / (256#32)).toNat : Int)) (fun _ _ hρ _ => r_quoB (k := .u32) (a := x) (b := (256#32)) rfl rfl (hρ _ _ rfl) (hρ _ _ rfl)) rfl rfl rfl (w_n rfl) ?_
  refine TL_q (.int .u32 (((x / (256#32)) % (256#32)).toNat : Int)) (fun _ _ hρ _ => r_remB (k := .u32) (a := (x / (256#32))) (b := (256#32)) rfl (hρ _ _ rfl) (hρ _ _ rfl)) rfl rfl rfl (w_n rfl) ?_
  refine TL_q (.int .u8 ((((x / (256#32)) % (256#32)).setWidth 8).toNat : Int)) (fun _ _ hρ _ => r_convB (k := .u32) (k' := .u8) (a := ((x / (256#32)) % (256#32))) un46 io5 rfl (hρ _ _ rfl)) rfl rfl rfl (w_n rfl) ?_
  refine TL_q (.int .u32 ((x).toNat : Int)) (fun _ _ hρ _ => r_move (hρ _ _ rfl)) rfl rfl rfl (w_n rfl) ?_
  refine TL_q (.int .u32 ((x / (65536#32)).toNat : Int)) (fun _ _ hρ _ => r_quoB (k := .u32) (a := x) (b := (65536#32)) rfl rfl (hρ _ _ rfl) (hρ _ _ rfl)) rfl rfl rfl (w_n rfl) ?_
  refine TL_q (.int .u32 (((x / (65536#32)) % (256#32)).toNat : Int)) (fun _ _ hρ _ => r_remB (k := .u32) (a := (x / (65536#32))) (b := (256#32)) rfl (hρ _ _ rfl) (hρ _ _ rfl)) rfl rfl rfl (w_n rfl) ?_
  refine TL_q (.int .u8 ((((x / (65536#32)) % (256#32)).setWidth 8).toNat : Int)) (fun _ _ hρ _ => r_convB (k := .u32) (k' := .u8) (a := ((x / (65536#32)) % (256#32))) un46 io5 rfl (hρ _ _ rfl)) rfl rfl rfl (w_n rfl) ?_
  refine TL_q (.int .u32 ((x).toNat : Int)) (fun _ _ hρ _ => r_move (hρ _ _ rfl)) rfl rfl rfl (w_n rfl) ?_
  refine TL_q (.int .u32 ((x / (16777216#32)).toNat : Int)) (fun _ _ hρ _ => r_quoB (k := .u32) (a := x) (b := (16777216#32)) rfl rfl (hρ _ _ rfl) (hρ _ _ rfl)) rfl rfl rfl (w_n rfl) ?_
  refine TL_q (.int .u8 (((x / (16777216#32)).setWidth 8).toNat : Int)) (fun _ _ hρ _ => r_convB (k := .u32) (k' := .u8) (a := (x / (16777216#32))) un46 io5 rfl (hρ _ _ rfl)) rfl rfl rfl (w_n rfl) ?_
  refine TL_new 1 (.cells #[.int .u8 (((x % (256#32)).setWidth 8).toNat : Int), .int .u8 ((((x / (256#32)) % (256#32)).setWidth 8).toNat : Int), .int .u8 ((((x / (65536#32)) % (256#32)).setWidth 8).toNat : Int), .int .u8 (((x / (16777216#32)).setWidth 8).toNat : Int)] 5) (fun B => .slice (some ⟨B, 0, none⟩) 4 4) (fun _ _ hρ _ => r_buildSlice (vs := [(0, .int .u8 (((x % (256#32)).setWidth 8).toNat : Int)), (1, .int .u8 ((((x / (256#32)) % (256#32)).setWidth 8).toNat : Int)), (2, .int .u8 ((((x / (65536#32)) % (256#32)).setWidth 8).toNat : Int)), (3, .int .u8 (((x / (16777216#32)).setWidth 8).toNat : Int))]) (by kernel_rfl) (cons2 (pair2 (hρ _ _ rfl)) (cons2 (pair2 (hρ _ _ rfl)) (cons2 (pair2 (hρ _ _ rfl)) (cons2 (pair2 (hρ _ _ rfl)) rfl))))) rfl rfl rfl (w_n rfl) ?_
  intro B1
  refine TL_q (.slice (some ⟨B1, 0, none⟩) 4 4) (fun _ _ hρ _ => r_assign (hρ _ _ rfl)) rfl rfl rfl (w_n rfl) ?_
  refine TL_seq ?_
  refine T_ret' ?_
  refine ret_of rfl (.slice (some ⟨B1, 0, none⟩) 4 4) (fun tmps w hk hm => res1 rfl (res_tmp (hk 2 _ rfl))) (fun w hm => ?_)
  refine ⟨B1, trivial, rfl, hm.ext, ?_⟩
  have := NewOk.mem hm
  rw [four0, four1, four2, four3] at this
  exact this

theorem newOk_at {w w' : World} {r : Res} {j : Nat} (i : Nat) (h : NewOk w w' [(j, r)]) : NewOk w w' [(i, r)] := by
  refine ⟨fun k q hk => ?_, fun k m q q' hk hm hne => ?_⟩
  · have : i = k ∧ r = q := by
      unfold lk at hk
      split at hk
      · rename_i e; exact ⟨Nat.eq_of_beq_eq_true e, Option.some.inj hk⟩
      · cases hk
    obtain ⟨rfl, rfl⟩ := this
    exact h.own j _ (lk_cons_same _ _ _)
  · have key : ∀ k q, lk [(i, r)] k = some q → i = k := fun k q hk => by
      unfold lk at hk
      split at hk
      · rename_i e; exact Nat.eq_of_beq_eq_true e
      · cases hk
    exact absurd ((key k q hk).symm.trans (key m q' hm)) hne

end Go.Proofs.Ytcidgbjgeegepaa
/- Rows of one's own: made, copied into, stored into. Over any program. -/
namespace Go.Proofs.Ytcidgbjgeegepaa
open Go Go.RowKit
section
variable {P : Program} {w : World}
theorem made_one {z v : Value} (hz : z.cells = #[v]) (c : Nat) : (madeCells z.cells c).toList = List.replicate c v := by
  apply List.ext_getElem?
  intro i
  unfold madeCells
  rw [hz]
  by_cases h : i < c
  · simp [h, List.getElem?_replicate, Nat.mod_one]
  · simp [h, List.getElem?_replicate]
theorem flat_rep {α : Type} {f : α → List Value} {u : α} {v : Value} (hf : f u = [v]) : ∀ n, (List.replicate n u).flatMap f = List.replicate n v
  | 0 => rfl
  | n + 1 => by rw [List.replicate_succ, List.flatMap_cons, hf, flat_rep hf n]; rfl
/-- A row of one cell an element, made. -/
theorem run_makeX {w₀ : World} {L : Heap} (hm : MemOk w₀ L w) {t e : TypeId} {n cap by' : Nat} {z v : Value} {α : Type} {f : α → List Value} {u : α} (i : Nat) (hfr : lk L i = none) (ht : sliOf P t = some e) (hby : byOf P e = some by') (hs : szOf P e = some 1) (hz : zeroOf P e = some z) (hzc : z.cells = #[v]) (hf : f u = [v])
    (hnc : n ≤ cap) (h63 : cap ≤ 4611686018427387904) (hb : by' * cap ≤ 140737488355328) :
    ∃ w' B, (Instr.makeSlice t (.int .i64 (n : Nat)) (.int .i64 (cap : Nat))).run P w = .ok (.slice (some ⟨B, 0, none⟩) n cap) w' ∧ MemOk w₀ ((i, .row (.slice (some ⟨B, 0, none⟩) n cap) e 1 n ((List.replicate n u).flatMap f)) :: L) w' := by
  obtain ⟨ti, hi, hsz⟩ := Option.map_eq_some_iff.1 hs
  obtain ⟨ti', hi', hbz⟩ := Option.map_eq_some_iff.1 hby
  rw [hi] at hi'; cases hi'
  have hzz : ti.zero = some z := by simpa [zeroOf, hi] using hz
  have hb' : (ti.bytes : Int) * (cap : Int) ≤ 281474976710656 := by
    have h : ((ti.bytes * cap : Nat) : Int) ≤ 281474976710656 := by rw [hbz]; omega
    rwa [Int.natCast_mul] at h
  have hr := run_make (P := P) w t e ti z (und_sli ht) hi hzz .i64 .i64 n cap (by omega) (by omega) hb' (by omega)
  simp only [Int.toNat_natCast] at hr
  refine ⟨_, w.heap.size, hr, ?_⟩
  refine hm.grow (n := 0) (xs := []) (.inr ⟨hfr, (rfl : (Value.slice none 0 0).ownBlock = none)⟩) (World.grownBy_alloc w _ none) ⟨?_, .inr ⟨w.heap.size, cap, _, rfl, hm.ext.size, Go.heap_alloc_new w _, hnc, by unfold Go.maxLen; omega, ?_, ?_⟩⟩ (.inr rfl)
  · rw [flat_rep hf, List.length_replicate, Nat.mul_one]
  · rw [hsz, Nat.mul_one]; simp [madeCells]
  · rw [flat_rep hf, hsz, Nat.mul_one, made_one hzc, Nat.mul_one, List.take_replicate, Nat.min_eq_left hnc]
/-- All of a row of one's own is copied over. -/
theorem run_copyX {w₀ : World} {L : Heap} (hm : MemOk w₀ L w) {t t2 ty e : TypeId} {n cap B : Nat} {v2 : Value} {xs news : List Value} (i : Nat) (hi : lk L i = some (.row (.slice (some ⟨B, 0, none⟩) n cap) e 1 n xs)) (ht : sliOf P t = some e) (hs : szOf P e = some 1) (hsrc : Src w v2 1 n news) (hone : ∀ u ∈ news, u.oneCell' = true) :
    ∃ w', (Builtin.copy_ #[t, t2] ty #[.slice (some ⟨B, 0, none⟩) n cap, v2]).run P w = .ok (.int .i64 (n : Nat)) w' ∧ MemOk w₀ ((i, .row (.slice (some ⟨B, 0, none⟩) n cap) e 1 n news) :: L) w' := by
  have hrow := hm.row i hi
  have same : n = 0 → news = [] → MemOk w₀ ((i, .row (.slice (some ⟨B, 0, none⟩) n cap) e 1 n news) :: L) w := by
    intro h0 hn
    have hx : xs = [] := List.eq_nil_of_length_eq_zero (by rw [hrow.1, h0])
    subst hn hx
    exact hm.of (lk_dup hi)
  rcases hsrc with ⟨rfl, h0, hn⟩ | ⟨x, c, rfl, h0, hn⟩ | ⟨b, off, c, rfl, hl, hcell⟩
  · refine ⟨w, ?_, same h0 hn⟩
    rw [run_copy_none w t t2 ty e _ _ _ _ _ _ (und_sli ht) hs rfl, h0]; rfl
  · refine ⟨w, ?_, same h0 hn⟩
    rw [run_copy_none w t t2 ty e _ _ _ _ _ _ (und_sli ht) hs (by simp), h0]; rfl
  · rcases hrow.2 with ⟨h1, _⟩ | ⟨g, cap', cur, h1, hbg, hg, hnc, hcm, hcs, htk⟩
    · cases h1
    · cases h1
      rw [Nat.mul_one] at hl hcs
      have hr := run_copy_row (P := P) w t t2 ty e B 0 n cap ⟨b, off, none⟩ n c cur e news (und_sli ht) hs hg (by rw [hl]; exact (Nat.min_self n).symm) (fun j u hu => by rw [addr_add]; exact hcell j u hu) (by omega) hone
      refine ⟨_, by rw [hr, hl]; rfl, ?_⟩
      refine hm.grow (.inl hi) ⟨rfl, rfl, rfl, by simp, fun k _ hk => setRow_other w B k _ (fun e => hk (by simp [Value.ownBlock, e]))⟩ ⟨by rw [hl, Nat.mul_one], .inr ⟨B, cap, _, rfl, hbg, setRow_heap w B cur _ e _ hg, hnc, hcm, ?_, ?_⟩⟩ (.inl rfl)
      · simp only [List.size_toArray, List.length_append, List.length_take, List.length_drop, Array.length_toList]
        omega
      · rw [List.take_zero, List.nil_append, Nat.mul_one, ← hl]
        exact List.take_left
end
section
variable {C : Cx} {ops : Array Oper} {os : List Oper} {Q : Post} {K : List (Nat × Value)} {L : Heap} {dd : Option Tmp} {ty : TypeId} {ps : String} {af : Array Edge} {g : Option (Nat × Bool)}
theorem TL_makeSlice {d : Nat} {x y : Operand} {t e : TypeId} {n cap by' : Nat} {z v : Value} {α : Type} {f : α → List Value} {u : α} (i : Nat) (hfr : lk L i = none) (hx : ev K x = some (.int .i64 (n : Nat))) (hy : ev K y = some (.int .i64 (cap : Nat))) (ht : sliOf C.P t = some e) (hby : byOf C.P e = some by') (hs : szOf C.P e = some 1)
    (hz : zeroOf C.P e = some z) (hzc : z.cells = #[v]) (hf : f u = [v]) (hnc : n ≤ cap) (h63 : cap ≤ 4611686018427387904) (hb : by' * cap ≤ 140737488355328) (hN : Nat.blt d C.N = true) (hw : Want ops K (mk (some d) (.makeSlice t x y) ty ps af g) true)
    (h : ∀ B, TL C ops os Q ((d, .slice (some ⟨B, 0, none⟩) n cap) :: K) ((i, .row (.slice (some ⟨B, 0, none⟩) n cap) e 1 n ((List.replicate n u).flatMap f)) :: L)) : TL C ops (mk (some d) (.makeSlice t x y) ty ps af g :: os) Q K L := by
  intro a w hfk hm
  unfold wpListIn
  rw [hw.is hfk, if_pos rfl]
  obtain ⟨w', B, hr, hm'⟩ := run_makeX (P := C.P) hm i hfr ht hby hs hz hzc hf hnc h63 hb
  refine step_val (v := .slice (some ⟨B, 0, none⟩) n cap) (w' := w') rfl (run_v ?_) (h B _ _ (hfk.put _ hN) hm')
  rw [hfk.rd _ _ hx, hfk.rd _ _ hy]; exact hr
theorem TL_copy {d : Nat} {x y : Operand} {t t2 e : TypeId} {ats : Array TypeId} {n cap B : Nat} {v2 : Value} {xs news : List Value} (i : Nat) (hi : lk L i = some (.row (.slice (some ⟨B, 0, none⟩) n cap) e 1 n xs)) (hx : ev K x = some (.slice (some ⟨B, 0, none⟩) n cap)) (hy : ev K y = some v2) (hat : ats = #[t, t2]) (ht : sliOf C.P t = some e) (hs : szOf C.P e = some 1)
    (hsrc : ∀ w, MemOk C.w₀ L w → Src w v2 1 n news) (hone : ∀ u ∈ news, u.oneCell' = true) (hN : Nat.blt d C.N = true) (hw : Want ops K (mk (some d) (.call { callee := .builtin .copy, args := #[x, y], argTypes := ats }) ty ps af g) true)
    (h : TL C ops os Q ((d, .int .i64 (n : Nat)) :: K) ((i, .row (.slice (some ⟨B, 0, none⟩) n cap) e 1 n news) :: L)) : TL C ops (mk (some d) (.call { callee := .builtin .copy, args := #[x, y], argTypes := ats }) ty ps af g :: os) Q K L := by
  intro a w hf hm
  subst hat
  unfold wpListIn
  rw [hw.is hf, if_pos rfl]
  obtain ⟨w', hr, hm'⟩ := run_copyX (P := C.P) (t2 := t2) (ty := ty) hm i hi ht hs (hsrc w hm) hone
  refine step_val (v := .int .i64 (n : Nat)) (w' := w') rfl ?_ (h _ _ (hf.put _ hN) hm')
  rw [run_builtin]
  simp only [List.map_toArray, List.map_cons, List.map_nil, hf.rd _ _ hx, hf.rd _ _ hy]
  exact run_v hr
end
section
variable {C : Cx} {R : Rg} {Q : Post} {K0 V : List (Nat × Value)} {lo : Nat} {L : Heap} {ty : TypeId} {ps : String} {af : Array Edge} {g : Option (Nat × Bool)}
end
end Go.Proofs.Ytcidgbjgeegepaa
/- crc: slices of bytes, Table, Seal. Printed by a program of this seat's prover. -/
namespace Go.Proofs.Ytcidgbjgeegepaa
open Go Go.RowKit
set_option maxRecDepth 10000
theorem byc_one : ∀ x, ∀ u ∈ byc x, u.oneCell' = true := fun x u hu => by rw [List.mem_singleton.1 hu]; rfl
theorem row_cap {w : World} {base n s cap : Nat} {e : TypeId} {a : Option Addr} {xs : List Value} (h : w.ownsRow base e s (.slice a n cap) n xs) : cap ≤ Go.maxLen := by
  rcases h.2 with ⟨h1, _⟩ | ⟨g, cap', cur, h1, _, _, _, h5, _⟩
  · cases h1; decide
  · cases h1; exact h5

theorem clone_b {α : Type} (f : α → List Value) (hf : ∀ x, (f x).length = 1) (ho : ∀ x, ∀ u ∈ f x, u.oneCell' = true) (l : List α) (a : Option Addr) (cap : Nat) (w : World) (hv : SliceAt w a cap 1 f l) (hlen : l.length * 1 ≤ 140737488355328) :
    Calls Try.prog 37 #[.slice a l.length cap] w fun e w' => ∃ a' cap', e = .returned (.slice a' l.length cap') ∧ Below w.heap.size w w' ∧ w'.ownsRow w.heap.size 5 1 (.slice a' l.length cap') l.length (l.flatMap f) := by
  refine calls_of_T (l := [.slice a l.length cap]) 8 Try.func37 rfl rfl rfl ?_
  show T _ _ _ [(0, .slice a l.length cap)] []
  refine T_seq (T_region ?_)
  refine TL_q (.slice none 0 0) (fun _ _ hρ _ => r_assign (hρ _ _ rfl)) rfl rfl rfl (w_n rfl) ?_
  refine TL_seq ?_
  refine T_seq ?_
  refine T_seq (T_region ?_)
  refine TL_q (.slice a l.length cap) (fun _ _ hρ _ => r_move (hρ _ _ rfl)) rfl rfl rfl (w_n rfl) ?_
  refine TL_q (.bool a.isNone) (fun _ _ hρ _ => r_eqlSn sl34 (hρ _ _ rfl) (hρ _ _ rfl)) rfl rfl rfl (w_n rfl) ?_
  refine TL_seq ?_
  refine T_cond rfl (fun h1 => ?_) (fun h1 => ?_)
  · skip
    refine T_seq (T_region ?_)
    refine TL_q (.slice none 0 0) (fun _ _ hρ _ => r_assign (hρ _ _ rfl)) rfl rfl rfl (w_n rfl) ?_
    refine TL_seq ?_
    refine T_ret' ?_
    refine p_then_r ?_
    refine ret_of rfl (.slice none 0 0) (fun tmps w hk hm => res1 rfl (res_tmp (hk 2 _ rfl))) (fun w hm => ?_)
    have e0 : a = none := Option.isNone_iff_eq_none.1 h1
    subst e0
    have e1 : l = [] := by have := hv.2.1 rfl; have := hv.1; exact List.eq_nil_of_length_eq_zero (by omega)
    subst e1
    exact ⟨none, 0, rfl, hm.ext, World.ownsRow_nil _ _ _ _⟩
  · skip
    refine T_skip' ?_
    refine p_seq ?_
    refine T_seq (T_region ?_)
    refine TL_new 1 (.cells #[] 5) (fun B => .slice (some ⟨B, 0, none⟩) 0 0) (fun _ _ _ _ => r_buildSlice (vs := []) (by kernel_rfl) rfl) rfl rfl rfl (w_n rfl) ?_
    intro B1
    refine TL_q (.slice a l.length cap) (fun _ _ hρ _ => r_move (hρ _ _ rfl)) rfl rfl rfl (w_n rfl) ?_
    refine TL_mem ([(1, .row (.slice (some ⟨B1, 0, none⟩) 0 0) 5 1 0 [])]) (fun _ hm => MemOk.sub (hm.toRow (n := 0) (cap := 0) (s := 1) 1 rfl rfl (by omega) rfl _ rfl) (sub_cons rfl sub_nil)) ?_
    refine TL_append (n := 0) (m := l.length) (xs := []) (news := (l.flatMap f)) (z := .int .u8 0) 1 rfl rfl rfl sl34 sz5 by5 (by kernel_rfl) rfl rfl (.inl rfl) (fun _ hm => by have := src_of hf (hv.keep hm.ext); simpa using this) (by intro u hu; obtain ⟨x, _, hx⟩ := List.mem_flatMap.1 hu; exact ho x u hx) (by omega) (by omega) rfl (w_n rfl) ?_
    intro a2 cap2
    refine TL_q (.slice a2 (0 + l.length) cap2) (fun _ _ hρ _ => r_assign (hρ _ _ rfl)) rfl rfl rfl (w_n rfl) ?_
    refine TL_seq ?_
    refine T_ret' ?_
    refine ret_of rfl (.slice a2 (0 + l.length) cap2) (fun tmps w hk hm => res1 rfl (res_tmp (hk 2 _ rfl))) (fun w hm => ?_)
    have hrow := hm.row 1 rfl
    simp only [Nat.zero_add, List.nil_append] at hrow ⊢
    exact ⟨a2, cap2, rfl, hm.ext, hrow⟩

theorem equal_b (l m : List By) (a b : Option Addr) (ca cb : Nat) (w : World) (hv : SliceAt w a ca 1 byc l) (hu : SliceAt w b cb 1 byc m) (hl : l.length ≤ 4611686018427387904) (hl' : m.length ≤ 4611686018427387904) :
    Calls Try.prog 16 #[.slice a l.length ca, .slice b m.length cb] w fun e w' => e = .returned (.bool (decide (l = m))) ∧ Below w.heap.size w w' := by
  refine calls_of_T (l := [.slice a l.length ca, .slice b m.length cb]) 26 Try.func16 rfl rfl rfl ?_
  show T _ _ _ [(0, .slice a l.length ca), (1, .slice b m.length cb)] []
  refine T_seq (T_region ?_)
  refine TL_q (.bool false) (fun _ _ hρ _ => r_assign (hρ _ _ rfl)) rfl rfl rfl (w_n rfl) ?_
  refine TL_seq ?_
  refine T_seq ?_
  by_cases hlm : ((l.length : Nat) : Int) = ((m.length : Nat) : Int)
  · skip
    refine T_seq (T_region ?_)
    refine TL_q (.slice a l.length ca) (fun _ _ hρ _ => r_move (hρ _ _ rfl)) rfl rfl rfl (w_n rfl) ?_
    refine TL_q (.int .i64 ((l.length : Nat) : Int)) (fun _ _ hρ _ => r_len sl34 (hρ _ _ rfl)) rfl rfl rfl (w_n rfl) ?_
    refine TL_q (.slice b m.length cb) (fun _ _ hρ _ => r_move (hρ _ _ rfl)) rfl rfl rfl (w_n rfl) ?_
    refine TL_q (.int .i64 ((m.length : Nat) : Int)) (fun _ _ hρ _ => r_len sl34 (hρ _ _ rfl)) rfl rfl rfl (w_n rfl) ?_
    refine TL_q (.bool false) (fun _ _ hρ _ => r_as (r_neq (hρ _ _ rfl) (hρ _ _ rfl)) (bool_as (by rw [decide_eq_true hlm]; rfl))) rfl rfl rfl (w_n rfl) ?_
    refine TL_seq ?_
    refine T_cond_f rfl ?_
    refine T_skip' ?_
    refine p_seq ?_
    refine T_seq ?_
    refine T_seq (T_region ?_)
    refine TL_q (.slice a l.length ca) (fun _ _ hρ _ => r_move (hρ _ _ rfl)) rfl rfl rfl (w_n rfl) ?_
    refine TL_q (.int .i64 ((l.length : Nat) : Int)) (fun _ _ hρ _ => r_len sl34 (hρ _ _ rfl)) rfl rfl rfl (w_n rfl) ?_
    refine TL_q (.int .i64 0) (fun _ _ hρ _ => r_move (hρ _ _ rfl)) rfl rfl rfl (w_n rfl) ?_
    refine TL_seq ?_
    refine T_block ?_
    refine T_loop (ι := Nat) (fun (k : Nat) => k ≤ l.length ∧ l.take k = m.take k) (fun (k : Nat) => [(0, .slice a l.length ca), (1, .slice b m.length cb), (12, .int .i64 ((l.length : Nat) : Int)), (13, .int .i64 ((k : Nat) : Int))]) (fun (k : Nat) => []) (fun (k : Nat) => l.length - k) 0 ⟨Nat.zero_le _, by simp⟩ (sub_cons rfl (sub_cons rfl (sub_cons rfl (sub_cons rfl sub_nil)))) sub_nil ?_
    rintro k hp
    obtain ⟨hk1, hk2⟩ := hp
    show T _ _ _ [(0, .slice a l.length ca), (1, .slice b m.length cb), (12, .int .i64 ((l.length : Nat) : Int)), (13, .int .i64 ((k : Nat) : Int))] []
    refine T_seq (T_region ?_)
    refine TL_q (.bool (decide (((k : Nat) : Int) < ((l.length : Nat) : Int)))) (fun _ _ hρ _ => r_lss (hρ _ _ rfl) (hρ _ _ rfl)) rfl rfl rfl (w_n rfl) ?_
    refine TL_seq ?_
    refine T_seq ?_
    refine T_cond rfl (fun h1 => ?_) (fun h1 => ?_)
    · replace h1 := of_decide_eq_true h1
      refine T_skip' ?_
      refine p_seq ?_
      refine T_seq ?_
      refine T_block ?_
      obtain ⟨x, hx⟩ : ∃ x, l[k]? = some x := ⟨_, List.getElem?_eq_getElem (by omega)⟩
      obtain ⟨y, hy⟩ : ∃ y, m[k]? = some y := ⟨_, List.getElem?_eq_getElem (by omega)⟩
      obtain ⟨b1, of1, cs1, T1, fz1, ha1, hq1, hr1⟩ := hv.open (i := k) (by omega)
      subst ha1
      obtain ⟨b2, of2, cs2, T2, fz2, ha2, hq2, hr2⟩ := hu.open (i := k) (by omega)
      subst ha2
      refine T_seq (T_region ?_)
      refine TL_q (.int .i64 ((k : Nat) : Int)) (fun _ _ hρ _ => r_move (hρ _ _ rfl)) rfl rfl rfl (w_n rfl) ?_
      refine TL_q (.int .i64 ((k : Nat) : Int)) (fun _ _ hρ _ => r_assign (hρ _ _ rfl)) rfl rfl rfl (w_n rfl) ?_
      refine TL_seq ?_
      refine T_seq (T_draw (V := [(0, .slice (some ⟨b1, of1, none⟩) l.length ca), (1, .int .i64 ((k : Nat) : Int)), (2, .pointer (some ⟨b1, of1 + k * 1, none⟩)), (3, .int .u8 ((x).toNat : Int)), (4, .slice (some ⟨b2, of2, none⟩) m.length cb), (5, .int .i64 ((k : Nat) : Int)), (6, .pointer (some ⟨b2, of2 + k * 1, none⟩)), (7, .int .u8 ((y).toNat : Int)), (8, .bool (!decide (((x).toNat : Int) = ((y).toNat : Int))))]) [0, 0, 3, 7, 0, 0, 48, 112, 255] [[(0, none)], [(5, none)], [(16, some 0), (17, some 1)], [(18, some 2)], [(1, none)], [(5, none)], [(20, some 4), (21, some 5)], [(22, some 6)], [(19, some 3), (23, some 7)]] 0 mixed (by kernel_rfl) ?_)
      refine G_last [0, 1, 2, 3, 4, 5, 6, 7, 8] [(0, .slice (some ⟨b1, of1, none⟩) l.length ca), (1, .slice (some ⟨b2, of2, none⟩) m.length cb), (12, .int .i64 ((l.length : Nat) : Int)), (13, .int .i64 ((k : Nat) : Int)), (14, .bool (decide (((k : Nat) : Int) < ((l.length : Nat) : Int)))), (15, .int .i64 ((k : Nat) : Int)), (5, .int .i64 ((k : Nat) : Int)), (16, .slice (some ⟨b1, of1, none⟩) l.length ca), (17, .int .i64 ((k : Nat) : Int)), (18, .pointer (some ⟨b1, of1 + k * 1, none⟩)), (19, .int .u8 ((x).toNat : Int)), (20, .slice (some ⟨b2, of2, none⟩) m.length cb), (21, .int .i64 ((k : Nat) : Int)), (22, .pointer (some ⟨b2, of2 + k * 1, none⟩)), (23, .int .u8 ((y).toNat : Int)), (24, .bool (!decide (((x).toNat : Int) = ((y).toNat : Int))))] (by kernel_rfl) (allM (all_cons (q_run (.slice (some ⟨b1, of1, none⟩) l.length ca) rfl rfl (wv_n rfl) rfl (fun _ _ hρ _ => r_move (hρ _ _ rfl))) (all_cons (q_run (.int .i64 ((k : Nat) : Int)) rfl rfl (wv_n rfl) rfl (fun _ _ hρ _ => r_move (hρ _ _ rfl))) (all_cons (q_run (.pointer (some ⟨b1, of1 + k * 1, none⟩)) rfl rfl (wv_n rfl) rfl (fun _ _ hρ _ => r_indexAddrS (i := k) sl34 sz5 (hρ _ _ rfl) (hρ _ _ rfl) (by omega))) (all_cons (q_run (.int .u8 ((x).toNat : Int)) rfl rfl (wv_n rfl) rfl (fun _ _ hρ hm => r_loadRow1 (f := byc) (u := x) ag5 (hρ _ _ rfl) (hm.old hq1) hr1 hx rfl)) (all_cons (q_run (.slice (some ⟨b2, of2, none⟩) m.length cb) rfl rfl (wv_n rfl) rfl (fun _ _ hρ _ => r_move (hρ _ _ rfl))) (all_cons (q_run (.int .i64 ((k : Nat) : Int)) rfl rfl (wv_n rfl) rfl (fun _ _ hρ _ => r_move (hρ _ _ rfl))) (all_cons (q_run (.pointer (some ⟨b2, of2 + k * 1, none⟩)) rfl rfl (wv_n rfl) rfl (fun _ _ hρ _ => r_indexAddrS (i := k) sl34 sz5 (hρ _ _ rfl) (hρ _ _ rfl) (by omega))) (all_cons (q_run (.int .u8 ((y).toNat : Int)) rfl rfl (wv_n rfl) rfl (fun _ _ hρ hm => r_loadRow1 (f := byc) (u := y) ag5 (hρ _ _ rfl) (hm.old hq2) hr2 hy rfl)) (all_cons (q_run (.bool (!decide (((x).toNat : Int) = ((y).toNat : Int)))) rfl rfl (wv_n rfl) rfl (fun _ _ hρ _ => r_neq (hρ _ _ rfl) (hρ _ _ rfl))) all_nil)))))))))) (end_old rfl rfl (end_old rfl rfl (end_old rfl rfl (end_old rfl rfl (end_old rfl rfl (end_old rfl rfl (end_old rfl rfl (end_new 0 rfl rfl (end_new 1 rfl rfl (end_new 2 rfl rfl (end_new 3 rfl rfl (end_new 4 rfl rfl (end_new 5 rfl rfl (end_new 6 rfl rfl (end_new 7 rfl rfl (end_new 8 rfl rfl end_nil)))))))))))))))) ?_
      refine T_cond rfl (fun h2 => ?_) (fun h2 => ?_)
      · replace h2 := of_decide_eq_false (bnot_t h2)
        have hxy : ¬ x = y := by intro e; subst e; exact h2 rfl
        refine T_seq (T_region ?_)
        refine TL_q (.bool false) (fun _ _ hρ _ => r_assign (hρ _ _ rfl)) rfl rfl rfl (w_n rfl) ?_
        refine TL_seq ?_
        refine T_ret' ?_
        refine p_blk_r ?_
        refine p_then_r ?_
        refine p_then_r ?_
        refine p_blk_r ?_
        refine p_then_r ?_
        refine ret_of rfl (.bool false) (fun tmps w hk hm => res1 rfl (res_tmp (hk 4 _ rfl))) (fun w hm => ?_)
        exact ⟨congrArg Ending.returned (bool_as (decide_eq_false (fun e => hxy (by subst e; rw [hx] at hy; exact Option.some.inj hy))).symm), hm.ext⟩
      · replace h2 := of_decide_eq_true (bnot_f h2)
        refine T_skip' ?_
        refine p_blk_n ?_
        refine p_seq ?_
        have hxy : x = y := by exact BitVec.eq_of_toNat_eq (by omega)
        refine T_region ?_
        refine TL_q (.int .i64 (((k : Nat) : Int) + 1)) (fun _ _ hρ _ => r_as (r_add (hρ _ _ rfl) (hρ _ _ rfl)) (int_as (wrap64 (by omega) (by omega)))) rfl rfl rfl (w_n rfl) ?_
        refine TL_q (.int .i64 (((k : Nat) : Int) + 1)) (fun _ _ hρ _ => r_move (hρ _ _ rfl)) rfl rfl rfl (w_n rfl) ?_
        refine TL_nil ?_
        exact p_at (k + 1) ⟨⟨by omega, by rw [List.take_add_one, List.take_add_one, hx, hy, hk2, hxy]⟩, by omega⟩ (sub_cons rfl (sub_cons rfl (sub_cons rfl (sub_cons rfl sub_nil)))) sub_nil
    · replace h1 := of_decide_eq_false h1
      refine T_exit' ?_
      refine p_then_x ?_
      refine p_then_x ?_
      refine p_blk_x ?_
      refine p_seq ?_
      refine T_seq (T_region ?_)
      refine TL_q (.bool true) (fun _ _ hρ _ => r_assign (hρ _ _ rfl)) rfl rfl rfl (w_n rfl) ?_
      refine TL_seq ?_
      refine T_ret' ?_
      refine ret_of rfl (.bool true) (fun tmps w hk hm => res1 rfl (res_tmp (hk 4 _ rfl))) (fun w hm => ?_)
      exact ⟨congrArg Ending.returned (bool_as (decide_eq_true (by rw [← List.take_length (l := l), ← List.take_length (l := m), ← show k = l.length by omega, ← show k = m.length by omega]; exact hk2)).symm), hm.ext⟩
  · skip
    refine T_seq (T_region ?_)
    refine TL_q (.slice a l.length ca) (fun _ _ hρ _ => r_move (hρ _ _ rfl)) rfl rfl rfl (w_n rfl) ?_
    refine TL_q (.int .i64 ((l.length : Nat) : Int)) (fun _ _ hρ _ => r_len sl34 (hρ _ _ rfl)) rfl rfl rfl (w_n rfl) ?_
    refine TL_q (.slice b m.length cb) (fun _ _ hρ _ => r_move (hρ _ _ rfl)) rfl rfl rfl (w_n rfl) ?_
    refine TL_q (.int .i64 ((m.length : Nat) : Int)) (fun _ _ hρ _ => r_len sl34 (hρ _ _ rfl)) rfl rfl rfl (w_n rfl) ?_
    refine TL_q (.bool true) (fun _ _ hρ _ => r_as (r_neq (hρ _ _ rfl) (hρ _ _ rfl)) (bool_as (by rw [decide_eq_false hlm]; rfl))) rfl rfl rfl (w_n rfl) ?_
    refine TL_seq ?_
    refine T_cond_t rfl ?_
    refine T_seq (T_region ?_)
    refine TL_q (.bool false) (fun _ _ hρ _ => r_assign (hρ _ _ rfl)) rfl rfl rfl (w_n rfl) ?_
    refine TL_seq ?_
    refine T_ret' ?_
    refine p_then_r ?_
    refine ret_of rfl (.bool false) (fun tmps w hk hm => res1 rfl (res_tmp (hk 4 _ rfl))) (fun w hm => ?_)
    exact ⟨congrArg Ending.returned (bool_as (decide_eq_false (fun e => hlm (by rw [e]))).symm), hm.ext⟩

theorem take_min (l : List By) (k : Nat) : l.take (min l.length k) = l.take k := by
  by_cases h : l.length ≤ k
  · rw [Nat.min_eq_left h, List.take_length, List.take_of_length_le h]
  · rw [Nat.min_eq_right (by omega)]

theorem seal_c (l : List By) (a : Option Addr) (cap : Nat) (w : World) (hv : SliceAt w a cap 1 byc l) (hl : l.length ≤ 1000000) (hcap : cap ≤ Go.maxLen) : Calls Try.prog 55 #[.slice a l.length cap] w fun e w' => ∃ a' cap', e = .returned (.slice a' (sealP l).length cap') ∧ Below w.heap.size w w' ∧ w'.ownsRow w.heap.size 5 1 (.slice a' (sealP l).length cap') (sealP l).length ((sealP l).flatMap byc) := by
  refine calls_of_T (l := [.slice a l.length cap]) 21 Try.func55 rfl rfl rfl ?_
  show T _ _ _ [(0, .slice a l.length cap)] []
  refine T_seq (T_region ?_)
  refine TL_q (.slice none 0 0) (fun _ _ hρ _ => r_assign (hρ _ _ rfl)) rfl rfl rfl (w_n rfl) ?_
  refine TL_seq ?_
  refine T_seq (T_region ?_)
  refine TL_q (.slice a l.length cap) (fun _ _ hρ _ => r_move (hρ _ _ rfl)) rfl rfl rfl (w_n rfl) ?_
  refine TL_new 1 (.cells #[.slice a l.length cap] 34) (fun B => .slice (some ⟨B, 0, none⟩) 1 1) (fun _ _ hρ _ => r_buildSlice (vs := [(0, .slice a l.length cap)]) (by kernel_rfl) (cons2 (pair2 (hρ _ _ rfl)) rfl)) rfl rfl rfl (w_n rfl) ?_
  intro B1
  refine TL_call (.int .u32 ((sumC 0#32 l).toNat : Int)) (fun _ _ hρ _ => r_call (args := [.slice (some ⟨B1, 0, none⟩) 1 1]) (enters_of Try.func96 (by kernel_rfl) rfl) (hρ _ _ rfl) ((cons2 (hρ _ _ rfl) rfl)) rfl) (fun w hm => (sum_c [(⟨a, cap, l⟩ : RowV)] (some ⟨B1, 0, none⟩) 1 w ⟨by simp, (fun e => by cases e), .inr ⟨_, 0, _, _, _, rfl, (hm.at 1 rfl), row_of_take (fun _ => rfl) rfl⟩⟩ (List.forall_mem_cons.2 ⟨(hv.keep hm.ext), (fun _ h => nomatch h)⟩) (List.forall_mem_cons.2 ⟨hcap, (fun _ h => nomatch h)⟩) (by decide)).mono fun _ _ h => ⟨h.1.trans (congrArg (fun x : List By => Ending.returned (.int .u32 ((sumC 0#32 x).toNat : Int))) (by simp only [List.flatMap_cons, List.flatMap_nil, List.append_nil])), h.2⟩) rfl rfl rfl (w_n rfl) ?_
  refine TL_call (.agg #[.int .u8 ((((sumC 0#32 l)).setWidth 8).toNat : Int), .int .u8 ((((sumC 0#32 l) >>> 8).setWidth 8).toNat : Int), .int .u8 ((((sumC 0#32 l) >>> 16).setWidth 8).toNat : Int), .int .u8 ((((sumC 0#32 l) >>> 24).setWidth 8).toNat : Int)]) (fun _ _ hρ _ => r_call (args := [.int .u32 ((sumC 0#32 l).toNat : Int)]) (enters_of Try.func95 (by kernel_rfl) rfl) (hρ _ _ rfl) ((cons2 (hρ _ _ rfl) rfl)) rfl) (fun w _ => four_c (sumC 0#32 l) w) rfl rfl rfl (w_n rfl) ?_
  refine TL_new 2 (.cells #[.int .u8 0, .int .u8 0, .int .u8 0, .int .u8 0] 130) (fun B => .pointer (some ⟨B, 0, none⟩)) (fun _ _ _ _ => r_alloc (v := .agg #[.int .u8 0, .int .u8 0, .int .u8 0, .int .u8 0]) (by kernel_rfl) rfl) rfl rfl rfl (w_n rfl) ?_
  intro B2
  refine TL_store 2 (.cells #[.int .u8 ((((sumC 0#32 l)).setWidth 8).toNat : Int), .int .u8 ((((sumC 0#32 l) >>> 8).setWidth 8).toNat : Int), .int .u8 ((((sumC 0#32 l) >>> 16).setWidth 8).toNat : Int), .int .u8 ((((sumC 0#32 l) >>> 24).setWidth 8).toNat : Int)] 130) rfl (fun _ _ hρ hm => r_store sz130 (hρ _ _ rfl) (hρ _ _ rfl) (hm.at 2 rfl) rfl rfl rfl rfl) rfl rfl (w_n rfl) ?_
  refine TL_seq ?_
  refine T_seq (T_region ?_)
  refine TL_q (.slice a l.length cap) (fun _ _ hρ _ => r_move (hρ _ _ rfl)) rfl rfl rfl (w_n rfl) ?_
  refine TL_q (.int .i64 ((l.length : Nat) : Int)) (fun _ _ hρ _ => r_len sl34 (hρ _ _ rfl)) rfl rfl rfl (w_n rfl) ?_
  refine TL_q (.slice a l.length cap) (fun _ _ hρ _ => r_move (hρ _ _ rfl)) rfl rfl rfl (w_n rfl) ?_
  refine TL_q (.int .i64 ((l.length : Nat) : Int)) (fun _ _ hρ _ => r_len sl34 (hρ _ _ rfl)) rfl rfl rfl (w_n rfl) ?_
  refine TL_q (.int .i64 ((l.length + 4 : Nat) : Int)) (fun _ _ hρ _ => r_as (r_add (hρ _ _ rfl) (hρ _ _ rfl)) (int_as ((wrap64 (by omega) (by omega)).trans (by omega)))) rfl rfl rfl (w_n rfl) ?_
  refine TL_makeSlice (n := l.length) (cap := l.length + 4) (z := .int .u8 0) (f := byc) (u := 0#8) 3 rfl rfl rfl sl34 by5 sz5 (by kernel_rfl) rfl rfl (by omega) (by omega) (by omega) rfl (w_n rfl) ?_
  intro B3
  refine TL_q (.slice (some ⟨B3, 0, none⟩) l.length (l.length + 4)) (fun _ _ hρ _ => r_assign (hρ _ _ rfl)) rfl rfl rfl (w_n rfl) ?_
  refine TL_seq ?_
  refine T_seq (T_region ?_)
  refine TL_q (.slice (some ⟨B3, 0, none⟩) l.length (l.length + 4)) (fun _ _ hρ _ => r_move (hρ _ _ rfl)) rfl rfl rfl (w_n rfl) ?_
  refine TL_q (.slice a l.length cap) (fun _ _ hρ _ => r_move (hρ _ _ rfl)) rfl rfl rfl (w_n rfl) ?_
  refine TL_copy (news := (l.flatMap byc)) 3 rfl rfl rfl rfl sl34 sz5 (fun _ hm => by have := src_of byc_len (hv.keep hm.ext); simpa using this) (by intro u hu; obtain ⟨x, _, hx⟩ := List.mem_flatMap.1 hu; exact byc_one x u hx) rfl (w_n rfl) ?_
  refine TL_seq ?_
  refine T_seq (T_region ?_)
  refine TL_q (.slice (some ⟨B3, 0, none⟩) l.length (l.length + 4)) (fun _ _ hρ _ => r_move (hρ _ _ rfl)) rfl rfl rfl (w_n rfl) ?_
  refine TL_q (.slice (some ⟨B2, 0, none⟩) 4 4) (fun _ _ hρ _ => r_sliceA ar130 sz5 (by decide) (hρ _ _ rfl)) rfl rfl rfl (w_n rfl) ?_
  refine TL_append (n := l.length) (m := 4) (xs := (l.flatMap byc)) (news := [.int .u8 ((((sumC 0#32 l)).setWidth 8).toNat : Int), .int .u8 ((((sumC 0#32 l) >>> 8).setWidth 8).toNat : Int), .int .u8 ((((sumC 0#32 l) >>> 16).setWidth 8).toNat : Int), .int .u8 ((((sumC 0#32 l) >>> 24).setWidth 8).toNat : Int)]) (z := .int .u8 0) 3 rfl rfl rfl sl34 sz5 by5 (by kernel_rfl) rfl rfl (.inl rfl) (fun _ hm => src_blk (news := [.int .u8 ((((sumC 0#32 l)).setWidth 8).toNat : Int), .int .u8 ((((sumC 0#32 l) >>> 8).setWidth 8).toNat : Int), .int .u8 ((((sumC 0#32 l) >>> 16).setWidth 8).toNat : Int), .int .u8 ((((sumC 0#32 l) >>> 24).setWidth 8).toNat : Int)]) (hm.at 2 rfl) rfl) (by simp [Value.oneCell']) (by omega) (by omega) rfl (w_n rfl) ?_
  intro a4 cap4
  refine TL_q (.slice a4 (l.length + 4) cap4) (fun _ _ hρ _ => r_assign (hρ _ _ rfl)) rfl rfl rfl (w_n rfl) ?_
  refine TL_seq ?_
  refine T_ret' ?_
  refine ret_of rfl (.slice a4 (l.length + 4) cap4) (fun tmps w hk hm => res1 rfl (res_tmp (hk 2 _ rfl))) (fun w hm => ?_)
  have hrow := hm.row 3 rfl
  exact ⟨a4, cap4, congrArg (fun n => Ending.returned (Value.slice _ n _)) (by unfold sealP; rw [List.length_append]; rfl), hm.ext, by rw [show (sealP l).length = l.length + 4 from List.length_append, show (sealP l).flatMap byc = _ from List.flatMap_append]; exact hrow⟩
end Go.Proofs.Ytcidgbjgeegepaa
/- crc: Open, Spoil. Printed by a program of this seat's prover. -/
namespace Go.Proofs.Ytcidgbjgeegepaa
open Go Go.RowKit
set_option maxRecDepth 10000
def openL (l : List By) : List By := (openP l).getD []
def openE (l : List By) : Int := match openP l with
  | some _ => 0
  | none => 120
def openB (l : List By) : Bool := (openP l).isSome
theorem open_t {l p q r : List By} (h4 : 4 ≤ l.length) (hp : p = l.take (l.length - 4)) (hq : q = l.take (l.length - 4)) (hr : r = (l.drop (l.length - 4)).take (l.length - (l.length - 4))) (h : r = four (sumC 0#32 q)) : openP l = some p := by
  subst hp hq
  unfold openP
  rw [List.take_of_length_le (by rw [List.length_drop]; exact Nat.le_refl _)] at hr
  subst hr
  exact if_pos ⟨h4, h⟩
theorem open_f {l q r : List By} (hq : q = l.take (l.length - 4)) (hr : r = (l.drop (l.length - 4)).take (l.length - (l.length - 4))) (h : ¬ r = four (sumC 0#32 q)) : openP l = none := by
  subst hq
  unfold openP
  rw [List.take_of_length_le (by rw [List.length_drop]; exact Nat.le_refl _)] at hr
  subst hr
  exact if_neg fun e => h e.2
theorem open_s {l : List By} (h4 : ¬ 4 ≤ l.length) : openP l = none := if_neg fun e => h4 e.1
def isS (l : List By) (n : Nat) (mask : Wd) (k : Nat) : Bool := mask.getLsbD k && decide (n + k < 8 * l.length)
theorem open_c (l : List By) (a : Option Addr) (cap : Nat) (w : World) (hv : SliceAt w a cap 1 byc l) (hl : l.length ≤ 1000000) (hcap : cap ≤ Go.maxLen) : Calls Try.prog 56 #[.slice a l.length cap] w fun e w' => ∃ a' cap', e = .returned (.tuple #[.slice a' (openL l).length cap', .int .i64 (openE l)]) ∧ Below w.heap.size w w' ∧ w'.ownsRow w.heap.size 5 1 (.slice a' (openL l).length cap') (openL l).length ((openL l).flatMap byc) := by
  have hvl := hv.1
  refine calls_of_T (l := [.slice a l.length cap]) 31 Try.func56 rfl rfl rfl ?_
  show T _ _ _ [(0, .slice a l.length cap)] []
  refine T_seq (T_region ?_)
  refine TL_q (.slice none 0 0) (fun _ _ hρ _ => r_assign (hρ _ _ rfl)) rfl rfl rfl (w_n rfl) ?_
  refine TL_q (.int .i64 0) (fun _ _ hρ _ => r_assign (hρ _ _ rfl)) rfl rfl rfl (w_n rfl) ?_
  refine TL_seq ?_
  by_cases h4 : 4 ≤ l.length
  · skip
    refine T_seq (T_region ?_)
    refine TL_q (.slice a l.length cap) (fun _ _ hρ _ => r_move (hρ _ _ rfl)) rfl rfl rfl (w_n rfl) ?_
    refine TL_q (.int .i64 ((l.length : Nat) : Int)) (fun _ _ hρ _ => r_len sl34 (hρ _ _ rfl)) rfl rfl rfl (w_n rfl) ?_
    refine TL_q (.int .i64 ((l.length - 4 : Nat) : Int)) (fun _ _ hρ _ => r_as (r_sub (hρ _ _ rfl) (hρ _ _ rfl)) (int_as ((wrap64 (by omega) (by omega)).trans (by omega)))) rfl rfl rfl (w_n rfl) ?_
    refine TL_q (.int .i64 ((l.length - 4 : Nat) : Int)) (fun _ _ hρ _ => r_assign (hρ _ _ rfl)) rfl rfl rfl (w_n rfl) ?_
    refine TL_seq ?_
    refine T_seq ?_
    have hng : ¬ (((l.length - 4 : Nat) : Int) < 0) := by omega
    refine T_seq (T_region ?_)
    refine TL_q (.int .i64 ((l.length - 4 : Nat) : Int)) (fun _ _ hρ _ => r_move (hρ _ _ rfl)) rfl rfl rfl (w_n rfl) ?_
    refine TL_q (.bool false) (fun _ _ hρ _ => r_as (r_lss (hρ _ _ rfl) (hρ _ _ rfl)) (bool_as (decide_eq_false hng))) rfl rfl rfl (w_n rfl) ?_
    refine TL_seq ?_
    refine T_cond_f rfl ?_
    refine T_skip' ?_
    refine p_seq ?_
    obtain ⟨l1, hl1, hn1⟩ : ∃ lz, lz = l.take (l.length - 4) ∧ lz.length = l.length - 4 := ⟨_, rfl, by rw [List.length_take]; omega⟩
    have hs1 := SliceAt.front hv (n := l.length - 4) (m := l.length - 4) (by omega) (by omega) (by omega)
    rw [← hl1] at hs1
    obtain ⟨l2, hl2, hn2⟩ : ∃ lz, lz = l.take (l.length - 4) ∧ lz.length = l.length - 4 := ⟨_, rfl, by rw [List.length_take]; omega⟩
    have hs2 := SliceAt.front hv (n := l.length - 4) (m := cap) (by omega) (by omega) (by omega)
    rw [← hl2] at hs2
    refine T_join (ι := Nat × Nat) (fun _ => True) (fun (z : Nat × Nat) => match z with | (Bx7, Bx10) => [(0, .slice a l.length cap), (2, .slice none 0 0), (3, .int .i64 0), (4, .int .i64 ((l.length - 4 : Nat) : Int)), (6, .pointer (some ⟨Bx10, 0, none⟩)), (5, .slice a l1.length (l.length - 4))]) (fun (z : Nat × Nat) => match z with | (Bx7, Bx10) => [(1, .blk Bx7 (.cells #[.slice a l2.length cap] 34)), (2, .blk Bx10 (.cells #[.int .u8 ((((sumC 0#32 l2)).setWidth 8).toNat : Int), .int .u8 ((((sumC 0#32 l2) >>> 8).setWidth 8).toNat : Int), .int .u8 ((((sumC 0#32 l2) >>> 16).setWidth 8).toNat : Int), .int .u8 ((((sumC 0#32 l2) >>> 24).setWidth 8).toNat : Int)] 130))]) (T_draw (V := [(0, .slice a l.length cap), (1, .int .i64 ((l.length - 4 : Nat) : Int)), (2, .int .i64 ((l.length - 4 : Nat) : Int)), (3, .slice a l1.length (l.length - 4)), (4, .slice a l.length cap), (5, .int .i64 ((l.length - 4 : Nat) : Int)), (6, .slice a l2.length cap)]) [0, 0, 0, 7, 0, 0, 48, 112, 240, 496, 0, 2047, 4095] [[(0, none)], [(4, none)], [(4, none)], [(12, some 0), (13, some 1), (14, some 2)], [(0, none)], [(4, none)], [(16, some 4), (17, some 5)], [(18, some 6)], [(19, some 7)], [(20, some 8)], [], [(15, some 3)], [(6, some 10), (21, some 9)]] 6016 mixed (by kernel_rfl) ?_) (fun z _ => ?_)
    · skip
      refine G_step [0, 1, 2, 3, 4, 5, 6] 7 [10] (by kernel_rfl) (allM (all_cons (q_run (.slice a l.length cap) rfl rfl (wv_n rfl) rfl (fun _ _ hρ _ => r_move (hρ _ _ rfl))) (all_cons (q_run (.int .i64 ((l.length - 4 : Nat) : Int)) rfl rfl (wv_n rfl) rfl (fun _ _ hρ _ => r_move (hρ _ _ rfl))) (all_cons (q_run (.int .i64 ((l.length - 4 : Nat) : Int)) rfl rfl (wv_n rfl) rfl (fun _ _ hρ _ => r_move (hρ _ _ rfl))) (all_cons (q_run (.slice a l1.length (l.length - 4)) rfl rfl (wv_n rfl) rfl (fun ρ _ hρ _ => r_as (r_sliceO sl34 sz5 (hρ _ _ rfl) (bd_some (n := l.length - 4) (hρ _ _ rfl)) (bd_some (n := l.length - 4) (hρ _ _ rfl)) (bd_none ρ _) (by simp) (by omega) (by omega) (by omega)) (by rw [hn1]; exact slo_zero _ _ _ _))) (all_cons (q_run (.slice a l.length cap) rfl rfl (wv_n rfl) rfl (fun _ _ hρ _ => r_move (hρ _ _ rfl))) (all_cons (q_run (.int .i64 ((l.length - 4 : Nat) : Int)) rfl rfl (wv_n rfl) rfl (fun _ _ hρ _ => r_move (hρ _ _ rfl))) (all_cons (q_run (.slice a l2.length cap) rfl rfl (wv_n rfl) rfl (fun ρ _ hρ _ => r_as (r_sliceO sl34 sz5 (hρ _ _ rfl) (bd_none ρ _) (bd_some (n := l.length - 4) (hρ _ _ rfl)) (bd_none ρ _) (by simp) (by omega) (by omega) (by omega)) (by rw [hn2]; exact slo_zero _ _ _ _))) all_nil)))))))) (allM (all_cons ?_ (all_cons ?_ all_nil)))
      · skip
        refine LOb_new 1 (.cells #[.slice a l2.length cap] 34) (fun B => .slice (some ⟨B, 0, none⟩) 1 1) (fun B => []) rfl (wv_n rfl) rfl rfl (fun _ _ hρ _ => r_buildSlice (vs := [(0, .slice a l2.length cap)]) (by kernel_rfl) (cons2 (pair2 (hρ _ _ rfl)) rfl)) (fun B => by kernel_rfl) ?_
        intro B3
        refine G_step [0, 1, 2, 3] 8 [10] (by kernel_rfl) (allM (all_cons (q_run (.slice a l.length cap) rfl rfl (wv_n rfl) rfl (fun _ _ hρ _ => r_move (hρ _ _ rfl))) (all_cons (q_run (.int .i64 ((l.length - 4 : Nat) : Int)) rfl rfl (wv_n rfl) rfl (fun _ _ hρ _ => r_move (hρ _ _ rfl))) (all_cons (q_run (.int .i64 ((l.length - 4 : Nat) : Int)) rfl rfl (wv_n rfl) rfl (fun _ _ hρ _ => r_move (hρ _ _ rfl))) (all_cons (q_run (.slice a l1.length (l.length - 4)) rfl rfl (wv_n rfl) rfl (fun ρ _ hρ _ => r_as (r_sliceO sl34 sz5 (hρ _ _ rfl) (bd_some (n := l.length - 4) (hρ _ _ rfl)) (bd_some (n := l.length - 4) (hρ _ _ rfl)) (bd_none ρ _) (by simp) (by omega) (by omega) (by omega)) (by rw [hn1]; exact slo_zero _ _ _ _))) all_nil))))) (allM (all_cons ?_ (all_cons ?_ all_nil)))
        · skip
          refine LOb_call (.int .u32 ((sumC 0#32 l2).toNat : Int)) [] rfl (wv_n rfl) rfl rfl (fun _ _ hρ _ => r_call (args := [.slice (some ⟨B3, 0, none⟩) 1 1]) (enters_of Try.func96 (by kernel_rfl) rfl) (hρ _ _ rfl) ((cons2 (hρ _ _ rfl) rfl)) rfl) (fun w hm => (sum_c [(⟨a, cap, l2⟩ : RowV)] (some ⟨B3, 0, none⟩) 1 w ⟨by simp, (fun e => by cases e), .inr ⟨_, 0, _, _, _, rfl, (hm.at 1 rfl), row_of_take (fun _ => rfl) rfl⟩⟩ (List.forall_mem_cons.2 ⟨(hs2.keep hm.ext), (fun _ h => nomatch h)⟩) (List.forall_mem_cons.2 ⟨(by omega), (fun _ h => nomatch h)⟩) (by decide)).mono fun _ _ h => ⟨h.1.trans (congrArg (fun x : List By => Ending.returned (.int .u32 ((sumC 0#32 x).toNat : Int))) (by simp only [List.flatMap_cons, List.flatMap_nil, List.append_nil])), h.2⟩) (by kernel_rfl) ?_
          refine G_step [0, 1, 2, 3] 9 [10] (by kernel_rfl) (allM (all_cons (q_run (.slice a l.length cap) rfl rfl (wv_n rfl) rfl (fun _ _ hρ _ => r_move (hρ _ _ rfl))) (all_cons (q_run (.int .i64 ((l.length - 4 : Nat) : Int)) rfl rfl (wv_n rfl) rfl (fun _ _ hρ _ => r_move (hρ _ _ rfl))) (all_cons (q_run (.int .i64 ((l.length - 4 : Nat) : Int)) rfl rfl (wv_n rfl) rfl (fun _ _ hρ _ => r_move (hρ _ _ rfl))) (all_cons (q_run (.slice a l1.length (l.length - 4)) rfl rfl (wv_n rfl) rfl (fun ρ _ hρ _ => r_as (r_sliceO sl34 sz5 (hρ _ _ rfl) (bd_some (n := l.length - 4) (hρ _ _ rfl)) (bd_some (n := l.length - 4) (hρ _ _ rfl)) (bd_none ρ _) (by simp) (by omega) (by omega) (by omega)) (by rw [hn1]; exact slo_zero _ _ _ _))) all_nil))))) (allM (all_cons ?_ (all_cons ?_ all_nil)))
          · skip
            refine LOb_call (.agg #[.int .u8 ((((sumC 0#32 l2)).setWidth 8).toNat : Int), .int .u8 ((((sumC 0#32 l2) >>> 8).setWidth 8).toNat : Int), .int .u8 ((((sumC 0#32 l2) >>> 16).setWidth 8).toNat : Int), .int .u8 ((((sumC 0#32 l2) >>> 24).setWidth 8).toNat : Int)]) [] rfl (wv_n rfl) rfl rfl (fun _ _ hρ _ => r_call (args := [.int .u32 ((sumC 0#32 l2).toNat : Int)]) (enters_of Try.func95 (by kernel_rfl) rfl) (hρ _ _ rfl) ((cons2 (hρ _ _ rfl) rfl)) rfl) (fun w _ => four_c (sumC 0#32 l2) w) (by kernel_rfl) ?_
            refine G_step [0, 1, 2, 3] 10 [] (by kernel_rfl) (allM (all_cons (q_run (.slice a l.length cap) rfl rfl (wv_n rfl) rfl (fun _ _ hρ _ => r_move (hρ _ _ rfl))) (all_cons (q_run (.int .i64 ((l.length - 4 : Nat) : Int)) rfl rfl (wv_n rfl) rfl (fun _ _ hρ _ => r_move (hρ _ _ rfl))) (all_cons (q_run (.int .i64 ((l.length - 4 : Nat) : Int)) rfl rfl (wv_n rfl) rfl (fun _ _ hρ _ => r_move (hρ _ _ rfl))) (all_cons (q_run (.slice a l1.length (l.length - 4)) rfl rfl (wv_n rfl) rfl (fun ρ _ hρ _ => r_as (r_sliceO sl34 sz5 (hρ _ _ rfl) (bd_some (n := l.length - 4) (hρ _ _ rfl)) (bd_some (n := l.length - 4) (hρ _ _ rfl)) (bd_none ρ _) (by simp) (by omega) (by omega) (by omega)) (by rw [hn1]; exact slo_zero _ _ _ _))) all_nil))))) (allM (all_cons ?_ all_nil))
            refine LOb_new 2 (.cells #[.int .u8 0, .int .u8 0, .int .u8 0, .int .u8 0] 130) (fun B => .pointer (some ⟨B, 0, none⟩)) (fun B => [(11, .slice a l1.length (l.length - 4))]) rfl (wv_n rfl) rfl rfl (fun _ _ _ _ => r_alloc (v := .agg #[.int .u8 0, .int .u8 0, .int .u8 0, .int .u8 0]) (by kernel_rfl) rfl) (fun B => by kernel_rfl) ?_
            intro B4
            refine G_step [0, 1, 2, 3, 11] 12 [] (by kernel_rfl) (allM (all_cons (q_run (.slice a l.length cap) rfl rfl (wv_n rfl) rfl (fun _ _ hρ _ => r_move (hρ _ _ rfl))) (all_cons (q_run (.int .i64 ((l.length - 4 : Nat) : Int)) rfl rfl (wv_n rfl) rfl (fun _ _ hρ _ => r_move (hρ _ _ rfl))) (all_cons (q_run (.int .i64 ((l.length - 4 : Nat) : Int)) rfl rfl (wv_n rfl) rfl (fun _ _ hρ _ => r_move (hρ _ _ rfl))) (all_cons (q_run (.slice a l1.length (l.length - 4)) rfl rfl (wv_n rfl) rfl (fun ρ _ hρ _ => r_as (r_sliceO sl34 sz5 (hρ _ _ rfl) (bd_some (n := l.length - 4) (hρ _ _ rfl)) (bd_some (n := l.length - 4) (hρ _ _ rfl)) (bd_none ρ _) (by simp) (by omega) (by omega) (by omega)) (by rw [hn1]; exact slo_zero _ _ _ _))) (all_cons (q_run (.slice a l1.length (l.length - 4)) rfl rfl (wv_n rfl) rfl (fun _ _ hρ _ => r_assign (hρ _ _ rfl))) all_nil)))))) (allM (all_cons ?_ all_nil))
            refine LOb_store 2 (.cells #[.int .u8 ((((sumC 0#32 l2)).setWidth 8).toNat : Int), .int .u8 ((((sumC 0#32 l2) >>> 8).setWidth 8).toNat : Int), .int .u8 ((((sumC 0#32 l2) >>> 16).setWidth 8).toNat : Int), .int .u8 ((((sumC 0#32 l2) >>> 24).setWidth 8).toNat : Int)] 130) [] rfl (wv_n rfl) rfl rfl rfl (fun _ _ hρ hm => r_store sz130 (hρ _ _ rfl) (hρ _ _ rfl) (hm.at 2 rfl) rfl rfl rfl rfl) (by kernel_rfl) ?_
            exact G_lastQ [] [(0, .slice a l.length cap), (2, .slice none 0 0), (3, .int .i64 0), (4, .int .i64 ((l.length - 4 : Nat) : Int)), (6, .pointer (some ⟨B4, 0, none⟩)), (5, .slice a l1.length (l.length - 4))] (by kernel_rfl) (allM all_nil) (end_old rfl rfl (end_old rfl rfl (end_old rfl rfl (end_old rfl rfl (end_new 10 rfl rfl (end_new 11 rfl rfl end_nil)))))) (fun a w hf hm => At_intro (B3, B4) trivial hf hm (sub_cons rfl (sub_cons rfl (sub_cons rfl (sub_cons rfl (sub_cons rfl (sub_cons rfl sub_nil)))))) (sub_cons rfl (sub_cons rfl sub_nil)))
          · skip
            refine LOb_new 2 (.cells #[.int .u8 0, .int .u8 0, .int .u8 0, .int .u8 0] 130) (fun B => .pointer (some ⟨B, 0, none⟩)) (fun B => []) rfl (wv_n rfl) rfl rfl (fun _ _ _ _ => r_alloc (v := .agg #[.int .u8 0, .int .u8 0, .int .u8 0, .int .u8 0]) (by kernel_rfl) rfl) (fun B => by kernel_rfl) ?_
            intro B5
            refine G_step [0, 1, 2, 3] 9 [] (by kernel_rfl) (allM (all_cons (q_run (.slice a l.length cap) rfl rfl (wv_n rfl) rfl (fun _ _ hρ _ => r_move (hρ _ _ rfl))) (all_cons (q_run (.int .i64 ((l.length - 4 : Nat) : Int)) rfl rfl (wv_n rfl) rfl (fun _ _ hρ _ => r_move (hρ _ _ rfl))) (all_cons (q_run (.int .i64 ((l.length - 4 : Nat) : Int)) rfl rfl (wv_n rfl) rfl (fun _ _ hρ _ => r_move (hρ _ _ rfl))) (all_cons (q_run (.slice a l1.length (l.length - 4)) rfl rfl (wv_n rfl) rfl (fun ρ _ hρ _ => r_as (r_sliceO sl34 sz5 (hρ _ _ rfl) (bd_some (n := l.length - 4) (hρ _ _ rfl)) (bd_some (n := l.length - 4) (hρ _ _ rfl)) (bd_none ρ _) (by simp) (by omega) (by omega) (by omega)) (by rw [hn1]; exact slo_zero _ _ _ _))) all_nil))))) (allM (all_cons ?_ all_nil))
            refine LOb_call (.agg #[.int .u8 ((((sumC 0#32 l2)).setWidth 8).toNat : Int), .int .u8 ((((sumC 0#32 l2) >>> 8).setWidth 8).toNat : Int), .int .u8 ((((sumC 0#32 l2) >>> 16).setWidth 8).toNat : Int), .int .u8 ((((sumC 0#32 l2) >>> 24).setWidth 8).toNat : Int)]) [(11, .slice a l1.length (l.length - 4))] rfl (wv_n rfl) rfl rfl (fun _ _ hρ _ => r_call (args := [.int .u32 ((sumC 0#32 l2).toNat : Int)]) (enters_of Try.func95 (by kernel_rfl) rfl) (hρ _ _ rfl) ((cons2 (hρ _ _ rfl) rfl)) rfl) (fun w _ => four_c (sumC 0#32 l2) w) (by kernel_rfl) ?_
            refine G_step [0, 1, 2, 3, 11] 12 [] (by kernel_rfl) (allM (all_cons (q_run (.slice a l.length cap) rfl rfl (wv_n rfl) rfl (fun _ _ hρ _ => r_move (hρ _ _ rfl))) (all_cons (q_run (.int .i64 ((l.length - 4 : Nat) : Int)) rfl rfl (wv_n rfl) rfl (fun _ _ hρ _ => r_move (hρ _ _ rfl))) (all_cons (q_run (.int .i64 ((l.length - 4 : Nat) : Int)) rfl rfl (wv_n rfl) rfl (fun _ _ hρ _ => r_move (hρ _ _ rfl))) (all_cons (q_run (.slice a l1.length (l.length - 4)) rfl rfl (wv_n rfl) rfl (fun ρ _ hρ _ => r_as (r_sliceO sl34 sz5 (hρ _ _ rfl) (bd_some (n := l.length - 4) (hρ _ _ rfl)) (bd_some (n := l.length - 4) (hρ _ _ rfl)) (bd_none ρ _) (by simp) (by omega) (by omega) (by omega)) (by rw [hn1]; exact slo_zero _ _ _ _))) (all_cons (q_run (.slice a l1.length (l.length - 4)) rfl rfl (wv_n rfl) rfl (fun _ _ hρ _ => r_assign (hρ _ _ rfl))) all_nil)))))) (allM (all_cons ?_ all_nil))
            refine LOb_store 2 (.cells #[.int .u8 ((((sumC 0#32 l2)).setWidth 8).toNat : Int), .int .u8 ((((sumC 0#32 l2) >>> 8).setWidth 8).toNat : Int), .int .u8 ((((sumC 0#32 l2) >>> 16).setWidth 8).toNat : Int), .int .u8 ((((sumC 0#32 l2) >>> 24).setWidth 8).toNat : Int)] 130) [] rfl (wv_n rfl) rfl rfl rfl (fun _ _ hρ hm => r_store sz130 (hρ _ _ rfl) (hρ _ _ rfl) (hm.at 2 rfl) rfl rfl rfl rfl) (by kernel_rfl) ?_
            exact G_lastQ [] [(0, .slice a l.length cap), (2, .slice none 0 0), (3, .int .i64 0), (4, .int .i64 ((l.length - 4 : Nat) : Int)), (6, .pointer (some ⟨B5, 0, none⟩)), (5, .slice a l1.length (l.length - 4))] (by kernel_rfl) (allM all_nil) (end_old rfl rfl (end_old rfl rfl (end_old rfl rfl (end_old rfl rfl (end_new 10 rfl rfl (end_new 11 rfl rfl end_nil)))))) (fun a w hf hm => At_intro (B3, B5) trivial hf hm (sub_cons rfl (sub_cons rfl (sub_cons rfl (sub_cons rfl (sub_cons rfl (sub_cons rfl sub_nil)))))) (sub_cons rfl (sub_cons rfl sub_nil)))
        · skip
          refine LOb_new 2 (.cells #[.int .u8 0, .int .u8 0, .int .u8 0, .int .u8 0] 130) (fun B => .pointer (some ⟨B, 0, none⟩)) (fun B => []) rfl (wv_n rfl) rfl rfl (fun _ _ _ _ => r_alloc (v := .agg #[.int .u8 0, .int .u8 0, .int .u8 0, .int .u8 0]) (by kernel_rfl) rfl) (fun B => by kernel_rfl) ?_
          intro B6
          refine G_step [0, 1, 2, 3] 8 [] (by kernel_rfl) (allM (all_cons (q_run (.slice a l.length cap) rfl rfl (wv_n rfl) rfl (fun _ _ hρ _ => r_move (hρ _ _ rfl))) (all_cons (q_run (.int .i64 ((l.length - 4 : Nat) : Int)) rfl rfl (wv_n rfl) rfl (fun _ _ hρ _ => r_move (hρ _ _ rfl))) (all_cons (q_run (.int .i64 ((l.length - 4 : Nat) : Int)) rfl rfl (wv_n rfl) rfl (fun _ _ hρ _ => r_move (hρ _ _ rfl))) (all_cons (q_run (.slice a l1.length (l.length - 4)) rfl rfl (wv_n rfl) rfl (fun ρ _ hρ _ => r_as (r_sliceO sl34 sz5 (hρ _ _ rfl) (bd_some (n := l.length - 4) (hρ _ _ rfl)) (bd_some (n := l.length - 4) (hρ _ _ rfl)) (bd_none ρ _) (by simp) (by omega) (by omega) (by omega)) (by rw [hn1]; exact slo_zero _ _ _ _))) all_nil))))) (allM (all_cons ?_ all_nil))
          refine LOb_call (.int .u32 ((sumC 0#32 l2).toNat : Int)) [] rfl (wv_n rfl) rfl rfl (fun _ _ hρ _ => r_call (args := [.slice (some ⟨B3, 0, none⟩) 1 1]) (enters_of Try.func96 (by kernel_rfl) rfl) (hρ _ _ rfl) ((cons2 (hρ _ _ rfl) rfl)) rfl) (fun w hm => (sum_c [(⟨a, cap, l2⟩ : RowV)] (some ⟨B3, 0, none⟩) 1 w ⟨by simp, (fun e => by cases e), .inr ⟨_, 0, _, _, _, rfl, (hm.at 1 rfl), row_of_take (fun _ => rfl) rfl⟩⟩ (List.forall_mem_cons.2 ⟨(hs2.keep hm.ext), (fun _ h => nomatch h)⟩) (List.forall_mem_cons.2 ⟨(by omega), (fun _ h => nomatch h)⟩) (by decide)).mono fun _ _ h => ⟨h.1.trans (congrArg (fun x : List By => Ending.returned (.int .u32 ((sumC 0#32 x).toNat : Int))) (by simp only [List.flatMap_cons, List.flatMap_nil, List.append_nil])), h.2⟩) (by kernel_rfl) ?_
          refine G_step [0, 1, 2, 3] 9 [] (by kernel_rfl) (allM (all_cons (q_run (.slice a l.length cap) rfl rfl (wv_n rfl) rfl (fun _ _ hρ _ => r_move (hρ _ _ rfl))) (all_cons (q_run (.int .i64 ((l.length - 4 : Nat) : Int)) rfl rfl (wv_n rfl) rfl (fun _ _ hρ _ => r_move (hρ _ _ rfl))) (all_cons (q_run (.int .i64 ((l.length - 4 : Nat) : Int)) rfl rfl (wv_n rfl) rfl (fun _ _ hρ _ => r_move (hρ _ _ rfl))) (all_cons (q_run (.slice a l1.length (l.length - 4)) rfl rfl (wv_n rfl) rfl (fun ρ _ hρ _ => r_as (r_sliceO sl34 sz5 (hρ _ _ rfl) (bd_some (n := l.length - 4) (hρ _ _ rfl)) (bd_some (n := l.length - 4) (hρ _ _ rfl)) (bd_none ρ _) (by simp) (by omega) (by omega) (by omega)) (by rw [hn1]; exact slo_zero _ _ _ _))) all_nil))))) (allM (all_cons ?_ all_nil))
          refine LOb_call (.agg #[.int .u8 ((((sumC 0#32 l2)).setWidth 8).toNat : Int), .int .u8 ((((sumC 0#32 l2) >>> 8).setWidth 8).toNat : Int), .int .u8 ((((sumC 0#32 l2) >>> 16).setWidth 8).toNat : Int), .int .u8 ((((sumC 0#32 l2) >>> 24).setWidth 8).toNat : Int)]) [(11, .slice a l1.length (l.length - 4))] rfl (wv_n rfl) rfl rfl (fun _ _ hρ _ => r_call (args := [.int .u32 ((sumC 0#32 l2).toNat : Int)]) (enters_of Try.func95 (by kernel_rfl) rfl) (hρ _ _ rfl) ((cons2 (hρ _ _ rfl) rfl)) rfl) (fun w _ => four_c (sumC 0#32 l2) w) (by kernel_rfl) ?_
          refine G_step [0, 1, 2, 3, 11] 12 [] (by kernel_rfl) (allM (all_cons (q_run (.slice a l.length cap) rfl rfl (wv_n rfl) rfl (fun _ _ hρ _ => r_move (hρ _ _ rfl))) (all_cons (q_run (.int .i64 ((l.length - 4 : Nat) : Int)) rfl rfl (wv_n rfl) rfl (fun _ _ hρ _ => r_move (hρ _ _ rfl))) (all_cons (q_run (.int .i64 ((l.length - 4 : Nat) : Int)) rfl rfl (wv_n rfl) rfl (fun _ _ hρ _ => r_move (hρ _ _ rfl))) (all_cons (q_run (.slice a l1.length (l.length - 4)) rfl rfl (wv_n rfl) rfl (fun ρ _ hρ _ => r_as (r_sliceO sl34 sz5 (hρ _ _ rfl) (bd_some (n := l.length - 4) (hρ _ _ rfl)) (bd_some (n := l.length - 4) (hρ _ _ rfl)) (bd_none ρ _) (by simp) (by omega) (by omega) (by omega)) (by rw [hn1]; exact slo_zero _ _ _ _))) (all_cons (q_run (.slice a l1.length (l.length - 4)) rfl rfl (wv_n rfl) rfl (fun _ _ hρ _ => r_assign (hρ _ _ rfl))) all_nil)))))) (allM (all_cons ?_ all_nil))
          refine LOb_store 2 (.cells #[.int .u8 ((((sumC 0#32 l2)).setWidth 8).toNat : Int), .int .u8 ((((sumC 0#32 l2) >>> 8).setWidth 8).toNat : Int), .int .u8 ((((sumC 0#32 l2) >>> 16).setWidth 8).toNat : Int), .int .u8 ((((sumC 0#32 l2) >>> 24).setWidth 8).toNat : Int)] 130) [] rfl (wv_n rfl) rfl rfl rfl (fun _ _ hρ hm => r_store sz130 (hρ _ _ rfl) (hρ _ _ rfl) (hm.at 2 rfl) rfl rfl rfl rfl) (by kernel_rfl) ?_
          exact G_lastQ [] [(0, .slice a l.length cap), (2, .slice none 0 0), (3, .int .i64 0), (4, .int .i64 ((l.length - 4 : Nat) : Int)), (6, .pointer (some ⟨B6, 0, none⟩)), (5, .slice a l1.length (l.length - 4))] (by kernel_rfl) (allM all_nil) (end_old rfl rfl (end_old rfl rfl (end_old rfl rfl (end_old rfl rfl (end_new 10 rfl rfl (end_new 11 rfl rfl end_nil)))))) (fun a w hf hm => At_intro (B3, B6) trivial hf hm (sub_cons rfl (sub_cons rfl (sub_cons rfl (sub_cons rfl (sub_cons rfl (sub_cons rfl sub_nil)))))) (sub_cons rfl (sub_cons rfl sub_nil)))
      · skip
        refine LOb_new 2 (.cells #[.int .u8 0, .int .u8 0, .int .u8 0, .int .u8 0] 130) (fun B => .pointer (some ⟨B, 0, none⟩)) (fun B => []) rfl (wv_n rfl) rfl rfl (fun _ _ _ _ => r_alloc (v := .agg #[.int .u8 0, .int .u8 0, .int .u8 0, .int .u8 0]) (by kernel_rfl) rfl) (fun B => by kernel_rfl) ?_
        intro B7
        refine G_step [0, 1, 2, 3, 4, 5, 6] 7 [] (by kernel_rfl) (allM (all_cons (q_run (.slice a l.length cap) rfl rfl (wv_n rfl) rfl (fun _ _ hρ _ => r_move (hρ _ _ rfl))) (all_cons (q_run (.int .i64 ((l.length - 4 : Nat) : Int)) rfl rfl (wv_n rfl) rfl (fun _ _ hρ _ => r_move (hρ _ _ rfl))) (all_cons (q_run (.int .i64 ((l.length - 4 : Nat) : Int)) rfl rfl (wv_n rfl) rfl (fun _ _ hρ _ => r_move (hρ _ _ rfl))) (all_cons (q_run (.slice a l1.length (l.length - 4)) rfl rfl (wv_n rfl) rfl (fun ρ _ hρ _ => r_as (r_sliceO sl34 sz5 (hρ _ _ rfl) (bd_some (n := l.length - 4) (hρ _ _ rfl)) (bd_some (n := l.length - 4) (hρ _ _ rfl)) (bd_none ρ _) (by simp) (by omega) (by omega) (by omega)) (by rw [hn1]; exact slo_zero _ _ _ _))) (all_cons (q_run (.slice a l.length cap) rfl rfl (wv_n rfl) rfl (fun _ _ hρ _ => r_move (hρ _ _ rfl))) (all_cons (q_run (.int .i64 ((l.length - 4 : Nat) : Int)) rfl rfl (wv_n rfl) rfl (fun _ _ hρ _ => r_move (hρ _ _ rfl))) (all_cons (q_run (.slice a l2.length cap) rfl rfl (wv_n rfl) rfl (fun ρ _ hρ _ => r_as (r_sliceO sl34 sz5 (hρ _ _ rfl) (bd_none ρ _) (bd_some (n := l.length - 4) (hρ _ _ rfl)) (bd_none ρ _) (by simp) (by omega) (by omega) (by omega)) (by rw [hn2]; exact slo_zero _ _ _ _))) all_nil)))))))) (allM (all_cons ?_ all_nil))
        refine LOb_new 1 (.cells #[.slice a l2.length cap] 34) (fun B => .slice (some ⟨B, 0, none⟩) 1 1) (fun B => []) rfl (wv_n rfl) rfl rfl (fun _ _ hρ _ => r_buildSlice (vs := [(0, .slice a l2.length cap)]) (by kernel_rfl) (cons2 (pair2 (hρ _ _ rfl)) rfl)) (fun B => by kernel_rfl) ?_
        intro B8
        refine G_step [0, 1, 2, 3] 8 [] (by kernel_rfl) (allM (all_cons (q_run (.slice a l.length cap) rfl rfl (wv_n rfl) rfl (fun _ _ hρ _ => r_move (hρ _ _ rfl))) (all_cons (q_run (.int .i64 ((l.length - 4 : Nat) : Int)) rfl rfl (wv_n rfl) rfl (fun _ _ hρ _ => r_move (hρ _ _ rfl))) (all_cons (q_run (.int .i64 ((l.length - 4 : Nat) : Int)) rfl rfl (wv_n rfl) rfl (fun _ _ hρ _ => r_move (hρ _ _ rfl))) (all_cons (q_run (.slice a l1.length (l.length - 4)) rfl rfl (wv_n rfl) rfl (fun ρ _ hρ _ => r_as (r_sliceO sl34 sz5 (hρ _ _ rfl) (bd_some (n := l.length - 4) (hρ _ _ rfl)) (bd_some (n := l.length - 4) (hρ _ _ rfl)) (bd_none ρ _) (by simp) (by omega) (by omega) (by omega)) (by rw [hn1]; exact slo_zero _ _ _ _))) all_nil))))) (allM (all_cons ?_ all_nil))
        refine LOb_call (.int .u32 ((sumC 0#32 l2).toNat : Int)) [] rfl (wv_n rfl) rfl rfl (fun _ _ hρ _ => r_call (args := [.slice (some ⟨B8, 0, none⟩) 1 1]) (enters_of Try.func96 (by kernel_rfl) rfl) (hρ _ _ rfl) ((cons2 (hρ _ _ rfl) rfl)) rfl) (fun w hm => (sum_c [(⟨a, cap, l2⟩ : RowV)] (some ⟨B8, 0, none⟩) 1 w ⟨by simp, (fun e => by cases e), .inr ⟨_, 0, _, _, _, rfl, (hm.at 1 rfl), row_of_take (fun _ => rfl) rfl⟩⟩ (List.forall_mem_cons.2 ⟨(hs2.keep hm.ext), (fun _ h => nomatch h)⟩) (List.forall_mem_cons.2 ⟨(by omega), (fun _ h => nomatch h)⟩) (by decide)).mono fun _ _ h => ⟨h.1.trans (congrArg (fun x : List By => Ending.returned (.int .u32 ((sumC 0#32 x).toNat : Int))) (by simp only [List.flatMap_cons, List.flatMap_nil, List.append_nil])), h.2⟩) (by kernel_rfl) ?_
        refine G_step [0, 1, 2, 3] 9 [] (by kernel_rfl) (allM (all_cons (q_run (.slice a l.length cap) rfl rfl (wv_n rfl) rfl (fun _ _ hρ _ => r_move (hρ _ _ rfl))) (all_cons (q_run (.int .i64 ((l.length - 4 : Nat) : Int)) rfl rfl (wv_n rfl) rfl (fun _ _ hρ _ => r_move (hρ _ _ rfl))) (all_cons (q_run (.int .i64 ((l.length - 4 : Nat) : Int)) rfl rfl (wv_n rfl) rfl (fun _ _ hρ _ => r_move (hρ _ _ rfl))) (all_cons (q_run (.slice a l1.length (l.length - 4)) rfl rfl (wv_n rfl) rfl (fun ρ _ hρ _ => r_as (r_sliceO sl34 sz5 (hρ _ _ rfl) (bd_some (n := l.length - 4) (hρ _ _ rfl)) (bd_some (n := l.length - 4) (hρ _ _ rfl)) (bd_none ρ _) (by simp) (by omega) (by omega) (by omega)) (by rw [hn1]; exact slo_zero _ _ _ _))) all_nil))))) (allM (all_cons ?_ all_nil))
        refine LOb_call (.agg #[.int .u8 ((((sumC 0#32 l2)).setWidth 8).toNat : Int), .int .u8 ((((sumC 0#32 l2) >>> 8).setWidth 8).toNat : Int), .int .u8 ((((sumC 0#32 l2) >>> 16).setWidth 8).toNat : Int), .int .u8 ((((sumC 0#32 l2) >>> 24).setWidth 8).toNat : Int)]) [(11, .slice a l1.length (l.length - 4))] rfl (wv_n rfl) rfl rfl (fun _ _ hρ _ => r_call (args := [.int .u32 ((sumC 0#32 l2).toNat : Int)]) (enters_of Try.func95 (by kernel_rfl) rfl) (hρ _ _ rfl) ((cons2 (hρ _ _ rfl) rfl)) rfl) (fun w _ => four_c (sumC 0#32 l2) w) (by kernel_rfl) ?_
        refine G_step [0, 1, 2, 3, 11] 12 [] (by kernel_rfl) (allM (all_cons (q_run (.slice a l.length cap) rfl rfl (wv_n rfl) rfl (fun _ _ hρ _ => r_move (hρ _ _ rfl))) (all_cons (q_run (.int .i64 ((l.length - 4 : Nat) : Int)) rfl rfl (wv_n rfl) rfl (fun _ _ hρ _ => r_move (hρ _ _ rfl))) (all_cons (q_run (.int .i64 ((l.length - 4 : Nat) : Int)) rfl rfl (wv_n rfl) rfl (fun _ _ hρ _ => r_move (hρ _ _ rfl))) (all_cons (q_run (.slice a l1.length (l.length - 4)) rfl rfl (wv_n rfl) rfl (fun ρ _ hρ _ => r_as (r_sliceO sl34 sz5 (hρ _ _ rfl) (bd_some (n := l.length - 4) (hρ _ _ rfl)) (bd_some (n := l.length - 4) (hρ _ _ rfl)) (bd_none ρ _) (by simp) (by omega) (by omega) (by omega)) (by rw [hn1]; exact slo_zero _ _ _ _))) (all_cons (q_run (.slice a l1.length (l.length - 4)) rfl rfl (wv_n rfl) rfl (fun _ _ hρ _ => r_assign (hρ _ _ rfl))) all_nil)))))) (allM (all_cons ?_ all_nil))
        refine LOb_store 2 (.cells #[.int .u8 ((((sumC 0#32 l2)).setWidth 8).toNat : Int), .int .u8 ((((sumC 0#32 l2) >>> 8).setWidth 8).toNat : Int), .int .u8 ((((sumC 0#32 l2) >>> 16).setWidth 8).toNat : Int), .int .u8 ((((sumC 0#32 l2) >>> 24).setWidth 8).toNat : Int)] 130) [] rfl (wv_n rfl) rfl rfl rfl (fun _ _ hρ hm => r_store sz130 (hρ _ _ rfl) (hρ _ _ rfl) (hm.at 2 rfl) rfl rfl rfl rfl) (by kernel_rfl) ?_
        exact G_lastQ [] [(0, .slice a l.length cap), (2, .slice none 0 0), (3, .int .i64 0), (4, .int .i64 ((l.length - 4 : Nat) : Int)), (6, .pointer (some ⟨B7, 0, none⟩)), (5, .slice a l1.length (l.length - 4))] (by kernel_rfl) (allM all_nil) (end_old rfl rfl (end_old rfl rfl (end_old rfl rfl (end_old rfl rfl (end_new 10 rfl rfl (end_new 11 rfl rfl end_nil)))))) (fun a w hf hm => At_intro (B8, B7) trivial hf hm (sub_cons rfl (sub_cons rfl (sub_cons rfl (sub_cons rfl (sub_cons rfl (sub_cons rfl sub_nil)))))) (sub_cons rfl (sub_cons rfl sub_nil)))
    · skip
      obtain ⟨Bx7, Bx10⟩ := z
      show T _ _ _ [(0, .slice a l.length cap), (2, .slice none 0 0), (3, .int .i64 0), (4, .int .i64 ((l.length - 4 : Nat) : Int)), (6, .pointer (some ⟨Bx10, 0, none⟩)), (5, .slice a l1.length (l.length - 4))] [(1, .blk Bx7 (.cells #[.slice a l2.length cap] 34)), (2, .blk Bx10 (.cells #[.int .u8 ((((sumC 0#32 l2)).setWidth 8).toNat : Int), .int .u8 ((((sumC 0#32 l2) >>> 8).setWidth 8).toNat : Int), .int .u8 ((((sumC 0#32 l2) >>> 16).setWidth 8).toNat : Int), .int .u8 ((((sumC 0#32 l2) >>> 24).setWidth 8).toNat : Int)] 130))]
      refine T_seq ?_
      obtain ⟨l9, hl9, hn9⟩ : ∃ lz, lz = (l.drop (l.length - 4)).take (l.length - (l.length - 4)) ∧ lz.length = l.length - (l.length - 4) := ⟨_, rfl, by rw [List.length_take, List.length_drop]; omega⟩
      obtain ⟨a9, ha9⟩ : ∃ az : Option Addr, az = (if cap = l.length - 4 then a else Option.map (·.add ((l.length - 4) * 1)) a) := ⟨_, rfl⟩
      have hs9 := SliceAt.part hv (lo := l.length - 4) (hi := l.length) (m := cap) (by omega) (by omega) (by omega) (by omega)
      rw [← hl9, ← ha9] at hs9
      refine T_seq (T_draw (V := [(0, .slice a l.length cap), (1, .int .i64 ((l.length - 4 : Nat) : Int)), (2, .slice a9 l9.length (cap - (l.length - 4))), (3, .slice (some ⟨Bx10, 0, none⟩) 4 4)]) [0, 0, 3, 0, 15, 31] [[(0, none)], [(4, none)], [(22, some 0), (23, some 1)], [(6, none)], [(24, some 2), (25, some 3)], [(26, some 4)]] 16 mixed (by kernel_rfl) ?_)
      refine G_step [0, 1, 2, 3] 4 [] (by kernel_rfl) (allM (all_cons (q_run (.slice a l.length cap) rfl rfl (wv_n rfl) rfl (fun _ _ hρ _ => r_move (hρ _ _ rfl))) (all_cons (q_run (.int .i64 ((l.length - 4 : Nat) : Int)) rfl rfl (wv_n rfl) rfl (fun _ _ hρ _ => r_move (hρ _ _ rfl))) (all_cons (q_run (.slice a9 l9.length (cap - (l.length - 4))) rfl rfl (wv_n rfl) rfl (fun ρ _ hρ _ => r_as (r_sliceO sl34 sz5 (hρ _ _ rfl) (bd_none ρ _) (bd_none ρ _) (bd_some (n := l.length - 4) (hρ _ _ rfl)) (by simp) (by omega) (by omega) (by omega)) (by rw [hn9, ha9]))) (all_cons (q_run (.slice (some ⟨Bx10, 0, none⟩) 4 4) rfl rfl (wv_n rfl) rfl (fun _ _ hρ _ => r_sliceA ar130 sz5 (by decide) (hρ _ _ rfl))) all_nil))))) (allM (all_cons ?_ all_nil))
      refine LOb_call (.bool (decide (l9 = [((sumC 0#32 l2)).setWidth 8, ((sumC 0#32 l2) >>> 8).setWidth 8, ((sumC 0#32 l2) >>> 16).setWidth 8, ((sumC 0#32 l2) >>> 24).setWidth 8]))) [(5, .bool (!(decide (l9 = [((sumC 0#32 l2)).setWidth 8, ((sumC 0#32 l2) >>> 8).setWidth 8, ((sumC 0#32 l2) >>> 16).setWidth 8, ((sumC 0#32 l2) >>> 24).setWidth 8]))))] rfl (wv_n rfl) rfl rfl (fun _ _ hρ _ => r_call (args := [.slice a9 l9.length (cap - (l.length - 4)), .slice (some ⟨Bx10, 0, none⟩) 4 4]) (enters_of Try.func16 (by kernel_rfl) rfl) (hρ _ _ rfl) ((cons2 (hρ _ _ rfl) (cons2 (hρ _ _ rfl) rfl))) rfl) (fun w hm => equal_b l9 [((sumC 0#32 l2)).setWidth 8, ((sumC 0#32 l2) >>> 8).setWidth 8, ((sumC 0#32 l2) >>> 16).setWidth 8, ((sumC 0#32 l2) >>> 24).setWidth 8] a9 (some ⟨Bx10, 0, none⟩) (cap - (l.length - 4)) 4 w (hs9.keep hm.ext) ⟨by simp, (fun e => by cases e), .inr ⟨_, 0, _, _, _, rfl, (hm.at 2 rfl), row_of_take (fun _ => rfl) rfl⟩⟩ (by omega) (Nat.le_of_ble_eq_true rfl)) (by kernel_rfl) ?_
      refine G_last [5] [(2, .slice none 0 0), (3, .int .i64 0), (5, .slice a l1.length (l.length - 4)), (27, .bool (!(decide (l9 = [((sumC 0#32 l2)).setWidth 8, ((sumC 0#32 l2) >>> 8).setWidth 8, ((sumC 0#32 l2) >>> 16).setWidth 8, ((sumC 0#32 l2) >>> 24).setWidth 8]))))] (by kernel_rfl) (allM (all_cons (q_run (.bool (!(decide (l9 = [((sumC 0#32 l2)).setWidth 8, ((sumC 0#32 l2) >>> 8).setWidth 8, ((sumC 0#32 l2) >>> 16).setWidth 8, ((sumC 0#32 l2) >>> 24).setWidth 8])))) rfl rfl (wv_n rfl) rfl (fun _ _ hρ _ => r_not (b := decide (l9 = [((sumC 0#32 l2)).setWidth 8, ((sumC 0#32 l2) >>> 8).setWidth 8, ((sumC 0#32 l2) >>> 16).setWidth 8, ((sumC 0#32 l2) >>> 24).setWidth 8])) (hρ _ _ rfl))) all_nil)) (end_old rfl rfl (end_old rfl rfl (end_old rfl rfl (end_new 5 rfl rfl end_nil)))) ?_
      refine T_cond rfl (fun h1 => ?_) (fun h1 => ?_)
      · replace h1 := of_decide_eq_false (bnot_t h1)
        refine T_seq (T_region ?_)
        refine TL_q (.slice none 0 0) (fun _ _ hρ _ => r_assign (hρ _ _ rfl)) rfl rfl rfl (w_n rfl) ?_
        refine TL_q (.int .i64 120) (fun _ _ hρ _ => r_assign (hρ _ _ rfl)) rfl rfl rfl (w_n rfl) ?_
        refine TL_seq ?_
        refine T_ret' ?_
        refine p_then_r ?_
        refine ret_of rfl (.tuple #[.slice none 0 0, .int .i64 120]) (fun tmps w hk hm => res2 rfl (res_tmp (hk 2 _ rfl)) (res_tmp (hk 3 _ rfl))) (fun w hm => ?_)
        have e0 : openP l = none := open_f hl2 hl9 h1
        have e1 : openL l = [] := by unfold openL; rw [e0]; rfl
        have e2 : openE l = 120 := by unfold openE; rw [e0]; try rfl
        rw [e1, e2]
        exact ⟨none, 0, rfl, hm.ext, World.ownsRow_nil _ _ _ _⟩
      · replace h1 := of_decide_eq_true (bnot_f h1)
        refine T_skip' ?_
        refine p_seq ?_
        refine T_seq (T_region ?_)
        refine TL_new 3 (.cells #[] 5) (fun B => .slice (some ⟨B, 0, none⟩) 0 0) (fun _ _ _ _ => r_buildSlice (vs := []) (by kernel_rfl) rfl) rfl rfl rfl (w_n rfl) ?_
        intro B10
        refine TL_q (.slice a l1.length (l.length - 4)) (fun _ _ hρ _ => r_move (hρ _ _ rfl)) rfl rfl rfl (w_n rfl) ?_
        refine TL_mem ([(3, .row (.slice (some ⟨B10, 0, none⟩) 0 0) 5 1 0 []), (1, .blk Bx7 (.cells #[.slice a l2.length cap] 34)), (2, .blk Bx10 (.cells #[.int .u8 ((((sumC 0#32 l2)).setWidth 8).toNat : Int), .int .u8 ((((sumC 0#32 l2) >>> 8).setWidth 8).toNat : Int), .int .u8 ((((sumC 0#32 l2) >>> 16).setWidth 8).toNat : Int), .int .u8 ((((sumC 0#32 l2) >>> 24).setWidth 8).toNat : Int)] 130))]) (fun _ hm => MemOk.sub (hm.toRow (n := 0) (cap := 0) (s := 1) 3 rfl rfl (by omega) rfl _ rfl) (sub_cons rfl (sub_cons rfl (sub_cons rfl sub_nil)))) ?_
        refine TL_append (n := 0) (m := l1.length) (xs := []) (news := (l1.flatMap byc)) (z := .int .u8 0) 3 rfl rfl rfl sl34 sz5 by5 (by kernel_rfl) rfl rfl (.inl rfl) (fun _ hm => by have := src_of byc_len (hs1.keep hm.ext); simpa using this) (by intro u hu; obtain ⟨x, _, hx⟩ := List.mem_flatMap.1 hu; exact byc_one x u hx) (by omega) (by omega) rfl (w_n rfl) ?_
        intro a11 cap11
        refine TL_q (.slice a11 (0 + l1.length) cap11) (fun _ _ hρ _ => r_assign (hρ _ _ rfl)) rfl rfl rfl (w_n rfl) ?_
        refine TL_q (.int .i64 0) (fun _ _ hρ _ => r_assign (hρ _ _ rfl)) rfl rfl rfl (w_n rfl) ?_
        refine TL_seq ?_
        refine T_ret' ?_
        refine ret_of rfl (.tuple #[.slice a11 (0 + l1.length) cap11, .int .i64 0]) (fun tmps w hk hm => res2 rfl (res_tmp (hk 2 _ rfl)) (res_tmp (hk 3 _ rfl))) (fun w hm => ?_)
        have e0 : openP l = some l1 := open_t h4 hl1 hl2 hl9 h1
        have e1 : openL l = l1 := by unfold openL; rw [e0]; rfl
        have e2 : openE l = 0 := by unfold openE; rw [e0]; try rfl
        rw [e1, e2]
        have hrow := hm.row 3 rfl
        simp only [Nat.zero_add, List.nil_append] at hrow ⊢
        exact ⟨a11, cap11, rfl, hm.ext, hrow⟩
  · skip
    refine T_seq (T_region ?_)
    refine TL_q (.slice a l.length cap) (fun _ _ hρ _ => r_move (hρ _ _ rfl)) rfl rfl rfl (w_n rfl) ?_
    refine TL_q (.int .i64 ((l.length : Nat) : Int)) (fun _ _ hρ _ => r_len sl34 (hρ _ _ rfl)) rfl rfl rfl (w_n rfl) ?_
    refine TL_q (.int .i64 (((l.length : Nat) : Int) - 4)) (fun _ _ hρ _ => r_as (r_sub (hρ _ _ rfl) (hρ _ _ rfl)) (int_as (wrap64 (by omega) (by omega)))) rfl rfl rfl (w_n rfl) ?_
    refine TL_q (.int .i64 (((l.length : Nat) : Int) - 4)) (fun _ _ hρ _ => r_assign (hρ _ _ rfl)) rfl rfl rfl (w_n rfl) ?_
    refine TL_seq ?_
    refine T_seq ?_
    have hng : ((l.length : Nat) : Int) - 4 < 0 := by omega
    refine T_seq (T_region ?_)
    refine TL_q (.int .i64 (((l.length : Nat) : Int) - 4)) (fun _ _ hρ _ => r_move (hρ _ _ rfl)) rfl rfl rfl (w_n rfl) ?_
    refine TL_q (.bool true) (fun _ _ hρ _ => r_as (r_lss (hρ _ _ rfl) (hρ _ _ rfl)) (bool_as (decide_eq_true hng))) rfl rfl rfl (w_n rfl) ?_
    refine TL_seq ?_
    refine T_cond_t rfl ?_
    refine T_seq (T_region ?_)
    refine TL_q (.slice none 0 0) (fun _ _ hρ _ => r_assign (hρ _ _ rfl)) rfl rfl rfl (w_n rfl) ?_
    refine TL_q (.int .i64 120) (fun _ _ hρ _ => r_assign (hρ _ _ rfl)) rfl rfl rfl (w_n rfl) ?_
    refine TL_seq ?_
    refine T_ret' ?_
    refine p_then_r ?_
    refine ret_of rfl (.tuple #[.slice none 0 0, .int .i64 120]) (fun tmps w hk hm => res2 rfl (res_tmp (hk 2 _ rfl)) (res_tmp (hk 3 _ rfl))) (fun w hm => ?_)
    have e0 : openP l = none := open_s h4
    have e1 : openL l = [] := by unfold openL; rw [e0]; rfl
    have e2 : openE l = 120 := by unfold openE; rw [e0]; try rfl
    rw [e1, e2]
    exact ⟨none, 0, rfl, hm.ext, World.ownsRow_nil _ _ _ _⟩

end Go.Proofs.Ytcidgbjgeegepaa
/- crc: the references of Seal, Open, Spoil. Printed by a program of this seat's prover. -/
namespace Go.Proofs.Ytcidgbjgeegepaa
open Go Go.RowKit
set_option maxRecDepth 10000
theorem open_ref_t {l p q : List By} (h4 : 4 ≤ l.length) (hp : p = l.take (l.length - 4)) (hq : q = l.take (l.length - 4)) (h : ∀ j, j < 4 → l[l.length - 4 + j]? = (four (sumC 0#32 q))[j]?) : openP l = some p := by
  refine open_t h4 hp hq rfl ?_
  apply List.ext_getElem?
  intro j
  rw [List.take_of_length_le (by rw [List.length_drop]; exact Nat.le_refl _), List.getElem?_drop]
  by_cases hj : j < 4
  · exact h j hj
  · rw [List.getElem?_eq_none (by omega), List.getElem?_eq_none (by rw [four_len]; omega)]
theorem open_ref_f {l q : List By} {i : Nat} {x y : By} (hi : i < 4) (hq : q = l.take (l.length - 4)) (hx : (four (sumC 0#32 q))[i]? = some x) (hy : l[l.length - 4 + i]? = some y) (h : ¬ y = x) : openP l = none := by
  refine open_f hq rfl fun e => h ?_
  have := congrArg (fun z => z[i]?) e
  skip
  rw [List.take_of_length_le (by rw [List.length_drop]; exact Nat.le_refl _), List.getElem?_drop, hx, hy] at this
  exact Option.some.inj this

theorem seal_ref (l : List By) (a : Option Addr) (cap : Nat) (w : World) (hv : SliceAt w a cap 1 byc l) (hl : l.length ≤ 1000000) : Calls Try.prog 81 #[.slice a l.length cap] w fun e w' => ∃ a' cap', e = .returned (.slice a' (sealP l).length cap') ∧ Below w.heap.size w w' ∧ w'.ownsRow w.heap.size 5 1 (.slice a' (sealP l).length cap') (sealP l).length ((sealP l).flatMap byc) := by
  have hvl := hv.1
  refine calls_of_T (l := [.slice a l.length cap]) 10 Try.func81 rfl rfl rfl ?_
  show T _ _ _ [(0, .slice a l.length cap)] []
  refine T_seq (T_region ?_)
  refine TL_q (.slice none 0 0) (fun _ _ hρ _ => r_assign (hρ _ _ rfl)) rfl rfl rfl (w_n rfl) ?_
  refine TL_seq ?_
  refine T_seq (T_region ?_)
  refine TL_new 1 (.cells #[] 5) (fun B => .slice (some ⟨B, 0, none⟩) 0 0) (fun _ _ _ _ => r_buildSlice (vs := []) (by kernel_rfl) rfl) rfl rfl rfl (w_n rfl) ?_
  intro B1
  refine TL_q (.slice a l.length cap) (fun _ _ hρ _ => r_move (hρ _ _ rfl)) rfl rfl rfl (w_n rfl) ?_
  refine TL_mem ([(1, .row (.slice (some ⟨B1, 0, none⟩) 0 0) 5 1 0 [])]) (fun _ hm => MemOk.sub (hm.toRow (n := 0) (cap := 0) (s := 1) 1 rfl rfl (by omega) rfl _ rfl) (sub_cons rfl sub_nil)) ?_
  refine TL_append (n := 0) (m := l.length) (xs := []) (news := (l.flatMap byc)) (z := .int .u8 0) 1 rfl rfl rfl sl34 sz5 by5 (by kernel_rfl) rfl rfl (.inl rfl) (fun _ hm => by have := src_of byc_len (hv.keep hm.ext); simpa using this) (by intro u hu; obtain ⟨x, _, hx⟩ := List.mem_flatMap.1 hu; exact byc_one x u hx) (by omega) (by omega) rfl (w_n rfl) ?_
  intro a2 cap2
  refine TL_q (.slice a l.length cap) (fun _ _ hρ _ => r_move (hρ _ _ rfl)) rfl rfl rfl (w_n rfl) ?_
  refine TL_call (.int .u32 ((sumC 0#32 l).toNat : Int)) (fun _ _ hρ _ => r_call (args := [.slice a l.length cap]) (enters_of Try.func113 (by kernel_rfl) rfl) (hρ _ _ rfl) ((cons2 (hρ _ _ rfl) rfl)) rfl) (fun w hm => sum_ref l a cap w (hv.keep hm.ext) (by omega)) rfl rfl rfl (w_n rfl) ?_
  refine TL_callN (fun (_ : Nat) => True) (fun F3 => .slice (some ⟨F3, 0, none⟩) 4 4) (fun F3 => [(2, .blk F3 (.cells (((four (sumC 0#32 l)).flatMap byc).toArray) 5))]) (fun _ _ hρ _ => r_call (args := [.int .u32 ((sumC 0#32 l).toNat : Int)]) (enters_of Try.func112 (by kernel_rfl) rfl) (hρ _ _ rfl) ((cons2 (hρ _ _ rfl) rfl)) rfl) (fun w _ => (four_ref (sumC 0#32 l) w).mono fun e w' ⟨z, h1, h2, h3, h4⟩ => ⟨z, h1, h2, h3, newOk_at 2 h4⟩) rfl rfl rfl (w_n rfl) ?_
  rintro F3 -
  refine TL_append (n := (0 + l.length)) (m := 4) (xs := ([] ++ (l.flatMap byc))) (news := ((four (sumC 0#32 l)).flatMap byc)) (z := .int .u8 0) 1 rfl rfl rfl sl34 sz5 by5 (by kernel_rfl) rfl rfl (.inl rfl) (fun _ hm => src_blk (news := ((four (sumC 0#32 l)).flatMap byc)) (hm.at 2 rfl) rfl) (by intro u hu; obtain ⟨x, _, hx⟩ := List.mem_flatMap.1 hu; exact byc_one x u hx) (by omega) (by omega) rfl (w_n rfl) ?_
  intro a4 cap4
  refine TL_q (.slice a4 ((0 + l.length) + 4) cap4) (fun _ _ hρ _ => r_assign (hρ _ _ rfl)) rfl rfl rfl (w_n rfl) ?_
  refine TL_seq ?_
  refine T_ret' ?_
  refine ret_of rfl (.slice a4 ((0 + l.length) + 4) cap4) (fun tmps w hk hm => res1 rfl (res_tmp (hk 2 _ rfl))) (fun w hm => ?_)
  have hrow := hm.row 1 rfl
  simp only [Nat.zero_add, List.nil_append] at hrow ⊢
  exact ⟨a4, cap4, congrArg (fun n => Ending.returned (Value.slice _ n _)) (by unfold sealP; rw [List.length_append]; rfl), hm.ext, by rw [show (sealP l).length = l.length + 4 from List.length_append, show (sealP l).flatMap byc = _ from List.flatMap_append]; exact hrow⟩

theorem upto_snoc {p : Nat → Option By} {q : Nat → Option By} {i : Nat} (h : ∀ j, j < i → p j = q j) (hi : p i = q i) : ∀ j, j < i + 1 → p j = q j := fun j hj => by
  rcases Nat.lt_or_eq_of_le (Nat.le_of_lt_succ hj) with h1 | h1
  · exact h j h1
  · subst h1; exact hi

theorem open_ref (l : List By) (a : Option Addr) (cap : Nat) (w : World) (hv : SliceAt w a cap 1 byc l) (hl : l.length ≤ 1000000) (hcap : cap ≤ Go.maxLen) : Calls Try.prog 89 #[.slice a l.length cap] w fun e w' => ∃ a' cap', e = .returned (.tuple #[.slice a' (openL l).length cap', .bool (openB l)]) ∧ Below w.heap.size w w' ∧ w'.ownsRow w.heap.size 5 1 (.slice a' (openL l).length cap') (openL l).length ((openL l).flatMap byc) := by
  have hvl := hv.1
  refine calls_of_T (l := [.slice a l.length cap]) 37 Try.func89 rfl rfl rfl ?_
  show T _ _ _ [(0, .slice a l.length cap)] []
  refine T_seq (T_region ?_)
  refine TL_q (.slice none 0 0) (fun _ _ hρ _ => r_assign (hρ _ _ rfl)) rfl rfl rfl (w_n rfl) ?_
  refine TL_q (.bool false) (fun _ _ hρ _ => r_assign (hρ _ _ rfl)) rfl rfl rfl (w_n rfl) ?_
  refine TL_seq ?_
  by_cases h4 : 4 ≤ l.length
  · skip
    refine T_seq (T_region ?_)
    refine TL_q (.slice a l.length cap) (fun _ _ hρ _ => r_move (hρ _ _ rfl)) rfl rfl rfl (w_n rfl) ?_
    refine TL_q (.int .i64 ((l.length : Nat) : Int)) (fun _ _ hρ _ => r_len sl34 (hρ _ _ rfl)) rfl rfl rfl (w_n rfl) ?_
    refine TL_q (.int .i64 ((l.length - 4 : Nat) : Int)) (fun _ _ hρ _ => r_as (r_sub (hρ _ _ rfl) (hρ _ _ rfl)) (int_as ((wrap64 (by omega) (by omega)).trans (by omega)))) rfl rfl rfl (w_n rfl) ?_
    refine TL_q (.int .i64 ((l.length - 4 : Nat) : Int)) (fun _ _ hρ _ => r_assign (hρ _ _ rfl)) rfl rfl rfl (w_n rfl) ?_
    refine TL_seq ?_
    refine T_seq ?_
    have hng : ¬ (((l.length - 4 : Nat) : Int) < 0) := by omega
    refine T_seq (T_region ?_)
    refine TL_q (.int .i64 ((l.length - 4 : Nat) : Int)) (fun _ _ hρ _ => r_move (hρ _ _ rfl)) rfl rfl rfl (w_n rfl) ?_
    refine TL_q (.bool false) (fun _ _ hρ _ => r_as (r_lss (hρ _ _ rfl) (hρ _ _ rfl)) (bool_as (decide_eq_false hng))) rfl rfl rfl (w_n rfl) ?_
    refine TL_seq ?_
    refine T_cond_f rfl ?_
    refine T_skip' ?_
    refine p_seq ?_
    refine T_seq ?_
    refine T_seq (T_region ?_)
    refine TL_q (.slice a l.length cap) (fun _ _ hρ _ => r_move (hρ _ _ rfl)) rfl rfl rfl (w_n rfl) ?_
    refine TL_q (.int .i64 ((l.length - 4 : Nat) : Int)) (fun _ _ hρ _ => r_move (hρ _ _ rfl)) rfl rfl rfl (w_n rfl) ?_
    obtain ⟨l1, hl1, hn1⟩ : ∃ lz, lz = l.take (l.length - 4) ∧ lz.length = l.length - 4 := ⟨_, rfl, by rw [List.length_take]; omega⟩
    have hs1 := SliceAt.front hv (n := l.length - 4) (m := cap) (by omega) (by omega) (by omega)
    rw [← hl1] at hs1
    refine TL_q (.slice a l1.length cap) (fun ρ _ hρ _ => r_as (r_sliceO sl34 sz5 (hρ _ _ rfl) (bd_none ρ _) (bd_some (n := l.length - 4) (hρ _ _ rfl)) (bd_none ρ _) (by simp) (by omega) (by omega) (by omega)) (by rw [hn1]; exact slo_zero _ _ _ _)) rfl rfl rfl (w_n rfl) ?_
    refine TL_call (.int .u32 ((sumC 0#32 l1).toNat : Int)) (fun _ _ hρ _ => r_call (args := [.slice a l1.length cap]) (enters_of Try.func113 (by kernel_rfl) rfl) (hρ _ _ rfl) ((cons2 (hρ _ _ rfl) rfl)) rfl) (fun w hm => sum_ref l1 a cap w (hs1.keep hm.ext) (by omega)) rfl rfl rfl (w_n rfl) ?_
    refine TL_callN (fun (_ : Nat) => True) (fun F2 => .slice (some ⟨F2, 0, none⟩) 4 4) (fun F2 => [(1, .blk F2 (.cells (((four (sumC 0#32 l1)).flatMap byc).toArray) 5))]) (fun _ _ hρ _ => r_call (args := [.int .u32 ((sumC 0#32 l1).toNat : Int)]) (enters_of Try.func112 (by kernel_rfl) rfl) (hρ _ _ rfl) ((cons2 (hρ _ _ rfl) rfl)) rfl) (fun w _ => (four_ref (sumC 0#32 l1) w).mono fun e w' ⟨z, h1, h2, h3, h4⟩ => ⟨z, h1, h2, h3, newOk_at 1 h4⟩) rfl rfl rfl (w_n rfl) ?_
    rintro F2 -
    refine TL_q (.int .i64 4) (fun _ _ hρ _ => r_len sl34 (hρ _ _ rfl)) rfl rfl rfl (w_n rfl) ?_
    refine TL_q (.int .i64 0) (fun _ _ hρ _ => r_move (hρ _ _ rfl)) rfl rfl rfl (w_n rfl) ?_
    refine TL_seq ?_
    refine T_block ?_
    refine T_loop (ι := Nat) (fun (i : Nat) => i ≤ 4 ∧ ∀ j, j < i → l[l.length - 4 + j]? = (four (sumC 0#32 l1))[j]?) (fun (i : Nat) => [(0, .slice a l.length cap), (4, .int .i64 ((l.length - 4 : Nat) : Int)), (16, .slice (some ⟨F2, 0, none⟩) 4 4), (17, .int .i64 4), (18, .int .i64 ((i : Nat) : Int))]) (fun (i : Nat) => [(1, .blk F2 (.cells (((four (sumC 0#32 l1)).flatMap byc).toArray) 5))]) (fun (i : Nat) => 4 - i) 0 ⟨Nat.zero_le _, fun j hj => absurd hj (Nat.not_lt_zero _)⟩ (sub_cons rfl (sub_cons rfl (sub_cons rfl (sub_cons rfl (sub_cons rfl sub_nil))))) (sub_cons rfl sub_nil) ?_
    rintro i hp
    obtain ⟨hi, hij⟩ := hp
    show T _ _ _ [(0, .slice a l.length cap), (4, .int .i64 ((l.length - 4 : Nat) : Int)), (16, .slice (some ⟨F2, 0, none⟩) 4 4), (17, .int .i64 4), (18, .int .i64 ((i : Nat) : Int))] [(1, .blk F2 (.cells (((four (sumC 0#32 l1)).flatMap byc).toArray) 5))]
    refine T_seq (T_region ?_)
    refine TL_q (.bool (decide (((i : Nat) : Int) < 4))) (fun _ _ hρ _ => r_lss (hρ _ _ rfl) (hρ _ _ rfl)) rfl rfl rfl (w_n rfl) ?_
    refine TL_seq ?_
    refine T_seq ?_
    refine T_cond rfl (fun h1 => ?_) (fun h1 => ?_)
    · replace h1 := of_decide_eq_true h1
      refine T_skip' ?_
      refine p_seq ?_
      refine T_seq ?_
      refine T_block ?_
      obtain ⟨x, hx⟩ : ∃ x, (four (sumC 0#32 l1))[i]? = some x := ⟨_, List.getElem?_eq_getElem (show i < 4 by omega)⟩
      obtain ⟨y, hy⟩ : ∃ y, l[l.length - 4 + i]? = some y := ⟨_, List.getElem?_eq_getElem (by omega)⟩
      obtain ⟨b3, of3, cs3, T3, fz3, ha3, hq3, hr3⟩ := hv.open (i := ((l.length - 4) + i)) (by omega)
      subst ha3
      refine T_seq (T_region ?_)
      refine TL_q (.int .i64 ((i : Nat) : Int)) (fun _ _ hρ _ => r_move (hρ _ _ rfl)) rfl rfl rfl (w_n rfl) ?_
      refine TL_q (.pointer (some ⟨F2, 0 + i * 1, none⟩)) (fun _ _ hρ _ => r_indexAddrS (i := i) sl34 sz5 (hρ _ _ rfl) (hρ _ _ rfl) (by omega)) rfl rfl rfl (w_n rfl) ?_
      refine TL_q (.int .u8 ((x).toNat : Int)) (fun _ _ hρ hm => r_loadRow1 (f := byc) (l := four (sumC 0#32 l1)) (off := 0) (u := x) ag5 (hρ _ _ rfl) (hm.at 1 rfl) (row_of_take byc_len (List.take_of_length_le (Nat.le_refl _))) hx rfl) rfl rfl rfl (w_n rfl) ?_
      refine TL_q (.int .i64 ((i : Nat) : Int)) (fun _ _ hρ _ => r_assign (hρ _ _ rfl)) rfl rfl rfl (w_n rfl) ?_
      refine TL_q (.int .u8 ((x).toNat : Int)) (fun _ _ hρ _ => r_assign (hρ _ _ rfl)) rfl rfl rfl (w_n rfl) ?_
      refine TL_seq ?_
      refine T_seq (T_region ?_)
      refine TL_q (.slice (some ⟨b3, of3, none⟩) l.length cap) (fun _ _ hρ _ => r_move (hρ _ _ rfl)) rfl rfl rfl (w_n rfl) ?_
      refine TL_q (.int .i64 ((l.length - 4 : Nat) : Int)) (fun _ _ hρ _ => r_move (hρ _ _ rfl)) rfl rfl rfl (w_n rfl) ?_
      refine TL_q (.int .i64 ((i : Nat) : Int)) (fun _ _ hρ _ => r_move (hρ _ _ rfl)) rfl rfl rfl (w_n rfl) ?_
      refine TL_q (.int .i64 (((l.length - 4) + i : Nat) : Int)) (fun _ _ hρ _ => r_as (r_add (hρ _ _ rfl) (hρ _ _ rfl)) (int_as ((wrap64 (by omega) (by omega)).trans (by omega)))) rfl rfl rfl (w_n rfl) ?_
      refine TL_q (.pointer (some ⟨b3, of3 + ((l.length - 4) + i) * 1, none⟩)) (fun _ _ hρ _ => r_indexAddrS (i := (l.length - 4) + i) sl34 sz5 (hρ _ _ rfl) (hρ _ _ rfl) (by omega)) rfl rfl rfl (w_n rfl) ?_
      refine TL_q (.int .u8 ((y).toNat : Int)) (fun _ _ hρ hm => r_loadRow1 (f := byc) (u := y) ag5 (hρ _ _ rfl) (hm.old hq3) hr3 hy rfl) rfl rfl rfl (w_n rfl) ?_
      refine TL_q (.int .u8 ((x).toNat : Int)) (fun _ _ hρ _ => r_move (hρ _ _ rfl)) rfl rfl rfl (w_n rfl) ?_
      refine TL_q (.bool (!decide (y = x))) (fun _ _ hρ _ => r_as (r_neq (hρ _ _ rfl) (hρ _ _ rfl)) (bool_as (congrArg (fun b => !b) (bv_dec y x)))) rfl rfl rfl (w_n rfl) ?_
      refine TL_seq ?_
      refine T_cond rfl (fun h2 => ?_) (fun h2 => ?_)
      · replace h2 := of_decide_eq_false (bnot_t h2)
        refine T_seq (T_region ?_)
        refine TL_q (.slice none 0 0) (fun _ _ hρ _ => r_assign (hρ _ _ rfl)) rfl rfl rfl (w_n rfl) ?_
        refine TL_q (.bool false) (fun _ _ hρ _ => r_assign (hρ _ _ rfl)) rfl rfl rfl (w_n rfl) ?_
        refine TL_seq ?_
        refine T_ret' ?_
        refine p_blk_r ?_
        refine p_then_r ?_
        refine p_then_r ?_
        refine p_blk_r ?_
        refine p_then_r ?_
        refine ret_of rfl (.tuple #[.slice none 0 0, .bool false]) (fun tmps w hk hm => res2 rfl (res_tmp (hk 2 _ rfl)) (res_tmp (hk 3 _ rfl))) (fun w hm => ?_)
        have e0 : openP l = none := open_ref_f (by omega) hl1 hx hy h2
        have e1 : openL l = [] := by unfold openL; rw [e0]; rfl
        have e2 : openB l = false := by unfold openB; rw [e0]; try rfl
        rw [e1, e2]
        exact ⟨none, 0, rfl, hm.ext, World.ownsRow_nil _ _ _ _⟩
      · replace h2 := of_decide_eq_true (bnot_f h2)
        refine T_skip' ?_
        refine p_blk_n ?_
        refine p_seq ?_
        refine T_region ?_
        refine TL_q (.int .i64 ((i + 1 : Nat) : Int)) (fun _ _ hρ _ => r_as (r_add (hρ _ _ rfl) (hρ _ _ rfl)) (int_as ((wrap64 (by omega) (by omega)).trans (by omega)))) rfl rfl rfl (w_n rfl) ?_
        refine TL_q (.int .i64 ((i + 1 : Nat) : Int)) (fun _ _ hρ _ => r_move (hρ _ _ rfl)) rfl rfl rfl (w_n rfl) ?_
        refine TL_nil ?_
        exact p_at (i + 1) ⟨⟨by omega, upto_snoc hij (hy.trans (by rw [hx, h2]))⟩, by omega⟩ (sub_cons rfl (sub_cons rfl (sub_cons rfl (sub_cons rfl (sub_cons rfl sub_nil))))) (sub_cons rfl sub_nil)
    · replace h1 := of_decide_eq_false h1
      refine T_exit' ?_
      refine p_then_x ?_
      refine p_then_x ?_
      refine p_blk_x ?_
      refine p_seq ?_
      refine T_seq (T_region ?_)
      refine TL_new 2 (.cells #[] 5) (fun B => .slice (some ⟨B, 0, none⟩) 0 0) (fun _ _ _ _ => r_buildSlice (vs := []) (by kernel_rfl) rfl) rfl rfl rfl (w_n rfl) ?_
      intro B4
      refine TL_q (.slice a l.length cap) (fun _ _ hρ _ => r_move (hρ _ _ rfl)) rfl rfl rfl (w_n rfl) ?_
      refine TL_q (.int .i64 ((l.length - 4 : Nat) : Int)) (fun _ _ hρ _ => r_move (hρ _ _ rfl)) rfl rfl rfl (w_n rfl) ?_
      obtain ⟨l5, hl5, hn5⟩ : ∃ lz, lz = l.take (l.length - 4) ∧ lz.length = l.length - 4 := ⟨_, rfl, by rw [List.length_take]; omega⟩
      have hs5 := SliceAt.front hv (n := l.length - 4) (m := cap) (by omega) (by omega) (by omega)
      rw [← hl5] at hs5
      refine TL_q (.slice a l5.length cap) (fun ρ _ hρ _ => r_as (r_sliceO sl34 sz5 (hρ _ _ rfl) (bd_none ρ _) (bd_some (n := l.length - 4) (hρ _ _ rfl)) (bd_none ρ _) (by simp) (by omega) (by omega) (by omega)) (by rw [hn5]; exact slo_zero _ _ _ _)) rfl rfl rfl (w_n rfl) ?_
      refine TL_mem ([(2, .row (.slice (some ⟨B4, 0, none⟩) 0 0) 5 1 0 []), (1, .blk F2 (.cells (((four (sumC 0#32 l1)).flatMap byc).toArray) 5))]) (fun _ hm => MemOk.sub (hm.toRow (n := 0) (cap := 0) (s := 1) 2 rfl rfl (by omega) rfl _ rfl) (sub_cons rfl (sub_cons rfl sub_nil))) ?_
      refine TL_append (n := 0) (m := l5.length) (xs := []) (news := (l5.flatMap byc)) (z := .int .u8 0) 2 rfl rfl rfl sl34 sz5 by5 (by kernel_rfl) rfl rfl (.inl rfl) (fun _ hm => by have := src_of byc_len (hs5.keep hm.ext); simpa using this) (by intro u hu; obtain ⟨x, _, hx⟩ := List.mem_flatMap.1 hu; exact byc_one x u hx) (by omega) (by omega) rfl (w_n rfl) ?_
      intro a6 cap6
      refine TL_q (.slice a6 (0 + l5.length) cap6) (fun _ _ hρ _ => r_assign (hρ _ _ rfl)) rfl rfl rfl (w_n rfl) ?_
      refine TL_q (.bool true) (fun _ _ hρ _ => r_assign (hρ _ _ rfl)) rfl rfl rfl (w_n rfl) ?_
      refine TL_seq ?_
      refine T_ret' ?_
      refine ret_of rfl (.tuple #[.slice a6 (0 + l5.length) cap6, .bool true]) (fun tmps w hk hm => res2 rfl (res_tmp (hk 2 _ rfl)) (res_tmp (hk 3 _ rfl))) (fun w hm => ?_)
      have e0 : openP l = some l5 := open_ref_t h4 hl5 hl1 (fun j hj => hij j (by omega))
      have e1 : openL l = l5 := by unfold openL; rw [e0]; rfl
      have e2 : openB l = true := by unfold openB; rw [e0]; try rfl
      rw [e1, e2]
      have hrow := hm.row 2 rfl
      simp only [Nat.zero_add, List.nil_append] at hrow ⊢
      exact ⟨a6, cap6, rfl, hm.ext, hrow⟩
  · skip
    refine T_seq (T_region ?_)
    refine TL_q (.slice a l.length cap) (fun _ _ hρ _ => r_move (hρ _ _ rfl)) rfl rfl rfl (w_n rfl) ?_
    refine TL_q (.int .i64 ((l.length : Nat) : Int)) (fun _ _ hρ _ => r_len sl34 (hρ _ _ rfl)) rfl rfl rfl (w_n rfl) ?_
    refine TL_q (.int .i64 (((l.length : Nat) : Int) - 4)) (fun _ _ hρ _ => r_as (r_sub (hρ _ _ rfl) (hρ _ _ rfl)) (int_as (wrap64 (by omega) (by omega)))) rfl rfl rfl (w_n rfl) ?_
    refine TL_q (.int .i64 (((l.length : Nat) : Int) - 4)) (fun _ _ hρ _ => r_assign (hρ _ _ rfl)) rfl rfl rfl (w_n rfl) ?_
    refine TL_seq ?_
    refine T_seq ?_
    have hng : ((l.length : Nat) : Int) - 4 < 0 := by omega
    refine T_seq (T_region ?_)
    refine TL_q (.int .i64 (((l.length : Nat) : Int) - 4)) (fun _ _ hρ _ => r_move (hρ _ _ rfl)) rfl rfl rfl (w_n rfl) ?_
    refine TL_q (.bool true) (fun _ _ hρ _ => r_as (r_lss (hρ _ _ rfl) (hρ _ _ rfl)) (bool_as (decide_eq_true hng))) rfl rfl rfl (w_n rfl) ?_
    refine TL_seq ?_
    refine T_cond_t rfl ?_
    refine T_seq (T_region ?_)
    refine TL_q (.slice none 0 0) (fun _ _ hρ _ => r_assign (hρ _ _ rfl)) rfl rfl rfl (w_n rfl) ?_
    refine TL_q (.bool false) (fun _ _ hρ _ => r_assign (hρ _ _ rfl)) rfl rfl rfl (w_n rfl) ?_
    refine TL_seq ?_
    refine T_ret' ?_
    refine p_then_r ?_
    refine ret_of rfl (.tuple #[.slice none 0 0, .bool false]) (fun tmps w hk hm => res2 rfl (res_tmp (hk 2 _ rfl)) (res_tmp (hk 3 _ rfl))) (fun w hm => ?_)
    have e0 : openP l = none := open_s h4
    have e1 : openL l = [] := by unfold openL; rw [e0]; rfl
    have e2 : openB l = false := by unfold openB; rw [e0]; try rfl
    rw [e1, e2]
    exact ⟨none, 0, rfl, hm.ext, World.ownsRow_nil _ _ _ _⟩

end Go.Proofs.Ytcidgbjgeegepaa
/- journal: records of bytes, and what holds of bytes (plainly). -/
namespace Go.Proofs.Ytcidgbjgeegepaa
open Go Go.RowKit
/-- The number that bytes tell. -/
def numN (l : List By) : Nat := l.foldl (fun n x => 256 * n + x.toNat) 0
def lenB (n : Nat) : List By := [BitVec.ofNat 8 (n / 16777216), BitVec.ofNat 8 (n / 65536), BitVec.ofNat 8 (n / 256), BitVec.ofNat 8 n]
theorem lenB_len (n : Nat) : (lenB n).length = 4 := rfl
theorem num_lenB {n : Nat} (h : n ≤ 65536) : numN (lenB n) = n := by
  unfold numN lenB
  simp only [List.foldl_cons, List.foldl_nil, BitVec.toNat_ofNat]
  omega
/-- A record of bytes. -/
def recP (l : List By) : List By := sealP (lenB l.length ++ l)
theorem recP_len (l : List By) : (recP l).length = l.length + 8 := by
  unfold recP sealP
  simp only [List.length_append, lenB_len, four_len]; omega
def joinP (rows : List (List By)) : List By := rows.flatMap recP
/-- How many bytes the record says that it holds. -/
def numP (l : List By) : Nat := numN (l.take 4)
/-- Why bytes begin with no record; 0: they do. -/
def firstE (l : List By) : Int := if l.length < 4 then 110 else if 65536 < numP l then 3 else if l.length < numP l + 8 then 110 else if (openP (l.take (numP l + 8))).isNone then 120 else 0
/-- What the first record holds. -/
def heldP (l : List By) : List By := (openL (l.take (numP l + 8))).drop 4
theorem first_ok {l : List By} (h : firstE l = 0) : 4 ≤ l.length ∧ numP l ≤ 65536 ∧ numP l + 8 ≤ l.length ∧ ∃ x, openP (l.take (numP l + 8)) = some x := by
  unfold firstE at h
  split at h
  · cases h
  · split at h
    · cases h
    · split at h
      · cases h
      · split at h
        · cases h
        · rename_i h1 h2 h3 h4
          refine ⟨by omega, by omega, by omega, ?_⟩
          cases e : openP (l.take (numP l + 8)) with
          | none => rw [e] at h4; exact absurd rfl h4
          | some x => exact ⟨x, rfl⟩
theorem openP_len {l x : List By} (h : openP l = some x) : x.length + 4 = l.length := by
  unfold openP at h
  split at h
  · rename_i h1
    cases h
    rw [List.length_take]; omega
  · cases h
theorem heldP_len {l : List By} (h : firstE l = 0) : (heldP l).length = numP l := by
  obtain ⟨h1, h2, h3, x, hx⟩ := first_ok h
  unfold heldP openL
  rw [hx]
  have := openP_len hx
  rw [List.length_take] at this
  show (x.drop 4).length = _
  rw [List.length_drop]; omega
theorem numP_app {l t : List By} (h : 4 ≤ l.length) : numP (l ++ t) = numP l := by
  unfold numP
  rw [List.take_append_of_le_length h]
theorem recP_take4 (r : List By) : (recP r).take 4 = lenB r.length := by
  unfold recP sealP
  rw [List.append_assoc, List.take_append_of_le_length (by rw [lenB_len]; exact Nat.le_refl _)]
  exact List.take_of_length_le (by rw [lenB_len]; exact Nat.le_refl _)
theorem numP_rec {r : List By} (h : r.length ≤ 65536) (t : List By) : numP (recP r ++ t) = r.length := by
  rw [numP_app (by rw [recP_len]; omega)]
  unfold numP
  rw [recP_take4, num_lenB h]
theorem first_rec {r : List By} (h : r.length ≤ 65536) (t : List By) : firstE (recP r ++ t) = 0 ∧ heldP (recP r ++ t) = r := by
  have hn := numP_rec h t
  have ht : (recP r ++ t).take (numP (recP r ++ t) + 8) = recP r := by
    rw [hn, ← recP_len, List.take_append_of_le_length (Nat.le_refl _)]
    exact List.take_of_length_le (Nat.le_refl _)
  have hl : (recP r ++ t).length = r.length + 8 + t.length := by rw [List.length_append, recP_len]
  constructor
  · unfold firstE
    rw [if_neg (by omega), if_neg (by omega), if_neg (by omega), ht]
    unfold recP
    rw [open_seal]; rfl
  · unfold heldP openL
    rw [ht]
    unfold recP
    rw [open_seal]
    rfl
/-- The records that hold: where each begins, and what it holds. -/
def scanF : Nat → Nat → List By → List (Nat × List By)
  | 0, _, _ => []
  | n + 1, at', l => if firstE l = 0 then (at', heldP l) :: scanF n (at' + (numP l + 8)) (l.drop (numP l + 8)) else []
theorem scanF_more : ∀ (n m at' : Nat) (l : List By), l.length ≤ n → l.length ≤ m → scanF n at' l = scanF m at' l
  | 0, m, at', l, h, _ => by
    have e : l = [] := List.eq_nil_of_length_eq_zero (by omega)
    subst e
    cases m with
    | zero => rfl
    | succ m =>
      show [] = if firstE [] = 0 then _ else _
      rw [if_neg (by decide)]
  | n + 1, 0, at', l, _, h => by
    have e : l = [] := List.eq_nil_of_length_eq_zero (by omega)
    subst e
    show (if firstE [] = 0 then _ else _) = []
    rw [if_neg (by decide)]
  | n + 1, m + 1, at', l, h, h2 => by
    unfold scanF
    by_cases e : firstE l = 0
    · rw [if_pos e, if_pos e, scanF_more n m _ _ (by rw [List.length_drop]; omega) (by rw [List.length_drop]; omega)]
    · rw [if_neg e, if_neg e]
def scanA (at' : Nat) (l : List By) : List (Nat × List By) := scanF l.length at' l
theorem scanA_t {l : List By} (at' : Nat) (h : firstE l = 0) : scanA at' l = (at', heldP l) :: scanA (at' + (numP l + 8)) (l.drop (numP l + 8)) := by
  have h3 := (first_ok h).2.2.1
  unfold scanA
  rw [scanF_more l.length (l.length + 1) _ _ (Nat.le_refl _) (Nat.le_succ _)]
  show (if firstE l = 0 then _ else _) = _
  rw [if_pos h, scanF_more l.length (l.drop (numP l + 8)).length _ _ (by rw [List.length_drop]; omega) (Nat.le_refl _)]
theorem scanA_f {l : List By} (at' : Nat) (h : ¬ firstE l = 0) : scanA at' l = [] := by
  unfold scanA
  rw [scanF_more l.length (l.length + 1) _ _ (Nat.le_refl _) (Nat.le_succ _)]
  show (if firstE l = 0 then _ else _) = _
  rw [if_neg h]
/-- The rows that are held; where the records begin; how many bytes they have. -/
abbrev heldsV (l : List By) : List (List By) := (scanA 0 l).map (·.2)
abbrev placesV (l : List By) : List Nat := (scanA 0 l).map (·.1)
def endS (ys : List (Nat × List By)) (z : Nat) : Nat := ys.foldl (fun _ y => y.1 + (y.2.length + 8)) z
theorem endS_snoc (ys : List (Nat × List By)) (y : Nat × List By) (z : Nat) : endS (ys ++ [y]) z = y.1 + (y.2.length + 8) := by unfold endS; rw [List.foldl_append]; rfl
abbrev sizeV (l : List By) : Nat := endS (scanA 0 l) 0
/-- The same, by what is left. -/
theorem scan_end : ∀ (n at' : Nat) (l : List By), l.length ≤ n → ∃ d, endS (scanA at' l) at' = at' + d ∧ d ≤ l.length ∧ firstE (l.drop d) ≠ 0 ∧ ∀ at2, scanA at2 (l.take d) = scanA at2 l ∧ endS (scanA at2 l) at2 = at2 + d := by
  intro n
  induction n with
  | zero =>
    intro at' l h
    have e : l = [] := List.eq_nil_of_length_eq_zero (by omega)
    subst e
    exact ⟨0, rfl, Nat.le_refl _, by decide, fun _ => ⟨rfl, rfl⟩⟩
  | succ n ih =>
    intro at' l h
    by_cases e : firstE l = 0
    · obtain ⟨h1, h2, h3, x, hx⟩ := first_ok e
      obtain ⟨d, hd, hd2, hd3, hd4⟩ := ih (at' + (numP l + 8)) (l.drop (numP l + 8)) (by rw [List.length_drop]; omega)
      have hl := heldP_len e
      rw [List.length_drop] at hd2
      have key : ∀ at2, endS (scanA at2 l) at2 = at2 + (numP l + 8 + d) := fun at2 => by
        rw [scanA_t at2 e]
        show endS (scanA _ _) (at2 + ((heldP l).length + 8)) = _
        rw [hl, (hd4 _).2]; omega
      have hlt : (l.take (numP l + 8 + d)).length = numP l + 8 + d := by rw [List.length_take]; omega
      have htake : ∀ j, j ≤ numP l + 8 → (l.take (numP l + 8 + d)).take j = l.take j := fun j hj => by rw [List.take_take, Nat.min_eq_left (by omega)]
      have hnum : numP (l.take (numP l + 8 + d)) = numP l := by
        show numN ((l.take (numP l + 8 + d)).take 4) = numN (l.take 4)
        rw [htake 4 (by omega)]
      have hopen : (l.take (numP l + 8 + d)).take (numP (l.take (numP l + 8 + d)) + 8) = l.take (numP l + 8) := by rw [hnum, htake _ (Nat.le_refl _)]
      have he : firstE (l.take (numP l + 8 + d)) = 0 := by
        unfold firstE
        rw [if_neg (by omega), if_neg (by omega), if_neg (by omega), hopen, hx]; rfl
      have hh : heldP (l.take (numP l + 8 + d)) = heldP l := by
        show (openL ((l.take (numP l + 8 + d)).take _)).drop 4 = _
        rw [hopen]; rfl
      refine ⟨numP l + 8 + d, key at', by omega, by rw [List.drop_drop] at hd3; exact hd3, fun at2 => ⟨?_, key at2⟩⟩
      rw [scanA_t at2 he, scanA_t at2 e, hh, hnum]
      congr 1
      rw [List.drop_take, show numP l + 8 + d - (numP l + 8) = d by omega]
      exact (hd4 _).1
    · rw [scanA_f at' e]
      refine ⟨0, rfl, Nat.zero_le _, e, fun at2 => ⟨?_, ?_⟩⟩
      · rw [scanA_f at2 e]; exact scanA_f at2 (show ¬ firstE [] = 0 by decide)
      · rw [scanA_f at2 e]; rfl
theorem size_le (l : List By) : sizeV l ≤ l.length := by
  obtain ⟨d, h1, h2, _⟩ := scan_end l.length 0 l (Nat.le_refl _)
  unfold sizeV; omega
theorem size_rest (l : List By) : firstE (l.drop (sizeV l)) ≠ 0 := by
  obtain ⟨d, h1, h2, h3, _⟩ := scan_end l.length 0 l (Nat.le_refl _)
  rw [show sizeV l = d from h1.trans (Nat.zero_add d)]; exact h3
/-- Why no more bytes hold. -/
def whyE (l : List By) : Int := if sizeV l = l.length then 0 else firstE (l.drop (sizeV l))
theorem whyE_ok {l : List By} : whyE l = 0 ↔ sizeV l = l.length := by
  unfold whyE
  split
  · rename_i h; exact ⟨fun _ => h, fun _ => rfl⟩
  · rename_i h; exact ⟨fun e => absurd e (size_rest l), fun e => absurd e h⟩
/-! ### what is joined is scanned -/
theorem join_cons (r : List By) (rs : List (List By)) : joinP (r :: rs) = recP r ++ joinP rs := rfl
theorem join_app (a b : List (List By)) : joinP (a ++ b) = joinP a ++ joinP b := List.flatMap_append
def joinL (rows : List (List By)) : Nat := (joinP rows).length
theorem joinL_cons (r : List By) (rs : List (List By)) : joinL (r :: rs) = r.length + 8 + joinL rs := by unfold joinL; rw [join_cons, List.length_append, recP_len]
theorem scan_join : ∀ (rows : List (List By)) (at' : Nat) (t : List By), (∀ r ∈ rows, r.length ≤ 65536) → firstE t ≠ 0 → (scanA at' (joinP rows ++ t)).map (·.2) = rows ∧ endS (scanA at' (joinP rows ++ t)) at' = at' + joinL rows ∧ (scanA at' (joinP rows ++ t)).map (·.1) = (List.range rows.length).map (fun k => at' + joinL (rows.take k))
  | [], at', t, _, ht => by
    show (scanA at' t).map _ = _ ∧ _
    rw [show joinP [] ++ t = t from rfl, scanA_f at' ht]
    exact ⟨rfl, rfl, rfl⟩
  | r :: rs, at', t, h, ht => by
    have hr := h r (List.mem_cons_self ..)
    have e : joinP (r :: rs) ++ t = recP r ++ (joinP rs ++ t) := by rw [join_cons, List.append_assoc]
    obtain ⟨f1, f2⟩ := first_rec hr (joinP rs ++ t)
    have hn := numP_rec hr (joinP rs ++ t)
    have hd : (recP r ++ (joinP rs ++ t)).drop (r.length + 8) = joinP rs ++ t := by
      rw [← recP_len, List.drop_append_of_le_length (Nat.le_refl _), List.drop_of_length_le (Nat.le_refl _)]; rfl
    obtain ⟨i1, i2, i3⟩ := scan_join rs (at' + (r.length + 8)) t (fun q hq => h q (List.mem_cons_of_mem _ hq)) ht
    rw [e, scanA_t at' f1, f2, hn, hd]
    refine ⟨?_, ?_, ?_⟩
    · rw [List.map_cons, i1]
    · show endS (scanA _ _) (at' + (r.length + 8)) = _
      rw [i2, joinL_cons]; omega
    · rw [List.map_cons, i3, List.length_cons, List.range_succ_eq_map, List.map_cons, List.map_map]
      congr 1
      refine List.map_congr_left fun k _ => ?_
      show _ = at' + joinL ((r :: rs).take (k + 1))
      rw [List.take_succ_cons, joinL_cons]; omega
/-- A front of a record is too short. -/
theorem first_front {r : List By} (hr : r.length ≤ 65536) (t : List By) {c : Nat} (hc : c < r.length + 8) : firstE ((recP r ++ t).take c) = 110 := by
  have hl : ((recP r ++ t).take c).length = c := by rw [List.length_take, List.length_append, recP_len]; omega
  unfold firstE
  rw [hl]
  by_cases h4 : c < 4
  · rw [if_pos h4]
  · have hn : numP ((recP r ++ t).take c) = r.length := by
      rw [← numP_rec hr t]
      unfold numP
      rw [List.take_take, Nat.min_eq_left (by omega)]
    rw [if_neg h4, hn, if_neg (by omega), if_pos hc]
/-- How many of the records are there, of a front so long. -/
def manyJ : List (List By) → Nat → Nat
  | [], _ => 0
  | r :: rs, c => if r.length + 8 ≤ c then manyJ rs (c - (r.length + 8)) + 1 else 0
theorem front_join : ∀ (rows : List (List By)) (c : Nat), (∀ r ∈ rows, r.length ≤ 65536) → c ≤ joinL rows → ∃ t, (joinP rows).take c = joinP (rows.take (manyJ rows c)) ++ t ∧ (t = [] ∨ firstE t = 110) ∧ joinL (rows.take (manyJ rows c)) + t.length = c
  | [], c, _, hc => by
    have : c = 0 := Nat.le_zero.1 hc
    subst this
    exact ⟨[], rfl, .inl rfl, rfl⟩
  | r :: rs, c, h, hc => by
    have hr := h r (List.mem_cons_self ..)
    rw [joinL_cons] at hc
    unfold manyJ
    split
    · rename_i h8
      obtain ⟨t, h1, h2, h3⟩ := front_join rs (c - (r.length + 8)) (fun q hq => h q (List.mem_cons_of_mem _ hq)) (by omega)
      refine ⟨t, ?_, h2, ?_⟩
      · rw [List.take_succ_cons, join_cons, join_cons, List.append_assoc, ← h1, List.take_append, List.take_of_length_le (by rw [recP_len]; omega), recP_len]
      · rw [List.take_succ_cons, joinL_cons]; omega
    · rename_i h8
      refine ⟨(joinP (r :: rs)).take c, rfl, ?_, ?_⟩
      · right
        rw [join_cons]
        exact first_front hr _ (by omega)
      · show joinL [] + _ = c
        rw [List.length_take]
        have : (joinP (r :: rs)).length = r.length + 8 + joinL rs := joinL_cons r rs
        show 0 + _ = c
        omega
theorem first_nil : firstE [] ≠ 0 := by decide
theorem torn {rows : List (List By)} {c : Nat} (h : ∀ r ∈ rows, r.length ≤ 65536) (hc : c ≤ joinL rows) : heldsV ((joinP rows).take c) = rows.take (manyJ rows c) ∧ sizeV ((joinP rows).take c) = joinL (rows.take (manyJ rows c)) ∧ (whyE ((joinP rows).take c) = 0 ↔ joinL (rows.take (manyJ rows c)) = c) ∧ (whyE ((joinP rows).take c) = 0 ∨ whyE ((joinP rows).take c) = 110) := by
  obtain ⟨t, h1, h2, h3⟩ := front_join rows c h hc
  have ht : firstE t ≠ 0 := by
    rcases h2 with rfl | e
    · exact first_nil
    · rw [e]; decide
  obtain ⟨i1, i2, _⟩ := scan_join (rows.take (manyJ rows c)) 0 t (fun q hq => h q (List.mem_of_mem_take hq)) ht
  rw [Nat.zero_add] at i2
  have hlen : ((joinP rows).take c).length = c := by rw [List.length_take]; exact Nat.min_eq_left hc
  have hs : sizeV ((joinP rows).take c) = joinL (rows.take (manyJ rows c)) := by unfold sizeV; rw [h1]; exact i2
  refine ⟨by unfold heldsV; rw [h1]; exact i1, hs, ?_, ?_⟩
  · rw [whyE_ok, hs, hlen]
  · unfold whyE
    rw [hs, hlen]
    by_cases e : joinL (rows.take (manyJ rows c)) = c
    · rw [if_pos e]; exact .inl rfl
    · rw [if_neg e]
      right
      rcases h2 with rfl | e2
      · exact absurd h3 (by rw [List.length_nil]; exact e)
      · rw [h1]
        unfold joinL
        rw [List.drop_append_of_le_length (Nat.le_refl _), List.drop_of_length_le (Nat.le_refl _)]
        exact e2
theorem joined {rows : List (List By)} (h : ∀ r ∈ rows, r.length ≤ 65536) : heldsV (joinP rows) = rows ∧ sizeV (joinP rows) = joinL rows ∧ placesV (joinP rows) = (List.range rows.length).map (fun k => joinL (rows.take k)) := by
  obtain ⟨i1, i2, i3⟩ := scan_join rows 0 [] h first_nil
  rw [List.append_nil] at i1 i2 i3
  refine ⟨i1, by unfold sizeV; rw [i2, Nat.zero_add], i3.trans (List.map_congr_left fun k _ => Nat.zero_add _)⟩
end Go.Proofs.Ytcidgbjgeegepaa
/- Rows of one's own, many of them at once: none in another's block. Over any program. -/
namespace Go.Proofs.Ytcidgbjgeegepaa
open Go Go.RowKit
/-- A row: where it lies, its room, its elements. -/
structure RowG (α : Type) where
  a : Option Addr
  cap : Nat
  l : List α
section
variable {α : Type} {e : TypeId} {s : Nat} {f : α → List Value}
abbrev RowG.v (r : RowG α) : Value := .slice r.a r.l.length r.cap
abbrev RowG.cells (r : RowG α) : List Value := [r.v]
theorem RowG.cells_len (r : RowG α) : r.cells.length = 1 := rfl
/-- In memory as it is told. -/
abbrev RowG.ok (s : Nat) (f : α → List Value) (w : World) (r : RowG α) : Prop := SliceAt w r.a r.cap s f r.l
def apart (r q : RowG α) : Prop := ∀ b, r.v.ownBlock = some b → q.v.ownBlock ≠ some b
/-- All of them are one's own. -/
def manyH (e : TypeId) (s : Nat) (f : α → List Value) (rs : List (RowG α)) (w : World) : Prop :=
  (∀ r ∈ rs, w.ownsRow 0 e s r.v r.l.length (r.l.flatMap f)) ∧ rs.Pairwise apart
def manyF (rs : List (RowG α)) (b : Nat) : Prop := ∃ r ∈ rs, r.v.ownBlock = some b
abbrev Res.many (e : TypeId) (s : Nat) (f : α → List Value) (rs : List (RowG α)) : Res := .abs (manyF rs) (manyH e s f rs)
theorem many_keep {rs : List (RowG α)} (w1 w2 : World) (h : manyH e s f rs w1) (hb : ∀ b, manyF rs b → hp w2 b = hp w1 b) : manyH e s f rs w2 :=
  ⟨fun r hr => Res.keep (r := .row r.v e s r.l.length (r.l.flatMap f)) (h.1 r hr) fun b hf => hb b ⟨r, hr, hf⟩, h.2⟩
/-- Nothing. -/
abbrev Res.no : Res := .abs (fun _ => False) (fun _ => True)
theorem MemOk.many {w₀ w : World} {L : Heap} (h : MemOk w₀ L w) (k : Nat) {rs : List (RowG α)} (hk : lk L k = some (.many e s f rs)) : manyH e s f rs w := (h.own k _ hk).1
/-- A row of one's own goes to the others. -/
theorem MemOk.push {w₀ w : World} {L : Heap} (h : MemOk w₀ L w) (k j : Nat) {rs : List (RowG α)} {a : Option Addr} {n cap : Nat} {l : List α} (hk : lk L k = some (.many e s f rs)) (hj : lk L j = some (.row (.slice a n cap) e s n (l.flatMap f))) (hn : n = l.length) (hne : Nat.beq k j = false) :
    MemOk w₀ ((k, .many e s f (rs ++ [⟨a, cap, l⟩])) :: (j, .no) :: L) w := by
  subst hn
  have hkj : k ≠ j := fun e => by subst e; rw [Nat.beq_refl] at hne; cases hne
  have ok1 := h.own k _ hk
  have ok2 := h.own j _ hj
  have h0 : MemOk w₀ ((j, .no) :: L) w := h.set j _ h.ext ⟨trivial, (fun _ hb => hb.elim), fun _ _ _ _ => trivial⟩ (fun _ _ _ _ b _ => ⟨rfl, id⟩)
  refine h0.set k _ h0.ext ⟨⟨fun r hr => ?_, ?_⟩, ?_, many_keep⟩ (fun i r hi hne' b hb => ⟨rfl, ?_⟩)
  · rcases List.mem_append.1 hr with h1 | h1
    · exact ok1.1.1 r h1
    · rw [List.mem_singleton.1 h1]; exact Res.lift (r := .row _ _ _ _ _) ok2 (Nat.zero_le _)
  · refine List.pairwise_append.2 ⟨ok1.1.2, List.pairwise_singleton _ _, fun r hr q hq => ?_⟩
    rw [List.mem_singleton.1 hq]
    exact fun b hb hc => h.sep k j _ _ hk hj hkj b ⟨r, hr, hb⟩ hc
  · rintro b ⟨r, hr, hb⟩
    rcases List.mem_append.1 hr with h1 | h1
    · exact ok1.2.1 b ⟨r, h1, hb⟩
    · rw [List.mem_singleton.1 h1] at hb; exact Res.low ok2 hb
  · rintro ⟨q, hq, hqb⟩
    by_cases e2 : j = i
    · subst e2; rw [lk_cons_same] at hi; cases hi; exact hb
    · rw [lk_cons_other _ _ e2] at hi
      rcases List.mem_append.1 hq with h1 | h1
      · exact h.sep k i _ _ hk hi (Ne.symm hne') b ⟨q, h1, hqb⟩ hb
      · rw [List.mem_singleton.1 h1] at hqb
        exact h.sep j i _ _ hj hi e2 b hqb hb
end
end Go.Proofs.Ytcidgbjgeegepaa
/- Operations told by what is known of memory before and behind. Over any program. -/
namespace Go.Proofs.Ytcidgbjgeegepaa
open Go Go.RowKit
section
variable {C : Cx} {ops : Array Oper} {os : List Oper} {Q : Post} {K : List (Nat × Value)} {L : Heap} {o : Oper}
theorem TL_op {ι : Type} {d : Nat} (v : ι → Value) (LN : ι → Heap) (hr : ∀ ρ w, Rd K ρ → MemOk C.w₀ L w → ∃ x w', (execOp ρ o).run C.P w = .ok (.value (v x)) w' ∧ MemOk C.w₀ (LN x) w') (hd : o.dst = some d) (hN : Nat.blt d C.N = true) (hn : isDefer o.op = false) (hw : Want ops K o true)
    (h : ∀ x, TL C ops os Q ((d, v x) :: K) (LN x)) : TL C ops (o :: os) Q K L := by
  intro a w hf hm
  unfold wpListIn
  rw [hw.is hf, if_pos rfl]
  obtain ⟨x, w', h1, h2⟩ := hr _ _ hf.rd hm
  refine step_val hn h1 ?_
  rw [hd]
  exact h x _ _ (hf.put _ hN) h2
theorem TL_op1 {d : Nat} (v : Value) (L' : Heap) (hr : ∀ ρ w, Rd K ρ → MemOk C.w₀ L w → ∃ w', (execOp ρ o).run C.P w = .ok (.value v) w' ∧ MemOk C.w₀ L' w') (hd : o.dst = some d) (hN : Nat.blt d C.N = true) (hn : isDefer o.op = false) (hw : Want ops K o true)
    (h : TL C ops os Q ((d, v) :: K) L') : TL C ops (o :: os) Q K L := TL_op (ι := Unit) (fun _ => v) (fun _ => L') (fun ρ w hρ hm => ⟨(), hr ρ w hρ hm⟩) hd hN hn hw (fun _ => h)
theorem TL_opS (L' : Heap) (hr : ∀ ρ w, Rd K ρ → MemOk C.w₀ L w → ∃ w', (execOp ρ o).run C.P w = .ok .skip w' ∧ MemOk C.w₀ L' w') (hd : o.dst = none) (hn : isDefer o.op = false) (hw : Want ops K o true)
    (h : TL C ops os Q K L') : TL C ops (o :: os) Q K L := by
  intro a w hf hm
  unfold wpListIn
  rw [hw.is hf, if_pos rfl]
  obtain ⟨w', h1, h2⟩ := hr _ _ hf.rd hm
  refine step_skip hn h1 ?_
  rw [hd]
  exact h _ _ hf h2
end
section
variable {C : Cx} {R : Rg} {Q : Post} {K0 V : List (Nat × Value)} {lo : Nat} {L : Heap}
end
section
variable {C : Cx} {Q : Post} {K : List (Nat × Value)} {L : Heap}
theorem p_mem {e : Exit} (L' : Heap) (hL : ∀ w, MemOk C.w₀ L w → MemOk C.w₀ L' w) (h : POk C Q e K L') : POk C Q e K L := fun a w hf hm => h a w hf (hL w hm)
end
/-! ### rows of elements of any size: made, copied into, stored into -/
section
variable {P : Program} {w₀ w : World} {L : Heap} {ρ : Operand → Value} {d : Option Tmp} {ty : TypeId} {ps : String} {af : Array Edge} {g : Option (Nat × Bool)}
theorem made_toList {z : Array Value} {s : Nat} (hz : z.size = s) (hs : 0 < s) : ∀ n, (madeCells z (n * s)).toList = (List.replicate n z.toList).flatten
  | 0 => by simp [madeCells]
  | n + 1 => by
    apply List.ext_getElem?
    intro i
    rw [List.replicate_succ, List.flatten_cons]
    by_cases h : i < s
    · rw [List.getElem?_append_left (by rw [Array.length_toList, hz]; exact h)]
      unfold madeCells
      have h2 : i < (n + 1) * s := by rw [Nat.add_mul, Nat.one_mul]; omega
      simp [h2, hz, Nat.mod_eq_of_lt h, h]
    · rw [List.getElem?_append_right (by rw [Array.length_toList, hz]; omega), Array.length_toList, hz, ← made_toList hz hs n]
      unfold madeCells
      by_cases h2 : i < (n + 1) * s
      · have h3 : i - s < n * s := by rw [Nat.add_mul, Nat.one_mul] at h2; omega
        have h4 : i % s = (i - s) % s := by rw [← Nat.mod_eq_sub_mod (by omega)]
        simp [h2, h3, hz, h4]
      · have h3 : ¬ i - s < n * s := by rw [Nat.add_mul, Nat.one_mul] at h2; omega
        simp [h2, h3]
theorem flat_repl {α : Type} {f : α → List Value} {u : α} {xs : List Value} (hf : f u = xs) (n : Nat) : (List.replicate n u).flatMap f = (List.replicate n xs).flatten := by
  rw [List.flatMap_def, List.map_replicate, hf]
theorem o_make {x y : Operand} {t e : TypeId} {n cap by' s : Nat} {z : Value} {α : Type} {f : α → List Value} {u : α} (i : Nat) (hfr : lk L i = none) (hx : ρ x = .int .i64 (n : Nat)) (hy : ρ y = .int .i64 (cap : Nat)) (ht : sliOf P t = some e) (hby : byOf P e = some by') (hs : szOf P e = some s) (hs0 : Nat.blt 0 s = true)
    (hz : zeroOf P e = some z) (hzc : z.cells.toList = f u) (hfl : ∀ x, (f x).length = s) (hnc : n ≤ cap) (h63 : cap ≤ 4611686018427387904) (hb : by' * cap ≤ 140737488355328) (hm : MemOk w₀ L w) :
    ∃ B w', (execOp ρ (mk d (.makeSlice t x y) ty ps af g)).run P w = .ok (.value (.slice (some ⟨B, 0, none⟩) n cap)) w' ∧ MemOk w₀ ((i, .row (.slice (some ⟨B, 0, none⟩) n cap) e s n ((List.replicate n u).flatMap f)) :: L) w' := by
  obtain ⟨ti, hi, hsz⟩ := Option.map_eq_some_iff.1 hs
  obtain ⟨ti', hi', hbz⟩ := Option.map_eq_some_iff.1 hby
  rw [hi] at hi'; cases hi'
  have hzz : ti.zero = some z := by simpa [zeroOf, hi] using hz
  have hs1 : 0 < s := by rw [Nat.blt_eq] at hs0; exact hs0
  have hb' : (ti.bytes : Int) * (cap : Int) ≤ 281474976710656 := by
    have h : ((ti.bytes * cap : Nat) : Int) ≤ 281474976710656 := by rw [hbz]; omega
    rwa [Int.natCast_mul] at h
  have hr := run_make (P := P) w t e ti z (und_sli ht) hi hzz .i64 .i64 n cap (by omega) (by omega) hb' (by omega)
  simp only [Int.toNat_natCast] at hr
  refine ⟨w.heap.size, _, run_v (by rw [hx, hy]; exact hr), ?_⟩
  have hzs : z.cells.size = s := by rw [← Array.length_toList, hzc, hfl]
  refine hm.grow (n := 0) (xs := []) (.inr ⟨hfr, (rfl : (Value.slice none 0 0).ownBlock = none)⟩) (World.grownBy_alloc w _ none) ⟨?_, .inr ⟨w.heap.size, cap, _, rfl, hm.ext.size, Go.heap_alloc_new w _, hnc, by unfold Go.maxLen; omega, ?_, ?_⟩⟩ (.inr rfl)
  · rw [flat_len hfl, List.length_replicate]
  · rw [hsz]; simp [madeCells]
  · rw [hsz, made_toList hzs hs1, hzc, ← flat_repl rfl]
    have : ((List.replicate cap u).flatMap f).take (n * s) = ((List.replicate cap u).take n).flatMap f := by
      have h1 : List.replicate cap u = List.replicate n u ++ List.replicate (cap - n) u := by rw [List.replicate_append_replicate]; congr 1; omega
      rw [h1, List.flatMap_append, List.take_left' (by rw [flat_len hfl, List.length_replicate]), List.take_left' (by rw [List.length_replicate])]
    rw [this, List.take_replicate, Nat.min_eq_left hnc]
theorem o_copy {x y : Operand} {t t2 e : TypeId} {ats : Array TypeId} {n cap B s : Nat} {v2 : Value} {xs news : List Value} (i : Nat) (hi : lk L i = some (.row (.slice (some ⟨B, 0, none⟩) n cap) e s n xs)) (hx : ρ x = .slice (some ⟨B, 0, none⟩) n cap) (hy : ρ y = v2) (hat : ats = #[t, t2])
    (ht : sliOf P t = some e) (hs : szOf P e = some s) (hsrc : Src w v2 s n news) (hone : ∀ u ∈ news, u.oneCell' = true) (hm : MemOk w₀ L w) :
    ∃ w', (execOp ρ (mk d (.call { callee := .builtin .copy, args := #[x, y], argTypes := ats }) ty ps af g)).run P w = .ok (.value (.int .i64 (n : Nat))) w' ∧ MemOk w₀ ((i, .row (.slice (some ⟨B, 0, none⟩) n cap) e s n news) :: L) w' := by
  subst hat
  have hrow := hm.row i hi
  obtain ⟨ti, hti, hsz⟩ := Option.map_eq_some_iff.1 hs
  suffices hg : ∃ w', (Builtin.copy_ #[t, t2] ty #[.slice (some ⟨B, 0, none⟩) n cap, v2]).run P w = .ok (.int .i64 (n : Nat)) w' ∧ MemOk w₀ ((i, .row (.slice (some ⟨B, 0, none⟩) n cap) e s n news) :: L) w' by
    obtain ⟨w', h1, h2⟩ := hg
    refine ⟨w', ?_, h2⟩
    rw [run_builtin]
    simp only [List.map_toArray, List.map_cons, List.map_nil, hx, hy]
    exact run_v h1
  have same : n = 0 → news = [] → MemOk w₀ ((i, .row (.slice (some ⟨B, 0, none⟩) n cap) e s n news) :: L) w := by
    intro h0 hn
    have hx : xs = [] := List.eq_nil_of_length_eq_zero (by rw [hrow.1, h0, Nat.zero_mul])
    subst hn hx
    exact hm.of (lk_dup hi)
  have hl0 : ∀ (x : Addr), (loadCells x 0).run P w = .ok #[] w := fun x => by simpa using run_loadCells_list (P := P) w x [] (by simp)
  rcases hsrc with ⟨rfl, h0, hn⟩ | ⟨x, c, rfl, h0, hn⟩ | ⟨b, off, c, rfl, hl, hcell⟩
  · refine ⟨w, ?_, same h0 hn⟩
    subst h0
    simp [Builtin.copy_, run_underlying (und_sli ht), Builtin.lenOf, Builtin.firstCells, sizeOf, typeInfo, hti, storeCells, goInt]
  · refine ⟨w, ?_, same h0 hn⟩
    subst h0
    simp [Builtin.copy_, run_underlying (und_sli ht), Builtin.lenOf, Builtin.firstCells, sizeOf, typeInfo, hti, storeCells, goInt, hl0]
  · rcases hrow.2 with ⟨h1, _⟩ | ⟨g, cap', cur, h1, hbg, hg, hnc, hcm, hcs, htk⟩
    · cases h1
    · cases h1
      have hle := Nat.mul_le_mul_right s hnc
      have hld := run_loadCells_list (P := P) w ⟨b, off, none⟩ news (fun j u hu => by rw [addr_add]; exact hcell j u hu)
      have hst := run_storeCells_at P B 0 e news 0 cur w hg (by omega) hone
      have hr : (Builtin.copy_ #[t, t2] ty #[.slice (some ⟨B, 0, none⟩) n cap, .slice (some ⟨b, off, none⟩) n c]).run P w = .ok (.int .i64 (n : Nat)) (w.setRow B (cur.toList.take 0 ++ news ++ cur.toList.drop (0 + news.length)).toArray) := by
        simp only [Nat.add_zero] at hst
        simp [Builtin.copy_, run_underlying (und_sli ht), Builtin.lenOf, Builtin.firstCells, sizeOf, typeInfo, hti, hsz, goInt, ← hl, hld]
        simp at hst
        rw [hst]
        rfl
      refine ⟨_, hr, ?_⟩
      refine hm.grow (.inl hi) ⟨rfl, rfl, rfl, by simp, fun k _ hk => setRow_other w B k _ (fun e => hk (by simp [Value.ownBlock, e]))⟩ ⟨hl, .inr ⟨B, cap, _, rfl, hbg, setRow_heap w B cur _ e _ hg, hnc, hcm, ?_, ?_⟩⟩ (.inl rfl)
      · simp only [List.size_toArray, List.length_append, List.length_take, List.length_drop, Array.length_toList]
        omega
      · rw [List.take_zero, List.nil_append, ← hl]
        exact List.take_left
end
/-! ### maps: an entry laid, an entry that has come -/
section
variable {κ μ : Type} {fk : κ → Value} {fv : μ → Value} [DecidableEq κ] {P : Program} {w : World} {kt : TypeId} {ρ : Operand → Value} {d : Option Tmp} {ty : TypeId} {ps : String} {af : Array Edge} {g : Option (Nat × Bool)} {x y v : Operand} {t e : TypeId}
omit [DecidableEq κ] in
omit [DecidableEq κ] in
end
end Go.Proofs.Ytcidgbjgeegepaa
/- A scope with jumps back to one label. Over any program. -/
namespace Go.Proofs.Ytcidgbjgeegepaa
open Go Go.RowKit
theorem least {P : Nat → Prop} : ∀ n, P n → ∃ m, P m ∧ ∀ k, P k → m ≤ k := by
  intro n
  induction n using Nat.strongRecOn with
  | _ n ih =>
    intro h
    by_cases hx : ∃ k, k < n ∧ P k
    · obtain ⟨k, h1, h2⟩ := hx; exact ih k h1 h2
    · exact ⟨n, h, fun k hk => Nat.le_of_not_lt fun hlt => hx ⟨k, hlt, hk⟩⟩
section
variable {C : Cx} {Q : Post} {K : List (Nat × Value)} {L : Heap}
theorem T_jumps {ι : Type} (l : Nat) (p : ι → Prop) (KI : ι → List (Nat × Value)) (LI : ι → Heap) (μ : ι → Nat) {c rest : Code} (hro : C.ro = none) (hl : findLabel c l = some rest)
    (first : T C c (Exit.jump l (At C p KI LI) Q) K L) (pass : ∀ i, p i → T C rest (Exit.jump l (At C (fun j => p j ∧ μ j < μ i) KI LI) Q) (KI i) (LI i)) : T C (.scope c) Q K L := by
  obtain ⟨P, w₀, N, CD, ro⟩ := C
  cases hro
  intro a w hf hm
  let good : Act → World → Nat → Prop := fun a w m => ∃ i, p i ∧ μ i = m ∧ FrOk N CD (KI i) a ∧ MemOk w₀ (LI i) w
  have hex : ∀ a w, ∃ m, (∀ n, good a w n → good a w m) ∧ ∀ k, good a w k → m ≤ k := fun a w => by
    by_cases h : ∃ n, good a w n
    · obtain ⟨n, hn⟩ := h
      obtain ⟨m, h1, h2⟩ := least n hn
      exact ⟨m, fun _ _ => h1, h2⟩
    · exact ⟨0, fun n hn => absurd ⟨n, hn⟩ h, fun k _ => Nat.zero_le _⟩
  let M : Act → World → Nat := fun a w => Classical.choose (hex a w)
  have hM : ∀ a w, (∀ n, good a w n → good a w (M a w)) ∧ ∀ k, good a w k → M a w ≤ k := fun a w => Classical.choose_spec (hex a w)
  refine (wpIn_wide (n := 0)).2 (wp_scope_jumps l (At ⟨P, w₀, N, CD, none⟩ p KI LI) M hl (wpIn_wide.1 (first a w hf hm)) ?_)
  rintro a w ⟨i, hi, hF, hMm⟩
  obtain ⟨i, hi, hμ, hF, hMm⟩ := (hM a w).1 (μ i) ⟨i, hi, rfl, hF, hMm⟩
  refine wpIn_wide.1 (wpIn_mono (pass i hi a w hF hMm) ?_)
  intro e a' w' hq
  cases e with
  | normal => exact hq
  | exit id => exact hq
  | goto l' =>
    obtain ⟨rfl, j, ⟨hj, hlt⟩, h1, h2⟩ := hq
    exact ⟨rfl, ⟨j, hj, h1, h2⟩, by have := (hM a' w').2 (μ j) ⟨j, hj, rfl, h1, h2⟩; omega⟩
  | ret => exact hq
  | panic ch => exact hq
  | outgrown => exact hq
theorem T_goto {l : Nat} (h : POk C Q (.goto l) K L) : T C (.goto l) Q K L := fun a w hf hm => wpIn_goto (h a w hf hm)
theorem p_j_n {l : Nat} {J : Act → World → Prop} (h : POk C Q .normal K L) : POk C (Exit.jump l J Q) .normal K L := h
end
end Go.Proofs.Ytcidgbjgeegepaa
/- Panics, and what recovers of them. Over any program. -/
namespace Go.Proofs.Ytcidgbjgeegepaa
open Go Go.RowKit

section
variable {P : Program} {w : World} {ρ : Operand → Value} {d : Option Tmp} {ty : TypeId} {ps : String} {af : Array Edge} {g : Option (Nat × Bool)} {x : Operand}
theorem r_panic {t : TypeId} {v : Value} (h : ρ x = .iface t v) : (execOp ρ (mk d (.panic x) ty ps af g)).run P w = .halt (.panic (.iface t v)) w := by
  show (do pure (Next.value (← Instr.panic (ρ x))) : Sem Next).run P w = _
  rw [h]; rfl
theorem r_makeIface {t : TypeId} {v : Value} (ht : P.concrete t = true) (h : ρ x = v) : (execOp ρ (mk d (.makeInterface t x) ty ps af g)).run P w = .ok (.value (.iface t v)) w := by
  refine run_v ?_
  rw [h]; exact run_makeInterface _ _ _ ht
theorem r_typeAssert {t u : TypeId} {v r : Value} {ok : Bool} (h : ρ x = v) (hr : (Instr.typeAssert v t u ok).run P w = .ok r w) : (execOp ρ (mk d (.typeAssert x t u ok) ty ps af g)).run P w = .ok (.value r) w := by
  refine run_v ?_
  rw [h]; exact hr
variable {y : Operand}
/-- An interface value, against nil. -/
theorem r_eqI {op : BinOp} {t t' : TypeId} {a : Value} {r : Bool} (hg : (eqGuard op t x y a .nilIface).run P w = .ok () w) (hx : ρ x = a) (hy : ρ y = .nilIface) (h : (binOp op t a .nilIface).run P w = .ok (.bool r) w) :
    (execOp ρ (mk d (.binOp op t x y t') ty ps af g)).run P w = .ok (.value (.bool r)) w := run_eqv hg hx hy h
end
/-- A function's contract: it panics with a value. -/
def PAns (w₀ : World) {κ : Type} (q : κ → Prop) (x : κ → Value) (LX : κ → Heap) (e : Ending) (w' : World) : Prop := ∃ k, q k ∧ e = .panicked [{ v := x k, recovered := false }] ∧ MemOk w₀ (LX k) w'
section
variable {C : Cx} {ops : Array Oper} {os : List Oper} {Q : Post} {K : List (Nat × Value)} {L : Heap} {o : Oper} {ch : List PanicEntry}
theorem p_then_p {next : Act → World → Prop} (h : POk C Q (.panic ch) K L) : POk C (Exit.then next Q) (.panic ch) K L := h
theorem p_blk_p {id : Nat} (h : POk C Q (.panic ch) K L) : POk C (Exit.inBlock id Q) (.panic ch) K L := h
theorem TL_panic {v : Value} (hr : ∀ ρ w, Rd K ρ → MemOk C.w₀ L w → (execOp ρ o).run C.P w = .halt (.panic v) w) (hn : isDefer o.op = false) (hw : Want ops K o true) (h : POk C Q (.panic [{ v, recovered := false }]) K L) : TL C ops (o :: os) Q K L := by
  intro a w hf hm
  unfold wpListIn
  rw [hw.is hf, if_pos rfl]
  exact step_panic hn (hr _ _ hf.rd hm) (h a w hf hm)
/-- A call that panics. -/
theorem TL_callP {κ : Type} {f : Nat} {args : Array Value} (q : κ → Prop) (x : κ → Value) (LX : κ → Heap) (hr : ∀ ρ w, Rd K ρ → MemOk C.w₀ L w → (execOp ρ o).run C.P w = .ok (.enter f args) w)
    (hc : ∀ w, MemOk C.w₀ L w → Calls C.P f args w (PAns C.w₀ q x LX)) (hn : isDefer o.op = false) (hw : Want ops K o true)
    (h : ∀ k, q k → POk C Q (.panic [{ v := x k, recovered := false }]) K (LX k)) : TL C ops (o :: os) Q K L := by
  intro a w hf hm
  unfold wpListIn
  rw [hw.is hf, if_pos rfl]
  refine step_enter hn (hr _ _ hf.rd hm) (hc w hm) ?_
  rintro e w' ⟨k, hk, rfl, hm'⟩
  exact h k hk _ _ hf hm'
/-- The same, of a callee that leaves memory as it was. -/
theorem TL_callQ {f : Nat} {args : Array Value} {v : Value} (hr : ∀ ρ w, Rd K ρ → MemOk C.w₀ L w → (execOp ρ o).run C.P w = .ok (.enter f args) w)
    (hc : ∀ w, MemOk C.w₀ L w → Calls C.P f args w fun e w' => e = .panicked [{ v, recovered := false }] ∧ Below w.heap.size w w') (hn : isDefer o.op = false) (hw : Want ops K o true)
    (h : POk C Q (.panic [{ v, recovered := false }]) K L) : TL C ops (o :: os) Q K L :=
  TL_callP (κ := Unit) (fun _ => True) (fun _ => v) (fun _ => L) hr (fun w hm => (hc w hm).mono fun e w' ⟨he, hb⟩ => ⟨(), trivial, he, hm.below hb⟩) hn hw fun _ _ => h
theorem p_pan {fn : Func} {R : Ending → World → Prop} (hD : C.D = []) (hR : ∀ w, MemOk C.w₀ L w → R (.panicked ch) w) : POk C (bodyM C.P fn R) (.panic ch) K L := fun a w hf hm => by
  show LeavesInM _ _ _ _ _ _ _ _ _
  rw [hf.defers.trans hD]
  exact hR w hm
theorem p_panD {fn : Func} {R : Ending → World → Prop} (ds : List Deferred) (hD : C.D = ds)
    (h : ∀ tmps, (∀ t u, lk K t = some u → tmps.getD t undef = u) → ∀ w, MemOk C.w₀ L w → Leaves C.P fn tmps R ds (.panicking ch) w) : POk C (bodyPostD C.P fn R) (.panic ch) K L := fun a w hf hm => by
  show Leaves _ _ _ _ a.defers _ _
  rw [hf.defers.trans hD]
  exact h _ hf.knows w hm
end
/-- Behind a panic: the deferred call recovers of it. -/
theorem leavesP_cons {P : Program} {w₀ : World} {fn : Func} {tmps : Array Value} {R : Ending → World → Prop} {f : Nat} {cap args : Array Value} {ds : List Deferred} {L L' : Heap} {v x : Value} (hE : Enters P f)
    (hc : ∀ w, MemOk w₀ L w → CallsD P f (args ++ cap) (.panicking [{ v := x, recovered := false }]) w fun e u' w' => u' = .panicking [{ v := x, recovered := true }] ∧ (e = .returned v ∧ MemOk w₀ L' w')) (h : ∀ w, MemOk w₀ L' w → Leaves P fn tmps R ds .returning w) :
    ∀ w, MemOk w₀ L w → Leaves P fn tmps R ({ target := .fn (.func f) cap, args := args } :: ds) (.panicking [{ v := x, recovered := false }]) w := fun w hm => by
  refine ⟨by simp, .func f, cap, f, args ++ cap, rfl, hE _ w, (hc w hm).mono ?_⟩
  rintro e u' w' ⟨rfl, rfl, hm'⟩
  exact h w' hm'
/-- The modes of the frame that put off a call: ahead of 'recover', behind it, and what it gives. -/
def RecM (u u' : FrameMode) (v : Value) : Prop := (u = .returning ∧ u' = .returning ∧ v = .nilIface) ∨ (u = .panicking [{ v, recovered := false }] ∧ u' = .panicking [{ v, recovered := true }])
/-- The contract of a deferred call that begins with 'x := recover()'. -/
theorem dS_of_T {P : Program} {f : FuncId} {fn : Func} {c : Code} {id : Nat} {oR oA : Oper} {dR dA : Nat} {l : List Value} {w₀ : World} {L : Heap} {R : Ending → World → Prop} (N : Nat) {u u' : FrameMode} {v : Value} (hu : RecM u u' v)
    (hf : P.funcs[f]? = some fn) (hN : fn.ntmps = N) (hn : Nat.ble l.length N = true) (hb : fn.body = some (.seq (.region id #[oR, oA] false) c))
    (hgR : oR.guard = none) (hdR : oR.dst = some dR) (hrR : ∀ ρ w, (execOp ρ oR).run P w = .ok .recover w) (hgA : oA.guard = none) (hdA : oA.dst = some dA) (hrA : ∀ ρ w, (execOp ρ oA).run P w = .ok (.value (ρ (.tmp dR))) w)
    (hlR : Nat.blt dR N = true) (hlA : Nat.blt dA N = true)
    (h : T ⟨P, w₀, N, [], none⟩ c (bodyPost P fn R) ((dA, v) :: (dR, v) :: argsK 0 l) L) : ∀ w, MemOk w₀ L w → CallsD P f l.toArray u w fun e m w' => m = u' ∧ R e w' := by
  intro w hm
  subst hN
  replace hn := Nat.le_of_ble_eq_true hn
  refine callsD_of_wpS hf hb fun c₀ cs hmode => ?_
  apply wpS_seq
  apply wpS_region
  have hfr : FrOk fn.ntmps [] (argsK 0 l) { tmps := l.toArray ++ Array.replicate (fn.ntmps - l.toArray.size) undef, defers := [] } := by
    refine lk_args (by simpa using hn) _ (fun t v ht => ?_)
    obtain ⟨_, h2⟩ := argsK_lk l 0 t v ht
    simpa using h2
  obtain ⟨a, ha⟩ : ∃ a : Act, { tmps := l.toArray ++ Array.replicate (fn.ntmps - l.toArray.size) undef, defers := [] } = a := ⟨_, rfl⟩
  rw [ha] at hfr ⊢
  have hf1 := hfr.put v hlR
  have hev : (a.put (some dR) v).eval (.tmp dR) = v := hf1.knows _ _ (lk_cons_same _ _ _)
  have hf2 := hf1.put v hlA
  have key := wpIn_wide.1 (h _ w hf2 hm)
  have fin : ∀ u'', u'' = u' → (Code.wpS P c (bodyPostS P fn c₀ cs fun e m w' => m = u' ∧ R e w') ((a.put (some dR) v).put (some dA) v) ({ c₀ with mode := u'' } :: cs) w) := by
    rintro _ rfl
    refine wpS_of_wp (Code.wp_mono ?_ key)
    intro e a' w' he
    cases e with
    | normal => obtain ⟨h1, x, h2, h3⟩ := he; exact ⟨h1, _, rfl, x, h2, rfl, h3⟩
    | ret => obtain ⟨h1, x, h2, h3⟩ := he; exact ⟨h1, _, rfl, x, h2, rfl, h3⟩
    | exit id => exact he.elim
    | goto l => exact he.elim
    | panic ch => exact ⟨he.1, _, rfl, rfl, he.2⟩
    | outgrown => exact ⟨_, rfl, he⟩
  show wpOpsS P #[oR, oA] _ [0, 1] a (c₀ :: cs) w
  have hwR : ∀ j, Region.wanted oR j = true := fun j => by unfold Region.wanted; rw [hgR]
  have hwA : ∀ j, Region.wanted oA j = true := fun j => by unfold Region.wanted; rw [hgA]
  simp only [wpOpsS, List.getElem?_toArray, List.getElem?_cons_zero, List.getElem?_cons_succ, hwR, hwA, if_true, hrR, hrA, hdR, hdA, Oper.upon]
  rcases hu with ⟨rfl, rfl, rfl⟩ | ⟨rfl, rfl⟩
  · simp only [recoverD, hmode]
    rw [hev]
    have := fin _ rfl
    rwa [show ({ c₀ with mode := FrameMode.returning } : Frame) = c₀ by rw [← hmode]] at this
  · simp only [recoverD, hmode]
    rw [hev]
    exact fin _ rfl
/-! ### lists of what is known, told otherwise -/
theorem lk_none_of {A : Heap} {k : Nat} (h : ∀ p ∈ A, p.1 ≠ k) : lk A k = none := by
  induction A with
  | nil => rfl
  | cons a A ih =>
    rw [show a :: A = (a.1, a.2) :: A from rfl, lk_cons_other _ _ (h a (by simp))]
    exact ih fun p hp => h p (by simp [hp])
theorem lk_key {A : Heap} {k : Nat} {q : Res} (h : lk A k = some q) : ∃ p ∈ A, p.1 = k := by
  by_cases e : ∃ p ∈ A, p.1 = k
  · exact e
  · rw [lk_none_of (fun p hp e2 => e ⟨p, hp, e2⟩)] at h; cases h
/-- What is ahead, put behind. -/
theorem lk_front {N L : Heap} (A : Heap) (h : ∀ p ∈ A, lk N p.1 = none) : ∀ k q, lk (A ++ (N ++ L)) k = some q → lk (N ++ (A ++ L)) k = some q := fun k q hk => by
  rw [lk_append] at hk
  rw [lk_append]
  cases hA : lk A k with
  | some r =>
    rw [hA] at hk
    obtain ⟨p, hp, rfl⟩ := lk_key hA
    rw [h p hp]
    show lk (A ++ L) p.1 = _
    rw [lk_append, hA]; exact hk
  | none =>
    rw [hA] at hk
    replace hk : lk (N ++ L) k = some q := hk
    rw [lk_append] at hk
    cases hN : lk N k with
    | some r => rw [hN] at hk; exact hk
    | none => rw [hN] at hk; show lk (A ++ L) k = _; rw [lk_append, hA]; exact hk
/-- What is of no more use. -/
theorem lk_drop {L : Heap} (A : Heap) (h : ∀ p ∈ A, lk L p.1 = none) : ∀ k q, lk L k = some q → lk (A ++ L) k = some q := fun k q hk => by
  rw [lk_append]
  cases hA : lk A k with
  | some r => obtain ⟨p, hp, rfl⟩ := lk_key hA; rw [h p hp] at hk; cases hk
  | none => exact hk
/-- What is told anew ahead. -/
theorem lk_mid {L : Heap} (A M : Heap) (h : (M.map (·.1)).all (fun i => (A.map (·.1)).contains i) = true) : ∀ k q, lk (A ++ L) k = some q → lk (A ++ (M ++ L)) k = some q := fun k q hk => by
  rw [lk_append] at hk ⊢
  cases hA : lk A k with
  | some r => rw [hA] at hk; exact hk
  | none =>
    rw [hA] at hk
    show lk (M ++ L) k = _
    rw [lk_append]
    cases hM : lk M k with
    | none => exact hk
    | some r =>
      exfalso
      obtain ⟨p, hp, rfl⟩ := lk_key hM
      have := List.all_eq_true.1 h p.1 (List.mem_map_of_mem hp)
      rw [List.contains_iff_mem, List.mem_map] at this
      obtain ⟨z, hz, hzp⟩ := this
      rcases List.append_of_mem hz with ⟨s, t, rfl⟩
      have key : ∀ (s : Heap), lk (s ++ z :: t) p.1 ≠ none := fun s => by
        induction s with
        | nil => rw [List.nil_append, show z :: t = (z.1, z.2) :: t from rfl, hzp, lk_cons_same]; exact fun e => by cases e
        | cons a s ih =>
          rw [List.cons_append, show a :: (s ++ z :: t) = (a.1, a.2) :: (s ++ z :: t) from rfl]
          by_cases e : a.1 = p.1
          · rw [e, lk_cons_same]; exact fun e => by cases e
          · rw [lk_cons_other _ _ e]; exact ih
      exact key s hA
theorem lk_app_none {N L : Heap} {i : Nat} (h1 : lk N i = none) (h2 : lk L i = none) : lk (N ++ L) i = none := by rw [lk_append, h1]; exact h2
theorem lk_mid2 {L : Heap} (A : Heap) (p : Nat × Res) (M : Heap) (hp : lk L p.1 = none) (hA : lk A p.1 = none) (h : (M.map (·.1)).all (fun i => (A.map (·.1)).contains i) = true) : ∀ k q, lk (A ++ L) k = some q → lk (A ++ (p :: (M ++ L))) k = some q := fun k q hk => by
  have h2 := lk_mid A M h k q hk
  rw [lk_append] at h2 ⊢
  cases e : lk A k with
  | some r => rw [e] at h2; exact h2
  | none =>
    rw [e] at h2
    show lk (p :: (M ++ L)) k = _
    rw [show p :: (M ++ L) = (p.1, p.2) :: (M ++ L) from rfl, lk_cons_other _ _ ?_]
    · exact h2
    · intro e2
      subst e2
      rw [lk_append, hA] at hk
      rw [show lk L p.1 = some q from hk] at hp
      cases hp
theorem lk_dup2 {L : Heap} {i j : Nat} {r s : Res} (hi : lk L i = some r) (hj : lk L j = some s) : ∀ k q, lk ((i, r) :: (j, s) :: L) k = some q → lk L k = some q := fun k q hk => by
  by_cases e : i = k
  · subst e; rw [lk_cons_same] at hk; rw [hi]; exact hk
  · rw [lk_cons_other _ _ e] at hk; exact lk_dup hj k q hk
end Go.Proofs.Ytcidgbjgeegepaa
/- Calls that panic, in a drawn region. Over any program. -/
namespace Go.Proofs.Ytcidgbjgeegepaa
open Go Go.RowKit
section
variable {C : Cx} {R : Rg} {Q : Post} {K0 V : List (Nat × Value)} {lo : Nat} {L : Heap}
theorem LOb_callP {κ : Type} {c f : Nat} {o : Oper} {args : Array Value} (q : κ → Prop) (x : κ → Value) (LX : κ → Heap) (ho : R.ops[c]? = some o) (hw : WantV V o true) (hn : isDefer o.op = false)
    (hr : ∀ ρ w, Rd (kOf K0 V (R.S.getD c [])) ρ → MemOk C.w₀ L w → (execOp ρ o).run C.P w = .ok (.enter f args) w)
    (hc : ∀ w, MemOk C.w₀ L w → Calls C.P f args w (PAns C.w₀ q x LX))
    (h : ∀ k, q k → ∀ a w, a.defers = C.D → MemOk C.w₀ (LX k) w → Q (.panic [{ v := x k, recovered := false }]) a w) : LOb C R Q K0 lo V L c := by
  refine ⟨o, ho, hw, fun a w next hrd hm hd hnext => ?_⟩
  refine step_enter hn (hr _ _ hrd hm) (hc w hm) ?_
  rintro e w' ⟨k, hk, rfl, hm'⟩
  exact h k hk _ _ hd hm'
theorem LOb_callQ {c f : Nat} {o : Oper} {args : Array Value} {v : Value} (ho : R.ops[c]? = some o) (hw : WantV V o true) (hn : isDefer o.op = false)
    (hr : ∀ ρ w, Rd (kOf K0 V (R.S.getD c [])) ρ → MemOk C.w₀ L w → (execOp ρ o).run C.P w = .ok (.enter f args) w)
    (hc : ∀ w, MemOk C.w₀ L w → Calls C.P f args w fun e w' => e = .panicked [{ v, recovered := false }] ∧ Below w.heap.size w w')
    (h : ∀ a w, a.defers = C.D → MemOk C.w₀ L w → Q (.panic [{ v, recovered := false }]) a w) : LOb C R Q K0 lo V L c :=
  LOb_callP (κ := Unit) (fun _ => True) (fun _ => v) (fun _ => L) ho hw hn hr (fun w hm => (hc w hm).mono fun e w' ⟨he, hb⟩ => ⟨(), trivial, he, hm.below hb⟩) fun _ _ => h
theorem pd_pan {ch : List PanicEntry} {fn : Func} {Rr : Ending → World → Prop} (hQ : ∀ a w, bodyM C.P fn Rr (.panic ch) a w → Q (.panic ch) a w) (hD : C.D = []) (hR : ∀ w, MemOk C.w₀ L w → Rr (.panicked ch) w) : ∀ a w, a.defers = C.D → MemOk C.w₀ L w → Q (.panic ch) a w := fun a w hd hm => by
  refine hQ a w ?_
  show LeavesInM _ _ _ _ _ _ _ _ _
  rw [hd.trans hD]
  exact hR w hm
end
end Go.Proofs.Ytcidgbjgeegepaa
/- A slice of an array, from a place on. Over any program. -/
namespace Go.Proofs.Ytcidgbjgeegepaa
open Go Go.RowKit
theorem r_sliceAlo {P : Program} {w : World} {ρ : Operand → Value} {d : Option Tmp} {ty : TypeId} {ps : String} {af : Array Edge} {g : Option (Nat × Bool)} {x y : Operand} {k : IntKind} {t e : TypeId} {n sz b off l : Nat} (ht : arrOf P t = some (n, e)) (hs : szOf P e = some sz) (hl : l < n) (hx : ρ x = .pointer (some ⟨b, off, none⟩)) (hy : ρ y = .int k l) :
    (execOp ρ (mk d (.slice t x (some y) none none) ty ps af g)).run P w = .ok (.value (.slice (some ⟨b, off + l * sz, none⟩) (n - l) (n - l))) w := by
  refine run_v ?_
  rw [hx]
  unfold Instr.sliceAt
  rw [run_underlying (und_arr ht)]
  dsimp only
  rw [run_bind_ok (a := ⟨b, off, none⟩) (w' := w) rfl]
  have hb : (Instr.sliceBounds false n n (Option.map ρ (some y)) (Option.map ρ none) (Option.map ρ none)).run P w = .ok (l, n, n) w :=
    run_sliceBounds (lo := some y) (hi := none) (mx := none) (bd_none ρ _) (bd_none ρ _) (bd_some hy) (fun h => by cases h) (Nat.le_of_lt hl) (Nat.le_refl _) (Nat.le_refl _)
  rw [run_bind_ok hb]
  dsimp only
  rw [run_bind_ok (run_sizeOf hs), if_neg (by omega), addr_add]
  rfl
end Go.Proofs.Ytcidgbjgeegepaa
