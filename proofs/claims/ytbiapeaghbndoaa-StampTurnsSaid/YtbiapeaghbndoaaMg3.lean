/- Texts of this seat, merged: part 3. -/
import Derived.Test.YtbiapeaghbndoaaMg2
/- canvas: Repeat, New, Of. Printed by a program of this seat's prover. -/
namespace Go.Proofs.Ytbiapeaghbndoaa
open Go Go.RowKit
set_option maxRecDepth 10000
theorem mul64_b (n : Nat) (hn : n ≤ 64) (w : World) : Calls Try.prog 114 #[.int .u64 1, .int .u64 ((BitVec.ofNat 64 n).toNat : Int)] w fun e w' => e = .returned (.tuple #[.int .u64 0, .int .u64 (n : Int)]) ∧ Below w.heap.size w w' := by
 refine calls_of_T (l := [.int .u64 1, .int .u64 ((BitVec.ofNat 64 n).toNat : Int)]) 51 Try.func114 rfl rfl rfl ?_
 show T _ _ _ [(0, .int .u64 1), (1, .int .u64 ((BitVec.ofNat 64 n).toNat : Int))] []
 refine T_seq (T_region ?_)
 refine TL_v (.int .u64 0) (s_as rfl) rfl rfl ?_
 refine TL_v (.int .u64 0) (s_as rfl) rfl rfl ?_
 refine TL_seq ?_
 refine T_seq (T_region ?_)
 refine TL_v (.int .u64 1) (s_mv rfl) rfl rfl ?_
 refine TL_v (.int .u64 1) (fun _ _ j _ => r_as (r_andB (k := .u64) (a := (1#64)) (b := (4294967295#64)) rfl (j _ _ rfl) (j _ _ rfl)) (by rfl)) rfl rfl ?_
 refine TL_v (.int .u64 1) (s_as rfl) rfl rfl ?_
 refine TL_seq ?_
 refine T_seq (T_region ?_)
 refine TL_v (.int .u64 1) (s_mv rfl) rfl rfl ?_
 refine TL_v (.int .u64 0) (fun _ _ j _ => r_as (r_shrB (k := .u64) (a := (1#64)) (n := 32) (by decide) (j _ _ rfl) (j _ _ rfl)) (by rfl)) rfl rfl ?_
 refine TL_v (.int .u64 0) (s_as rfl) rfl rfl ?_
 refine TL_seq ?_
 refine T_seq (T_region ?_)
 refine TL_v (.int .u64 ((BitVec.ofNat 64 n).toNat : Int)) (s_mv rfl) rfl rfl ?_
 refine TL_v (.int .u64 (((BitVec.ofNat 64 n) &&& (4294967295#64)).toNat : Int)) (fun _ _ j _ => r_andB (k := .u64) (a := (BitVec.ofNat 64 n)) (b := (4294967295#64)) rfl (j _ _ rfl) (j _ _ rfl)) rfl rfl ?_
 refine TL_v (.int .u64 (((BitVec.ofNat 64 n) &&& (4294967295#64)).toNat : Int)) (s_as rfl) rfl rfl ?_
 refine TL_seq ?_
 refine T_seq (T_region ?_)
 refine TL_v (.int .u64 ((BitVec.ofNat 64 n).toNat : Int)) (s_mv rfl) rfl rfl ?_
 refine TL_v (.int .u64 (((BitVec.ofNat 64 n) >>> 32).toNat : Int)) (fun _ _ j _ => r_shrB (k := .u64) (a := (BitVec.ofNat 64 n)) (n := 32) (by decide) (j _ _ rfl) (j _ _ rfl)) rfl rfl ?_
 refine TL_v (.int .u64 (((BitVec.ofNat 64 n) >>> 32).toNat : Int)) (s_as rfl) rfl rfl ?_
 refine TL_seq ?_
 refine T_seq (T_region ?_)
 refine TL_v (.int .u64 1) (s_mv rfl) rfl rfl ?_
 refine TL_v (.int .u64 (((BitVec.ofNat 64 n) &&& (4294967295#64)).toNat : Int)) (s_mv rfl) rfl rfl ?_
 refine TL_v (.int .u64 (((1#64) * ((BitVec.ofNat 64 n) &&& (4294967295#64))).toNat : Int)) (fun _ _ j _ => r_mulB (k := .u64) (a := (1#64)) (b := ((BitVec.ofNat 64 n) &&& (4294967295#64))) rfl (j _ _ rfl) (j _ _ rfl)) rfl rfl ?_
 refine TL_v (.int .u64 (((1#64) * ((BitVec.ofNat 64 n) &&& (4294967295#64))).toNat : Int)) (s_as rfl) rfl rfl ?_
 refine TL_seq ?_
 refine T_seq (T_region ?_)
 refine TL_v (.int .u64 0) (s_mv rfl) rfl rfl ?_
 refine TL_v (.int .u64 (((BitVec.ofNat 64 n) &&& (4294967295#64)).toNat : Int)) (s_mv rfl) rfl rfl ?_
 refine TL_v (.int .u64 (((0#64) * ((BitVec.ofNat 64 n) &&& (4294967295#64))).toNat : Int)) (fun _ _ j _ => r_mulB (k := .u64) (a := (0#64)) (b := ((BitVec.ofNat 64 n) &&& (4294967295#64))) rfl (j _ _ rfl) (j _ _ rfl)) rfl rfl ?_
 refine TL_v (.int .u64 (((1#64) * ((BitVec.ofNat 64 n) &&& (4294967295#64))).toNat : Int)) (s_mv rfl) rfl rfl ?_
 refine TL_v (.int .u64 ((((1#64) * ((BitVec.ofNat 64 n) &&& (4294967295#64))) >>> 32).toNat : Int)) (fun _ _ j _ => r_shrB (k := .u64) (a := ((1#64) * ((BitVec.ofNat 64 n) &&& (4294967295#64)))) (n := 32) (by decide) (j _ _ rfl) (j _ _ rfl)) rfl rfl ?_
 refine TL_v (.int .u64 ((((0#64) * ((BitVec.ofNat 64 n) &&& (4294967295#64))) + (((1#64) * ((BitVec.ofNat 64 n) &&& (4294967295#64))) >>> 32)).toNat : Int)) (fun _ _ j _ => r_addB (k := .u64) (a := ((0#64) * ((BitVec.ofNat 64 n) &&& (4294967295#64)))) (b := (((1#64) * ((BitVec.ofNat 64 n) &&& (4294967295#64))) >>> 32)) rfl (j _ _ rfl) (j _ _ rfl)) rfl rfl ?_
 refine TL_v (.int .u64 ((((0#64) * ((BitVec.ofNat 64 n) &&& (4294967295#64))) + (((1#64) * ((BitVec.ofNat 64 n) &&& (4294967295#64))) >>> 32)).toNat : Int)) (s_as rfl) rfl rfl ?_
 refine TL_seq ?_
 refine T_seq (T_region ?_)
 refine TL_v (.int .u64 ((((0#64) * ((BitVec.ofNat 64 n) &&& (4294967295#64))) + (((1#64) * ((BitVec.ofNat 64 n) &&& (4294967295#64))) >>> 32)).toNat : Int)) (s_mv rfl) rfl rfl ?_
 refine TL_v (.int .u64 (((((0#64) * ((BitVec.ofNat 64 n) &&& (4294967295#64))) + (((1#64) * ((BitVec.ofNat 64 n) &&& (4294967295#64))) >>> 32)) &&& (4294967295#64)).toNat : Int)) (fun _ _ j _ => r_andB (k := .u64) (a := (((0#64) * ((BitVec.ofNat 64 n) &&& (4294967295#64))) + (((1#64) * ((BitVec.ofNat 64 n) &&& (4294967295#64))) >>> 32))) (b := (4294967295#64)) rfl (j _ _ rfl) (j _ _ rfl)) rfl rfl ?_
 refine TL_v (.int .u64 (((((0#64) * ((BitVec.ofNat 64 n) &&& (4294967295#64))) + (((1#64) * ((BitVec.ofNat 64 n) &&& (4294967295#64))) >>> 32)) &&& (4294967295#64)).toNat : Int)) (s_as rfl) rfl rfl ?_
 refine TL_seq ?_
 refine T_seq (T_region ?_)
 refine TL_v (.int .u64 ((((0#64) * ((BitVec.ofNat 64 n) &&& (4294967295#64))) + (((1#64) * ((BitVec.ofNat 64 n) &&& (4294967295#64))) >>> 32)).toNat : Int)) (s_mv rfl) rfl rfl ?_
 refine TL_v (.int .u64 (((((0#64) * ((BitVec.ofNat 64 n) &&& (4294967295#64))) + (((1#64) * ((BitVec.ofNat 64 n) &&& (4294967295#64))) >>> 32)) >>> 32).toNat : Int)) (fun _ _ j _ => r_shrB (k := .u64) (a := (((0#64) * ((BitVec.ofNat 64 n) &&& (4294967295#64))) + (((1#64) * ((BitVec.ofNat 64 n) &&& (4294967295#64))) >>> 32))) (n := 32) (by decide) (j _ _ rfl) (j _ _ rfl)) rfl rfl ?_
 refine TL_v (.int .u64 (((((0#64) * ((BitVec.ofNat 64 n) &&& (4294967295#64))) + (((1#64) * ((BitVec.ofNat 64 n) &&& (4294967295#64))) >>> 32)) >>> 32).toNat : Int)) (s_as rfl) rfl rfl ?_
 refine TL_seq ?_
 refine T_sub [(0, .int .u64 1), (1, .int .u64 ((BitVec.ofNat 64 n).toNat : Int)), (4, .int .u64 0), (5, .int .u64 0), (6, .int .u64 1), (7, .int .u64 0), (9, .int .u64 (((BitVec.ofNat 64 n) >>> 32).toNat : Int)), (12, .int .u64 (((((0#64) * ((BitVec.ofNat 64 n) &&& (4294967295#64))) + (((1#64) * ((BitVec.ofNat 64 n) &&& (4294967295#64))) >>> 32)) &&& (4294967295#64)).toNat : Int)), (13, .int .u64 (((((0#64) * ((BitVec.ofNat 64 n) &&& (4294967295#64))) + (((1#64) * ((BitVec.ofNat 64 n) &&& (4294967295#64))) >>> 32)) >>> 32).toNat : Int))] [] (sc4 rfl rfl rfl rfl (sc4 rfl rfl rfl rfl (sc rfl sub_nil))) sub_nil ?_
 refine T_seq (T_region ?_)
 refine TL_v (.int .u64 (((((0#64) * ((BitVec.ofNat 64 n) &&& (4294967295#64))) + (((1#64) * ((BitVec.ofNat 64 n) &&& (4294967295#64))) >>> 32)) &&& (4294967295#64)).toNat : Int)) (s_mv rfl) rfl rfl ?_
 refine TL_v (.int .u64 1) (s_mv rfl) rfl rfl ?_
 refine TL_v (.int .u64 (((BitVec.ofNat 64 n) >>> 32).toNat : Int)) (s_mv rfl) rfl rfl ?_
 refine TL_v (.int .u64 (((1#64) * ((BitVec.ofNat 64 n) >>> 32)).toNat : Int)) (fun _ _ j _ => r_mulB (k := .u64) (a := (1#64)) (b := ((BitVec.ofNat 64 n) >>> 32)) rfl (j _ _ rfl) (j _ _ rfl)) rfl rfl ?_
 refine TL_v (.int .u64 ((((((0#64) * ((BitVec.ofNat 64 n) &&& (4294967295#64))) + (((1#64) * ((BitVec.ofNat 64 n) &&& (4294967295#64))) >>> 32)) &&& (4294967295#64)) + ((1#64) * ((BitVec.ofNat 64 n) >>> 32))).toNat : Int)) (fun _ _ j _ => r_addB (k := .u64) (a := ((((0#64) * ((BitVec.ofNat 64 n) &&& (4294967295#64))) + (((1#64) * ((BitVec.ofNat 64 n) &&& (4294967295#64))) >>> 32)) &&& (4294967295#64))) (b := ((1#64) * ((BitVec.ofNat 64 n) >>> 32))) rfl (j _ _ rfl) (j _ _ rfl)) rfl rfl ?_
 refine TL_v (.int .u64 ((((((0#64) * ((BitVec.ofNat 64 n) &&& (4294967295#64))) + (((1#64) * ((BitVec.ofNat 64 n) &&& (4294967295#64))) >>> 32)) &&& (4294967295#64)) + ((1#64) * ((BitVec.ofNat 64 n) >>> 32))).toNat : Int)) (s_as rfl) rfl rfl ?_
 refine TL_seq ?_
 refine T_seq (T_region ?_)
 refine TL_v (.int .u64 0) (s_mv rfl) rfl rfl ?_
 refine TL_v (.int .u64 (((BitVec.ofNat 64 n) >>> 32).toNat : Int)) (s_mv rfl) rfl rfl ?_
 refine TL_v (.int .u64 (((0#64) * ((BitVec.ofNat 64 n) >>> 32)).toNat : Int)) (fun _ _ j _ => r_mulB (k := .u64) (a := (0#64)) (b := ((BitVec.ofNat 64 n) >>> 32)) rfl (j _ _ rfl) (j _ _ rfl)) rfl rfl ?_
 refine TL_v (.int .u64 (((((0#64) * ((BitVec.ofNat 64 n) &&& (4294967295#64))) + (((1#64) * ((BitVec.ofNat 64 n) &&& (4294967295#64))) >>> 32)) >>> 32).toNat : Int)) (s_mv rfl) rfl rfl ?_
 refine TL_v (.int .u64 ((((0#64) * ((BitVec.ofNat 64 n) >>> 32)) + ((((0#64) * ((BitVec.ofNat 64 n) &&& (4294967295#64))) + (((1#64) * ((BitVec.ofNat 64 n) &&& (4294967295#64))) >>> 32)) >>> 32)).toNat : Int)) (fun _ _ j _ => r_addB (k := .u64) (a := ((0#64) * ((BitVec.ofNat 64 n) >>> 32))) (b := ((((0#64) * ((BitVec.ofNat 64 n) &&& (4294967295#64))) + (((1#64) * ((BitVec.ofNat 64 n) &&& (4294967295#64))) >>> 32)) >>> 32)) rfl (j _ _ rfl) (j _ _ rfl)) rfl rfl ?_
 refine TL_v (.int .u64 ((((((0#64) * ((BitVec.ofNat 64 n) &&& (4294967295#64))) + (((1#64) * ((BitVec.ofNat 64 n) &&& (4294967295#64))) >>> 32)) &&& (4294967295#64)) + ((1#64) * ((BitVec.ofNat 64 n) >>> 32))).toNat : Int)) (s_mv rfl) rfl rfl ?_
 refine TL_v (.int .u64 (((((((0#64) * ((BitVec.ofNat 64 n) &&& (4294967295#64))) + (((1#64) * ((BitVec.ofNat 64 n) &&& (4294967295#64))) >>> 32)) &&& (4294967295#64)) + ((1#64) * ((BitVec.ofNat 64 n) >>> 32))) >>> 32).toNat : Int)) (fun _ _ j _ => r_shrB (k := .u64) (a := (((((0#64) * ((BitVec.ofNat 64 n) &&& (4294967295#64))) + (((1#64) * ((BitVec.ofNat 64 n) &&& (4294967295#64))) >>> 32)) &&& (4294967295#64)) + ((1#64) * ((BitVec.ofNat 64 n) >>> 32)))) (n := 32) (by decide) (j _ _ rfl) (j _ _ rfl)) rfl rfl ?_
 refine TL_v (.int .u64 (((((0#64) * ((BitVec.ofNat 64 n) >>> 32)) + ((((0#64) * ((BitVec.ofNat 64 n) &&& (4294967295#64))) + (((1#64) * ((BitVec.ofNat 64 n) &&& (4294967295#64))) >>> 32)) >>> 32)) + ((((((0#64) * ((BitVec.ofNat 64 n) &&& (4294967295#64))) + (((1#64) * ((BitVec.ofNat 64 n) &&& (4294967295#64))) >>> 32)) &&& (4294967295#64)) + ((1#64) * ((BitVec.ofNat 64 n) >>> 32))) >>> 32)).toNat : Int)) (fun _ _ j _ => r_addB (k := .u64) (a := (((0#64) * ((BitVec.ofNat 64 n) >>> 32)) + ((((0#64) * ((BitVec.ofNat 64 n) &&& (4294967295#64))) + (((1#64) * ((BitVec.ofNat 64 n) &&& (4294967295#64))) >>> 32)) >>> 32))) (b := ((((((0#64) * ((BitVec.ofNat 64 n) &&& (4294967295#64))) + (((1#64) * ((BitVec.ofNat 64 n) &&& (4294967295#64))) >>> 32)) &&& (4294967295#64)) + ((1#64) * ((BitVec.ofNat 64 n) >>> 32))) >>> 32)) rfl (j _ _ rfl) (j _ _ rfl)) rfl rfl ?_
 refine TL_v (.int .u64 (((((0#64) * ((BitVec.ofNat 64 n) >>> 32)) + ((((0#64) * ((BitVec.ofNat 64 n) &&& (4294967295#64))) + (((1#64) * ((BitVec.ofNat 64 n) &&& (4294967295#64))) >>> 32)) >>> 32)) + ((((((0#64) * ((BitVec.ofNat 64 n) &&& (4294967295#64))) + (((1#64) * ((BitVec.ofNat 64 n) &&& (4294967295#64))) >>> 32)) &&& (4294967295#64)) + ((1#64) * ((BitVec.ofNat 64 n) >>> 32))) >>> 32)).toNat : Int)) (s_as rfl) rfl rfl ?_
 refine TL_seq ?_
 refine T_seq (T_region ?_)
 refine TL_v (.int .u64 1) (s_mv rfl) rfl rfl ?_
 refine TL_v (.int .u64 ((BitVec.ofNat 64 n).toNat : Int)) (s_mv rfl) rfl rfl ?_
 refine TL_v (.int .u64 (((1#64) * (BitVec.ofNat 64 n)).toNat : Int)) (fun _ _ j _ => r_mulB (k := .u64) (a := (1#64)) (b := (BitVec.ofNat 64 n)) rfl (j _ _ rfl) (j _ _ rfl)) rfl rfl ?_
 refine TL_v (.int .u64 (((1#64) * (BitVec.ofNat 64 n)).toNat : Int)) (s_as rfl) rfl rfl ?_
 refine TL_seq ?_
 refine T_ret' ?_
 refine ret_of rfl (.tuple #[.int .u64 (((((0#64) * ((BitVec.ofNat 64 n) >>> 32)) + ((((0#64) * ((BitVec.ofNat 64 n) &&& (4294967295#64))) + (((1#64) * ((BitVec.ofNat 64 n) &&& (4294967295#64))) >>> 32)) >>> 32)) + ((((((0#64) * ((BitVec.ofNat 64 n) &&& (4294967295#64))) + (((1#64) * ((BitVec.ofNat 64 n) &&& (4294967295#64))) >>> 32)) &&& (4294967295#64)) + ((1#64) * ((BitVec.ofNat 64 n) >>> 32))) >>> 32)).toNat : Int), .int .u64 (((1#64) * (BitVec.ofNat 64 n)).toNat : Int)]) (fun tmps w hk hm => res2 rfl (res_tmp (hk 4 _ rfl)) (res_tmp (hk 5 _ rfl))) (fun w hm => ?_)
 have key : ∀ m : Fin 65, ((((((0#64) * ((BitVec.ofNat 64 m.val) >>> 32)) + ((((0#64) * ((BitVec.ofNat 64 m.val) &&& (4294967295#64))) + (((1#64) * ((BitVec.ofNat 64 m.val) &&& (4294967295#64))) >>> 32)) >>> 32)) + ((((((0#64) * ((BitVec.ofNat 64 m.val) &&& (4294967295#64))) + (((1#64) * ((BitVec.ofNat 64 m.val) &&& (4294967295#64))) >>> 32)) &&& (4294967295#64)) + ((1#64) * ((BitVec.ofNat 64 m.val) >>> 32))) >>> 32)).toNat : Int) : Int) = 0 ∧ ((((1#64) * (BitVec.ofNat 64 m.val)).toNat : Int) : Int) = ((m.val : Nat) : Int) := by decide +kernel
 have k1 : ((((((0#64) * ((BitVec.ofNat 64 n) >>> 32)) + ((((0#64) * ((BitVec.ofNat 64 n) &&& (4294967295#64))) + (((1#64) * ((BitVec.ofNat 64 n) &&& (4294967295#64))) >>> 32)) >>> 32)) + ((((((0#64) * ((BitVec.ofNat 64 n) &&& (4294967295#64))) + (((1#64) * ((BitVec.ofNat 64 n) &&& (4294967295#64))) >>> 32)) &&& (4294967295#64)) + ((1#64) * ((BitVec.ofNat 64 n) >>> 32))) >>> 32)).toNat : Int) : Int) = 0 := (key ⟨n, by omega⟩).1
 have k2 : ((((1#64) * (BitVec.ofNat 64 n)).toNat : Int) : Int) = ((n : Nat) : Int) := (key ⟨n, by omega⟩).2
 exact ⟨by rw [k1, k2], hm.ext⟩

theorem mul64_c (n : Nat) (hn : n ≤ 64) (w : World) : Calls Try.prog 114 #[.int .u64 1, .int .u64 (n : Int)] w fun e w' => e = .returned (.tuple #[.int .u64 0, .int .u64 (n : Int)]) ∧ Below w.heap.size w w' := by
 have h := mul64_b n hn w
 rwa [show ((BitVec.ofNat 64 n).toNat : Int) = n from by rw [BitVec.toNat_ofNat, Nat.mod_eq_of_lt (by omega)]] at h

theorem mul_c (n : Nat) (hn : n ≤ 64) (w : World) : Calls Try.prog 103 #[.int .u64 1, .int .u64 (n : Int)] w fun e w' => e = .returned (.tuple #[.int .u64 0, .int .u64 (n : Int)]) ∧ Below w.heap.size w w' := by
 refine calls_of_T (l := [.int .u64 1, .int .u64 ((n : Nat) : Int)]) 30 Try.func103 rfl rfl rfl ?_
 show T _ _ _ [(0, .int .u64 1), (1, .int .u64 ((n : Nat) : Int))] []
 refine T_seq (T_region ?_)
 refine TL_v (.int .u64 0) (s_as rfl) rfl rfl ?_
 refine TL_v (.int .u64 0) (s_as rfl) rfl rfl ?_
 refine TL_seq ?_
 refine T_seq ?_
 refine T_cond_f rfl ?_
 refine T_skip' ?_
 refine p_seq ?_
 refine T_seq (T_region ?_)
 refine TL_v (.int .u64 1) (s_mv rfl) rfl rfl ?_
 refine TL_v (.int .u64 ((n : Nat) : Int)) (s_mv rfl) rfl rfl ?_
 refine TL_call (.tuple #[.int .u64 0, .int .u64 ((n : Nat) : Int)]) (fun _ _ j _ => r_call (args := [.int .u64 1, .int .u64 ((n : Nat) : Int)]) (enters_of Try.func114 (by kernel_rfl) rfl) (j _ _ rfl) ((cons2 (j _ _ rfl) (cons2 (j _ _ rfl) rfl))) rfl) (fun w _ => mul64_c n (by omega) w) rfl rfl rfl (w_n rfl) ?_
 refine TL_v (.tuple #[.int .u64 0, .int .u64 ((n : Nat) : Int)]) (s_mv rfl) rfl rfl ?_
 refine TL_v (.int .u64 0) (s_ex rfl rfl) rfl rfl ?_
 refine TL_v (.int .u64 ((n : Nat) : Int)) (s_ex rfl rfl) rfl rfl ?_
 refine TL_v (.int .u64 0) (s_as rfl) rfl rfl ?_
 refine TL_v (.int .u64 ((n : Nat) : Int)) (s_as rfl) rfl rfl ?_
 refine TL_seq ?_
 refine T_seq (T_region ?_)
 refine TL_v (.int .u64 0) (s_mv rfl) rfl rfl ?_
 refine TL_v (.int .u64 ((n : Nat) : Int)) (s_mv rfl) rfl rfl ?_
 refine TL_v (.int .u64 0) (s_as rfl) rfl rfl ?_
 refine TL_v (.int .u64 ((n : Nat) : Int)) (s_as rfl) rfl rfl ?_
 refine TL_seq ?_
 refine T_ret' ?_
 refine ret_of rfl (.tuple #[.int .u64 0, .int .u64 ((n : Nat) : Int)]) (fun tmps w hk hm => res2 rfl (res_tmp (hk 4 _ rfl)) (res_tmp (hk 5 _ rfl))) (fun w hm => ?_)
 exact ⟨rfl, hm.ext⟩

theorem rep_c4 (c : C4) (n bx : Nat) (w : World) (hn1 : 1 ≤ n) (hn : n ≤ 64) (hb : hp w bx = some (.cells (C4.cells c).toArray 37)) : Calls Try.prog 82 #[.slice (some ⟨bx, 0, none⟩) 1 1, .int .i64 (n : Int)] w fun e w' => ∃ a' cap', e = .returned (.slice a' (List.replicate n c).length cap') ∧ Below w.heap.size w w' ∧ w'.ownsRow w.heap.size 37 4 (.slice a' (List.replicate n c).length cap') (List.replicate n c).length ((List.replicate n c).flatMap C4.cells) := by
 refine calls_of_T (l := [.slice (some ⟨bx, 0, none⟩) 1 1, iN n]) 48 Try.func82 rfl rfl rfl ?_
 show T _ _ _ [(0, .slice (some ⟨bx, 0, none⟩) 1 1), (1, iN n)] []
 refine T_seq (T_region ?_)
 refine TL_v (.slice none 0 0) (s_as rfl) rfl rfl ?_
 refine TL_seq ?_
 refine T_seq ?_
 refine T_seq (T_region ?_)
 refine TL_v (iN n) (s_mv rfl) rfl rfl ?_
 refine TL_v (.bool false) (s_op r_lss rfl rfl (bool_as (decide_eq_false (by omega)))) rfl rfl ?_
 refine TL_seq ?_
 refine T_cond_f rfl ?_
 refine T_skip' ?_
 refine p_seq ?_
 refine T_seq (T_region ?_)
 refine TL_v (.slice (some ⟨bx, 0, none⟩) 1 1) (s_mv rfl) rfl rfl ?_
 refine TL_v (.int .i64 1) (fun _ _ j _ => r_len sl71 (j _ _ rfl)) rfl rfl ?_
 refine TL_v (.int .u64 1) (fun _ _ j _ => r_as (r_conv un3 io150 (j _ _ rfl)) (by rfl)) rfl rfl ?_
 refine TL_v (iN n) (s_mv rfl) rfl rfl ?_
 refine TL_v (.int .u64 ((n : Nat) : Int)) (fun _ _ j _ => r_as (r_conv un3 io150 (j _ _ rfl)) (int_as (wrap_u64 (by omega) (by omega)))) rfl rfl ?_
 refine TL_call (.tuple #[.int .u64 0, .int .u64 ((n : Nat) : Int)]) (fun _ _ j _ => r_call (args := [.int .u64 1, .int .u64 ((n : Nat) : Int)]) (enters_of Try.func103 (by kernel_rfl) rfl) (j _ _ rfl) ((cons2 (j _ _ rfl) (cons2 (j _ _ rfl) rfl))) rfl) (fun w _ => mul_c n (by omega) w) rfl rfl rfl (w_n rfl) ?_
 refine TL_v (.tuple #[.int .u64 0, .int .u64 ((n : Nat) : Int)]) (s_mv rfl) rfl rfl ?_
 refine TL_v (.int .u64 0) (s_ex rfl rfl) rfl rfl ?_
 refine TL_v (.int .u64 ((n : Nat) : Int)) (s_ex rfl rfl) rfl rfl ?_
 refine TL_v (.int .u64 0) (s_as rfl) rfl rfl ?_
 refine TL_v (.int .u64 ((n : Nat) : Int)) (s_as rfl) rfl rfl ?_
 refine TL_seq ?_
 refine T_seq ?_
 refine T_seq (T_region ?_)
 refine TL_v (.int .u64 0) (s_mv rfl) rfl rfl ?_
 refine TL_v (.bool false) (s_op r_gtr rfl rfl (by rfl)) rfl rfl ?_
 refine TL_v (.bool false) (s_mv rfl) rfl rfl ?_
 refine TL_q (.int .u64 ((n : Nat) : Int)) (s_mv rfl) rfl rfl rfl (want_y 23 rfl rfl rfl) ?_
 refine TL_q (.bool false) (s_op r_gtr rfl rfl (bool_as (decide_eq_false (by omega)))) rfl rfl rfl (want_y 23 rfl rfl rfl) ?_
 refine TL_v (.bool false) (s_pf rfl rfl) rfl rfl ?_
 refine TL_seq ?_
 refine T_cond_f rfl ?_
 refine T_skip' ?_
 refine p_seq ?_
 refine T_seq (T_region ?_)
 refine TL_v (.int .u64 ((n : Nat) : Int)) (s_mv rfl) rfl rfl ?_
 refine TL_v (iN n) (fun _ _ j _ => r_as (r_conv un150 io3 (j _ _ rfl)) (int_as (wrap64 (by omega) (by omega)))) rfl rfl ?_
 refine TL_op (ι := Nat) (fun B => .slice (some ⟨B, 0, none⟩) n n) _ (fun _ _ j hm => o_make (n := n) (cap := n) (z := .agg #[z8, z8, z8, z8]) (f := C4.cells) (u := zeroC) 940 rfl (j _ _ rfl) (j _ _ rfl) sl71 by37 sz37 rfl (by kernel_rfl) rfl C4.cells_len (by omega) (by omega) (by omega) hm) rfl rfl rfl (w_n rfl) ?_
 intro B1
 refine TL_v (.slice (some ⟨B1, 0, none⟩) n n) (s_as rfl) rfl rfl ?_
 refine TL_seq ?_
 refine T_seq (T_region ?_)
 refine TL_v (.slice (some ⟨B1, 0, none⟩) n n) (s_mv rfl) rfl rfl ?_
 refine TL_v (.slice (some ⟨bx, 0, none⟩) 1 1) (s_mv rfl) rfl rfl ?_
 refine TL_op1 (iN 1) _ (fun _ _ J hm => o_copyG (k := 1) (lo := 0) (s := 4) (news := ((List.replicate 1 c).flatMap C4.cells)) 940 rfl (J _ _ rfl) (by omega) (J _ _ rfl) rfl sl71 sz37 (by omega) (rep_len C4.cells_len c 1) (fun j u hj => cell_of (hm.old hb) (rep_one hj)) (rep_ones C4.cells_one c 1) (rep_first C4.cells_len zeroC c hn1) hm) rfl rfl rfl (w_n rfl) ?_
 refine TL_v (iN 1) (s_as rfl) rfl rfl ?_
 refine TL_seq ?_
 refine T_seq ?_
 refine T_block ?_
 refine T_loop (ι := Nat) (fun (k : Nat) => 1 ≤ k ∧ k ≤ n) (fun (k : Nat) => [(4, .slice none 0 0), (7, .slice (some ⟨B1, 0, none⟩) n n), (8, iN k)]) (fun (k : Nat) => [(940, .row (.slice (some ⟨B1, 0, none⟩) n n) 37 4 n ((repG zeroC c k n).flatMap C4.cells))]) (fun (k : Nat) => n - k) 1 ⟨Nat.le_refl _, hn1⟩ (sc rfl (sc rfl (sc rfl sub_nil))) (sc rfl sub_nil) ?_
 rintro k hp
 obtain ⟨hk1, hk2⟩ := hp
 show T _ _ _ [(4, .slice none 0 0), (7, .slice (some ⟨B1, 0, none⟩) n n), (8, iN k)] [(940, .row (.slice (some ⟨B1, 0, none⟩) n n) 37 4 n ((repG zeroC c k n).flatMap C4.cells))]
 refine T_seq ?_
 refine T_seq (T_region ?_)
 refine TL_v (iN k) (s_mv rfl) rfl rfl ?_
 refine TL_v (.slice (some ⟨B1, 0, none⟩) n n) (s_mv rfl) rfl rfl ?_
 refine TL_v (iN n) (fun _ _ j _ => r_len sl71 (j _ _ rfl)) rfl rfl ?_
 refine TL_v (.bool (decide (((k : Nat) : Int) < ((n : Nat) : Int)))) (fun _ _ j _ => r_lss (j _ _ rfl) (j _ _ rfl)) rfl rfl ?_
 refine TL_seq ?_
 refine T_cond rfl (fun h1 => ?_) (fun h1 => ?_)
 ·replace h1 := of_decide_eq_true h1
  refine T_skip' ?_
  refine p_seq ?_
  refine T_block ?_
  refine T_draw (V := [(0, iN k), (1, .slice (some ⟨B1, 0, none⟩) n n), (2, iN k), (3, .slice (some ⟨B1, k * 4, none⟩) (n - k) (n - k)), (4, .slice (some ⟨B1, 0, none⟩) n n), (5, iN k), (6, .slice (some ⟨B1, 0, none⟩) k n)]) [0, 0, 0, 6, 0, 0, 48, 126, 255, 511] [[(8, none)], [(7, none)], [(8, none)], [(39, some 1), (40, some 2)], [(7, none)], [(8, none)], [(42, some 4), (43, some 5)], [(41, some 3), (44, some 6)], [(38, some 0), (45, some 7)], [(46, some 8)]] 128 mixed (by kernel_rfl) ?_
  refine G_step [0, 1, 2, 3, 4, 5, 6] 7 [] (by kernel_rfl) (allM (all_cons (q_r (iN k) rfl rfl rfl (s_mv rfl)) (all_cons (q_r (.slice (some ⟨B1, 0, none⟩) n n) rfl rfl rfl (s_mv rfl)) (all_cons (q_r (iN k) rfl rfl rfl (s_mv rfl)) (all_cons (q_r (.slice (some ⟨B1, k * 4, none⟩) (n - k) (n - k)) rfl rfl rfl (fun ρ _ j _ => r_as (r_sliceS sl71 sz37 (j _ _ rfl) (bd_none ρ _) (bd_none ρ _) (bd_some (n := k) (j _ _ rfl)) (by simp) (by omega) (by omega) (by omega)) (by rw [if_neg (by omega), Nat.zero_add]))) (all_cons (q_r (.slice (some ⟨B1, 0, none⟩) n n) rfl rfl rfl (s_mv rfl)) (all_cons (q_r (iN k) rfl rfl rfl (s_mv rfl)) (all_cons (q_r (.slice (some ⟨B1, 0, none⟩) k n) rfl rfl rfl (fun ρ _ j _ => r_as (r_sliceS sl71 sz37 (j _ _ rfl) (bd_none ρ _) (bd_some (n := k) (j _ _ rfl)) (bd_none ρ _) (by simp) (by omega) (by omega) (by omega)) (by simp))) all_nil)))))))) (allM (all_cons ?_ all_nil))
  refine LOb_op1 (iN (min k (n - k))) _ [(8, iN (k + (min k (n - k)))), (9, iN (k + (min k (n - k))))] rfl (wv_n rfl) rfl rfl (fun _ _ J hm => o_copyG (k := min k (n - k)) (lo := k * 4) (s := 4) (news := ((List.replicate (min k (n - k)) c).flatMap C4.cells)) 940 rfl (J _ _ rfl) (by omega) (J _ _ rfl) rfl sl71 sz37 rfl (rep_len C4.cells_len c _) (fun j u hj => rep_cell (hm.row 940 rfl) (rep_pre zeroC c (by omega) hj)) (rep_ones C4.cells_one c _) (rep_copy C4.cells_len zeroC c (by omega)) hm) (by kernel_rfl) ?_
  refine G_lastQ [0, 8, 9] [(4, .slice none 0 0), (7, .slice (some ⟨B1, 0, none⟩) n n), (34, iN k), (35, .slice (some ⟨B1, 0, none⟩) n n), (36, iN n), (37, .bool (decide (((k : Nat) : Int) < ((n : Nat) : Int)))), (38, iN k), (39, .slice (some ⟨B1, 0, none⟩) n n), (40, iN k), (41, .slice (some ⟨B1, k * 4, none⟩) (n - k) (n - k)), (42, .slice (some ⟨B1, 0, none⟩) n n), (43, iN k), (44, .slice (some ⟨B1, 0, none⟩) k n), (45, iN (min k (n - k))), (46, iN (k + (min k (n - k)))), (8, iN (k + (min k (n - k))))] (by kernel_rfl) (allM (all_cons (q_r (iN k) rfl rfl rfl (s_mv rfl)) (all_cons (q_r (iN (k + (min k (n - k)))) rfl rfl rfl (s_op r_add rfl rfl (iw (by omega) (by omega) (by omega)))) (all_cons (q_r (iN (k + (min k (n - k)))) rfl rfl rfl (s_as rfl)) all_nil)))) (end_old rfl rfl (end_old rfl rfl (end_old rfl rfl (end_old rfl rfl (end_old rfl rfl (end_old rfl rfl (end_new 0 rfl rfl (end_new 1 rfl rfl (end_new 2 rfl rfl (end_new 3 rfl rfl (end_new 4 rfl rfl (end_new 5 rfl rfl (end_new 6 rfl rfl (end_new 7 rfl rfl (end_new 8 rfl rfl (end_new 9 rfl rfl end_nil)))))))))))))))) ?_
  refine p_blk_n ?_
  exact p_at (k + min k (n - k)) ⟨by omega, by omega⟩ (sc rfl (sc rfl (sc rfl sub_nil))) (sc rfl sub_nil)
 ·replace h1 := of_decide_eq_false h1
  refine T_exit' ?_
  refine p_then_x ?_
  refine p_then_x ?_
  refine p_blk_x ?_
  refine p_seq ?_
  refine T_seq (T_region ?_)
  refine TL_v (.slice (some ⟨B1, 0, none⟩) n n) (s_mv rfl) rfl rfl ?_
  refine TL_v (.slice (some ⟨B1, 0, none⟩) n n) (s_as rfl) rfl rfl ?_
  refine TL_seq ?_
  refine T_ret' ?_
  refine ret_of rfl (.slice (some ⟨B1, 0, none⟩) n n) (fun tmps w hk hm => res1 rfl (res_tmp (hk 4 _ rfl))) (fun w hm => ?_)
  have hk : k = n := by omega
  subst hk
  have hrow := hm.row 940 rfl
  rw [repG_all] at hrow
  exact ⟨some ⟨B1, 0, none⟩, k, by rw [List.length_replicate], hm.ext, by rw [List.length_replicate]; exact hrow⟩
end Go.Proofs.Ytbiapeaghbndoaa
/- canvas: New, Of, pixels. Printed by a program of this seat's prover. -/
namespace Go.Proofs.Ytbiapeaghbndoaa
open Go Go.RowKit
set_option maxRecDepth 10000
theorem snew_ok (p q : Nat) (c : C4) (w : World) (hp : 1 ≤ p ∧ p ≤ 8) (hq : 1 ≤ q ∧ q ≤ 8) : Calls Try.prog 41 #[.int .i64 (p : Int), .int .i64 (q : Int), .agg (C4.cells c).toArray] w fun e w' => ∃ a' cap', e = .returned (.tuple #[.agg #[.int .i64 (p : Int), .int .i64 (q : Int), .slice a' (List.replicate (p * q) c).length cap'], .int .i64 0]) ∧ Below w.heap.size w w' ∧ w'.ownsRow w.heap.size 37 4 (.slice a' (List.replicate (p * q) c).length cap') (List.replicate (p * q) c).length ((List.replicate (p * q) c).flatMap C4.cells) := by
 have h64 := size8 hp hq
 refine calls_of_T (l := [iN p, iN q, .agg #[.int .u8 c.r, .int .u8 c.g, .int .u8 c.b, .int .u8 c.a]]) 26 Try.func41 rfl rfl rfl ?_
 show T _ _ _ [(0, iN p), (1, iN q), (2, .agg #[.int .u8 c.r, .int .u8 c.g, .int .u8 c.b, .int .u8 c.a])] []
 refine T_seq (T_region ?_)
 refine TL_new 1 (.cells #[.int .u8 c.r, .int .u8 c.g, .int .u8 c.b, .int .u8 c.a] 37) (fun B => pt B 0) (fun _ _ j _ => r_box (j _ _ rfl) rfl) rfl rfl rfl (w_n rfl) ?_
 intro B1
 refine TL_new 2 (.cells #[.int .i64 0, .int .i64 0, .slice none 0 0] 75) (fun B => pt B 0) (fun _ _ _ _ => r_alloc (v := .agg #[.int .i64 0, .int .i64 0, .slice none 0 0]) (by kernel_rfl) rfl) rfl rfl rfl (w_n rfl) ?_
 intro B2
 refine TL_v (.int .i64 0) (s_as rfl) rfl rfl ?_
 refine TL_seq ?_
 refine T_seq ?_
 refine T_seq (T_region ?_)
 refine TL_v (iN p) (s_mv rfl) rfl rfl ?_
 refine TL_call (.bool true) (fun _ _ j _ => r_call (args := [iN p]) (enters_of Try.func81 (by kernel_rfl) rfl) (j _ _ rfl) ((cons2 (j _ _ rfl) rfl)) rfl) (fun w _ => (side_c ((p : Nat) : Int) w).mono fun _ _ h => ⟨h.1.trans (congrArg Ending.returned (bool_as (sideI_of hp))), h.2⟩) rfl rfl rfl (w_n rfl) ?_
 refine TL_v (.bool false) (fun _ _ j _ => r_not (b := true) (j _ _ rfl)) rfl rfl ?_
 refine TL_v (.bool false) (s_mv rfl) rfl rfl ?_
 refine TL_q (iN q) (s_mv rfl) rfl rfl rfl (want_y 11 rfl rfl rfl) ?_
 refine TL_call (.bool true) (fun _ _ j _ => r_call (args := [iN q]) (enters_of Try.func81 (by kernel_rfl) rfl) (j _ _ rfl) ((cons2 (j _ _ rfl) rfl)) rfl) (fun w _ => (side_c ((q : Nat) : Int) w).mono fun _ _ h => ⟨h.1.trans (congrArg Ending.returned (bool_as (sideI_of hq))), h.2⟩) rfl rfl rfl (want_y 11 rfl rfl rfl) ?_
 refine TL_q (.bool false) (fun _ _ j _ => r_not (b := true) (j _ _ rfl)) rfl rfl rfl (want_y 11 rfl rfl rfl) ?_
 refine TL_v (.bool false) (s_pf rfl rfl) rfl rfl ?_
 refine TL_seq ?_
 refine T_cond_f rfl ?_
 refine T_skip' ?_
 refine p_seq ?_
 refine T_seq (T_region ?_)
 refine TL_v (iN p) (s_mv rfl) rfl rfl ?_
 refine TL_v (iN q) (s_mv rfl) rfl rfl ?_
 refine TL_v (.agg #[.int .u8 c.r, .int .u8 c.g, .int .u8 c.b, .int .u8 c.a]) (s_la ag37 sz37 rfl 1 rfl rfl rfl) rfl rfl ?_
 refine TL_new 3 (.cells #[.int .u8 c.r, .int .u8 c.g, .int .u8 c.b, .int .u8 c.a] 37) (fun B => .slice (some ⟨B, 0, none⟩) 1 1) (fun _ _ j _ => r_buildSlice (vs := [(0, .agg #[.int .u8 c.r, .int .u8 c.g, .int .u8 c.b, .int .u8 c.a])]) (by kernel_rfl) (cons2 (pair2 (j _ _ rfl)) rfl)) rfl rfl rfl (w_n rfl) ?_
 intro B3
 refine TL_v (iN p) (s_mv rfl) rfl rfl ?_
 refine TL_v (iN q) (s_mv rfl) rfl rfl ?_
 refine TL_v (iN (p * q)) (s_op r_mul rfl rfl (iw (by omega) (by omega) (by omega))) rfl rfl ?_
 refine TL_callN (fun (_ : Option Addr × Nat) => True) (fun (ar4, cr4) => .slice ar4 ((List.replicate (p * q) c).length) cr4) (fun (ar4, cr4) => [(4, .row (.slice ar4 ((List.replicate (p * q) c).length) cr4) 37 4 ((List.replicate (p * q) c).length) ((List.replicate (p * q) c).flatMap C4.cells))]) (fun _ _ j _ => r_call (args := [.slice (some ⟨B3, 0, none⟩) 1 1, iN (p * q)]) (enters_of Try.func82 (by kernel_rfl) rfl) (j _ _ rfl) ((cons2 (j _ _ rfl) (cons2 (j _ _ rfl) rfl))) rfl) (fun w hm => (rep_c4 c (p * q) B3 w (by omega) (by omega) (hm.at 3 rfl)).mono fun e w' ⟨a', cap', he, hb, hr⟩ => ⟨(a', cap'), trivial, he, hb, newOk1 4 hr⟩) rfl rfl rfl (w_n rfl) ?_
 rintro ⟨ar4, cr4⟩ -
 refine TL_v (.agg #[iN p, iN q, .slice ar4 ((List.replicate (p * q) c).length) cr4]) (fun _ _ j _ => r_build (vs := [(0, iN p), (1, iN q), (2, .slice ar4 ((List.replicate (p * q) c).length) cr4)]) (by kernel_rfl) (cons2 (pair2 (j _ _ rfl)) (cons2 (pair2 (j _ _ rfl)) (cons2 (pair2 (j _ _ rfl)) rfl)))) rfl rfl ?_
 refine TL_store 2 (.cells #[iN p, iN q, .slice ar4 ((List.replicate (p * q) c).length) cr4] 75) rfl (s_st sz75 rfl rfl 2 rfl rfl rfl rfl rfl) rfl rfl (w_n rfl) ?_
 refine TL_v (.int .i64 0) (s_as rfl) rfl rfl ?_
 refine TL_seq ?_
 refine T_ret' ?_
 refine ret_of rfl (.tuple #[.agg #[iN p, iN q, .slice ar4 ((List.replicate (p * q) c).length) cr4], .int .i64 0]) (fun tmps w hk hm => res2 rfl (res_cell (hk 6 _ rfl) (run_loadVar_agg ag75 sz75 (hm.at 2 rfl) (Nat.le_of_ble_eq_true rfl) rfl)) (res_tmp (hk 7 _ rfl))) (fun w hm => ?_)
 have hrow := hm.row 4 rfl
 exact ⟨ar4, cr4, rfl, hm.ext, hrow⟩

theorem rep_ones2 {α : Type} {f : α → List Value} (ho : ∀ x, ∀ v ∈ f x, v.oneCell' = true) (l : List α) : ∀ v ∈ l.flatMap f, v.oneCell' = true := fun v hv => by
 obtain ⟨x, _, hx⟩ := List.mem_flatMap.1 hv
 exact ho x v hx
theorem quo_pq {p q : Nat} (hp : 1 ≤ p) : ((p * q : Nat) : Int).tdiv (p : Int) = (q : Int) := by
 rw [Int.tdiv_eq_ediv_of_nonneg (by omega)]
 exact_mod_cast Nat.mul_div_cancel_left q (by omega)
theorem rem_pq {p q : Nat} : ((p * q : Nat) : Int).tmod (p : Int) = 0 := by
 rw [Int.tmod_eq_emod_of_nonneg (by omega)]
 exact_mod_cast Nat.mul_mod_right p q

theorem sof_ok (p q : Nat) (px : List C4) (a : Option Addr) (cap : Nat) (w : World) (hv : SliceAt w a cap 4 C4.cells px) (hcap : cap ≤ Go.maxLen) (hp : 1 ≤ p ∧ p ≤ 8) (hq : 1 ≤ q ∧ q ≤ 8) (hlen : px.length = p * q) : Calls Try.prog 44 #[.int .i64 (p : Int), .slice a px.length cap] w fun e w' => ∃ a' cap', e = .returned (.tuple #[.agg #[.int .i64 (p : Int), .int .i64 (q : Int), .slice a' px.length cap'], .int .i64 0]) ∧ Below w.heap.size w w' ∧ w'.ownsRow w.heap.size 37 4 (.slice a' (px).length cap') (px).length ((px).flatMap C4.cells) := by
 have hvl := hv.1
 have h64 := size8 hp hq
 unfold Go.maxLen at hcap
 refine calls_of_T (l := [iN p, .slice a px.length cap]) 44 Try.func44 rfl rfl rfl ?_
 show T _ _ _ [(0, iN p), (1, .slice a px.length cap)] []
 refine T_seq (T_region ?_)
 refine TL_new 1 (.cells #[.int .i64 0, .int .i64 0, .slice none 0 0] 75) (fun B => pt B 0) (fun _ _ _ _ => r_alloc (v := .agg #[.int .i64 0, .int .i64 0, .slice none 0 0]) (by kernel_rfl) rfl) rfl rfl rfl (w_n rfl) ?_
 intro B1
 refine TL_v (.int .i64 0) (s_as rfl) rfl rfl ?_
 refine TL_seq ?_
 refine T_seq ?_
 refine T_seq (T_region ?_)
 refine TL_v (iN p) (s_mv rfl) rfl rfl ?_
 refine TL_call (.bool true) (fun _ _ j _ => r_call (args := [iN p]) (enters_of Try.func81 (by kernel_rfl) rfl) (j _ _ rfl) ((cons2 (j _ _ rfl) rfl)) rfl) (fun w _ => (side_c ((p : Nat) : Int) w).mono fun _ _ h => ⟨h.1.trans (congrArg Ending.returned (bool_as (sideI_of hp))), h.2⟩) rfl rfl rfl (w_n rfl) ?_
 refine TL_v (.bool false) (fun _ _ j _ => r_not (b := true) (j _ _ rfl)) rfl rfl ?_
 refine TL_v (.bool false) (s_mv rfl) rfl rfl ?_
 refine TL_q (.slice a px.length cap) (s_mv rfl) rfl rfl rfl (want_y 10 rfl rfl rfl) ?_
 refine TL_q (iN px.length) (fun _ _ j _ => r_len sl71 (j _ _ rfl)) rfl rfl rfl (want_y 10 rfl rfl rfl) ?_
 refine TL_q (iN p) (s_mv rfl) rfl rfl rfl (want_y 10 rfl rfl rfl) ?_
 refine TL_q (.int .i64 0) (fun _ _ j _ => r_as (r_rem (j _ _ rfl) (j _ _ rfl) (by omega)) (int_as (by rw [hlen]; exact rem_pq))) rfl rfl rfl (want_y 10 rfl rfl rfl) ?_
 refine TL_q (.bool false) (s_op r_neq rfl rfl (by rfl)) rfl rfl rfl (want_y 10 rfl rfl rfl) ?_
 refine TL_v (.bool false) (s_pf rfl rfl) rfl rfl ?_
 refine TL_v (.bool false) (s_mv rfl) rfl rfl ?_
 refine TL_q (.slice a px.length cap) (s_mv rfl) rfl rfl rfl (want_y 17 rfl rfl rfl) ?_
 refine TL_q (iN px.length) (fun _ _ j _ => r_len sl71 (j _ _ rfl)) rfl rfl rfl (want_y 17 rfl rfl rfl) ?_
 refine TL_q (iN p) (s_mv rfl) rfl rfl rfl (want_y 17 rfl rfl rfl) ?_
 refine TL_q (iN q) (fun _ _ j _ => r_as (r_quo (j _ _ rfl) (j _ _ rfl) (by omega)) (int_as (by rw [hlen, quo_pq hp.1]; exact wrap64 (by omega) (by omega)))) rfl rfl rfl (want_y 17 rfl rfl rfl) ?_
 refine TL_call (.bool true) (fun _ _ j _ => r_call (args := [iN q]) (enters_of Try.func81 (by kernel_rfl) rfl) (j _ _ rfl) ((cons2 (j _ _ rfl) rfl)) rfl) (fun w _ => (side_c ((q : Nat) : Int) w).mono fun _ _ h => ⟨h.1.trans (congrArg Ending.returned (bool_as (sideI_of hq))), h.2⟩) rfl rfl rfl (want_y 17 rfl rfl rfl) ?_
 refine TL_q (.bool false) (fun _ _ j _ => r_not (b := true) (j _ _ rfl)) rfl rfl rfl (want_y 17 rfl rfl rfl) ?_
 refine TL_v (.bool false) (s_pf rfl rfl) rfl rfl ?_
 refine TL_seq ?_
 refine T_cond_f rfl ?_
 refine T_skip' ?_
 refine p_seq ?_
 refine T_seq (T_region ?_)
 refine TL_v (.slice a px.length cap) (s_mv rfl) rfl rfl ?_
 refine TL_v (iN px.length) (fun _ _ j _ => r_len sl71 (j _ _ rfl)) rfl rfl ?_
 refine TL_op (ι := Nat) (fun B => .slice (some ⟨B, 0, none⟩) px.length px.length) _ (fun _ _ j hm => o_make (n := px.length) (cap := px.length) (z := .agg #[z8, z8, z8, z8]) (f := C4.cells) (u := zeroC) 940 rfl (j _ _ rfl) (j _ _ rfl) sl71 by37 sz37 rfl (by kernel_rfl) rfl C4.cells_len (by omega) (by omega) (by omega) hm) rfl rfl rfl (w_n rfl) ?_
 intro B2
 refine TL_v (.slice (some ⟨B2, 0, none⟩) px.length px.length) (s_as rfl) rfl rfl ?_
 refine TL_seq ?_
 refine T_seq (T_region ?_)
 refine TL_v (.slice (some ⟨B2, 0, none⟩) px.length px.length) (s_mv rfl) rfl rfl ?_
 refine TL_v (.slice a px.length cap) (s_mv rfl) rfl rfl ?_
 refine TL_op1 (iN px.length) _ (fun _ _ j hm => o_copy (s := 4) (news := (px.flatMap C4.cells)) 940 rfl (j _ _ rfl) (j _ _ rfl) rfl sl71 sz37 (src_of C4.cells_len (hv.keep hm.ext)) (rep_ones2 C4.cells_one px) hm) rfl rfl rfl (w_n rfl) ?_
 refine TL_seq ?_
 refine T_seq (T_draw (V := [(0, iN p), (1, .slice (some ⟨B2, 0, none⟩) px.length px.length), (2, iN px.length), (3, iN p), (4, iN q), (5, .slice (some ⟨B2, 0, none⟩) px.length px.length), (6, .slice (some ⟨B2, 0, none⟩) px.length px.length), (7, iN px.length), (8, .slice (some ⟨B2, 0, none⟩) px.length px.length), (9, iN px.length), (10, .slice (some ⟨B2, 0, none⟩) px.length px.length), (11, .agg #[iN p, iN q, .slice (some ⟨B2, 0, none⟩) px.length px.length])]) [0, 0, 2, 0, 14, 0, 0, 64, 0, 256, 992, 2047, 4095, 8191] [[(0, none)], [(6, none)], [(33, some 1)], [(0, none)], [(34, some 2), (35, some 3)], [(6, none)], [(6, none)], [(38, some 6)], [(6, none)], [(40, some 8)], [(37, some 5), (39, some 7), (41, some 9)], [(32, some 0), (36, some 4), (42, some 10)], [(4, none), (43, some 11)], []] 4096 mixed (by kernel_rfl) ?_)
 refine G_step [0, 1, 2, 3, 4, 5, 6, 7, 8, 9, 10, 11] 12 [] (by kernel_rfl) (allM (all_cons (q_r (iN p) rfl rfl rfl (s_mv rfl)) (all_cons (q_r (.slice (some ⟨B2, 0, none⟩) px.length px.length) rfl rfl rfl (s_mv rfl)) (all_cons (q_r (iN px.length) rfl rfl rfl (fun _ _ j _ => r_len sl71 (j _ _ rfl))) (all_cons (q_r (iN p) rfl rfl rfl (s_mv rfl)) (all_cons (q_r (iN q) rfl rfl rfl (fun _ _ j _ => r_as (r_quo (j _ _ rfl) (j _ _ rfl) (by omega)) (int_as (by rw [hlen, quo_pq hp.1]; exact wrap64 (by omega) (by omega))))) (all_cons (q_r (.slice (some ⟨B2, 0, none⟩) px.length px.length) rfl rfl rfl (s_mv rfl)) (all_cons (q_r (.slice (some ⟨B2, 0, none⟩) px.length px.length) rfl rfl rfl (s_mv rfl)) (all_cons (q_r (iN px.length) rfl rfl rfl (fun _ _ j _ => r_len sl71 (j _ _ rfl))) (all_cons (q_r (.slice (some ⟨B2, 0, none⟩) px.length px.length) rfl rfl rfl (s_mv rfl)) (all_cons (q_r (iN px.length) rfl rfl rfl (fun _ _ j _ => r_len sl71 (j _ _ rfl))) (all_cons (q_r (.slice (some ⟨B2, 0, none⟩) px.length px.length) rfl rfl rfl (fun ρ _ j _ => r_as (r_sliceS sl71 sz37 (j _ _ rfl) (bd_some (n := px.length) (j _ _ rfl)) (bd_some (n := px.length) (j _ _ rfl)) (bd_none ρ _) (by simp) (by omega) (by omega) (by omega)) (by simp))) (all_cons (q_r (.agg #[iN p, iN q, .slice (some ⟨B2, 0, none⟩) px.length px.length]) rfl rfl rfl (fun _ _ j _ => r_build (vs := [(0, iN p), (1, iN q), (2, .slice (some ⟨B2, 0, none⟩) px.length px.length)]) (by kernel_rfl) (cons2 (pair2 (j _ _ rfl)) (cons2 (pair2 (j _ _ rfl)) (cons2 (pair2 (j _ _ rfl)) rfl))))) all_nil))))))))))))) (allM (all_cons ?_ all_nil))
 refine LOb_store 1 (.cells #[iN p, iN q, .slice (some ⟨B2, 0, none⟩) px.length px.length] 75) [(13, .int .i64 0)] rfl (wv_n rfl) rfl rfl rfl (s_st sz75 rfl rfl 1 rfl rfl rfl rfl rfl) (by kernel_rfl) ?_
 refine G_last [13] [(4, pt B1 0), (5, .int .i64 0)] (by kernel_rfl) (allM (all_cons (q_r (.int .i64 0) rfl rfl rfl (s_as rfl)) all_nil)) (end_old rfl rfl (end_new 13 rfl rfl end_nil)) ?_
 refine T_ret' ?_
 refine ret_of rfl (.tuple #[.agg #[iN p, iN q, .slice (some ⟨B2, 0, none⟩) px.length px.length], .int .i64 0]) (fun tmps w hk hm => res2 rfl (res_cell (hk 4 _ rfl) (run_loadVar_agg ag75 sz75 (hm.at 1 rfl) (Nat.le_of_ble_eq_true rfl) rfl)) (res_tmp (hk 5 _ rfl))) (fun w hm => ?_)
 have hrow := hm.row 940 rfl
 exact ⟨some ⟨B2, 0, none⟩, _, rfl, hm.ext, hrow⟩

theorem srat_c (p q : Nat) (px : List C4) (a : Option Addr) (cap : Nat) (w : World) (hv : SliceAt w a cap 4 C4.cells px) (hcap : cap ≤ Go.maxLen) (hp : 1 ≤ p ∧ p ≤ 8) (hq : 1 ≤ q ∧ q ≤ 8) (hlen : px.length = p * q) (x y : Nat) (hx : x < p) (hy : y < q) (c : C4) (hc : px[y * p + x]? = some c) : Calls Try.prog 57 #[.agg #[.int .i64 (p : Int), .int .i64 (q : Int), .slice a px.length cap], .int .i64 (x : Int), .int .i64 (y : Int)] w fun e w' => e = .returned (.agg (C4.cells c).toArray) ∧ Below w.heap.size w w' := by
 have hvl := hv.1
 have h64 := size8 hp hq
 unfold Go.maxLen at hcap
 refine calls_of_T (l := [.agg #[iN p, iN q, .slice a px.length cap], iN x, iN y]) 17 Try.func57 rfl rfl rfl ?_
 show T _ _ _ [(0, .agg #[iN p, iN q, .slice a px.length cap]), (1, iN x), (2, iN y)] []
 refine T_seq (T_region ?_)
 refine TL_new 1 (.cells #[iN p, iN q, .slice a px.length cap] 75) (fun B => pt B 0) (fun _ _ j _ => r_box (j _ _ rfl) rfl) rfl rfl rfl (w_n rfl) ?_
 intro B1
 refine TL_new 2 (.cells #[z8, z8, z8, z8] 37) (fun B => pt B 0) (fun _ _ _ _ => r_alloc (v := .agg #[z8, z8, z8, z8]) (by kernel_rfl) rfl) rfl rfl rfl (w_n rfl) ?_
 intro B2
 refine TL_seq ?_
 have hxy := in_px hx hy
 obtain ⟨b3, of3, cs3, T3, fz3, ha3, hq3, hr3⟩ := hv.open (i := y * p + x) (by omega)
 subst ha3
 refine T_seq (T_region ?_)
 refine TL_v (pt B1 2) (s_fa fl75_2 sz71 rfl) rfl rfl ?_
 refine TL_v (.slice (some ⟨b3, of3, none⟩) px.length cap) (s_ld ag71 rfl 1 rfl rfl) rfl rfl ?_
 refine TL_v (iN y) (s_mv rfl) rfl rfl ?_
 refine TL_v (pt B1 0) (s_fa fl75_0 sz3 rfl) rfl rfl ?_
 refine TL_v (iN p) (s_ld ag3 rfl 1 rfl rfl) rfl rfl ?_
 refine TL_v (iN (y * p)) (s_op r_mul rfl rfl (iw (by omega) (by omega) (by omega))) rfl rfl ?_
 refine TL_v (iN x) (s_mv rfl) rfl rfl ?_
 refine TL_v (iN (y * p + x)) (s_op r_add rfl rfl (iw (by omega) (by omega) (by omega))) rfl rfl ?_
 refine TL_v (pt b3 (of3 + (y * p + x) * 4)) (fun _ _ j _ => r_indexAddrS (i := y * p + x) sl71 sz37 (j _ _ rfl) (j _ _ rfl) (by omega)) rfl rfl ?_
 refine TL_v (.agg #[.int .u8 c.r, .int .u8 c.g, .int .u8 c.b, .int .u8 c.a]) (fun _ _ j hm => r_loadRow (f := C4.cells) (u := c) ag37 sz37 (j _ _ rfl) (hm.old hq3) hr3 hc) rfl rfl ?_
 refine TL_store 2 (.cells #[.int .u8 c.r, .int .u8 c.g, .int .u8 c.b, .int .u8 c.a] 37) rfl (s_st sz37 rfl rfl 2 rfl rfl rfl rfl rfl) rfl rfl (w_n rfl) ?_
 refine TL_seq ?_
 refine T_ret' ?_
 refine ret_of rfl (.agg #[.int .u8 c.r, .int .u8 c.g, .int .u8 c.b, .int .u8 c.a]) (fun tmps w hk hm => res1 rfl (res_cell (hk 6 _ rfl) (run_loadVar_agg ag37 sz37 (hm.at 2 rfl) (Nat.le_of_ble_eq_true rfl) rfl))) (fun w hm => ?_)
 exact ⟨rfl, hm.ext⟩

theorem sat_c (P p q : Nat) (px : List C4) (a : Option Addr) (cap : Nat) (w : World) (hP : hp w P = some (.cells #[.int .i64 (p : Int), .int .i64 (q : Int), .slice a px.length cap] 138)) (hv : SliceAt w a cap 4 C4.cells px) (hcap : cap ≤ Go.maxLen) (hp : 1 ≤ p ∧ p ≤ 8) (hq : 1 ≤ q ∧ q ≤ 8) (hlen : px.length = p * q) (x y : Nat) (hx : x < p) (hy : y < q) (c : C4) (hc : px[y * p + x]? = some c) : Calls Try.prog 91 #[.pointer (some ⟨P, 0, none⟩), .agg #[.int .i64 (x : Int), .int .i64 (y : Int)]] w fun e w' => e = .returned (.agg (C4.cells c).toArray) ∧ Below w.heap.size w w' := by
 have hvl := hv.1
 have h64 := size8 hp hq
 unfold Go.maxLen at hcap
 obtain ⟨b, of, cs, TY, fz, ha, hcr, hrr⟩ := hv.open (i := 0) (by omega)
 subst ha
 refine calls_of_T (l := [pt P 0, .agg #[iN x, iN y]]) 23 Try.func91 rfl rfl rfl ?_
 show T _ _ _ [(0, pt P 0), (1, .agg #[iN x, iN y])] []
 refine T_seq (T_region ?_)
 refine TL_new 1 (.cells #[iN x, iN y] 47) (fun B => pt B 0) (fun _ _ j _ => r_box (j _ _ rfl) rfl) rfl rfl rfl (w_n rfl) ?_
 intro B1
 refine TL_new 2 (.cells #[z8, z8, z8, z8] 37) (fun B => pt B 0) (fun _ _ _ _ => r_alloc (v := .agg #[z8, z8, z8, z8]) (by kernel_rfl) rfl) rfl rfl rfl (w_n rfl) ?_
 intro B2
 refine TL_seq ?_
 have hxy := in_px hx hy
 refine T_seq (T_draw (V := [(0, pt P 0), (1, pt P 0), (2, pt P 0), (3, pt P 2), (4, .slice (some ⟨b, of, none⟩) px.length cap), (5, pt B1 1), (6, iN y), (7, pt P 0), (8, pt P 0), (9, pt P 0), (10, pt P 0), (11, iN p), (12, iN (y * p)), (13, pt B1 0), (14, iN x), (15, iN (y * p + x)), (16, pt b (of + (y * p + x) * 4)), (17, .agg #[.int .u8 c.r, .int .u8 c.g, .int .u8 c.b, .int .u8 c.a])]) [0, 1, 3, 7, 15, 0, 32, 0, 128, 384, 896, 1920, 4064, 0, 8192, 32736, 65535, 131071, 262143] [[(0, none)], [(5, some 0)], [(6, some 1)], [(7, some 2)], [(8, some 3)], [(3, none)], [(10, some 5)], [(0, none)], [(12, some 7)], [(13, some 8)], [(14, some 9)], [(15, some 10)], [(11, some 6), (16, some 11)], [(3, none)], [(18, some 13)], [(17, some 12), (19, some 14)], [(9, some 4), (20, some 15)], [(21, some 16)], [(4, none), (22, some 17)]] 262144 mixed (by kernel_rfl) ?_)
 refine G_step [0, 1, 2, 3, 4, 5, 6, 7, 8, 9, 10, 11, 12, 13, 14, 15, 16, 17] 18 [] (by kernel_rfl) (allM (all_cons (q_r (pt P 0) rfl rfl rfl (s_mv rfl)) (all_cons (q_r (pt P 0) rfl rfl rfl (s_nc rfl rfl)) (all_cons (q_r (pt P 0) rfl rfl rfl (s_fa fl138_0 sz75 rfl)) (all_cons (q_r (pt P 2) rfl rfl rfl (s_fa fl75_2 sz71 rfl)) (all_cons (q_r (.slice (some ⟨b, of, none⟩) px.length cap) rfl rfl rfl (fun _ _ j hm => r_load ag71 (j _ _ rfl) (hm.old hP) rfl)) (all_cons (q_r (pt B1 1) rfl rfl rfl (s_fa fl47_1 sz3 rfl)) (all_cons (q_r (iN y) rfl rfl rfl (s_ld ag3 rfl 1 rfl rfl)) (all_cons (q_r (pt P 0) rfl rfl rfl (s_mv rfl)) (all_cons (q_r (pt P 0) rfl rfl rfl (s_nc rfl rfl)) (all_cons (q_r (pt P 0) rfl rfl rfl (s_fa fl138_0 sz75 rfl)) (all_cons (q_r (pt P 0) rfl rfl rfl (s_fa fl75_0 sz3 rfl)) (all_cons (q_r (iN p) rfl rfl rfl (fun _ _ j hm => r_load ag3 (j _ _ rfl) (hm.old hP) rfl)) (all_cons (q_r (iN (y * p)) rfl rfl rfl (s_op r_mul rfl rfl (iw (by omega) (by omega) (by omega)))) (all_cons (q_r (pt B1 0) rfl rfl rfl (s_fa fl47_0 sz3 rfl)) (all_cons (q_r (iN x) rfl rfl rfl (s_ld ag3 rfl 1 rfl rfl)) (all_cons (q_r (iN (y * p + x)) rfl rfl rfl (s_op r_add rfl rfl (iw (by omega) (by omega) (by omega)))) (all_cons (q_r (pt b (of + (y * p + x) * 4)) rfl rfl rfl (fun _ _ j _ => r_indexAddrS (i := y * p + x) sl71 sz37 (j _ _ rfl) (j _ _ rfl) (by omega))) (all_cons (q_r (.agg #[.int .u8 c.r, .int .u8 c.g, .int .u8 c.b, .int .u8 c.a]) rfl rfl rfl (fun _ _ j hm => r_loadRow (f := C4.cells) (u := c) ag37 sz37 (j _ _ rfl) (hm.old hcr) hrr hc)) all_nil))))))))))))))))))) (allM (all_cons ?_ all_nil))
 refine LOb_store 2 (.cells #[.int .u8 c.r, .int .u8 c.g, .int .u8 c.b, .int .u8 c.a] 37) [] rfl (wv_n rfl) rfl rfl rfl (s_st sz37 rfl rfl 2 rfl rfl rfl rfl rfl) (by kernel_rfl) ?_
 refine G_last [] [(4, pt B2 0)] (by kernel_rfl) (allM all_nil) (end_old rfl rfl end_nil) ?_
 refine T_ret' ?_
 refine ret_of rfl (.agg #[.int .u8 c.r, .int .u8 c.g, .int .u8 c.b, .int .u8 c.a]) (fun tmps w hk hm => res1 rfl (res_cell (hk 4 _ rfl) (run_loadVar_agg ag37 sz37 (hm.at 2 rfl) (Nat.le_of_ble_eq_true rfl) rfl))) (fun w hm => ?_)
 exact ⟨rfl, hm.ext⟩
end Go.Proofs.Ytbiapeaghbndoaa
/- stamp: pixels moved, one by one. -/
namespace Go.Proofs.Ytbiapeaghbndoaa
open Go Go.RowKit
def ptsG (W H : Nat) : List (Nat × Nat) := (List.range (H * W)).map fun k => (k % W, k / W)
theorem ptsG_len (W H : Nat) : (ptsG W H).length = H * W := by simp [ptsG]
theorem ptsG_at {x y W H : Nat} (hx : x < W) (hy : y < H) : (ptsG W H)[y * W + x]? = some (x, y) := by
  obtain ⟨h1, h2, h3⟩ := row_in hx hy
  unfold ptsG
  rw [List.getElem?_map, List.getElem?_range h1, Option.map_some, h2, h3]
theorem ptsG_in {k W H : Nat} {x : Nat × Nat} (h : (ptsG W H)[k]? = some x) : x.1 < W ∧ x.2 < H ∧ x.2 * W + x.1 = k ∧ k < H * W := by
  unfold ptsG at h
  rw [List.getElem?_map] at h
  obtain ⟨j, hj, rfl⟩ := Option.map_eq_some_iff.1 h
  have hk := (List.getElem?_eq_some_iff.1 hj).1
  rw [List.getElem?_range (by simpa using hk)] at hj
  cases hj
  rw [List.length_range] at hk
  have h0 : 0 < W := by
    rcases Nat.eq_zero_or_pos W with e | e
    · rw [e, Nat.mul_zero] at hk; omega
    · exact e
  exact ⟨Nat.mod_lt _ h0, (Nat.div_lt_iff_lt_mul h0).2 hk, by rw [Nat.mul_comm]; exact Nat.div_add_mod k W, hk⟩
def tgt (W wide : Nat) (fx fy : Nat → Nat → Nat) (k : Nat) : Nat := fy (k % W) (k / W) * wide + fx (k % W) (k / W)
def mvL (g : Nat → Nat) (px : List C4) (n : Nat) : Nat → List C4
  | 0 => List.replicate n zeroC
  | k + 1 => (mvL g px n k).set (g k) (get px k)
theorem mvL_len (g : Nat → Nat) (px : List C4) (n : Nat) : ∀ k, (mvL g px n k).length = n
  | 0 => by simp [mvL]
  | k + 1 => by rw [mvL, List.length_set]; exact mvL_len g px n k
theorem get_of {l : List C4} {i : Nat} {c : C4} (h : l[i]? = some c) : get l i = c := by
  unfold get
  rw [List.getD_eq_getElem?_getD, h]; rfl
theorem mvL_step {W H wide n k : Nat} {fx fy : Nat → Nat → Nat} {px : List C4} {x : Nat × Nat} {c : C4} (hx : (ptsG W H)[k]? = some x) (hc : px[x.2 * W + x.1]? = some c) : (mvL (tgt W wide fx fy) px n k).set (fy x.1 x.2 * wide + fx x.1 x.2) c = mvL (tgt W wide fx fy) px n (k + 1) := by
  obtain ⟨h1, h2, h3, h4⟩ := ptsG_in hx
  obtain ⟨-, h5, h6⟩ := row_in h1 h2
  rw [h3] at h5 h6 hc
  show _ = (mvL (tgt W wide fx fy) px n k).set (tgt W wide fx fy k) (get px k)
  unfold tgt
  rw [h5, h6, get_of hc]
end Go.Proofs.Ytbiapeaghbndoaa
/- canvas: places, moved. Printed by a program of this seat's prover. -/
namespace Go.Proofs.Ytbiapeaghbndoaa
open Go Go.RowKit
set_option maxRecDepth 10000
theorem places_iter {ι : Type} (w₀ : World) (p : Nat → ι → Prop) (LJ : Nat → ι → Heap) (id bz P mw mh : Nat) (sv : Value) (hW : mw ≤ 64) (hH : mh ≤ 64) (hsz : ∀ k i, lk (LJ k i) id = some (.blk bz (.cells #[.pointer (some ⟨P, 0, none⟩)] 134))) (hP : ∀ k i w, MemOk w₀ (LJ k i) w → hp w P = some (.cells #[.int .i64 (mw : Int), .int .i64 (mh : Int), sv] 138)) :
  IterAt Try.prog w₀ 105 #[.pointer (some ⟨bz, 0, none⟩)] encPt (ptsG mw mh) p LJ := by
 intro l κ pX LX hY i₀ W₁ hp0 hm0
 show Calls _ _ #[.func (.yield l) #[] #[], pt bz 0] _ _
 refine ht_of_T (l := [.func (.yield l) #[] #[], pt bz 0]) (L := LJ 0 i₀) 29 Try.func105 rfl rfl rfl ?_ W₁ hm0
 show T _ _ _ [(0, .func (.yield l) #[] #[]), (1, pt bz 0)] (LJ 0 i₀)
 refine T_scope ?_
 refine T_label ?_
 refine T_seq (T_region ?_)
 refine TL_v (pt P 0) (fun _ _ j hm => r_load ag134 (j _ _ rfl) (hm.at id (hsz _ _)) rfl) rfl rfl ?_
 refine TL_v (pt P 0) (s_nc rfl rfl) rfl rfl ?_
 refine TL_v (pt P 0) (s_fa fl138_0 sz75 rfl) rfl rfl ?_
 refine TL_v (pt P 1) (s_fa fl75_1 sz3 rfl) rfl rfl ?_
 refine TL_v (iN mh) (fun _ _ j hm => r_load ag3 (j _ _ rfl) (hP _ _ _ hm) rfl) rfl rfl ?_
 refine TL_v (.int .i64 0) (s_mv rfl) rfl rfl ?_
 refine TL_seq ?_
 refine T_block ?_
 refine T_loopE (ι := Nat × ι) (fun (z : Nat × ι) => match z with | (y, i) => y ≤ mh ∧ p (y * mw) i) (fun (z : Nat × ι) => match z with | (y, i) => [(0, .func (.yield l) #[] #[]), (1, pt bz 0), (9, iN mh), (10, iN y)]) (fun (z : Nat × ι) => match z with | (y, i) => (LJ (y * mw) i)) (fun (z : Nat × ι) => match z with | (y, i) => mh - y) (0, i₀) ⟨Nat.zero_le _, by rw [Nat.zero_mul]; exact hp0⟩ (sc4 rfl rfl rfl rfl sub_nil) (by dsimp only; rw [Nat.zero_mul]) ?_
 rintro ⟨y, i⟩ hp
 obtain ⟨hy, hpi⟩ := hp
 show T _ _ _ [(0, .func (.yield l) #[] #[]), (1, pt bz 0), (9, iN mh), (10, iN y)] (LJ (y * mw) i)
 refine T_seq (T_region ?_)
 refine TL_v (.bool (decide (((y : Nat) : Int) < ((mh : Nat) : Int)))) (fun _ _ j _ => r_lss (j _ _ rfl) (j _ _ rfl)) rfl rfl ?_
 refine TL_seq ?_
 refine T_seq ?_
 refine T_cond rfl (fun h1 => ?_) (fun h1 => ?_)
 ·replace h1 := of_decide_eq_true h1
  refine T_skip' ?_
  refine p_seq ?_
  refine T_seq ?_
  refine T_block ?_
  refine T_seq (T_region ?_)
  refine TL_v (iN y) (s_mv rfl) rfl rfl ?_
  refine TL_v (iN y) (s_as rfl) rfl rfl ?_
  refine TL_seq ?_
  refine T_seq (T_region ?_)
  refine TL_v (pt P 0) (fun _ _ j hm => r_load ag134 (j _ _ rfl) (hm.at id (hsz _ _)) rfl) rfl rfl ?_
  refine TL_v (pt P 0) (s_nc rfl rfl) rfl rfl ?_
  refine TL_v (pt P 0) (s_fa fl138_0 sz75 rfl) rfl rfl ?_
  refine TL_v (pt P 0) (s_fa fl75_0 sz3 rfl) rfl rfl ?_
  refine TL_v (iN mw) (fun _ _ j hm => r_load ag3 (j _ _ rfl) (hP _ _ _ hm) rfl) rfl rfl ?_
  refine TL_v (.int .i64 0) (s_mv rfl) rfl rfl ?_
  refine TL_seq ?_
  refine T_block ?_
  refine T_loopE (ι := Nat × ι) (fun (z : Nat × ι) => match z with | (x, i) => x ≤ mw ∧ p (y * mw + x) i) (fun (z : Nat × ι) => match z with | (x, i) => [(0, .func (.yield l) #[] #[]), (1, pt bz 0), (9, iN mh), (10, iN y), (11, .bool (decide (((y : Nat) : Int) < ((mh : Nat) : Int)))), (12, iN y), (3, iN y), (13, pt P 0), (14, pt P 0), (15, pt P 0), (16, pt P 0), (17, iN mw), (18, iN x)]) (fun (z : Nat × ι) => match z with | (x, i) => (LJ (y * mw + x) i)) (fun (z : Nat × ι) => match z with | (x, i) => mw - x) (0, i) ⟨Nat.zero_le _, hpi⟩ (sc4 rfl rfl rfl rfl (sc4 rfl rfl rfl rfl (sc4 rfl rfl rfl rfl (sc rfl sub_nil)))) rfl ?_
  rintro ⟨x, i⟩ hp
  obtain ⟨hx, hp2⟩ := hp
  show T _ _ _ [(0, .func (.yield l) #[] #[]), (1, pt bz 0), (9, iN mh), (10, iN y), (11, .bool (decide (((y : Nat) : Int) < ((mh : Nat) : Int)))), (12, iN y), (3, iN y), (13, pt P 0), (14, pt P 0), (15, pt P 0), (16, pt P 0), (17, iN mw), (18, iN x)] (LJ (y * mw + x) i)
  refine T_seq (T_region ?_)
  refine TL_v (.bool (decide (((x : Nat) : Int) < ((mw : Nat) : Int)))) (fun _ _ j _ => r_lss (j _ _ rfl) (j _ _ rfl)) rfl rfl ?_
  refine TL_seq ?_
  refine T_seq ?_
  refine T_cond rfl (fun h2 => ?_) (fun h2 => ?_)
  ·replace h2 := of_decide_eq_true h2
   refine T_skip' ?_
   refine p_seq ?_
   refine T_seq ?_
   refine T_block ?_
   refine T_seq (T_region ?_)
   refine TL_v (iN x) (s_mv rfl) rfl rfl ?_
   refine TL_v (iN x) (s_as rfl) rfl rfl ?_
   refine TL_seq ?_
   refine T_seq (T_region ?_)
   refine TL_v (.func (.yield l) #[] #[]) (s_mv rfl) rfl rfl ?_
   refine TL_v (iN x) (s_mv rfl) rfl rfl ?_
   refine TL_v (iN y) (s_mv rfl) rfl rfl ?_
   refine TL_v (.agg #[iN x, iN y]) (fun _ _ j _ => r_build (vs := [(0, iN x), (1, iN y)]) (by kernel_rfl) (cons2 (pair2 (j _ _ rfl)) (cons2 (pair2 (j _ _ rfl)) rfl))) rfl rfl ?_
   refine TL_yieldB (fun i => p (y * mw + x + 1) i) (fun i => LJ (y * mw + x + 1) i) pX LX rfl (fun _ _ j _ => r_yield (j _ _ rfl) ((cons2 (j _ _ rfl) rfl))) (fun W hm => hY (y * mw + x) (x, y) i W (ptsG_at (by omega) (by omega)) hp2 hm) rfl rfl rfl (w_n rfl) ?_
   intro yx1 hyx1
   refine TL_v (.bool (!yx1.isLeft)) (fun _ _ j _ => r_not (b := yx1.isLeft) (j _ _ rfl)) rfl rfl ?_
   refine TL_seq ?_
   refine T_cond rfl (fun h3 => ?_) (fun h3 => ?_)
   ·replace h3 := bnot_t h3
    obtain ⟨j, rfl⟩ := isR h3
    refine T_exit' ?_
    refine p_blk_o rfl ?_
    refine p_then_x ?_
    refine p_then_x ?_
    refine p_blk_o rfl ?_
    refine p_blk_o rfl ?_
    refine p_then_x ?_
    refine p_then_x ?_
    refine p_blk_x ?_
    refine p_ng_n ?_
    refine p_end ?_
    refine ret_of rfl (.tuple #[]) (fun tmps w hk hm => results_none rfl _ _ _) (fun w hm => ?_)
    first
     | exact ⟨⟨_, rfl⟩, .inr ⟨j, hyx1, hm⟩⟩
     | (have hy8 : y = mh := (by omega); subst hy8; exact ⟨⟨_, rfl⟩, .inl ⟨i, by rw [ptsG_len]; exact hpi, by rw [ptsG_len]; exact hm⟩⟩)
   ·replace h3 := bnot_f h3
    obtain ⟨i1, rfl⟩ := isL h3
    refine T_skip' ?_
    refine p_blk_n ?_
    refine p_seq ?_
    refine T_region ?_
    refine TL_v (iN (x + 1)) (s_op r_add rfl rfl (iw (by omega) (by omega) (by omega))) rfl rfl ?_
    refine TL_v (iN (x + 1)) (s_mv rfl) rfl rfl ?_
    refine TL_nil ?_
    exact p_atE (x + 1, i1) ⟨⟨by omega, hyx1⟩, by dsimp only; omega⟩ (sc4 rfl rfl rfl rfl (sc4 rfl rfl rfl rfl (sc4 rfl rfl rfl rfl (sc rfl sub_nil)))) rfl
  ·replace h2 := of_decide_eq_false h2
   refine T_exit' ?_
   refine p_then_x ?_
   refine p_then_x ?_
   refine p_blk_x ?_
   refine p_blk_n ?_
   refine p_seq ?_
   have hx8 : x = mw := by omega
   rw [hx8] at hp2 ⊢
   refine T_region ?_
   refine TL_v (iN (y + 1)) (s_op r_add rfl rfl (iw (by omega) (by omega) (by omega))) rfl rfl ?_
   refine TL_v (iN (y + 1)) (s_mv rfl) rfl rfl ?_
   refine TL_nil ?_
   have eW := row_end y mw
   rw [eW] at hp2 ⊢
   exact p_atE (y + 1, i) ⟨⟨by omega, hp2⟩, by dsimp only; omega⟩ (sc4 rfl rfl rfl rfl sub_nil) rfl
 ·replace h1 := of_decide_eq_false h1
  refine T_exit' ?_
  refine p_then_x ?_
  refine p_then_x ?_
  refine p_blk_x ?_
  refine p_ng_n ?_
  refine p_end ?_
  refine ret_of rfl (.tuple #[]) (fun tmps w hk hm => results_none rfl _ _ _) (fun w hm => ?_)
  first
   | exact ⟨⟨_, rfl⟩, .inr ⟨j, hyx1, hm⟩⟩
   | (have hy8 : y = mh := (by omega); subst hy8; exact ⟨⟨_, rfl⟩, .inl ⟨i, by rw [ptsG_len]; exact hpi, by rw [ptsG_len]; exact hm⟩⟩)

theorem places_c (P : Nat) (w : World) : Calls Try.prog 95 #[.pointer (some ⟨P, 0, none⟩)] w fun e w' => ∃ q, e = .returned (.func (.func 105) #[] #[.pointer (some ⟨q, 0, none⟩)]) ∧ Below w.heap.size w w' ∧ (Res.blk q (.cells #[.pointer (some ⟨P, 0, none⟩)] 134)).ok w.heap.size w' := by
 refine calls_of_T (l := [pt P 0]) 4 Try.func95 rfl rfl rfl ?_
 show T _ _ _ [(0, pt P 0)] []
 refine T_seq (T_region ?_)
 refine TL_new 1 (.cells #[pt P 0] 134) (fun B => pt B 0) (fun _ _ j _ => r_box (j _ _ rfl) rfl) rfl rfl rfl (w_n rfl) ?_
 intro B1
 refine TL_v (.nilFunc) (s_as rfl) rfl rfl ?_
 refine TL_seq ?_
 refine T_seq (T_region ?_)
 refine TL_v (.func (.func 105) #[] #[pt B1 0]) (fun _ _ j _ => r_makeFunc (by simp) (map_arr (cons2 (j _ _ rfl) rfl))) rfl rfl ?_
 refine TL_v (.func (.func 105) #[] #[pt B1 0]) (s_as rfl) rfl rfl ?_
 refine TL_seq ?_
 refine T_ret' ?_
 refine ret_of rfl (.func (.func 105) #[] #[pt B1 0]) (fun tmps w hk hm => res1 rfl (res_tmp (hk 2 _ rfl))) (fun w hm => ?_)
 exact ⟨B1, rfl, hm.ext, hm.own 1 _ rfl⟩

set_option maxHeartbeats 1000000 in
theorem moved_c (P p q : Nat) (px : List C4) (a : Option Addr) (cap : Nat) (w : World) (hP : hp w P = some (.cells #[.int .i64 (p : Int), .int .i64 (q : Int), .slice a px.length cap] 138)) (hv : SliceAt w a cap 4 C4.cells px) (hcap : cap ≤ Go.maxLen) (hp : 1 ≤ p ∧ p ≤ 8) (hq : 1 ≤ q ∧ q ≤ 8) (hlen : px.length = p * q) (wide high : Nat) (hwi : 1 ≤ wide ∧ wide ≤ 8) (hhi : 1 ≤ high ∧ high ≤ 8) (g : Nat) (cp : Array Value) (hE : Enters Try.prog g) (fx fy : Nat → Nat → Nat) (hin : ∀ x y, x < p → y < q → fx x y < wide ∧ fy x y < high) (hto : ∀ w2, Below w.heap.size w w2 → ∀ x y : Nat, x < p → y < q → Calls Try.prog g (#[.agg #[.int .i64 (x : Int), .int .i64 (y : Int)]] ++ cp) w2 fun e w3 => e = .returned (.agg #[.int .i64 (fx x y : Nat), .int .i64 (fy x y : Nat)]) ∧ Below w2.heap.size w2 w3) : Calls Try.prog 86 #[.pointer (some ⟨P, 0, none⟩), .int .i64 (wide : Int), .int .i64 (high : Int), .func (.func g) #[] cp] w fun e w' => ∃ a' cap', e = .returned (.agg #[.int .i64 (wide : Int), .int .i64 (high : Int), .slice a' (mvL (tgt p wide fx fy) px (wide * high) (q * p)).length cap']) ∧ Below w.heap.size w w' ∧ w'.ownsRow w.heap.size 37 4 (.slice a' (mvL (tgt p wide fx fy) px (wide * high) (q * p)).length cap') (mvL (tgt p wide fx fy) px (wide * high) (q * p)).length ((mvL (tgt p wide fx fy) px (wide * high) (q * p)).flatMap C4.cells) := by
 have hvl := hv.1
 have h64 := size8 hp hq
 have h642 := size8 hwi hhi
 unfold Go.maxLen at hcap
 refine calls_of_T (l := [pt P 0, iN wide, iN high, .func (.func g) #[] cp]) 47 Try.func86 rfl rfl rfl ?_
 show T _ _ _ [(0, pt P 0), (1, iN wide), (2, iN high), (3, .func (.func g) #[] cp)] []
 refine T_seq (T_region ?_)
 refine TL_new 1 (.cells #[pt P 0] 134) (fun B => pt B 0) (fun _ _ j _ => r_box (j _ _ rfl) rfl) rfl rfl rfl (w_n rfl) ?_
 intro B1
 refine TL_new 2 (.cells #[iN wide] 3) (fun B => pt B 0) (fun _ _ j _ => r_box (j _ _ rfl) rfl) rfl rfl rfl (w_n rfl) ?_
 intro B2
 refine TL_new 3 (.cells #[.func (.func g) #[] cp] 139) (fun B => pt B 0) (fun _ _ j _ => r_box (j _ _ rfl) rfl) rfl rfl rfl (w_n rfl) ?_
 intro B3
 refine TL_new 4 (.cells #[.int .i64 0, .int .i64 0, .slice none 0 0] 75) (fun B => pt B 0) (fun _ _ _ _ => r_alloc (v := .agg #[.int .i64 0, .int .i64 0, .slice none 0 0]) (by kernel_rfl) rfl) rfl rfl rfl (w_n rfl) ?_
 intro B4
 refine TL_seq ?_
 refine T_join (ι := Nat × Nat × Nat) (fun _ => True) (fun (z : Nat × Nat × Nat) => match z with | (Bx5, Bx8, Bx9) => [(4, pt B1 0), (5, pt B2 0), (7, pt B3 0), (8, pt B4 0), (9, pt Bx9 0)]) (fun (z : Nat × Nat × Nat) => match z with | (Bx5, Bx8, Bx9) => [(1, .blk B1 (.cells #[pt P 0] 134)), (2, .blk B2 (.cells #[iN wide] 3)), (3, .blk B3 (.cells #[.func (.func g) #[] cp] 139)), (4, .blk B4 (.cells #[.int .i64 0, .int .i64 0, .slice none 0 0] 75)), (5, .row (.slice (some ⟨Bx5, 0, none⟩) (wide * high) (wide * high)) 37 4 (wide * high) ((List.replicate (wide * high) zeroC).flatMap C4.cells)), (6, .blk Bx8 (.cells #[iN wide, iN high, .slice (some ⟨Bx5, 0, none⟩) (wide * high) (wide * high)] 138)), (7, .blk Bx9 (.cells #[pt Bx8 0] 134))]) (T_draw (V := [(0, iN wide), (1, iN high), (2, iN wide), (3, iN high), (4, iN (wide * high))]) [0, 0, 0, 0, 12, 28, 63, 127, 255, 0, 1023] [[(5, none)], [(2, none)], [(5, none)], [(2, none)], [(14, some 2), (15, some 3)], [(16, some 4)], [(12, some 0), (13, some 1), (17, some 5)], [(18, some 6)], [(19, some 7)], [], [(9, some 9), (20, some 8)]] 1824 mixed (by kernel_rfl) ?_) (fun z hz => ?_)
 ·skip
  refine G_step [0, 1, 2, 3, 4] 5 [9] (by kernel_rfl) (allM (all_cons (q_r (iN wide) rfl rfl rfl (s_ld ag3 rfl 2 rfl rfl)) (all_cons (q_r (iN high) rfl rfl rfl (s_mv rfl)) (all_cons (q_r (iN wide) rfl rfl rfl (s_ld ag3 rfl 2 rfl rfl)) (all_cons (q_r (iN high) rfl rfl rfl (s_mv rfl)) (all_cons (q_r (iN (wide * high)) rfl rfl rfl (s_op r_mul rfl rfl (iw (by omega) (by omega) (by omega)))) all_nil)))))) (allM (all_cons ?_ (all_cons ?_ all_nil)))
  ·skip
   refine LOb_op (ι := Nat) (fun B => .slice (some ⟨B, 0, none⟩) (wide * high) (wide * high)) _ (fun B => [(6, .agg #[iN wide, iN high, .slice (some ⟨B, 0, none⟩) (wide * high) (wide * high)]), (7, .agg #[iN wide, iN high, .slice (some ⟨B, 0, none⟩) (wide * high) (wide * high)])]) rfl (wv_n rfl) rfl rfl (fun _ _ j hm => o_make (n := wide * high) (cap := wide * high) (z := .agg #[z8, z8, z8, z8]) (f := C4.cells) (u := zeroC) 5 rfl (j _ _ rfl) (j _ _ rfl) sl71 by37 sz37 rfl (by kernel_rfl) rfl C4.cells_len (by omega) (by omega) (by omega) hm) (fun B => by kernel_rfl) ?_
   intro B5
   refine G_step [0, 1, 6, 7] 8 [9] (by kernel_rfl) (allM (all_cons (q_r (iN wide) rfl rfl rfl (s_ld ag3 rfl 2 rfl rfl)) (all_cons (q_r (iN high) rfl rfl rfl (s_mv rfl)) (all_cons (q_r (.agg #[iN wide, iN high, .slice (some ⟨B5, 0, none⟩) (wide * high) (wide * high)]) rfl rfl rfl (fun _ _ j _ => r_build (vs := [(0, iN wide), (1, iN high), (2, .slice (some ⟨B5, 0, none⟩) (wide * high) (wide * high))]) (by kernel_rfl) (cons2 (pair2 (j _ _ rfl)) (cons2 (pair2 (j _ _ rfl)) (cons2 (pair2 (j _ _ rfl)) rfl))))) (all_cons (q_r (.agg #[iN wide, iN high, .slice (some ⟨B5, 0, none⟩) (wide * high) (wide * high)]) rfl rfl rfl (fun _ _ j _ => r_build (vs := [(0, .agg #[iN wide, iN high, .slice (some ⟨B5, 0, none⟩) (wide * high) (wide * high)])]) (by kernel_rfl) (cons2 (pair2 (j _ _ rfl)) rfl))) all_nil))))) (allM (all_cons ?_ (all_cons ?_ all_nil)))
   ·skip
    refine LOb_new 6 (.cells #[iN wide, iN high, .slice (some ⟨B5, 0, none⟩) (wide * high) (wide * high)] 138) (fun B => pt B 0) (fun B => []) rfl (wv_n rfl) rfl rfl (fun _ _ j _ => r_box (j _ _ rfl) rfl) (fun B => by kernel_rfl) ?_
    intro B6
    refine G_step [] 9 [] (by kernel_rfl) (allM all_nil) (allM (all_cons ?_ all_nil))
    refine LOb_new 7 (.cells #[.pointer none] 134) (fun B => pt B 0) (fun B => []) rfl (wv_n rfl) rfl rfl (fun _ _ _ _ => r_alloc (v := .pointer none) (by kernel_rfl) rfl) (fun B => by kernel_rfl) ?_
    intro B7
    refine G_step [] 10 [] (by kernel_rfl) (allM all_nil) (allM (all_cons ?_ all_nil))
    refine LOb_store 7 (.cells #[pt B6 0] 134) [] rfl (wv_n rfl) rfl rfl rfl (s_st sz134 rfl rfl 7 rfl rfl rfl rfl rfl) (by kernel_rfl) ?_
    exact G_lastQ [] [(4, pt B1 0), (5, pt B2 0), (7, pt B3 0), (8, pt B4 0), (9, pt B7 0)] (by kernel_rfl) (allM all_nil) (end_old rfl rfl (end_old rfl rfl (end_old rfl rfl (end_old rfl rfl (end_new 9 rfl rfl end_nil))))) (fun a w hf hm => At_intro (B5, B6, B7) trivial hf hm (sc4 rfl rfl rfl rfl (sc rfl sub_nil)) (sc4 rfl rfl rfl rfl (sc rfl (sc rfl (sc rfl sub_nil)))))
   ·skip
    refine LOb_new 7 (.cells #[.pointer none] 134) (fun B => pt B 0) (fun B => []) rfl (wv_n rfl) rfl rfl (fun _ _ _ _ => r_alloc (v := .pointer none) (by kernel_rfl) rfl) (fun B => by kernel_rfl) ?_
    intro B8
    refine G_step [0, 1, 6, 7] 8 [] (by kernel_rfl) (allM (all_cons (q_r (iN wide) rfl rfl rfl (s_ld ag3 rfl 2 rfl rfl)) (all_cons (q_r (iN high) rfl rfl rfl (s_mv rfl)) (all_cons (q_r (.agg #[iN wide, iN high, .slice (some ⟨B5, 0, none⟩) (wide * high) (wide * high)]) rfl rfl rfl (fun _ _ j _ => r_build (vs := [(0, iN wide), (1, iN high), (2, .slice (some ⟨B5, 0, none⟩) (wide * high) (wide * high))]) (by kernel_rfl) (cons2 (pair2 (j _ _ rfl)) (cons2 (pair2 (j _ _ rfl)) (cons2 (pair2 (j _ _ rfl)) rfl))))) (all_cons (q_r (.agg #[iN wide, iN high, .slice (some ⟨B5, 0, none⟩) (wide * high) (wide * high)]) rfl rfl rfl (fun _ _ j _ => r_build (vs := [(0, .agg #[iN wide, iN high, .slice (some ⟨B5, 0, none⟩) (wide * high) (wide * high)])]) (by kernel_rfl) (cons2 (pair2 (j _ _ rfl)) rfl))) all_nil))))) (allM (all_cons ?_ all_nil))
    refine LOb_new 6 (.cells #[iN wide, iN high, .slice (some ⟨B5, 0, none⟩) (wide * high) (wide * high)] 138) (fun B => pt B 0) (fun B => []) rfl (wv_n rfl) rfl rfl (fun _ _ j _ => r_box (j _ _ rfl) rfl) (fun B => by kernel_rfl) ?_
    intro B9
    refine G_step [] 10 [] (by kernel_rfl) (allM all_nil) (allM (all_cons ?_ all_nil))
    refine LOb_store 7 (.cells #[pt B9 0] 134) [] rfl (wv_n rfl) rfl rfl rfl (s_st sz134 rfl rfl 7 rfl rfl rfl rfl rfl) (by kernel_rfl) ?_
    exact G_lastQ [] [(4, pt B1 0), (5, pt B2 0), (7, pt B3 0), (8, pt B4 0), (9, pt B8 0)] (by kernel_rfl) (allM all_nil) (end_old rfl rfl (end_old rfl rfl (end_old rfl rfl (end_old rfl rfl (end_new 9 rfl rfl end_nil))))) (fun a w hf hm => At_intro (B5, B9, B8) trivial hf hm (sc4 rfl rfl rfl rfl (sc rfl sub_nil)) (sc4 rfl rfl rfl rfl (sc rfl (sc rfl (sc rfl sub_nil)))))
  ·skip
   refine LOb_new 7 (.cells #[.pointer none] 134) (fun B => pt B 0) (fun B => []) rfl (wv_n rfl) rfl rfl (fun _ _ _ _ => r_alloc (v := .pointer none) (by kernel_rfl) rfl) (fun B => by kernel_rfl) ?_
   intro B10
   refine G_step [0, 1, 2, 3, 4] 5 [] (by kernel_rfl) (allM (all_cons (q_r (iN wide) rfl rfl rfl (s_ld ag3 rfl 2 rfl rfl)) (all_cons (q_r (iN high) rfl rfl rfl (s_mv rfl)) (all_cons (q_r (iN wide) rfl rfl rfl (s_ld ag3 rfl 2 rfl rfl)) (all_cons (q_r (iN high) rfl rfl rfl (s_mv rfl)) (all_cons (q_r (iN (wide * high)) rfl rfl rfl (s_op r_mul rfl rfl (iw (by omega) (by omega) (by omega)))) all_nil)))))) (allM (all_cons ?_ all_nil))
   refine LOb_op (ι := Nat) (fun B => .slice (some ⟨B, 0, none⟩) (wide * high) (wide * high)) _ (fun B => [(6, .agg #[iN wide, iN high, .slice (some ⟨B, 0, none⟩) (wide * high) (wide * high)]), (7, .agg #[iN wide, iN high, .slice (some ⟨B, 0, none⟩) (wide * high) (wide * high)])]) rfl (wv_n rfl) rfl rfl (fun _ _ j hm => o_make (n := wide * high) (cap := wide * high) (z := .agg #[z8, z8, z8, z8]) (f := C4.cells) (u := zeroC) 5 rfl (j _ _ rfl) (j _ _ rfl) sl71 by37 sz37 rfl (by kernel_rfl) rfl C4.cells_len (by omega) (by omega) (by omega) hm) (fun B => by kernel_rfl) ?_
   intro B11
   refine G_step [0, 1, 6, 7] 8 [] (by kernel_rfl) (allM (all_cons (q_r (iN wide) rfl rfl rfl (s_ld ag3 rfl 2 rfl rfl)) (all_cons (q_r (iN high) rfl rfl rfl (s_mv rfl)) (all_cons (q_r (.agg #[iN wide, iN high, .slice (some ⟨B11, 0, none⟩) (wide * high) (wide * high)]) rfl rfl rfl (fun _ _ j _ => r_build (vs := [(0, iN wide), (1, iN high), (2, .slice (some ⟨B11, 0, none⟩) (wide * high) (wide * high))]) (by kernel_rfl) (cons2 (pair2 (j _ _ rfl)) (cons2 (pair2 (j _ _ rfl)) (cons2 (pair2 (j _ _ rfl)) rfl))))) (all_cons (q_r (.agg #[iN wide, iN high, .slice (some ⟨B11, 0, none⟩) (wide * high) (wide * high)]) rfl rfl rfl (fun _ _ j _ => r_build (vs := [(0, .agg #[iN wide, iN high, .slice (some ⟨B11, 0, none⟩) (wide * high) (wide * high)])]) (by kernel_rfl) (cons2 (pair2 (j _ _ rfl)) rfl))) all_nil))))) (allM (all_cons ?_ all_nil))
   refine LOb_new 6 (.cells #[iN wide, iN high, .slice (some ⟨B11, 0, none⟩) (wide * high) (wide * high)] 138) (fun B => pt B 0) (fun B => []) rfl (wv_n rfl) rfl rfl (fun _ _ j _ => r_box (j _ _ rfl) rfl) (fun B => by kernel_rfl) ?_
   intro B12
   refine G_step [] 10 [] (by kernel_rfl) (allM all_nil) (allM (all_cons ?_ all_nil))
   refine LOb_store 7 (.cells #[pt B12 0] 134) [] rfl (wv_n rfl) rfl rfl rfl (s_st sz134 rfl rfl 7 rfl rfl rfl rfl rfl) (by kernel_rfl) ?_
   exact G_lastQ [] [(4, pt B1 0), (5, pt B2 0), (7, pt B3 0), (8, pt B4 0), (9, pt B10 0)] (by kernel_rfl) (allM all_nil) (end_old rfl rfl (end_old rfl rfl (end_old rfl rfl (end_old rfl rfl (end_new 9 rfl rfl end_nil))))) (fun a w hf hm => At_intro (B11, B12, B10) trivial hf hm (sc4 rfl rfl rfl rfl (sc rfl sub_nil)) (sc4 rfl rfl rfl rfl (sc rfl (sc rfl (sc rfl sub_nil)))))
 ·skip
  obtain ⟨Bx5, Bx8, Bx9⟩ := z
  show T _ _ _ [(4, pt B1 0), (5, pt B2 0), (7, pt B3 0), (8, pt B4 0), (9, pt Bx9 0)] [(1, .blk B1 (.cells #[pt P 0] 134)), (2, .blk B2 (.cells #[iN wide] 3)), (3, .blk B3 (.cells #[.func (.func g) #[] cp] 139)), (4, .blk B4 (.cells #[.int .i64 0, .int .i64 0, .slice none 0 0] 75)), (5, .row (.slice (some ⟨Bx5, 0, none⟩) (wide * high) (wide * high)) 37 4 (wide * high) ((List.replicate (wide * high) zeroC).flatMap C4.cells)), (6, .blk Bx8 (.cells #[iN wide, iN high, .slice (some ⟨Bx5, 0, none⟩) (wide * high) (wide * high)] 138)), (7, .blk Bx9 (.cells #[pt Bx8 0] 134))]
  refine T_seq ?_
  refine T_seq (T_region ?_)
  refine TL_v (pt P 0) (s_ld ag134 rfl 1 rfl rfl) rfl rfl ?_
  refine TL_callN (fun (_ : Nat) => True) (fun q13 => .func (.func 105) #[] #[pt q13 0]) (fun q13 => [(8, .blk q13 (.cells #[pt P 0] 134))]) (fun _ _ j _ => r_call (args := [pt P 0]) (enters_of Try.func95 (by kernel_rfl) rfl) (j _ _ rfl) ((cons2 (j _ _ rfl) rfl)) rfl) (fun w _ => (places_c P w).mono fun e w' ⟨q, he, hb, hr⟩ => ⟨q, trivial, he, hb, newOk1 8 hr⟩) rfl rfl rfl (w_n rfl) ?_
  intro q13 _
  refine TL_seq ?_
  refine T_block ?_
  refine T_sub [(4, pt B1 0), (5, pt B2 0), (7, pt B3 0), (8, pt B4 0), (9, pt Bx9 0), (22, .func (.func 105) #[] #[pt q13 0])] [(8, .blk q13 (.cells #[pt P 0] 134)), (1, .blk B1 (.cells #[pt P 0] 134)), (2, .blk B2 (.cells #[iN wide] 3)), (3, .blk B3 (.cells #[.func (.func g) #[] cp] 139)), (4, .blk B4 (.cells #[.int .i64 0, .int .i64 0, .slice none 0 0] 75)), (5, .row (.slice (some ⟨Bx5, 0, none⟩) (wide * high) (wide * high)) 37 4 (wide * high) ((List.replicate (wide * high) zeroC).flatMap C4.cells)), (6, .blk Bx8 (.cells #[iN wide, iN high, .slice (some ⟨Bx5, 0, none⟩) (wide * high) (wide * high)] 138)), (7, .blk Bx9 (.cells #[pt Bx8 0] 134))] (sc4 rfl rfl rfl rfl (sc rfl (sc rfl sub_nil))) (sc4 rfl rfl rfl rfl (sc4 rfl rfl rfl rfl sub_nil)) ?_
  refine T_rangeB (ι := Unit) (ζ := Nat) (encs := encPt) (xs := ptsG p q) rfl rfl (enters_of Try.func105 (by kernel_rfl) rfl) (fun _ => rfl) rfl 801 802 rfl (fun (k : Nat) (_u : Unit) => True) (fun (k : Nat) (_u : Unit) => [(5, .row (.slice (some ⟨Bx5, 0, none⟩) (wide * high) (wide * high)) 37 4 (wide * high) ((mvL (tgt p wide fx fy) px (wide * high) k).flatMap C4.cells)), (8, .blk q13 (.cells #[pt P 0] 134)), (1, .blk B1 (.cells #[pt P 0] 134)), (2, .blk B2 (.cells #[iN wide] 3)), (3, .blk B3 (.cells #[.func (.func g) #[] cp] 139)), (4, .blk B4 (.cells #[.int .i64 0, .int .i64 0, .slice none 0 0] 75)), (6, .blk Bx8 (.cells #[iN wide, iN high, .slice (some ⟨Bx5, 0, none⟩) (wide * high) (wide * high)] 138)), (7, .blk Bx9 (.cells #[pt Bx8 0] 134))]) (fun _ _ => False) (fun _ => []) (fun x Bz => [(4, pt B1 0), (5, pt B2 0), (7, pt B3 0), (8, pt B4 0), (9, pt Bx9 0), (22, .func (.func 105) #[] #[pt q13 0]), (10, pt Bz 0)]) (fun x Bz => [(10, .blk Bz (.cells #[iN x.1, iN x.2] 47))]) (fun D l rec => places_iter _ _ _ 8 q13 P p q _ (by omega) (by omega) (fun _ _ => rfl) (fun _ _ _ hm => hm.old hP)) (fun _ _ => ⟨rfl, rfl⟩) (fun _ => ⟨rfl, rfl⟩) () trivial (sc4 rfl rfl rfl rfl (sc4 rfl rfl rfl rfl sub_nil)) ?_ ?_ ?_ (fun _ _ _ h => h.elim)
  ·intro D1 l1 rec1 k x _u hx1 hp1
   refine T_sub [(4, pt B1 0), (5, pt B2 0), (7, pt B3 0), (8, pt B4 0), (9, pt Bx9 0), (22, .func (.func 105) #[] #[pt q13 0]), (23, .agg #[iN x.1, iN x.2])] [(801, .blk D1 (.deferred (some []))), (802, .blk l1 (.loop rec1)), (5, .row (.slice (some ⟨Bx5, 0, none⟩) (wide * high) (wide * high)) 37 4 (wide * high) ((mvL (tgt p wide fx fy) px (wide * high) k).flatMap C4.cells)), (8, .blk q13 (.cells #[pt P 0] 134)), (1, .blk B1 (.cells #[pt P 0] 134)), (2, .blk B2 (.cells #[iN wide] 3)), (3, .blk B3 (.cells #[.func (.func g) #[] cp] 139)), (4, .blk B4 (.cells #[.int .i64 0, .int .i64 0, .slice none 0 0] 75)), (6, .blk Bx8 (.cells #[iN wide, iN high, .slice (some ⟨Bx5, 0, none⟩) (wide * high) (wide * high)] 138)), (7, .blk Bx9 (.cells #[pt Bx8 0] 134))] (sc4 rfl rfl rfl rfl (sc rfl (sc rfl (sc rfl sub_nil)))) (sc4 rfl rfl rfl rfl (sc4 rfl rfl rfl rfl (sc rfl (sc rfl sub_nil)))) ?_
   refine T_region ?_
   refine TL_new 10 (.cells #[.int .i64 0, .int .i64 0] 47) (fun B => pt B 0) (fun _ _ _ _ => r_alloc (v := .agg #[.int .i64 0, .int .i64 0]) (by kernel_rfl) rfl) rfl rfl rfl (w_n rfl) ?_
   intro B14
   refine TL_store 10 (.cells #[iN x.1, iN x.2] 47) rfl (s_st sz47 rfl rfl 10 rfl rfl rfl rfl rfl) rfl rfl (w_n rfl) ?_
   refine TL_nil ?_
   exact p_at B14 trivial (sc4 rfl rfl rfl rfl (sc rfl (sc rfl (sc rfl sub_nil)))) (sc4 rfl rfl rfl rfl (sc4 rfl rfl rfl rfl (sc rfl (sc rfl (sc rfl sub_nil)))))
  ·intro D1 l1 rec1 k x _u Bz hx1 hp1
   show T _ _ _ [(4, pt B1 0), (5, pt B2 0), (7, pt B3 0), (8, pt B4 0), (9, pt Bx9 0), (22, .func (.func 105) #[] #[pt q13 0]), (10, pt Bz 0)] [(801, .blk D1 (.deferred (some []))), (802, .blk l1 (.loop { rec1 with state := .busy })), (10, .blk Bz (.cells #[iN x.1, iN x.2] 47)), (5, .row (.slice (some ⟨Bx5, 0, none⟩) (wide * high) (wide * high)) 37 4 (wide * high) ((mvL (tgt p wide fx fy) px (wide * high) k).flatMap C4.cells)), (8, .blk q13 (.cells #[pt P 0] 134)), (1, .blk B1 (.cells #[pt P 0] 134)), (2, .blk B2 (.cells #[iN wide] 3)), (3, .blk B3 (.cells #[.func (.func g) #[] cp] 139)), (4, .blk B4 (.cells #[.int .i64 0, .int .i64 0, .slice none 0 0] 75)), (6, .blk Bx8 (.cells #[iN wide, iN high, .slice (some ⟨Bx5, 0, none⟩) (wide * high) (wide * high)] 138)), (7, .blk Bx9 (.cells #[pt Bx8 0] 134))]
   have hxi := ptsG_in hx1
   have hdl := mvL_len (tgt p wide fx fy) px (wide * high) k
   have hin2 := hin x.1 x.2 hxi.1 hxi.2.1
   have hti := in_px hin2.1 hin2.2
   obtain ⟨c, hc⟩ : ∃ c, px[x.2 * p + x.1]? = some c := ⟨_, List.getElem?_eq_getElem (by have := in_px hxi.1 hxi.2.1; omega)⟩
   refine T_block ?_
   refine T_seq (T_region ?_)
   refine TL_v (.func (.func g) #[] cp) (s_ld ag139 rfl 3 rfl rfl) rfl rfl ?_
   refine TL_v (.agg #[iN x.1, iN x.2]) (s_la ag47 sz47 rfl 10 rfl rfl rfl) rfl rfl ?_
   refine TL_call (.agg #[iN ((fx x.1 x.2)), iN ((fy x.1 x.2))]) (fun _ _ j _ => r_call (args := [.agg #[iN x.1, iN x.2]]) hE (j _ _ rfl) ((cons2 (j _ _ rfl) rfl)) (by simp)) (fun w hm => hto w hm.ext x.1 x.2 hxi.1 hxi.2.1) rfl rfl rfl (w_n rfl) ?_
   refine TL_new 11 (.cells #[.int .i64 0, .int .i64 0] 47) (fun B => pt B 0) (fun _ _ _ _ => r_alloc (v := .agg #[.int .i64 0, .int .i64 0]) (by kernel_rfl) rfl) rfl rfl rfl (w_n rfl) ?_
   intro B15
   refine TL_store 11 (.cells #[iN ((fx x.1 x.2)), iN ((fy x.1 x.2))] 47) rfl (s_st sz47 rfl rfl 11 rfl rfl rfl rfl rfl) rfl rfl (w_n rfl) ?_
   refine TL_seq ?_
   refine T_draw (V := [(0, pt Bx8 0), (1, pt Bx8 0), (2, pt Bx8 0), (3, pt Bx8 2), (4, .slice (some ⟨Bx5, 0, none⟩) (wide * high) (wide * high)), (5, pt B15 1), (6, iN ((fy x.1 x.2))), (7, iN wide), (8, iN ((fy x.1 x.2) * wide)), (9, pt B15 0), (10, iN ((fx x.1 x.2))), (11, iN (((fy x.1 x.2) * wide) + (fx x.1 x.2))), (12, pt P 0), (13, .agg #[iN x.1, iN x.2])]) [0, 1, 3, 7, 15, 0, 32, 0, 224, 0, 512, 2016, 0, 0, 12288, 32767, 65535] [[(9, none)], [(27, some 0)], [(28, some 1)], [(29, some 2)], [(30, some 3)], [(11, none)], [(32, some 5)], [(5, none)], [(33, some 6), (34, some 7)], [(11, none)], [(36, some 9)], [(35, some 8), (37, some 10)], [(4, none)], [(10, none)], [(39, some 12), (40, some 13)], [(31, some 4), (38, some 11)], [(42, some 15), (41, some 14)]] 81920 mixed (by kernel_rfl) ?_
   refine G_step [0, 1, 2, 3, 4, 5, 6, 7, 8, 9, 10, 11, 12, 13] 14 [] (by kernel_rfl) (allM (all_cons (q_r (pt Bx8 0) rfl rfl rfl (s_ld ag134 rfl 7 rfl rfl)) (all_cons (q_r (pt Bx8 0) rfl rfl rfl (s_nc rfl rfl)) (all_cons (q_r (pt Bx8 0) rfl rfl rfl (s_fa fl138_0 sz75 rfl)) (all_cons (q_r (pt Bx8 2) rfl rfl rfl (s_fa fl75_2 sz71 rfl)) (all_cons (q_r (.slice (some ⟨Bx5, 0, none⟩) (wide * high) (wide * high)) rfl rfl rfl (s_ld ag71 rfl 6 rfl rfl)) (all_cons (q_r (pt B15 1) rfl rfl rfl (s_fa fl47_1 sz3 rfl)) (all_cons (q_r (iN ((fy x.1 x.2))) rfl rfl rfl (s_ld ag3 rfl 11 rfl rfl)) (all_cons (q_r (iN wide) rfl rfl rfl (s_ld ag3 rfl 2 rfl rfl)) (all_cons (q_r (iN ((fy x.1 x.2) * wide)) rfl rfl rfl (s_op r_mul rfl rfl (iw (by omega) (by omega) (by omega)))) (all_cons (q_r (pt B15 0) rfl rfl rfl (s_fa fl47_0 sz3 rfl)) (all_cons (q_r (iN ((fx x.1 x.2))) rfl rfl rfl (s_ld ag3 rfl 11 rfl rfl)) (all_cons (q_r (iN (((fy x.1 x.2) * wide) + (fx x.1 x.2))) rfl rfl rfl (s_op r_add rfl rfl (iw (by omega) (by omega) (by omega)))) (all_cons (q_r (pt P 0) rfl rfl rfl (s_ld ag134 rfl 1 rfl rfl)) (all_cons (q_r (.agg #[iN x.1, iN x.2]) rfl rfl rfl (s_la ag47 sz47 rfl 10 rfl rfl rfl)) all_nil))))))))))))))) (allM (all_cons ?_ all_nil))
   refine LOb_call (.agg #[.int .u8 c.r, .int .u8 c.g, .int .u8 c.b, .int .u8 c.a]) [(15, pt Bx5 (0 + (((fy x.1 x.2) * wide) + (fx x.1 x.2)) * 4))] rfl (wv_n rfl) rfl rfl (fun _ _ j _ => r_call (args := [pt P 0, .agg #[iN x.1, iN x.2]]) (enters_of Try.func91 (by kernel_rfl) rfl) (j _ _ rfl) ((cons2 (j _ _ rfl) (cons2 (j _ _ rfl) rfl))) rfl) (fun w hm => sat_c P p q px a cap w (hm.old hP) (hv.keep hm.ext) hcap hp hq hlen x.1 x.2 hxi.1 hxi.2.1 c hc) (by kernel_rfl) ?_
   refine G_step [0, 1, 2, 3, 4, 5, 6, 7, 8, 9, 10, 11, 15] 16 [] (by kernel_rfl) (allM (all_cons (q_r (pt Bx8 0) rfl rfl rfl (s_ld ag134 rfl 7 rfl rfl)) (all_cons (q_r (pt Bx8 0) rfl rfl rfl (s_nc rfl rfl)) (all_cons (q_r (pt Bx8 0) rfl rfl rfl (s_fa fl138_0 sz75 rfl)) (all_cons (q_r (pt Bx8 2) rfl rfl rfl (s_fa fl75_2 sz71 rfl)) (all_cons (q_r (.slice (some ⟨Bx5, 0, none⟩) (wide * high) (wide * high)) rfl rfl rfl (s_ld ag71 rfl 6 rfl rfl)) (all_cons (q_r (pt B15 1) rfl rfl rfl (s_fa fl47_1 sz3 rfl)) (all_cons (q_r (iN ((fy x.1 x.2))) rfl rfl rfl (s_ld ag3 rfl 11 rfl rfl)) (all_cons (q_r (iN wide) rfl rfl rfl (s_ld ag3 rfl 2 rfl rfl)) (all_cons (q_r (iN ((fy x.1 x.2) * wide)) rfl rfl rfl (s_op r_mul rfl rfl (iw (by omega) (by omega) (by omega)))) (all_cons (q_r (pt B15 0) rfl rfl rfl (s_fa fl47_0 sz3 rfl)) (all_cons (q_r (iN ((fx x.1 x.2))) rfl rfl rfl (s_ld ag3 rfl 11 rfl rfl)) (all_cons (q_r (iN (((fy x.1 x.2) * wide) + (fx x.1 x.2))) rfl rfl rfl (s_op r_add rfl rfl (iw (by omega) (by omega) (by omega)))) (all_cons (q_r (pt Bx5 (0 + (((fy x.1 x.2) * wide) + (fx x.1 x.2)) * 4)) rfl rfl rfl (fun _ _ j _ => r_indexAddrS (i := ((fy x.1 x.2) * wide) + (fx x.1 x.2)) sl71 sz37 (j _ _ rfl) (j _ _ rfl) (by omega))) all_nil)))))))))))))) (allM (all_cons ?_ all_nil))
   refine LOb_storeRow (f := C4.cells) (l := (mvL (tgt p wide fx fy) px (wide * high) k)) (u := c) (k := (((fy x.1 x.2) * wide) + (fx x.1 x.2))) 5 [] rfl (mvL_len _ _ _ _).symm rfl (wv_n rfl) rfl rfl sz37 C4.cells_len (by omega) rfl rfl (by kernel_rfl) ?_
   refine G_lastQ [] [(8, pt B4 0)] (by kernel_rfl) (allM all_nil) (end_old rfl rfl end_nil) ?_
   refine p_blk_n ?_
   rw [mvL_step hx1 hc]
   exact p_round_n () trivial (sc4 rfl rfl rfl rfl (sc4 rfl rfl rfl rfl (sc rfl (sc rfl sub_nil))))
  ·intro D1 _u hp1
   rw [ptsG_len]
   refine p_sub [(4, pt B1 0), (5, pt B2 0), (7, pt B3 0), (8, pt B4 0), (9, pt Bx9 0), (22, .func (.func 105) #[] #[pt q13 0])] [(801, .blk D1 (.deferred (some []))), (8, .blk q13 (.cells #[pt P 0] 134)), (1, .blk B1 (.cells #[pt P 0] 134)), (2, .blk B2 (.cells #[iN wide] 3)), (3, .blk B3 (.cells #[.func (.func g) #[] cp] 139)), (4, .blk B4 (.cells #[.int .i64 0, .int .i64 0, .slice none 0 0] 75)), (6, .blk Bx8 (.cells #[iN wide, iN high, .slice (some ⟨Bx5, 0, none⟩) (wide * high) (wide * high)] 138)), (7, .blk Bx9 (.cells #[pt Bx8 0] 134)), (5, .row (.slice (some ⟨Bx5, 0, none⟩) (wide * high) (wide * high)) 37 4 (wide * high) ((mvL (tgt p wide fx fy) px (wide * high) (q * p)).flatMap C4.cells))] (sc4 rfl rfl rfl rfl (sc rfl (sc rfl sub_nil))) (sc4 rfl rfl rfl rfl (sc4 rfl rfl rfl rfl (sc rfl sub_nil))) ?_
   refine p_blk_n ?_
   refine p_seq ?_
   refine T_seq (T_region ?_)
   refine TL_v (pt Bx8 0) (s_ld ag134 rfl 7 rfl rfl) rfl rfl ?_
   refine TL_v (pt Bx8 0) (s_nc rfl rfl) rfl rfl ?_
   refine TL_v (pt Bx8 0) (s_fa fl138_0 sz75 rfl) rfl rfl ?_
   refine TL_v (.agg #[iN wide, iN high, .slice (some ⟨Bx5, 0, none⟩) (wide * high) (wide * high)]) (s_la ag75 sz75 rfl 6 rfl rfl rfl) rfl rfl ?_
   refine TL_store 4 (.cells #[iN wide, iN high, .slice (some ⟨Bx5, 0, none⟩) (wide * high) (wide * high)] 75) rfl (s_st sz75 rfl rfl 4 rfl rfl rfl rfl rfl) rfl rfl (w_n rfl) ?_
   refine TL_seq ?_
   refine T_ret' ?_
   refine ret_of1 801 D1 rfl rfl (.agg #[iN wide, iN high, .slice (some ⟨Bx5, 0, none⟩) (wide * high) (wide * high)]) (fun tmps w hk hm => res1 rfl (res_cell (hk 8 _ rfl) (run_loadVar_agg ag75 sz75 (hm.at 4 rfl) (Nat.le_of_ble_eq_true rfl) rfl))) (fun w hm => ?_)
   have hrow := hm.row 5 rfl
   exact ⟨some ⟨Bx5, 0, none⟩, _, by rw [mvL_len], hm.ext, by rw [mvL_len]; exact hrow⟩
end Go.Proofs.Ytbiapeaghbndoaa
/- stamp: turned and flipped rows of pixels. -/
namespace Go.Proofs.Ytbiapeaghbndoaa
open Go Go.RowKit
theorem mvL_get {g h : Nat → Nat} {px : List C4} {n : Nat} (hgh : ∀ i, i < n → ∀ j, j < n → (g j = i ↔ j = h i)) : ∀ k, k ≤ n → ∀ i, i < n → (mvL g px n k)[i]? = some (if h i < k then get px (h i) else zeroC)
  | 0, _, i, hi => by simp [mvL, hi]
  | k + 1, hk, i, hi => by
    rw [mvL, List.getElem?_set, mvL_len]
    by_cases e : g k = i
    · rw [if_pos e, if_pos (by omega)]
      have e2 := (hgh i hi k (by omega)).1 e
      rw [← e2, if_pos (by omega)]
    · rw [if_neg e, mvL_get hgh k (by omega) i hi]
      have e2 : k ≠ h i := fun e3 => e ((hgh i hi k (by omega)).2 e3)
      by_cases e3 : h i < k
      · rw [if_pos e3, if_pos (by omega)]
      · rw [if_neg e3, if_neg (by omega)]
def pick (h : Nat → Nat) (px : List C4) (n : Nat) : List C4 := (List.range n).map fun i => get px (h i)
theorem pick_len (h : Nat → Nat) (px : List C4) (n : Nat) : (pick h px n).length = n := by simp [pick]
theorem pick_get {h : Nat → Nat} {px : List C4} {n i : Nat} (hi : i < n) : (pick h px n)[i]? = some (get px (h i)) := by
  unfold pick
  rw [List.getElem?_map, List.getElem?_range hi]; rfl
theorem mvL_all {g h : Nat → Nat} {px : List C4} {n : Nat} (hgh : ∀ i, i < n → ∀ j, j < n → (g j = i ↔ j = h i)) (hh : ∀ i, i < n → h i < n) : mvL g px n n = pick h px n := by
  apply List.ext_getElem?
  intro i
  by_cases hi : i < n
  · rw [mvL_get hgh n (Nat.le_refl _) i hi, if_pos (hh i hi), pick_get hi]
  · rw [List.getElem?_eq_none (by rw [mvL_len]; omega), List.getElem?_eq_none (by rw [pick_len]; omega)]
theorem pick_id {px : List C4} {n : Nat} (h : px.length = n) : pick (fun i => i) px n = px := by
  apply List.ext_getElem?
  intro i
  by_cases hi : i < n
  · rw [pick_get hi]
    unfold get
    rw [List.getD_eq_getElem?_getD, List.getElem?_eq_getElem (by omega)]; rfl
  · rw [List.getElem?_eq_none (by rw [pick_len]; omega), List.getElem?_eq_none (by omega)]
def quarI (p q i : Nat) : Nat := (q - 1 - i % q) * p + i / q
def flipI (p i : Nat) : Nat := i / p * p + (p - 1 - i % p)
def quarL (p q : Nat) (px : List C4) : List C4 := pick (quarI p q) px (q * p)
def flpL (p q : Nat) (px : List C4) : List C4 := pick (flipI p) px (p * q)
theorem dm {k W H : Nat} (h : k < W * H) : k % W < W ∧ k / W < H ∧ k / W * W + k % W = k := by
  have h0 : 0 < W := by
    rcases Nat.eq_zero_or_pos W with e | e
    · rw [e, Nat.zero_mul] at h; omega
    · exact e
  exact ⟨Nat.mod_lt _ h0, (Nat.div_lt_iff_lt_mul h0).2 (by rw [Nat.mul_comm]; exact h), by rw [Nat.mul_comm]; exact Nat.div_add_mod k W⟩
theorem dm2 {x y W : Nat} (hx : x < W) : (y * W + x) % W = x ∧ (y * W + x) / W = y := by
  constructor
  · rw [Nat.mul_comm, Nat.mul_add_mod]; exact Nat.mod_eq_of_lt hx
  · rw [Nat.mul_comm, Nat.mul_add_div (by omega), Nat.div_eq_of_lt hx]; omega
theorem quarI_lt {p q i : Nat} (hi : i < q * p) : quarI p q i < q * p := by
  obtain ⟨h1, h2, h3⟩ := dm hi
  have := in_px (W := p) (H := q) h2 (show q - 1 - i % q < q by omega)
  rw [Nat.mul_comm q p]; exact this
theorem mv_quar {p q : Nat} (px : List C4) : mvL (tgt p q (fun _ y => q - 1 - y) (fun x _ => x)) px (q * p) (q * p) = quarL p q px := by
  refine mvL_all (fun i hi j hj => ?_) (fun i hi => quarI_lt hi)
  obtain ⟨h1, h2, h3⟩ := dm hi
  obtain ⟨k1, k2, k3⟩ := dm (W := p) (H := q) (by rw [Nat.mul_comm]; exact hj)
  unfold tgt quarI
  dsimp only
  generalize j / p = jy at *
  generalize j % p = jx at *
  generalize hz : i / q = iz at *
  generalize hu : i % q = iu at *
  obtain ⟨e1, e2⟩ := dm2 (x := q - 1 - jy) (y := jx) (W := q) (by omega)
  obtain ⟨e3, e4⟩ := dm2 (x := iz) (y := q - 1 - iu) (W := p) h2
  constructor
  · intro e
    rw [e, hu] at e1
    rw [e, hz] at e2
    rw [← k3, ← e2, e1, show q - 1 - (q - 1 - jy) = jy by omega]
  · intro e
    rw [← k3] at e
    obtain ⟨e5, e6⟩ := dm2 (x := jx) (y := jy) (W := p) k1
    rw [e, e3] at e5
    rw [e, e4] at e6
    rw [← h3, ← e5, ← e6, show q - 1 - (q - 1 - iu) = iu by omega]
theorem flipI_lt {p q i : Nat} (hi : i < p * q) : flipI p i < p * q := by
  obtain ⟨h1, h2, h3⟩ := dm hi
  exact in_px (W := p) (H := q) (show p - 1 - i % p < p by omega) h2
theorem mv_flip {p q : Nat} (px : List C4) : mvL (tgt p p (fun x _ => p - 1 - x) (fun _ y => y)) px (p * q) (q * p) = flpL p q px := by
  rw [Nat.mul_comm q p]
  refine mvL_all (fun i hi j hj => ?_) (fun i hi => flipI_lt hi)
  obtain ⟨h1, h2, h3⟩ := dm hi
  obtain ⟨k1, k2, k3⟩ := dm hj
  unfold tgt flipI
  dsimp only
  generalize hy : j / p = jy at *
  generalize hx : j % p = jx at *
  generalize hz : i / p = iz at *
  generalize hu : i % p = iu at *
  obtain ⟨e1, e2⟩ := dm2 (x := p - 1 - jx) (y := jy) (W := p) (by omega)
  obtain ⟨e3, e4⟩ := dm2 (x := p - 1 - iu) (y := iz) (W := p) (by omega)
  constructor
  · intro e
    rw [e, hu] at e1
    rw [e, hz] at e2
    rw [e2, e1, show p - 1 - (p - 1 - jx) = jx by omega, k3]
  · intro e
    rw [← e, hx] at e3
    rw [← e, hy] at e4
    rw [e4, e3, show p - 1 - (p - 1 - iu) = iu by omega, h3]
theorem mv_id {p q : Nat} {px : List C4} (h : px.length = p * q) : mvL (tgt p p (fun x _ => x) (fun _ y => y)) px (p * q) (q * p) = px := by
  rw [Nat.mul_comm q p]
  refine (mvL_all (h := fun i => i) (fun i hi j hj => ?_) (fun i hi => hi)).trans (pick_id h)
  obtain ⟨k1, k2, k3⟩ := dm hj
  unfold tgt
  dsimp only
  rw [k3]
theorem quarL_len (p q : Nat) (px : List C4) : (quarL p q px).length = q * p := pick_len _ _ _
theorem flpL_len (p q : Nat) (px : List C4) : (flpL p q px).length = p * q := pick_len _ _ _
def turnS : Nat → Nat → Nat → List C4 → Nat × Nat × List C4
  | 0, p, q, px => (p, q, px)
  | n + 1, p, q, px => match turnS n p q px with
    | (p', q', l) => (q', p', quarL p' q' l)
theorem turnS_succ (n p q : Nat) (px : List C4) : turnS (n + 1) p q px = ((turnS n p q px).2.1, (turnS n p q px).1, quarL (turnS n p q px).1 (turnS n p q px).2.1 (turnS n p q px).2.2) := rfl
theorem turnS_ok {p q : Nat} {px : List C4} (hp : 1 ≤ p ∧ p ≤ 8) (hq : 1 ≤ q ∧ q ≤ 8) (h : px.length = p * q) : ∀ n, (1 ≤ (turnS n p q px).1 ∧ (turnS n p q px).1 ≤ 8) ∧ (1 ≤ (turnS n p q px).2.1 ∧ (turnS n p q px).2.1 ≤ 8) ∧ (turnS n p q px).2.2.length = (turnS n p q px).1 * (turnS n p q px).2.1
  | 0 => ⟨hp, hq, h⟩
  | n + 1 => by
    obtain ⟨h1, h2, h3⟩ := turnS_ok hp hq h n
    rw [turnS_succ]
    exact ⟨h2, h1, quarL_len _ _ _⟩
def q4 (n : Int) : Nat := ((n.tmod 4 + 4).tmod 4).toNat
theorem q4_eq (n : Int) : (n.tmod 4 + 4).tmod 4 = ((q4 n : Nat) : Int) := by
  have h1 := tmod_bd n (n := 4) (by decide)
  have h2 : 0 ≤ (n.tmod 4 + 4).tmod 4 := by
    rw [Int.tmod_eq_emod_of_nonneg (by omega)]
    exact Int.emod_nonneg _ (by decide)
  unfold q4
  omega
theorem q4_lt (n : Int) : q4 n < 4 := by
  have h1 := tmod_bd (n.tmod 4 + 4) (n := 4) (by decide)
  unfold q4
  omega
end Go.Proofs.Ytbiapeaghbndoaa
/- canvas: of, Flip, Turn. Printed by a program of this seat's prover. -/
namespace Go.Proofs.Ytbiapeaghbndoaa
open Go Go.RowKit
set_option maxRecDepth 10000
theorem pof_ok (x y : Int) (a : Option Addr) (n cap : Nat) (w : World) (hok : rightS x y n = true) : Calls Try.prog 85 #[.agg #[.int .i64 x, .int .i64 y, .slice a n cap]] w fun e w' => ∃ P, e = .returned (.pointer (some ⟨P, 0, none⟩)) ∧ Below w.heap.size w w' ∧ (Res.blk P (.cells #[.int .i64 x, .int .i64 y, .slice a n cap] 138)).ok w.heap.size w' := by
 refine calls_of_T (l := [.agg #[.int .i64 x, .int .i64 y, .slice a n cap]]) 10 Try.func85 rfl rfl rfl ?_
 show T _ _ _ [(0, .agg #[.int .i64 x, .int .i64 y, .slice a n cap])] []
 refine T_seq (T_region ?_)
 refine TL_new 1 (.cells #[.int .i64 x, .int .i64 y, .slice a n cap] 75) (fun B => pt B 0) (fun _ _ j _ => r_box (j _ _ rfl) rfl) rfl rfl rfl (w_n rfl) ?_
 intro B1
 refine TL_v (.pointer none) (s_as rfl) rfl rfl ?_
 refine TL_seq ?_
 refine T_seq (T_region ?_)
 refine TL_v (.agg #[.int .i64 x, .int .i64 y, .slice a n cap]) (s_la ag75 sz75 rfl 1 rfl rfl rfl) rfl rfl ?_
 refine TL_call (.int .i64 0) (fun _ _ j _ => r_call (args := [.agg #[.int .i64 x, .int .i64 y, .slice a n cap]]) (enters_of Try.func49 (by kernel_rfl) rfl) (j _ _ rfl) ((cons2 (j _ _ rfl) rfl)) rfl) (fun w _ => (scheck_c x y a n cap w).mono fun _ _ h => ⟨h.1.trans (congrArg Ending.returned (int_as (if_pos hok))), h.2⟩) rfl rfl rfl (w_n rfl) ?_
 refine TL_v (.bool true) (s_op r_eql rfl rfl (by rfl)) rfl rfl ?_
 refine TL_call (.tuple #[]) (fun _ _ j _ => r_call (args := [.bool true, .int .i64 190]) (enters_of Try.func94 (by kernel_rfl) rfl) (j _ _ rfl) ((cons2 (j _ _ rfl) (cons2 (j _ _ rfl) rfl))) rfl) (fun w _ => need_ok_st 190 w) rfl rfl rfl (w_n rfl) ?_
 refine TL_seq ?_
 refine T_seq (T_region ?_)
 refine TL_v (.agg #[.int .i64 x, .int .i64 y, .slice a n cap]) (s_la ag75 sz75 rfl 1 rfl rfl rfl) rfl rfl ?_
 refine TL_v (.agg #[.int .i64 x, .int .i64 y, .slice a n cap]) (fun _ _ j _ => r_build (vs := [(0, .agg #[.int .i64 x, .int .i64 y, .slice a n cap])]) (by kernel_rfl) (cons2 (pair2 (j _ _ rfl)) rfl)) rfl rfl ?_
 refine TL_new 2 (.cells #[.int .i64 x, .int .i64 y, .slice a n cap] 138) (fun B => pt B 0) (fun _ _ j _ => r_box (j _ _ rfl) rfl) rfl rfl rfl (w_n rfl) ?_
 intro B2
 refine TL_v (pt B2 0) (s_as rfl) rfl rfl ?_
 refine TL_seq ?_
 refine T_ret' ?_
 refine ret_of rfl (pt B2 0) (fun tmps w hk hm => res1 rfl (res_tmp (hk 2 _ rfl))) (fun w hm => ?_)
 exact ⟨B2, rfl, hm.ext, hm.own 2 _ rfl⟩

theorem pof_no (x y : Int) (a : Option Addr) (n cap : Nat) (w : World) (hno : ¬ rightS x y n = true) : Calls Try.prog 85 #[.agg #[.int .i64 x, .int .i64 y, .slice a n cap]] w fun e w' => e = .panicked [{ v := .iface 29 (.int .i64 190), recovered := false }] ∧ Below w.heap.size w w' := by
 refine calls_of_T (l := [.agg #[.int .i64 x, .int .i64 y, .slice a n cap]]) 10 Try.func85 rfl rfl rfl ?_
 show T _ _ _ [(0, .agg #[.int .i64 x, .int .i64 y, .slice a n cap])] []
 refine T_seq (T_region ?_)
 refine TL_new 1 (.cells #[.int .i64 x, .int .i64 y, .slice a n cap] 75) (fun B => pt B 0) (fun _ _ j _ => r_box (j _ _ rfl) rfl) rfl rfl rfl (w_n rfl) ?_
 intro B1
 refine TL_v (.pointer none) (s_as rfl) rfl rfl ?_
 refine TL_seq ?_
 refine T_seq (T_region ?_)
 refine TL_v (.agg #[.int .i64 x, .int .i64 y, .slice a n cap]) (s_la ag75 sz75 rfl 1 rfl rfl rfl) rfl rfl ?_
 refine TL_call (.int .i64 190) (fun _ _ j _ => r_call (args := [.agg #[.int .i64 x, .int .i64 y, .slice a n cap]]) (enters_of Try.func49 (by kernel_rfl) rfl) (j _ _ rfl) ((cons2 (j _ _ rfl) rfl)) rfl) (fun w _ => (scheck_c x y a n cap w).mono fun _ _ h => ⟨h.1.trans (congrArg Ending.returned (int_as (if_neg hno))), h.2⟩) rfl rfl rfl (w_n rfl) ?_
 refine TL_v (.bool false) (s_op r_eql rfl rfl (by rfl)) rfl rfl ?_
 refine TL_callQ (v := .iface 29 (.int .i64 190)) (fun _ _ j _ => r_call (args := [.bool false, .int .i64 190]) (enters_of Try.func94 (by kernel_rfl) rfl) (j _ _ rfl) ((cons2 (j _ _ rfl) (cons2 (j _ _ rfl) rfl))) rfl) (fun w _ => need_no_st 190 w) rfl (w_n rfl) ?_
 refine p_then_p ?_
 refine p_pan rfl (fun w hm => ?_)
 exact ⟨rfl, hm.ext⟩

theorem tid_c (x y : Nat) (w : World) : Calls Try.prog 87 #[.agg #[.int .i64 (x : Int), .int .i64 (y : Int)]] w fun e w' => e = .returned (.agg #[.int .i64 (x : Int), .int .i64 (y : Int)]) ∧ Below w.heap.size w w' := by
 refine calls_of_T (l := [.agg #[iN x, iN y]]) 4 Try.func87 rfl rfl rfl ?_
 show T _ _ _ [(0, .agg #[iN x, iN y])] []
 refine T_seq (T_region ?_)
 refine TL_new 1 (.cells #[iN x, iN y] 47) (fun B => pt B 0) (fun _ _ j _ => r_box (j _ _ rfl) rfl) rfl rfl rfl (w_n rfl) ?_
 intro B1
 refine TL_new 2 (.cells #[.int .i64 0, .int .i64 0] 47) (fun B => pt B 0) (fun _ _ _ _ => r_alloc (v := .agg #[.int .i64 0, .int .i64 0]) (by kernel_rfl) rfl) rfl rfl rfl (w_n rfl) ?_
 intro B2
 refine TL_seq ?_
 refine T_seq (T_region ?_)
 refine TL_v (.agg #[iN x, iN y]) (s_la ag47 sz47 rfl 1 rfl rfl rfl) rfl rfl ?_
 refine TL_store 2 (.cells #[iN x, iN y] 47) rfl (s_st sz47 rfl rfl 2 rfl rfl rfl rfl rfl) rfl rfl (w_n rfl) ?_
 refine TL_seq ?_
 refine T_ret' ?_
 refine ret_of rfl (.agg #[iN x, iN y]) (fun tmps w hk hm => res1 rfl (res_cell (hk 2 _ rfl) (run_loadVar_agg ag47 sz47 (hm.at 2 rfl) (Nat.le_of_ble_eq_true rfl) rfl))) (fun w hm => ?_)
 exact ⟨rfl, hm.ext⟩

theorem tq_c (x y q B : Nat) (w : World) (hy : y < q) (hq : q ≤ 8) (hx : x ≤ 8) (hB : hp w B = some (.cells #[.int .i64 (q : Int)] 3)) : Calls Try.prog 88 #[.agg #[.int .i64 (x : Int), .int .i64 (y : Int)], .pointer (some ⟨B, 0, none⟩)] w fun e w' => e = .returned (.agg #[.int .i64 (q - 1 - y : Nat), .int .i64 (x : Nat)]) ∧ Below w.heap.size w w' := by
 refine calls_of_T (l := [.agg #[iN x, iN y], pt B 0]) 12 Try.func88 rfl rfl rfl ?_
 show T _ _ _ [(0, .agg #[iN x, iN y]), (1, pt B 0)] []
 refine T_seq (T_region ?_)
 refine TL_new 1 (.cells #[iN x, iN y] 47) (fun B => pt B 0) (fun _ _ j _ => r_box (j _ _ rfl) rfl) rfl rfl rfl (w_n rfl) ?_
 intro B1
 refine TL_new 2 (.cells #[.int .i64 0, .int .i64 0] 47) (fun B => pt B 0) (fun _ _ _ _ => r_alloc (v := .agg #[.int .i64 0, .int .i64 0]) (by kernel_rfl) rfl) rfl rfl rfl (w_n rfl) ?_
 intro B2
 refine TL_seq ?_
 refine T_seq (T_region ?_)
 refine TL_v (iN q) (fun _ _ j hm => r_load ag3 (j _ _ rfl) (hm.old hB) rfl) rfl rfl ?_
 refine TL_v (iN (q - 1)) (s_op r_sub rfl rfl (iw (by omega) (by omega) (by omega))) rfl rfl ?_
 refine TL_v (pt B1 1) (s_fa fl47_1 sz3 rfl) rfl rfl ?_
 refine TL_v (iN y) (s_ld ag3 rfl 1 rfl rfl) rfl rfl ?_
 refine TL_v (iN ((q - 1) - y)) (s_op r_sub rfl rfl (iw (by omega) (by omega) (by omega))) rfl rfl ?_
 refine TL_v (pt B1 0) (s_fa fl47_0 sz3 rfl) rfl rfl ?_
 refine TL_v (iN x) (s_ld ag3 rfl 1 rfl rfl) rfl rfl ?_
 refine TL_v (.agg #[iN ((q - 1) - y), iN x]) (fun _ _ j _ => r_build (vs := [(0, iN ((q - 1) - y)), (1, iN x)]) (by kernel_rfl) (cons2 (pair2 (j _ _ rfl)) (cons2 (pair2 (j _ _ rfl)) rfl))) rfl rfl ?_
 refine TL_store 2 (.cells #[iN ((q - 1) - y), iN x] 47) rfl (s_st sz47 rfl rfl 2 rfl rfl rfl rfl rfl) rfl rfl (w_n rfl) ?_
 refine TL_seq ?_
 refine T_ret' ?_
 refine ret_of rfl (.agg #[iN ((q - 1) - y), iN x]) (fun tmps w hk hm => res1 rfl (res_cell (hk 3 _ rfl) (run_loadVar_agg ag47 sz47 (hm.at 2 rfl) (Nat.le_of_ble_eq_true rfl) rfl))) (fun w hm => ?_)
 exact ⟨rfl, hm.ext⟩

theorem tf_c (x y p q P B : Nat) (sv : Value) (w : World) (hx : x < p) (hp8 : p ≤ 8) (hy : y ≤ 8) (hP : hp w P = some (.cells #[.int .i64 (p : Int), .int .i64 (q : Int), sv] 138)) (hB : hp w B = some (.cells #[.pointer (some ⟨P, 0, none⟩)] 134)) : Calls Try.prog 90 #[.agg #[.int .i64 (x : Int), .int .i64 (y : Int)], .pointer (some ⟨B, 0, none⟩)] w fun e w' => e = .returned (.agg #[.int .i64 (p - 1 - x : Nat), .int .i64 (y : Nat)]) ∧ Below w.heap.size w w' := by
 refine calls_of_T (l := [.agg #[iN x, iN y], pt B 0]) 16 Try.func90 rfl rfl rfl ?_
 show T _ _ _ [(0, .agg #[iN x, iN y]), (1, pt B 0)] []
 refine T_seq (T_region ?_)
 refine TL_new 1 (.cells #[iN x, iN y] 47) (fun B => pt B 0) (fun _ _ j _ => r_box (j _ _ rfl) rfl) rfl rfl rfl (w_n rfl) ?_
 intro B1
 refine TL_new 2 (.cells #[.int .i64 0, .int .i64 0] 47) (fun B => pt B 0) (fun _ _ _ _ => r_alloc (v := .agg #[.int .i64 0, .int .i64 0]) (by kernel_rfl) rfl) rfl rfl rfl (w_n rfl) ?_
 intro B2
 refine TL_seq ?_
 refine T_seq (T_draw (V := [(0, pt P 0), (1, pt P 0), (2, pt P 0), (3, pt P 0), (4, iN p), (5, iN (p - 1)), (6, pt B1 0), (7, iN x), (8, iN ((p - 1) - x)), (9, pt B1 1), (10, iN y), (11, .agg #[iN ((p - 1) - x), iN y])]) [0, 1, 3, 7, 15, 31, 0, 64, 255, 0, 512, 2047, 4095] [[(1, none)], [(4, some 0)], [(5, some 1)], [(6, some 2)], [(7, some 3)], [(8, some 4)], [(2, none)], [(10, some 6)], [(9, some 5), (11, some 7)], [(2, none)], [(13, some 9)], [(12, some 8), (14, some 10)], [(3, none), (15, some 11)]] 4096 mixed (by kernel_rfl) ?_)
 refine G_step [0, 1, 2, 3, 4, 5, 6, 7, 8, 9, 10, 11] 12 [] (by kernel_rfl) (allM (all_cons (q_r (pt P 0) rfl rfl rfl (fun _ _ j hm => r_load ag134 (j _ _ rfl) (hm.old hB) rfl)) (all_cons (q_r (pt P 0) rfl rfl rfl (s_nc rfl rfl)) (all_cons (q_r (pt P 0) rfl rfl rfl (s_fa fl138_0 sz75 rfl)) (all_cons (q_r (pt P 0) rfl rfl rfl (s_fa fl75_0 sz3 rfl)) (all_cons (q_r (iN p) rfl rfl rfl (fun _ _ j hm => r_load ag3 (j _ _ rfl) (hm.old hP) rfl)) (all_cons (q_r (iN (p - 1)) rfl rfl rfl (s_op r_sub rfl rfl (iw (by omega) (by omega) (by omega)))) (all_cons (q_r (pt B1 0) rfl rfl rfl (s_fa fl47_0 sz3 rfl)) (all_cons (q_r (iN x) rfl rfl rfl (s_ld ag3 rfl 1 rfl rfl)) (all_cons (q_r (iN ((p - 1) - x)) rfl rfl rfl (s_op r_sub rfl rfl (iw (by omega) (by omega) (by omega)))) (all_cons (q_r (pt B1 1) rfl rfl rfl (s_fa fl47_1 sz3 rfl)) (all_cons (q_r (iN y) rfl rfl rfl (s_ld ag3 rfl 1 rfl rfl)) (all_cons (q_r (.agg #[iN ((p - 1) - x), iN y]) rfl rfl rfl (fun _ _ j _ => r_build (vs := [(0, iN ((p - 1) - x)), (1, iN y)]) (by kernel_rfl) (cons2 (pair2 (j _ _ rfl)) (cons2 (pair2 (j _ _ rfl)) rfl)))) all_nil))))))))))))) (allM (all_cons ?_ all_nil))
 refine LOb_store 2 (.cells #[iN ((p - 1) - x), iN y] 47) [] rfl (wv_n rfl) rfl rfl rfl (s_st sz47 rfl rfl 2 rfl rfl rfl rfl rfl) (by kernel_rfl) ?_
 refine G_last [] [(3, pt B2 0)] (by kernel_rfl) (allM all_nil) (end_old rfl rfl end_nil) ?_
 refine T_ret' ?_
 refine ret_of rfl (.agg #[iN ((p - 1) - x), iN y]) (fun tmps w hk hm => res1 rfl (res_cell (hk 3 _ rfl) (run_loadVar_agg ag47 sz47 (hm.at 2 rfl) (Nat.le_of_ble_eq_true rfl) rfl))) (fun w hm => ?_)
 exact ⟨rfl, hm.ext⟩

theorem moved_id (P p q : Nat) (px : List C4) (a : Option Addr) (cap : Nat) (w : World) (hP : hp w P = some (.cells #[.int .i64 (p : Int), .int .i64 (q : Int), .slice a px.length cap] 138)) (hv : SliceAt w a cap 4 C4.cells px) (hcap : cap ≤ Go.maxLen) (hp : 1 ≤ p ∧ p ≤ 8) (hq : 1 ≤ q ∧ q ≤ 8) (hlen : px.length = p * q) : Calls Try.prog 86 #[.pointer (some ⟨P, 0, none⟩), .int .i64 (p : Int), .int .i64 (q : Int), .func (.func 87) #[] #[]] w fun e w' => ∃ a' cap', e = .returned (.agg #[.int .i64 (p : Int), .int .i64 (q : Int), .slice a' (px).length cap']) ∧ Below w.heap.size w w' ∧ w'.ownsRow w.heap.size 37 4 (.slice a' (px).length cap') (px).length ((px).flatMap C4.cells) := by
 have h := moved_c P p q px a cap w hP hv hcap hp hq hlen p q hp hq 87 #[] (enters_of Try.func87 (by kernel_rfl) rfl) (fun x _ => x) (fun _ y => y) (by exact fun x y hx hy => ⟨hx, hy⟩) (fun w2 hb x y hx hy => tid_c x y w2)
 rwa [mv_id hlen] at h

theorem moved_q (P p q : Nat) (px : List C4) (a : Option Addr) (cap : Nat) (w : World) (hP : hp w P = some (.cells #[.int .i64 (p : Int), .int .i64 (q : Int), .slice a px.length cap] 138)) (B : Nat) (hB : hp w B = some (.cells #[.int .i64 (q : Int)] 3)) (hv : SliceAt w a cap 4 C4.cells px) (hcap : cap ≤ Go.maxLen) (hp : 1 ≤ p ∧ p ≤ 8) (hq : 1 ≤ q ∧ q ≤ 8) (hlen : px.length = p * q) : Calls Try.prog 86 #[.pointer (some ⟨P, 0, none⟩), .int .i64 (q : Int), .int .i64 (p : Int), .func (.func 88) #[] #[.pointer (some ⟨B, 0, none⟩)]] w fun e w' => ∃ a' cap', e = .returned (.agg #[.int .i64 (q : Int), .int .i64 (p : Int), .slice a' (quarL p q px).length cap']) ∧ Below w.heap.size w w' ∧ w'.ownsRow w.heap.size 37 4 (.slice a' (quarL p q px).length cap') (quarL p q px).length ((quarL p q px).flatMap C4.cells) := by
 have h := moved_c P p q px a cap w hP hv hcap hp hq hlen q p hq hp 88 #[.pointer (some ⟨B, 0, none⟩)] (enters_of Try.func88 (by kernel_rfl) rfl) (fun _ y => q - 1 - y) (fun x _ => x) (by intro x y hx hy; omega) (fun w2 hb x y hx hy => tq_c x y q B w2 hy (by omega) (by omega) (kept hb hB))
 rwa [mv_quar] at h

theorem moved_f (P p q : Nat) (px : List C4) (a : Option Addr) (cap : Nat) (w : World) (hP : hp w P = some (.cells #[.int .i64 (p : Int), .int .i64 (q : Int), .slice a px.length cap] 138)) (B : Nat) (hB : hp w B = some (.cells #[.pointer (some ⟨P, 0, none⟩)] 134)) (hv : SliceAt w a cap 4 C4.cells px) (hcap : cap ≤ Go.maxLen) (hp : 1 ≤ p ∧ p ≤ 8) (hq : 1 ≤ q ∧ q ≤ 8) (hlen : px.length = p * q) : Calls Try.prog 86 #[.pointer (some ⟨P, 0, none⟩), .int .i64 (p : Int), .int .i64 (q : Int), .func (.func 90) #[] #[.pointer (some ⟨B, 0, none⟩)]] w fun e w' => ∃ a' cap', e = .returned (.agg #[.int .i64 (p : Int), .int .i64 (q : Int), .slice a' (flpL p q px).length cap']) ∧ Below w.heap.size w w' ∧ w'.ownsRow w.heap.size 37 4 (.slice a' (flpL p q px).length cap') (flpL p q px).length ((flpL p q px).flatMap C4.cells) := by
 have h := moved_c P p q px a cap w hP hv hcap hp hq hlen p q hp hq 90 #[.pointer (some ⟨B, 0, none⟩)] (enters_of Try.func90 (by kernel_rfl) rfl) (fun x _ => p - 1 - x) (fun _ y => y) (by intro x y hx hy; omega) (fun w2 hb x y hx hy => tf_c x y p q P B _ w2 hx (by omega) (by omega) (kept hb hP) (kept hb hB))
 rwa [mv_flip] at h

theorem flip1_ok (S p q : Nat) (px : List C4) (a : Option Addr) (cap : Nat) (w : World) (hS : hp w S = some (.cells #[.int .i64 (p : Int), .int .i64 (q : Int), .slice a px.length cap] 75)) (hv : SliceAt w a cap 4 C4.cells px) (hcap : cap ≤ Go.maxLen) (hp : 1 ≤ p ∧ p ≤ 8) (hq : 1 ≤ q ∧ q ≤ 8) (hlen : px.length = p * q) : Calls Try.prog 89 #[.pointer (some ⟨S, 0, none⟩)] w fun e w' => ∃ a' cap', e = .returned (.agg #[.int .i64 (p : Int), .int .i64 (q : Int), .slice a' (flpL p q px).length cap']) ∧ Below w.heap.size w w' ∧ w'.ownsRow w.heap.size 37 4 (.slice a' (flpL p q px).length cap') (flpL p q px).length ((flpL p q px).flatMap C4.cells) := by
 have hvl := hv.1
 have h64 := size8 hp hq
 unfold Go.maxLen at hcap
 refine calls_of_T (l := [pt S 0]) 18 Try.func89 rfl rfl rfl ?_
 show T _ _ _ [(0, pt S 0)] []
 refine T_seq (T_region ?_)
 refine TL_new 1 (.cells #[.int .i64 0, .int .i64 0, .slice none 0 0] 75) (fun B => pt B 0) (fun _ _ _ _ => r_alloc (v := .agg #[.int .i64 0, .int .i64 0, .slice none 0 0]) (by kernel_rfl) rfl) rfl rfl rfl (w_n rfl) ?_
 intro B1
 refine TL_seq ?_
 refine T_seq (T_region ?_)
 refine TL_v (.agg #[iN p, iN q, .slice a px.length cap]) (fun _ _ j hm => r_loadA ag75 sz75 (j _ _ rfl) (hm.old hS) rfl rfl) rfl rfl ?_
 refine TL_callN (fun (_ : Nat) => True) (fun P2 => pt P2 0) (fun P2 => [(2, .blk P2 (.cells #[iN p, iN q, .slice a px.length cap] 138))]) (fun _ _ j _ => r_call (args := [.agg #[iN p, iN q, .slice a px.length cap]]) (enters_of Try.func85 (by kernel_rfl) rfl) (j _ _ rfl) ((cons2 (j _ _ rfl) rfl)) rfl) (fun w _ => (pof_ok ((p : Nat) : Int) ((q : Nat) : Int) a px.length cap w (rightS_of hp hq hlen)).mono fun e w' ⟨q, he, hb, hr⟩ => ⟨q, trivial, he, hb, newOk1 2 hr⟩) rfl rfl rfl (w_n rfl) ?_
 intro P2 _
 refine TL_new 3 (.cells #[.pointer none] 134) (fun B => pt B 0) (fun _ _ _ _ => r_alloc (v := .pointer none) (by kernel_rfl) rfl) rfl rfl rfl (w_n rfl) ?_
 intro B3
 refine TL_store 3 (.cells #[pt P2 0] 134) rfl (s_st sz134 rfl rfl 3 rfl rfl rfl rfl rfl) rfl rfl (w_n rfl) ?_
 refine TL_seq ?_
 refine T_seq (T_draw (V := [(0, pt P2 0), (1, pt P2 0), (2, pt P2 0), (3, pt P2 0), (4, pt P2 0), (5, iN p), (6, pt P2 0), (7, pt P2 0), (8, pt P2 0), (9, pt P2 1), (10, iN q), (11, .func (.func 90) #[] #[pt B3 0])]) [0, 0, 2, 6, 14, 30, 0, 64, 192, 448, 960, 0, 4095, 8191] [[(2, none)], [(2, none)], [(6, some 1)], [(7, some 2)], [(8, some 3)], [(9, some 4)], [(2, none)], [(11, some 6)], [(12, some 7)], [(13, some 8)], [(14, some 9)], [(2, none)], [(5, some 0), (10, some 5), (15, some 10), (16, some 11)], [(1, none), (17, some 12)]] 12288 mixed (by kernel_rfl) ?_)
 refine G_step [0, 1, 2, 3, 4, 5, 6, 7, 8, 9, 10, 11] 12 [] (by kernel_rfl) (allM (all_cons (q_r (pt P2 0) rfl rfl rfl (s_ld ag134 rfl 3 rfl rfl)) (all_cons (q_r (pt P2 0) rfl rfl rfl (s_ld ag134 rfl 3 rfl rfl)) (all_cons (q_r (pt P2 0) rfl rfl rfl (s_nc rfl rfl)) (all_cons (q_r (pt P2 0) rfl rfl rfl (s_fa fl138_0 sz75 rfl)) (all_cons (q_r (pt P2 0) rfl rfl rfl (s_fa fl75_0 sz3 rfl)) (all_cons (q_r (iN p) rfl rfl rfl (s_ld ag3 rfl 2 rfl rfl)) (all_cons (q_r (pt P2 0) rfl rfl rfl (s_ld ag134 rfl 3 rfl rfl)) (all_cons (q_r (pt P2 0) rfl rfl rfl (s_nc rfl rfl)) (all_cons (q_r (pt P2 0) rfl rfl rfl (s_fa fl138_0 sz75 rfl)) (all_cons (q_r (pt P2 1) rfl rfl rfl (s_fa fl75_1 sz3 rfl)) (all_cons (q_r (iN q) rfl rfl rfl (s_ld ag3 rfl 2 rfl rfl)) (all_cons (q_r (.func (.func 90) #[] #[pt B3 0]) rfl rfl rfl (fun _ _ j _ => r_makeFunc (by simp) (map_arr (cons2 (j _ _ rfl) rfl)))) all_nil))))))))))))) (allM (all_cons ?_ all_nil))
 refine LOb_callN (fun (_ : Option Addr × Nat) => True) (fun (ar5, cr5) => .agg #[iN p, iN q, .slice ar5 ((flpL p q px).length) cr5]) (fun (ar5, cr5) => [(940, .row (.slice ar5 ((flpL p q px).length) cr5) 37 4 ((flpL p q px).length) ((flpL p q px).flatMap C4.cells))]) (fun (ar5, cr5) => []) rfl (wv_n rfl) rfl rfl (fun _ _ j _ => r_call (args := [pt P2 0, iN p, iN q, .func (.func 90) #[] #[pt B3 0]]) (enters_of Try.func86 (by kernel_rfl) rfl) (j _ _ rfl) ((cons2 (j _ _ rfl) (cons2 (j _ _ rfl) (cons2 (j _ _ rfl) (cons2 (j _ _ rfl) rfl))))) rfl) (fun w hm => (moved_f P2 p q px a cap w (hm.at 2 rfl) B3 (hm.at 3 rfl) (hv.keep hm.ext) hcap hp hq hlen).mono fun e w' ⟨a', cap', he, hb, hr⟩ => ⟨(a', cap'), trivial, he, hb, newOk1 940 hr⟩) (fun (ar5, cr5) => by kernel_rfl) ?_
 rintro ⟨ar5, cr5⟩ -
 refine G_step [] 13 [] (by kernel_rfl) (allM all_nil) (allM (all_cons ?_ all_nil))
 refine LOb_store 1 (.cells #[iN p, iN q, .slice ar5 ((flpL p q px).length) cr5] 75) [] rfl (wv_n rfl) rfl rfl rfl (s_st sz75 rfl rfl 1 rfl rfl rfl rfl rfl) (by kernel_rfl) ?_
 refine G_last [] [(1, pt B1 0)] (by kernel_rfl) (allM all_nil) (end_old rfl rfl end_nil) ?_
 refine T_ret' ?_
 refine ret_of rfl (.agg #[iN p, iN q, .slice ar5 ((flpL p q px).length) cr5]) (fun tmps w hk hm => res1 rfl (res_cell (hk 1 _ rfl) (run_loadVar_agg ag75 sz75 (hm.at 1 rfl) (Nat.le_of_ble_eq_true rfl) rfl))) (fun w hm => ?_)
 exact ⟨ar5, cr5, rfl, hm.ext, hm.row 940 rfl⟩

theorem flip1_no (S : Nat) (x y : Int) (a : Option Addr) (n cap : Nat) (w : World) (hS : hp w S = some (.cells #[.int .i64 x, .int .i64 y, .slice a n cap] 75)) (hno : ¬ rightS x y n = true) : Calls Try.prog 89 #[.pointer (some ⟨S, 0, none⟩)] w fun e w' => e = .panicked [{ v := .iface 29 (.int .i64 190), recovered := false }] ∧ Below w.heap.size w w' := by
 refine calls_of_T (l := [pt S 0]) 18 Try.func89 rfl rfl rfl ?_
 show T _ _ _ [(0, pt S 0)] []
 refine T_seq (T_region ?_)
 refine TL_new 1 (.cells #[.int .i64 0, .int .i64 0, .slice none 0 0] 75) (fun B => pt B 0) (fun _ _ _ _ => r_alloc (v := .agg #[.int .i64 0, .int .i64 0, .slice none 0 0]) (by kernel_rfl) rfl) rfl rfl rfl (w_n rfl) ?_
 intro B1
 refine TL_seq ?_
 refine T_seq (T_region ?_)
 refine TL_v (.agg #[.int .i64 x, .int .i64 y, .slice a n cap]) (fun _ _ j hm => r_loadA ag75 sz75 (j _ _ rfl) (hm.old hS) rfl rfl) rfl rfl ?_
 refine TL_callQ (v := .iface 29 (.int .i64 190)) (fun _ _ j _ => r_call (args := [.agg #[.int .i64 x, .int .i64 y, .slice a n cap]]) (enters_of Try.func85 (by kernel_rfl) rfl) (j _ _ rfl) ((cons2 (j _ _ rfl) rfl)) rfl) (fun w _ => pof_no x y a n cap w hno) rfl (w_n rfl) ?_
 refine p_then_p ?_
 refine p_pan rfl (fun w hm => ?_)
 exact ⟨rfl, hm.ext⟩

theorem flip_ok (p q : Nat) (px : List C4) (a : Option Addr) (cap : Nat) (w : World) (hv : SliceAt w a cap 4 C4.cells px) (hcap : cap ≤ Go.maxLen) (hp : 1 ≤ p ∧ p ≤ 8) (hq : 1 ≤ q ∧ q ≤ 8) (hlen : px.length = p * q) : Calls Try.prog 50 #[.agg #[.int .i64 (p : Int), .int .i64 (q : Int), .slice a px.length cap]] w fun e w' => ∃ a' cap', e = .returned (.tuple #[.agg #[.int .i64 (p : Int), .int .i64 (q : Int), .slice a' (flpL p q px).length cap'], .int .i64 0]) ∧ Below w.heap.size w w' ∧ w'.ownsRow w.heap.size 37 4 (.slice a' (flpL p q px).length cap') (flpL p q px).length ((flpL p q px).flatMap C4.cells) := by
 have hvl := hv.1
 have h64 := size8 hp hq
 refine calls_of_T (l := [.agg #[iN p, iN q, .slice a px.length cap]]) 8 Try.func50 rfl rfl rfl ?_
 show T _ _ _ [(0, .agg #[iN p, iN q, .slice a px.length cap])] []
 refine T_seq (T_region ?_)
 refine TL_new 1 (.cells #[iN p, iN q, .slice a px.length cap] 75) (fun B => pt B 0) (fun _ _ j _ => r_box (j _ _ rfl) rfl) rfl rfl rfl (w_n rfl) ?_
 intro B1
 refine TL_new 2 (.cells #[.int .i64 0, .int .i64 0, .slice none 0 0] 75) (fun B => pt B 0) (fun _ _ _ _ => r_alloc (v := .agg #[.int .i64 0, .int .i64 0, .slice none 0 0]) (by kernel_rfl) rfl) rfl rfl rfl (w_n rfl) ?_
 intro B2
 refine TL_v (.int .i64 0) (s_as rfl) rfl rfl ?_
 refine TL_seq ?_
 refine T_seq (T_region ?_)
 refine TL_v (.func (.func 89) #[] #[pt B1 0]) (fun _ _ j _ => r_makeFunc (by simp) (map_arr (cons2 (j _ _ rfl) rfl))) rfl rfl ?_
 refine TL_callN (fun (_ : Option Addr × Nat) => True) (fun (ar3, cr3) => .tuple #[.agg #[iN p, iN q, .slice ar3 ((flpL p q px).length) cr3], .int .i64 0]) (fun (ar3, cr3) => [(3, .row (.slice ar3 ((flpL p q px).length) cr3) 37 4 ((flpL p q px).length) ((flpL p q px).flatMap C4.cells))]) (fun _ _ j _ => r_call (args := [.func (.func 89) #[] #[pt B1 0]]) (enters_of Try.func83 (by kernel_rfl) rfl) (j _ _ rfl) ((cons2 (j _ _ rfl) rfl)) rfl) (fun w hm => trSW_ok 89 #[pt B1 0] (fun (_ : Option Addr × Nat) => True) (fun _ => ((p : Nat) : Int)) (fun _ => ((q : Nat) : Int)) (fun z => z.1) (fun _ => (flpL p q px).length) (fun z => z.2) (fun z => [(3, .row (.slice z.1 ((flpL p q px).length) z.2) 37 4 ((flpL p q px).length) ((flpL p q px).flatMap C4.cells))]) w (enters_of Try.func89 (by kernel_rfl) rfl) (fun _ => rfl) (fun _ => rfl) (fun w2 hb => (flip1_ok B1 p q px a cap w2 (kept hb (hm.at 1 rfl)) ((hv.keep hm.ext).keep hb) hcap hp hq hlen).mono fun e w' ⟨a', cap', he, hb2, hr⟩ => ⟨(a', cap'), trivial, he, hb2, newOk1 3 hr⟩)) rfl rfl rfl (w_n rfl) ?_
 rintro ⟨ar3, cr3⟩ -
 refine TL_v (.agg #[iN p, iN q, .slice ar3 ((flpL p q px).length) cr3]) (s_ex rfl rfl) rfl rfl ?_
 refine TL_v (.int .i64 0) (s_ex rfl rfl) rfl rfl ?_
 refine TL_store 2 (.cells #[iN p, iN q, .slice ar3 ((flpL p q px).length) cr3] 75) rfl (s_st sz75 rfl rfl 2 rfl rfl rfl rfl rfl) rfl rfl (w_n rfl) ?_
 refine TL_v (.int .i64 0) (s_as rfl) rfl rfl ?_
 refine TL_seq ?_
 refine T_ret' ?_
 refine ret_of rfl (.tuple #[.agg #[iN p, iN q, .slice ar3 ((flpL p q px).length) cr3], .int .i64 0]) (fun tmps w hk hm => res2 rfl (res_cell (hk 2 _ rfl) (run_loadVar_agg ag75 sz75 (hm.at 2 rfl) (Nat.le_of_ble_eq_true rfl) rfl)) (res_tmp (hk 3 _ rfl))) (fun w hm => ?_)
 exact ⟨ar3, cr3, rfl, hm.ext, hm.row 3 rfl⟩

theorem flip_no (x y : Int) (a : Option Addr) (n cap : Nat) (w : World) (hno : ¬ rightS x y n = true) : Calls Try.prog 50 #[.agg #[.int .i64 x, .int .i64 y, .slice a n cap]] w fun e w' => e = .returned (.tuple #[.agg #[.int .i64 0, .int .i64 0, .slice none 0 0], .int .i64 190]) ∧ Below w.heap.size w w' := by
 refine calls_of_T (l := [.agg #[.int .i64 x, .int .i64 y, .slice a n cap]]) 8 Try.func50 rfl rfl rfl ?_
 show T _ _ _ [(0, .agg #[.int .i64 x, .int .i64 y, .slice a n cap])] []
 refine T_seq (T_region ?_)
 refine TL_new 1 (.cells #[.int .i64 x, .int .i64 y, .slice a n cap] 75) (fun B => pt B 0) (fun _ _ j _ => r_box (j _ _ rfl) rfl) rfl rfl rfl (w_n rfl) ?_
 intro B1
 refine TL_new 2 (.cells #[.int .i64 0, .int .i64 0, .slice none 0 0] 75) (fun B => pt B 0) (fun _ _ _ _ => r_alloc (v := .agg #[.int .i64 0, .int .i64 0, .slice none 0 0]) (by kernel_rfl) rfl) rfl rfl rfl (w_n rfl) ?_
 intro B2
 refine TL_v (.int .i64 0) (s_as rfl) rfl rfl ?_
 refine TL_seq ?_
 refine T_seq (T_region ?_)
 refine TL_v (.func (.func 89) #[] #[pt B1 0]) (fun _ _ j _ => r_makeFunc (by simp) (map_arr (cons2 (j _ _ rfl) rfl))) rfl rfl ?_
 refine TL_call (.tuple #[.agg #[.int .i64 0, .int .i64 0, .slice none 0 0], .int .i64 190]) (fun _ _ j _ => r_call (args := [.func (.func 89) #[] #[pt B1 0]]) (enters_of Try.func83 (by kernel_rfl) rfl) (j _ _ rfl) ((cons2 (j _ _ rfl) rfl)) rfl) (fun w hm => trSW_no 89 #[pt B1 0] 190 w (enters_of Try.func89 (by kernel_rfl) rfl) (fun w2 hb => flip1_no B1 x y a n cap w2 (kept hb (hm.at 1 rfl)) hno)) rfl rfl rfl (w_n rfl) ?_
 refine TL_v (.agg #[.int .i64 0, .int .i64 0, .slice none 0 0]) (s_ex rfl rfl) rfl rfl ?_
 refine TL_v (.int .i64 190) (s_ex rfl rfl) rfl rfl ?_
 refine TL_store 2 (.cells #[.int .i64 0, .int .i64 0, .slice none 0 0] 75) rfl (s_st sz75 rfl rfl 2 rfl rfl rfl rfl rfl) rfl rfl (w_n rfl) ?_
 refine TL_v (.int .i64 190) (s_as rfl) rfl rfl ?_
 refine TL_seq ?_
 refine T_ret' ?_
 refine ret_of rfl (.tuple #[.agg #[.int .i64 0, .int .i64 0, .slice none 0 0], .int .i64 190]) (fun tmps w hk hm => res2 rfl (res_cell (hk 2 _ rfl) (run_loadVar_agg ag75 sz75 (hm.at 2 rfl) (Nat.le_of_ble_eq_true rfl) rfl)) (res_tmp (hk 3 _ rfl))) (fun w hm => ?_)
 exact ⟨rfl, hm.ext⟩
end Go.Proofs.Ytbiapeaghbndoaa
/- canvas: Turn. Printed by a program of this seat's prover. -/
namespace Go.Proofs.Ytbiapeaghbndoaa
open Go Go.RowKit
set_option maxRecDepth 10000
set_option maxHeartbeats 1000000 in
theorem turn1_ok (S R p q : Nat) (qn : Int) (px : List C4) (a : Option Addr) (cap : Nat) (w : World) (hS : hp w S = some (.cells #[.int .i64 (p : Int), .int .i64 (q : Int), .slice a px.length cap] 75)) (hR : hp w R = some (.cells #[.int .i64 qn] 3)) (hv : SliceAt w a cap 4 C4.cells px) (hcap : cap ≤ Go.maxLen) (hp : 1 ≤ p ∧ p ≤ 8) (hq : 1 ≤ q ∧ q ≤ 8) (hlen : px.length = p * q) : Calls Try.prog 84 #[.pointer (some ⟨S, 0, none⟩), .pointer (some ⟨R, 0, none⟩)] w fun e w' => ∃ a' cap', e = .returned (.agg #[.int .i64 ((turnS (q4 qn) p q px).1 : Int), .int .i64 ((turnS (q4 qn) p q px).2.1 : Int), .slice a' ((turnS (q4 qn) p q px).2.2).length cap']) ∧ Below w.heap.size w w' ∧ w'.ownsRow w.heap.size 37 4 (.slice a' ((turnS (q4 qn) p q px).2.2).length cap') ((turnS (q4 qn) p q px).2.2).length (((turnS (q4 qn) p q px).2.2).flatMap C4.cells) := by
 have hp8 := hp
 have hvl := hv.1
 have h64 := size8 hp hq
 have hqn := tmod_bd qn (n := 4) (by decide)
 have hq4 := q4_lt qn
 unfold Go.maxLen at hcap
 refine calls_of_T (l := [pt S 0, pt R 0]) 54 Try.func84 rfl rfl rfl ?_
 show T _ _ _ [(0, pt S 0), (1, pt R 0)] []
 refine T_seq (T_region ?_)
 refine TL_new 1 (.cells #[.int .i64 0, .int .i64 0, .slice none 0 0] 75) (fun B => pt B 0) (fun _ _ _ _ => r_alloc (v := .agg #[.int .i64 0, .int .i64 0, .slice none 0 0]) (by kernel_rfl) rfl) rfl rfl rfl (w_n rfl) ?_
 intro B1
 refine TL_seq ?_
 refine T_jumps (ι := Nat × Nat × Option Addr × Nat) 0 (fun (z : Nat × Nat × Option Addr × Nat) => match z with | (i, P, ar, cr) => i ≤ q4 qn) (fun (z : Nat × Nat × Option Addr × Nat) => match z with | (i, P, ar, cr) => [(2, pt B1 0), (3, pt P 0), (4, iN (q4 qn - i))]) (fun (z : Nat × Nat × Option Addr × Nat) => match z with | (i, P, ar, cr) => [(1, .blk B1 (.cells #[.int .i64 0, .int .i64 0, .slice none 0 0] 75)), (940, .row (.slice ar ((turnS i p q px).2.2.length) cr) 37 4 ((turnS i p q px).2.2.length) ((turnS i p q px).2.2.flatMap C4.cells)), (941, .blk P (.cells #[iN ((turnS i p q px).1), iN ((turnS i p q px).2.1), .slice ar ((turnS i p q px).2.2.length) cr] 138))]) (fun (z : Nat × Nat × Option Addr × Nat) => match z with | (i, P, ar, cr) => q4 qn - i) rfl rfl ?_ ?_
 ·skip
  refine T_seq (T_region ?_)
  refine TL_v (.agg #[iN p, iN q, .slice a px.length cap]) (fun _ _ j hm => r_loadA ag75 sz75 (j _ _ rfl) (hm.old hS) rfl rfl) rfl rfl ?_
  refine TL_callN (fun (_ : Nat) => True) (fun P2 => pt P2 0) (fun P2 => [(2, .blk P2 (.cells #[iN p, iN q, .slice a px.length cap] 138))]) (fun _ _ j _ => r_call (args := [.agg #[iN p, iN q, .slice a px.length cap]]) (enters_of Try.func85 (by kernel_rfl) rfl) (j _ _ rfl) ((cons2 (j _ _ rfl) rfl)) rfl) (fun w _ => (pof_ok ((p : Nat) : Int) ((q : Nat) : Int) a px.length cap w (rightS_of hp hq hlen)).mono fun e w' ⟨q, he, hb, hr⟩ => ⟨q, trivial, he, hb, newOk1 2 hr⟩) rfl rfl rfl (w_n rfl) ?_
  intro P2 _
  refine TL_v (pt P2 0) (s_as rfl) rfl rfl ?_
  refine TL_seq ?_
  refine T_seq (T_region ?_)
  refine TL_v (.int .i64 qn) (fun _ _ j hm => r_load ag3 (j _ _ rfl) (hm.old hR) rfl) rfl rfl ?_
  refine TL_v (.int .i64 (qn.tmod 4)) (fun _ _ j _ => r_rem (j _ _ rfl) (j _ _ rfl) (by omega)) rfl rfl ?_
  refine TL_v (.int .i64 ((qn.tmod 4) + 4)) (s_op r_add rfl rfl (int_as (wrap64 (by omega) (by omega)))) rfl rfl ?_
  refine TL_v (iN (q4 qn)) (fun _ _ j _ => r_as (r_rem (j _ _ rfl) (j _ _ rfl) (by omega)) (int_as (q4_eq qn))) rfl rfl ?_
  refine TL_v (iN (q4 qn)) (s_as rfl) rfl rfl ?_
  refine TL_seq ?_
  refine T_seq (T_draw (V := [(0, pt P2 0), (1, pt P2 0), (2, pt P2 0), (3, pt P2 0), (4, pt P2 0), (5, iN p), (6, pt P2 0), (7, pt P2 0), (8, pt P2 0), (9, pt P2 1), (10, iN q)]) [0, 0, 2, 6, 14, 30, 0, 64, 192, 448, 960, 2047, 4095, 8191, 16383] [[(3, none)], [(3, none)], [(13, some 1)], [(14, some 2)], [(15, some 3)], [(16, some 4)], [(3, none)], [(18, some 6)], [(19, some 7)], [(20, some 8)], [(21, some 9)], [(12, some 0), (17, some 5), (22, some 10)], [(23, some 11)], [(24, some 12)], [(25, some 13)]] 10240 mixed (by kernel_rfl) ?_)
  refine G_step [0, 1, 2, 3, 4, 5, 6, 7, 8, 9, 10] 11 [] (by kernel_rfl) (allM (all_cons (q_r (pt P2 0) rfl rfl rfl (s_mv rfl)) (all_cons (q_r (pt P2 0) rfl rfl rfl (s_mv rfl)) (all_cons (q_r (pt P2 0) rfl rfl rfl (s_nc rfl rfl)) (all_cons (q_r (pt P2 0) rfl rfl rfl (s_fa fl138_0 sz75 rfl)) (all_cons (q_r (pt P2 0) rfl rfl rfl (s_fa fl75_0 sz3 rfl)) (all_cons (q_r (iN p) rfl rfl rfl (s_ld ag3 rfl 2 rfl rfl)) (all_cons (q_r (pt P2 0) rfl rfl rfl (s_mv rfl)) (all_cons (q_r (pt P2 0) rfl rfl rfl (s_nc rfl rfl)) (all_cons (q_r (pt P2 0) rfl rfl rfl (s_fa fl138_0 sz75 rfl)) (all_cons (q_r (pt P2 1) rfl rfl rfl (s_fa fl75_1 sz3 rfl)) (all_cons (q_r (iN q) rfl rfl rfl (s_ld ag3 rfl 2 rfl rfl)) all_nil)))))))))))) (allM (all_cons ?_ all_nil))
  refine LOb_callN (fun (_ : Option Addr × Nat) => True) (fun (ar4, cr4) => .agg #[iN p, iN q, .slice ar4 ((px).length) cr4]) (fun (ar4, cr4) => [(940, .row (.slice ar4 ((px).length) cr4) 37 4 ((px).length) ((px).flatMap C4.cells))]) (fun (ar4, cr4) => [(12, .agg #[iN p, iN q, .slice ar4 ((px).length) cr4])]) rfl (wv_n rfl) rfl rfl (fun _ _ j _ => r_call (args := [pt P2 0, iN p, iN q, .func (.func 87) #[] #[]]) (enters_of Try.func86 (by kernel_rfl) rfl) (j _ _ rfl) ((cons2 (j _ _ rfl) (cons2 (j _ _ rfl) (cons2 (j _ _ rfl) (cons2 (j _ _ rfl) rfl))))) rfl) (fun w hm => (moved_id P2 p q px a cap w (hm.at 2 rfl) (hv.keep hm.ext) hcap hp hq hlen).mono fun e w' ⟨a', cap', he, hb, hr⟩ => ⟨(a', cap'), trivial, he, hb, newOk1 940 hr⟩) (fun (ar4, cr4) => by kernel_rfl) ?_
  rintro ⟨ar4, cr4⟩ -
  refine G_step [12] 13 [] (by kernel_rfl) (allM (all_cons (q_r (.agg #[iN p, iN q, .slice ar4 ((px).length) cr4]) rfl rfl rfl (fun _ _ j _ => r_build (vs := [(0, .agg #[iN p, iN q, .slice ar4 ((px).length) cr4])]) (by kernel_rfl) (cons2 (pair2 (j _ _ rfl)) rfl))) all_nil)) (allM (all_cons ?_ all_nil))
  refine LOb_new 941 (.cells #[iN p, iN q, .slice ar4 ((px).length) cr4] 138) (fun B => pt B 0) (fun B => [(14, pt B 0)]) rfl (wv_n rfl) rfl rfl (fun _ _ j _ => r_box (j _ _ rfl) rfl) (fun B => by kernel_rfl) ?_
  intro B5
  refine G_last [14] [(2, pt B1 0), (4, iN (q4 qn)), (3, pt B5 0)] (by kernel_rfl) (allM (all_cons (q_r (pt B5 0) rfl rfl rfl (s_as rfl)) all_nil)) (end_old rfl rfl (end_old rfl rfl (end_new 14 rfl rfl end_nil))) ?_
  refine T_label ?_
  refine T_seq ?_
  refine T_seq (T_region ?_)
  refine TL_v (iN (q4 qn)) (s_mv rfl) rfl rfl ?_
  refine TL_v (.bool (decide ((0 : Int) < ((q4 qn : Nat) : Int)))) (fun _ _ j _ => r_gtr (j _ _ rfl) (j _ _ rfl)) rfl rfl ?_
  refine TL_seq ?_
  refine T_cond rfl (fun h1 => ?_) (fun h1 => ?_)
  ·replace h1 := of_decide_eq_true h1
   refine T_seq (T_region ?_)
   refine TL_v (pt B5 0) (s_mv rfl) rfl rfl ?_
   refine TL_v (pt B5 0) (s_nc rfl rfl) rfl rfl ?_
   refine TL_v (pt B5 0) (s_fa fl138_0 sz75 rfl) rfl rfl ?_
   refine TL_v (pt B5 1) (s_fa fl75_1 sz3 rfl) rfl rfl ?_
   refine TL_v (iN q) (s_ld ag3 rfl 941 rfl rfl) rfl rfl ?_
   refine TL_new 3 (.cells #[.int .i64 0] 3) (fun B => pt B 0) (fun _ _ _ _ => r_alloc (v := .int .i64 0) (by kernel_rfl) rfl) rfl rfl rfl (w_n rfl) ?_
   intro B6
   refine TL_store 3 (.cells #[iN q] 3) rfl (s_st sz3 rfl rfl 3 rfl rfl rfl rfl rfl) rfl rfl (w_n rfl) ?_
   refine TL_seq ?_
   refine T_seq (T_draw (V := [(0, pt B5 0), (1, pt B5 0), (2, pt B5 0), (3, pt B5 0), (4, pt B5 1), (5, iN q), (6, pt B5 0), (7, pt B5 0), (8, pt B5 0), (9, pt B5 0), (10, iN p), (11, .func (.func 88) #[] #[pt B6 0])]) [0, 0, 2, 6, 14, 30, 0, 64, 192, 448, 960, 0, 4095, 8191, 16383, 32767] [[(3, none)], [(3, none)], [(34, some 1)], [(35, some 2)], [(36, some 3)], [(37, some 4)], [(3, none)], [(39, some 6)], [(40, some 7)], [(41, some 8)], [(42, some 9)], [(5, none)], [(33, some 0), (38, some 5), (43, some 10), (44, some 11)], [(45, some 12)], [(46, some 13)], [(47, some 14)]] 20480 mixed (by kernel_rfl) ?_)
   refine G_step [0, 1, 2, 3, 4, 5, 6, 7, 8, 9, 10, 11] 12 [] (by kernel_rfl) (allM (all_cons (q_r (pt B5 0) rfl rfl rfl (s_mv rfl)) (all_cons (q_r (pt B5 0) rfl rfl rfl (s_mv rfl)) (all_cons (q_r (pt B5 0) rfl rfl rfl (s_nc rfl rfl)) (all_cons (q_r (pt B5 0) rfl rfl rfl (s_fa fl138_0 sz75 rfl)) (all_cons (q_r (pt B5 1) rfl rfl rfl (s_fa fl75_1 sz3 rfl)) (all_cons (q_r (iN q) rfl rfl rfl (s_ld ag3 rfl 941 rfl rfl)) (all_cons (q_r (pt B5 0) rfl rfl rfl (s_mv rfl)) (all_cons (q_r (pt B5 0) rfl rfl rfl (s_nc rfl rfl)) (all_cons (q_r (pt B5 0) rfl rfl rfl (s_fa fl138_0 sz75 rfl)) (all_cons (q_r (pt B5 0) rfl rfl rfl (s_fa fl75_0 sz3 rfl)) (all_cons (q_r (iN p) rfl rfl rfl (s_ld ag3 rfl 941 rfl rfl)) (all_cons (q_r (.func (.func 88) #[] #[pt B6 0]) rfl rfl rfl (fun _ _ j _ => r_makeFunc (by simp) (map_arr (cons2 (j _ _ rfl) rfl)))) all_nil))))))))))))) (allM (all_cons ?_ all_nil))
   refine LOb_callN (fun (_ : Option Addr × Nat) => True) (fun (ar8, cr8) => .agg #[iN q, iN p, .slice ar8 ((quarL p q px).length) cr8]) (fun (ar8, cr8) => [(940, .row (.slice ar8 ((quarL p q px).length) cr8) 37 4 ((quarL p q px).length) ((quarL p q px).flatMap C4.cells))]) (fun (ar8, cr8) => [(13, .agg #[iN q, iN p, .slice ar8 ((quarL p q px).length) cr8])]) rfl (wv_n rfl) rfl rfl (fun _ _ j _ => r_call (args := [pt B5 0, iN q, iN p, .func (.func 88) #[] #[pt B6 0]]) (enters_of Try.func86 (by kernel_rfl) rfl) (j _ _ rfl) ((cons2 (j _ _ rfl) (cons2 (j _ _ rfl) (cons2 (j _ _ rfl) (cons2 (j _ _ rfl) rfl))))) rfl) (fun w hm => (moved_q B5 p q px ar4 cr4 w (hm.at 941 rfl) B6 (hm.at 3 rfl) (SliceAt.own C4.cells_len (hm.row 940 rfl) rfl rfl) (row_cap (hm.row 940 rfl)) hp8 hq hlen).mono fun e w' ⟨a', cap', he, hb, hr⟩ => ⟨(a', cap'), trivial, he, hb, newOk1 940 hr⟩) (fun (ar8, cr8) => by kernel_rfl) ?_
   rintro ⟨ar8, cr8⟩ -
   refine G_step [13] 14 [] (by kernel_rfl) (allM (all_cons (q_r (.agg #[iN q, iN p, .slice ar8 ((quarL p q px).length) cr8]) rfl rfl rfl (fun _ _ j _ => r_build (vs := [(0, .agg #[iN q, iN p, .slice ar8 ((quarL p q px).length) cr8])]) (by kernel_rfl) (cons2 (pair2 (j _ _ rfl)) rfl))) all_nil)) (allM (all_cons ?_ all_nil))
   refine LOb_new 941 (.cells #[iN q, iN p, .slice ar8 ((quarL p q px).length) cr8] 138) (fun B => pt B 0) (fun B => [(15, pt B 0)]) rfl (wv_n rfl) rfl rfl (fun _ _ j _ => r_box (j _ _ rfl) rfl) (fun B => by kernel_rfl) ?_
   intro B9
   refine G_last [15] [(2, pt B1 0), (4, iN (q4 qn)), (26, iN (q4 qn)), (27, .bool (decide ((0 : Int) < ((q4 qn : Nat) : Int)))), (28, pt B5 0), (29, pt B5 0), (30, pt B5 0), (31, pt B5 1), (32, iN q), (5, pt B6 0), (33, pt B5 0), (34, pt B5 0), (35, pt B5 0), (36, pt B5 0), (37, pt B5 1), (38, iN q), (39, pt B5 0), (40, pt B5 0), (41, pt B5 0), (42, pt B5 0), (43, iN p), (44, .func (.func 88) #[] #[pt B6 0]), (45, .agg #[iN q, iN p, .slice ar8 ((quarL p q px).length) cr8]), (46, .agg #[iN q, iN p, .slice ar8 ((quarL p q px).length) cr8]), (47, pt B9 0), (3, pt B9 0)] (by kernel_rfl) (allM (all_cons (q_r (pt B9 0) rfl rfl rfl (s_as rfl)) all_nil)) (end_old rfl rfl (end_old rfl rfl (end_old rfl rfl (end_old rfl rfl (end_old rfl rfl (end_old rfl rfl (end_old rfl rfl (end_old rfl rfl (end_old rfl rfl (end_old rfl rfl (end_new 0 rfl rfl (end_new 1 rfl rfl (end_new 2 rfl rfl (end_new 3 rfl rfl (end_new 4 rfl rfl (end_new 5 rfl rfl (end_new 6 rfl rfl (end_new 7 rfl rfl (end_new 8 rfl rfl (end_new 9 rfl rfl (end_new 10 rfl rfl (end_new 11 rfl rfl (end_new 12 rfl rfl (end_new 13 rfl rfl (end_new 14 rfl rfl (end_new 15 rfl rfl end_nil)))))))))))))))))))))))))) ?_
   refine T_seq (T_region ?_)
   refine TL_v (iN (q4 qn)) (s_mv rfl) rfl rfl ?_
   refine TL_v (iN (q4 qn - 1)) (s_op r_sub rfl rfl (iw (by omega) (by omega) (by omega))) rfl rfl ?_
   refine TL_v (iN (q4 qn - 1)) (s_as rfl) rfl rfl ?_
   refine TL_seq ?_
   refine T_goto ?_
   refine p_then_g ?_
   exact p_jmp (1, B9, ar8, cr8) (by show 1 ≤ q4 qn; omega) (sc rfl (sc rfl (sc rfl sub_nil))) (sc rfl (sc rfl (sc rfl sub_nil)))
  ·replace h1 := of_decide_eq_false h1
   refine T_skip' ?_
   refine p_seq ?_
   refine T_seq (T_region ?_)
   refine TL_v (pt B5 0) (s_mv rfl) rfl rfl ?_
   refine TL_v (pt B5 0) (s_nc rfl rfl) rfl rfl ?_
   refine TL_v (pt B5 0) (s_fa fl138_0 sz75 rfl) rfl rfl ?_
   refine TL_v (.agg #[iN p, iN q, .slice ar4 ((px).length) cr4]) (s_la ag75 sz75 rfl 941 rfl rfl rfl) rfl rfl ?_
   refine TL_store 1 (.cells #[iN p, iN q, .slice ar4 ((px).length) cr4] 75) rfl (s_st sz75 rfl rfl 1 rfl rfl rfl rfl rfl) rfl rfl (w_n rfl) ?_
   refine TL_seq ?_
   refine T_ret' ?_
   refine p_j_r ?_
   refine ret_of rfl (.agg #[iN p, iN q, .slice ar4 ((px).length) cr4]) (fun tmps w hk hm => res1 rfl (res_cell (hk 2 _ rfl) (run_loadVar_agg ag75 sz75 (hm.at 1 rfl) (Nat.le_of_ble_eq_true rfl) rfl))) (fun w hm => ?_)
   have h0 : q4 qn = 0 := by omega
   rw [h0]
   exact ⟨ar4, cr4, rfl, hm.ext, hm.row 940 rfl⟩
 ·rintro ⟨i, P, ar, cr⟩ hp
  have hts := turnS_ok hp8 hq hlen i
  show T _ _ _ [(2, pt B1 0), (3, pt P 0), (4, iN (q4 qn - i))] [(1, .blk B1 (.cells #[.int .i64 0, .int .i64 0, .slice none 0 0] 75)), (940, .row (.slice ar ((turnS i p q px).2.2.length) cr) 37 4 ((turnS i p q px).2.2.length) ((turnS i p q px).2.2.flatMap C4.cells)), (941, .blk P (.cells #[iN ((turnS i p q px).1), iN ((turnS i p q px).2.1), .slice ar ((turnS i p q px).2.2.length) cr] 138))]
  refine T_seq ?_
  refine T_skip' ?_
  refine p_seq ?_
  refine T_seq ?_
  refine T_seq (T_region ?_)
  refine TL_v (iN (q4 qn - i)) (s_mv rfl) rfl rfl ?_
  refine TL_v (.bool (decide ((0 : Int) < ((q4 qn - i : Nat) : Int)))) (fun _ _ j _ => r_gtr (j _ _ rfl) (j _ _ rfl)) rfl rfl ?_
  refine TL_seq ?_
  refine T_cond rfl (fun h2 => ?_) (fun h2 => ?_)
  ·replace h2 := of_decide_eq_true h2
   refine T_seq (T_region ?_)
   refine TL_v (pt P 0) (s_mv rfl) rfl rfl ?_
   refine TL_v (pt P 0) (s_nc rfl rfl) rfl rfl ?_
   refine TL_v (pt P 0) (s_fa fl138_0 sz75 rfl) rfl rfl ?_
   refine TL_v (pt P 1) (s_fa fl75_1 sz3 rfl) rfl rfl ?_
   refine TL_v (iN ((turnS i p q px).2.1)) (s_ld ag3 rfl 941 rfl rfl) rfl rfl ?_
   refine TL_new 4 (.cells #[.int .i64 0] 3) (fun B => pt B 0) (fun _ _ _ _ => r_alloc (v := .int .i64 0) (by kernel_rfl) rfl) rfl rfl rfl (w_n rfl) ?_
   intro B10
   refine TL_store 4 (.cells #[iN ((turnS i p q px).2.1)] 3) rfl (s_st sz3 rfl rfl 4 rfl rfl rfl rfl rfl) rfl rfl (w_n rfl) ?_
   refine TL_seq ?_
   refine T_seq (T_draw (V := [(0, pt P 0), (1, pt P 0), (2, pt P 0), (3, pt P 0), (4, pt P 1), (5, iN ((turnS i p q px).2.1)), (6, pt P 0), (7, pt P 0), (8, pt P 0), (9, pt P 0), (10, iN ((turnS i p q px).1)), (11, .func (.func 88) #[] #[pt B10 0])]) [0, 0, 2, 6, 14, 30, 0, 64, 192, 448, 960, 0, 4095, 8191, 16383, 32767] [[(3, none)], [(3, none)], [(34, some 1)], [(35, some 2)], [(36, some 3)], [(37, some 4)], [(3, none)], [(39, some 6)], [(40, some 7)], [(41, some 8)], [(42, some 9)], [(5, none)], [(33, some 0), (38, some 5), (43, some 10), (44, some 11)], [(45, some 12)], [(46, some 13)], [(47, some 14)]] 20480 mixed (by kernel_rfl) ?_)
   refine G_step [0, 1, 2, 3, 4, 5, 6, 7, 8, 9, 10, 11] 12 [] (by kernel_rfl) (allM (all_cons (q_r (pt P 0) rfl rfl rfl (s_mv rfl)) (all_cons (q_r (pt P 0) rfl rfl rfl (s_mv rfl)) (all_cons (q_r (pt P 0) rfl rfl rfl (s_nc rfl rfl)) (all_cons (q_r (pt P 0) rfl rfl rfl (s_fa fl138_0 sz75 rfl)) (all_cons (q_r (pt P 1) rfl rfl rfl (s_fa fl75_1 sz3 rfl)) (all_cons (q_r (iN ((turnS i p q px).2.1)) rfl rfl rfl (s_ld ag3 rfl 941 rfl rfl)) (all_cons (q_r (pt P 0) rfl rfl rfl (s_mv rfl)) (all_cons (q_r (pt P 0) rfl rfl rfl (s_nc rfl rfl)) (all_cons (q_r (pt P 0) rfl rfl rfl (s_fa fl138_0 sz75 rfl)) (all_cons (q_r (pt P 0) rfl rfl rfl (s_fa fl75_0 sz3 rfl)) (all_cons (q_r (iN ((turnS i p q px).1)) rfl rfl rfl (s_ld ag3 rfl 941 rfl rfl)) (all_cons (q_r (.func (.func 88) #[] #[pt B10 0]) rfl rfl rfl (fun _ _ j _ => r_makeFunc (by simp) (map_arr (cons2 (j _ _ rfl) rfl)))) all_nil))))))))))))) (allM (all_cons ?_ all_nil))
   refine LOb_callN (fun (_ : Option Addr × Nat) => True) (fun (ar12, cr12) => .agg #[iN ((turnS i p q px).2.1), iN ((turnS i p q px).1), .slice ar12 ((quarL ((turnS i p q px).1) ((turnS i p q px).2.1) ((turnS i p q px).2.2)).length) cr12]) (fun (ar12, cr12) => [(940, .row (.slice ar12 ((quarL ((turnS i p q px).1) ((turnS i p q px).2.1) ((turnS i p q px).2.2)).length) cr12) 37 4 ((quarL ((turnS i p q px).1) ((turnS i p q px).2.1) ((turnS i p q px).2.2)).length) ((quarL ((turnS i p q px).1) ((turnS i p q px).2.1) ((turnS i p q px).2.2)).flatMap C4.cells))]) (fun (ar12, cr12) => [(13, .agg #[iN ((turnS i p q px).2.1), iN ((turnS i p q px).1), .slice ar12 ((quarL ((turnS i p q px).1) ((turnS i p q px).2.1) ((turnS i p q px).2.2)).length) cr12])]) rfl (wv_n rfl) rfl rfl (fun _ _ j _ => r_call (args := [pt P 0, iN ((turnS i p q px).2.1), iN ((turnS i p q px).1), .func (.func 88) #[] #[pt B10 0]]) (enters_of Try.func86 (by kernel_rfl) rfl) (j _ _ rfl) ((cons2 (j _ _ rfl) (cons2 (j _ _ rfl) (cons2 (j _ _ rfl) (cons2 (j _ _ rfl) rfl))))) rfl) (fun w hm => (moved_q P ((turnS i p q px).1) ((turnS i p q px).2.1) ((turnS i p q px).2.2) ar cr w (hm.at 941 rfl) B10 (hm.at 4 rfl) (SliceAt.own C4.cells_len (hm.row 940 rfl) rfl rfl) (row_cap (hm.row 940 rfl)) (turnS_ok hp8 hq hlen i).1 (turnS_ok hp8 hq hlen i).2.1 (turnS_ok hp8 hq hlen i).2.2).mono fun e w' ⟨a', cap', he, hb, hr⟩ => ⟨(a', cap'), trivial, he, hb, newOk1 940 hr⟩) (fun (ar12, cr12) => by kernel_rfl) ?_
   rintro ⟨ar12, cr12⟩ -
   refine G_step [13] 14 [] (by kernel_rfl) (allM (all_cons (q_r (.agg #[iN ((turnS i p q px).2.1), iN ((turnS i p q px).1), .slice ar12 ((quarL ((turnS i p q px).1) ((turnS i p q px).2.1) ((turnS i p q px).2.2)).length) cr12]) rfl rfl rfl (fun _ _ j _ => r_build (vs := [(0, .agg #[iN ((turnS i p q px).2.1), iN ((turnS i p q px).1), .slice ar12 ((quarL ((turnS i p q px).1) ((turnS i p q px).2.1) ((turnS i p q px).2.2)).length) cr12])]) (by kernel_rfl) (cons2 (pair2 (j _ _ rfl)) rfl))) all_nil)) (allM (all_cons ?_ all_nil))
   refine LOb_new 941 (.cells #[iN ((turnS i p q px).2.1), iN ((turnS i p q px).1), .slice ar12 ((quarL ((turnS i p q px).1) ((turnS i p q px).2.1) ((turnS i p q px).2.2)).length) cr12] 138) (fun B => pt B 0) (fun B => [(15, pt B 0)]) rfl (wv_n rfl) rfl rfl (fun _ _ j _ => r_box (j _ _ rfl) rfl) (fun B => by kernel_rfl) ?_
   intro B13
   refine G_last [15] [(2, pt B1 0), (4, iN (q4 qn - i)), (26, iN (q4 qn - i)), (27, .bool (decide ((0 : Int) < ((q4 qn - i : Nat) : Int)))), (28, pt P 0), (29, pt P 0), (30, pt P 0), (31, pt P 1), (32, iN ((turnS i p q px).2.1)), (5, pt B10 0), (33, pt P 0), (34, pt P 0), (35, pt P 0), (36, pt P 0), (37, pt P 1), (38, iN ((turnS i p q px).2.1)), (39, pt P 0), (40, pt P 0), (41, pt P 0), (42, pt P 0), (43, iN ((turnS i p q px).1)), (44, .func (.func 88) #[] #[pt B10 0]), (45, .agg #[iN ((turnS i p q px).2.1), iN ((turnS i p q px).1), .slice ar12 ((quarL ((turnS i p q px).1) ((turnS i p q px).2.1) ((turnS i p q px).2.2)).length) cr12]), (46, .agg #[iN ((turnS i p q px).2.1), iN ((turnS i p q px).1), .slice ar12 ((quarL ((turnS i p q px).1) ((turnS i p q px).2.1) ((turnS i p q px).2.2)).length) cr12]), (47, pt B13 0), (3, pt B13 0)] (by kernel_rfl) (allM (all_cons (q_r (pt B13 0) rfl rfl rfl (s_as rfl)) all_nil)) (end_old rfl rfl (end_old rfl rfl (end_old rfl rfl (end_old rfl rfl (end_old rfl rfl (end_old rfl rfl (end_old rfl rfl (end_old rfl rfl (end_old rfl rfl (end_old rfl rfl (end_new 0 rfl rfl (end_new 1 rfl rfl (end_new 2 rfl rfl (end_new 3 rfl rfl (end_new 4 rfl rfl (end_new 5 rfl rfl (end_new 6 rfl rfl (end_new 7 rfl rfl (end_new 8 rfl rfl (end_new 9 rfl rfl (end_new 10 rfl rfl (end_new 11 rfl rfl (end_new 12 rfl rfl (end_new 13 rfl rfl (end_new 14 rfl rfl (end_new 15 rfl rfl end_nil)))))))))))))))))))))))))) ?_
   refine T_seq (T_region ?_)
   refine TL_v (iN (q4 qn - i)) (s_mv rfl) rfl rfl ?_
   refine TL_v (iN ((q4 qn - i) - 1)) (s_op r_sub rfl rfl (iw (by omega) (by omega) (by omega))) rfl rfl ?_
   refine TL_v (iN ((q4 qn - i) - 1)) (s_as rfl) rfl rfl ?_
   refine TL_seq ?_
   refine T_goto ?_
   refine p_then_g ?_
   exact p_jmp (i + 1, B13, ar12, cr12) ⟨by omega, by dsimp only; omega⟩ (sc rfl (sc rfl (sub_cons (congrArg (fun n : Nat => some (Value.int .i64 (n : Int))) (by omega)) sub_nil))) (sc rfl (sc rfl (sc rfl sub_nil)))
  ·replace h2 := of_decide_eq_false h2
   refine T_skip' ?_
   refine p_seq ?_
   refine T_seq (T_region ?_)
   refine TL_v (pt P 0) (s_mv rfl) rfl rfl ?_
   refine TL_v (pt P 0) (s_nc rfl rfl) rfl rfl ?_
   refine TL_v (pt P 0) (s_fa fl138_0 sz75 rfl) rfl rfl ?_
   refine TL_v (.agg #[iN ((turnS i p q px).1), iN ((turnS i p q px).2.1), .slice ar ((turnS i p q px).2.2.length) cr]) (s_la ag75 sz75 rfl 941 rfl rfl rfl) rfl rfl ?_
   refine TL_store 1 (.cells #[iN ((turnS i p q px).1), iN ((turnS i p q px).2.1), .slice ar ((turnS i p q px).2.2.length) cr] 75) rfl (s_st sz75 rfl rfl 1 rfl rfl rfl rfl rfl) rfl rfl (w_n rfl) ?_
   refine TL_seq ?_
   refine T_ret' ?_
   refine p_j_r ?_
   refine ret_of rfl (.agg #[iN ((turnS i p q px).1), iN ((turnS i p q px).2.1), .slice ar ((turnS i p q px).2.2.length) cr]) (fun tmps w hk hm => res1 rfl (res_cell (hk 2 _ rfl) (run_loadVar_agg ag75 sz75 (hm.at 1 rfl) (Nat.le_of_ble_eq_true rfl) rfl))) (fun w hm => ?_)
   have hi : i = q4 qn := by omega
   subst hi
   exact ⟨ar, cr, rfl, hm.ext, hm.row 940 rfl⟩

theorem turn1_no (S R : Nat) (x y qn : Int) (a : Option Addr) (n cap : Nat) (w : World) (hS : hp w S = some (.cells #[.int .i64 x, .int .i64 y, .slice a n cap] 75)) (hR : hp w R = some (.cells #[.int .i64 qn] 3)) (hno : ¬ rightS x y n = true) : Calls Try.prog 84 #[.pointer (some ⟨S, 0, none⟩), .pointer (some ⟨R, 0, none⟩)] w fun e w' => e = .panicked [{ v := .iface 29 (.int .i64 190), recovered := false }] ∧ Below w.heap.size w w' := by
 refine calls_of_T (l := [pt S 0, pt R 0]) 54 Try.func84 rfl rfl rfl ?_
 show T _ _ _ [(0, pt S 0), (1, pt R 0)] []
 refine T_seq (T_region ?_)
 refine TL_new 1 (.cells #[.int .i64 0, .int .i64 0, .slice none 0 0] 75) (fun B => pt B 0) (fun _ _ _ _ => r_alloc (v := .agg #[.int .i64 0, .int .i64 0, .slice none 0 0]) (by kernel_rfl) rfl) rfl rfl rfl (w_n rfl) ?_
 intro B1
 refine TL_seq ?_
 refine T_jumps (ι := Nat) 0 (fun (i : Nat) => False) (fun (i : Nat) => [(2, pt B1 0)]) (fun (i : Nat) => [(1, .blk B1 (.cells #[.int .i64 0, .int .i64 0, .slice none 0 0] 75))]) (fun (i : Nat) => i) rfl rfl ?_ ?_
 ·skip
  refine T_seq (T_region ?_)
  refine TL_v (.agg #[.int .i64 x, .int .i64 y, .slice a n cap]) (fun _ _ j hm => r_loadA ag75 sz75 (j _ _ rfl) (hm.old hS) rfl rfl) rfl rfl ?_
  refine TL_callQ (v := .iface 29 (.int .i64 190)) (fun _ _ j _ => r_call (args := [.agg #[.int .i64 x, .int .i64 y, .slice a n cap]]) (enters_of Try.func85 (by kernel_rfl) rfl) (j _ _ rfl) ((cons2 (j _ _ rfl) rfl)) rfl) (fun w _ => pof_no x y a n cap w hno) rfl (w_n rfl) ?_
  refine p_then_p ?_
  refine p_j_p ?_
  refine p_pan rfl (fun w hm => ?_)
  exact ⟨rfl, hm.ext⟩
 ·exact fun _ hp => hp.elim

theorem turn_ok (p q : Nat) (qn : Int) (px : List C4) (a : Option Addr) (cap : Nat) (w : World) (hv : SliceAt w a cap 4 C4.cells px) (hcap : cap ≤ Go.maxLen) (hp : 1 ≤ p ∧ p ≤ 8) (hq : 1 ≤ q ∧ q ≤ 8) (hlen : px.length = p * q) : Calls Try.prog 48 #[.agg #[.int .i64 (p : Int), .int .i64 (q : Int), .slice a px.length cap], .int .i64 qn] w fun e w' => ∃ a' cap', e = .returned (.tuple #[.agg #[.int .i64 ((turnS (q4 qn) p q px).1 : Int), .int .i64 ((turnS (q4 qn) p q px).2.1 : Int), .slice a' ((turnS (q4 qn) p q px).2.2).length cap'], .int .i64 0]) ∧ Below w.heap.size w w' ∧ w'.ownsRow w.heap.size 37 4 (.slice a' ((turnS (q4 qn) p q px).2.2).length cap') ((turnS (q4 qn) p q px).2.2).length (((turnS (q4 qn) p q px).2.2).flatMap C4.cells) := by
 have hvl := hv.1
 have h64 := size8 hp hq
 refine calls_of_T (l := [.agg #[iN p, iN q, .slice a px.length cap], .int .i64 qn]) 10 Try.func48 rfl rfl rfl ?_
 show T _ _ _ [(0, .agg #[iN p, iN q, .slice a px.length cap]), (1, .int .i64 qn)] []
 refine T_seq (T_region ?_)
 refine TL_new 1 (.cells #[iN p, iN q, .slice a px.length cap] 75) (fun B => pt B 0) (fun _ _ j _ => r_box (j _ _ rfl) rfl) rfl rfl rfl (w_n rfl) ?_
 intro B1
 refine TL_new 2 (.cells #[.int .i64 qn] 3) (fun B => pt B 0) (fun _ _ j _ => r_box (j _ _ rfl) rfl) rfl rfl rfl (w_n rfl) ?_
 intro B2
 refine TL_new 3 (.cells #[.int .i64 0, .int .i64 0, .slice none 0 0] 75) (fun B => pt B 0) (fun _ _ _ _ => r_alloc (v := .agg #[.int .i64 0, .int .i64 0, .slice none 0 0]) (by kernel_rfl) rfl) rfl rfl rfl (w_n rfl) ?_
 intro B3
 refine TL_v (.int .i64 0) (s_as rfl) rfl rfl ?_
 refine TL_seq ?_
 refine T_seq (T_region ?_)
 refine TL_v (.func (.func 84) #[] #[pt B1 0, pt B2 0]) (fun _ _ j _ => r_makeFunc (by simp) (map_arr (cons2 (j _ _ rfl) (cons2 (j _ _ rfl) rfl)))) rfl rfl ?_
 refine TL_callN (fun (_ : Option Addr × Nat) => True) (fun (ar4, cr4) => .tuple #[.agg #[iN ((turnS (q4 qn) p q px).1), iN ((turnS (q4 qn) p q px).2.1), .slice ar4 (((turnS (q4 qn) p q px).2.2).length) cr4], .int .i64 0]) (fun (ar4, cr4) => [(4, .row (.slice ar4 (((turnS (q4 qn) p q px).2.2).length) cr4) 37 4 (((turnS (q4 qn) p q px).2.2).length) (((turnS (q4 qn) p q px).2.2).flatMap C4.cells))]) (fun _ _ j _ => r_call (args := [.func (.func 84) #[] #[pt B1 0, pt B2 0]]) (enters_of Try.func83 (by kernel_rfl) rfl) (j _ _ rfl) ((cons2 (j _ _ rfl) rfl)) rfl) (fun w hm => trSW_ok 84 #[pt B1 0, pt B2 0] (fun (_ : Option Addr × Nat) => True) (fun _ => (((turnS (q4 qn) p q px).1 : Nat) : Int)) (fun _ => (((turnS (q4 qn) p q px).2.1 : Nat) : Int)) (fun z => z.1) (fun _ => ((turnS (q4 qn) p q px).2.2).length) (fun z => z.2) (fun z => [(4, .row (.slice z.1 (((turnS (q4 qn) p q px).2.2).length) z.2) 37 4 (((turnS (q4 qn) p q px).2.2).length) (((turnS (q4 qn) p q px).2.2).flatMap C4.cells))]) w (enters_of Try.func84 (by kernel_rfl) rfl) (fun _ => rfl) (fun _ => rfl) (fun w2 hb => (turn1_ok B1 B2 p q qn px a cap w2 (kept hb (hm.at 1 rfl)) (kept hb (hm.at 2 rfl)) ((hv.keep hm.ext).keep hb) hcap hp hq hlen).mono fun e w' ⟨a', cap', he, hb2, hr⟩ => ⟨(a', cap'), trivial, he, hb2, newOk1 4 hr⟩)) rfl rfl rfl (w_n rfl) ?_
 rintro ⟨ar4, cr4⟩ -
 refine TL_v (.agg #[iN ((turnS (q4 qn) p q px).1), iN ((turnS (q4 qn) p q px).2.1), .slice ar4 (((turnS (q4 qn) p q px).2.2).length) cr4]) (s_ex rfl rfl) rfl rfl ?_
 refine TL_v (.int .i64 0) (s_ex rfl rfl) rfl rfl ?_
 refine TL_store 3 (.cells #[iN ((turnS (q4 qn) p q px).1), iN ((turnS (q4 qn) p q px).2.1), .slice ar4 (((turnS (q4 qn) p q px).2.2).length) cr4] 75) rfl (s_st sz75 rfl rfl 3 rfl rfl rfl rfl rfl) rfl rfl (w_n rfl) ?_
 refine TL_v (.int .i64 0) (s_as rfl) rfl rfl ?_
 refine TL_seq ?_
 refine T_ret' ?_
 refine ret_of rfl (.tuple #[.agg #[iN ((turnS (q4 qn) p q px).1), iN ((turnS (q4 qn) p q px).2.1), .slice ar4 (((turnS (q4 qn) p q px).2.2).length) cr4], .int .i64 0]) (fun tmps w hk hm => res2 rfl (res_cell (hk 4 _ rfl) (run_loadVar_agg ag75 sz75 (hm.at 3 rfl) (Nat.le_of_ble_eq_true rfl) rfl)) (res_tmp (hk 5 _ rfl))) (fun w hm => ?_)
 exact ⟨ar4, cr4, rfl, hm.ext, hm.row 4 rfl⟩

theorem turn_no (x y qn : Int) (a : Option Addr) (n cap : Nat) (w : World) (hno : ¬ rightS x y n = true) : Calls Try.prog 48 #[.agg #[.int .i64 x, .int .i64 y, .slice a n cap], .int .i64 qn] w fun e w' => e = .returned (.tuple #[.agg #[.int .i64 0, .int .i64 0, .slice none 0 0], .int .i64 190]) ∧ Below w.heap.size w w' := by
 refine calls_of_T (l := [.agg #[.int .i64 x, .int .i64 y, .slice a n cap], .int .i64 qn]) 10 Try.func48 rfl rfl rfl ?_
 show T _ _ _ [(0, .agg #[.int .i64 x, .int .i64 y, .slice a n cap]), (1, .int .i64 qn)] []
 refine T_seq (T_region ?_)
 refine TL_new 1 (.cells #[.int .i64 x, .int .i64 y, .slice a n cap] 75) (fun B => pt B 0) (fun _ _ j _ => r_box (j _ _ rfl) rfl) rfl rfl rfl (w_n rfl) ?_
 intro B1
 refine TL_new 2 (.cells #[.int .i64 qn] 3) (fun B => pt B 0) (fun _ _ j _ => r_box (j _ _ rfl) rfl) rfl rfl rfl (w_n rfl) ?_
 intro B2
 refine TL_new 3 (.cells #[.int .i64 0, .int .i64 0, .slice none 0 0] 75) (fun B => pt B 0) (fun _ _ _ _ => r_alloc (v := .agg #[.int .i64 0, .int .i64 0, .slice none 0 0]) (by kernel_rfl) rfl) rfl rfl rfl (w_n rfl) ?_
 intro B3
 refine TL_v (.int .i64 0) (s_as rfl) rfl rfl ?_
 refine TL_seq ?_
 refine T_seq (T_region ?_)
 refine TL_v (.func (.func 84) #[] #[pt B1 0, pt B2 0]) (fun _ _ j _ => r_makeFunc (by simp) (map_arr (cons2 (j _ _ rfl) (cons2 (j _ _ rfl) rfl)))) rfl rfl ?_
 refine TL_call (.tuple #[.agg #[.int .i64 0, .int .i64 0, .slice none 0 0], .int .i64 190]) (fun _ _ j _ => r_call (args := [.func (.func 84) #[] #[pt B1 0, pt B2 0]]) (enters_of Try.func83 (by kernel_rfl) rfl) (j _ _ rfl) ((cons2 (j _ _ rfl) rfl)) rfl) (fun w hm => trSW_no 84 #[pt B1 0, pt B2 0] 190 w (enters_of Try.func84 (by kernel_rfl) rfl) (fun w2 hb => turn1_no B1 B2 x y qn a n cap w2 (kept hb (hm.at 1 rfl)) (kept hb (hm.at 2 rfl)) hno)) rfl rfl rfl (w_n rfl) ?_
 refine TL_v (.agg #[.int .i64 0, .int .i64 0, .slice none 0 0]) (s_ex rfl rfl) rfl rfl ?_
 refine TL_v (.int .i64 190) (s_ex rfl rfl) rfl rfl ?_
 refine TL_store 3 (.cells #[.int .i64 0, .int .i64 0, .slice none 0 0] 75) rfl (s_st sz75 rfl rfl 3 rfl rfl rfl rfl rfl) rfl rfl (w_n rfl) ?_
 refine TL_v (.int .i64 190) (s_as rfl) rfl rfl ?_
 refine TL_seq ?_
 refine T_ret' ?_
 refine ret_of rfl (.tuple #[.agg #[.int .i64 0, .int .i64 0, .slice none 0 0], .int .i64 190]) (fun tmps w hk hm => res2 rfl (res_cell (hk 4 _ rfl) (run_loadVar_agg ag75 sz75 (hm.at 3 rfl) (Nat.le_of_ble_eq_true rfl) rfl)) (res_tmp (hk 5 _ rfl))) (fun w hm => ?_)
 exact ⟨rfl, hm.ext⟩

theorem pick_succ (h : Nat → Nat) (px : List C4) (n : Nat) : pick h px (n + 1) = pick h px n ++ [get px (h n)] := by
 unfold pick
 rw [List.range_succ, List.map_append]; rfl

set_option maxHeartbeats 1000000 in
theorem rquar_c (p q : Nat) (px : List C4) (a : Option Addr) (cap : Nat) (w : World) (hv : SliceAt w a cap 4 C4.cells px) (hcap : cap ≤ Go.maxLen) (hp : 1 ≤ p ∧ p ≤ 8) (hq : 1 ≤ q ∧ q ≤ 8) (hlen : px.length = p * q) : Calls Try.prog 92 #[.agg #[.int .i64 (p : Int), .int .i64 (q : Int), .slice a px.length cap]] w fun e w' => ∃ a' cap', e = .returned (.agg #[.int .i64 (q : Int), .int .i64 (p : Int), .slice a' (quarL p q px).length cap']) ∧ Below w.heap.size w w' ∧ w'.ownsRow w.heap.size 37 4 (.slice a' (quarL p q px).length cap') (quarL p q px).length ((quarL p q px).flatMap C4.cells) := by
 have hp8 := hp
 have hq8 := hq
 have hvl := hv.1
 have h64 := size8 hp hq
 unfold Go.maxLen at hcap
 refine calls_of_T (l := [.agg #[iN p, iN q, .slice a px.length cap]]) 37 Try.func92 rfl rfl rfl ?_
 show T _ _ _ [(0, .agg #[iN p, iN q, .slice a px.length cap])] []
 refine T_seq (T_region ?_)
 refine TL_new 1 (.cells #[iN p, iN q, .slice a px.length cap] 75) (fun B => pt B 0) (fun _ _ j _ => r_box (j _ _ rfl) rfl) rfl rfl rfl (w_n rfl) ?_
 intro B1
 refine TL_new 2 (.cells #[.int .i64 0, .int .i64 0, .slice none 0 0] 75) (fun B => pt B 0) (fun _ _ _ _ => r_alloc (v := .agg #[.int .i64 0, .int .i64 0, .slice none 0 0]) (by kernel_rfl) rfl) rfl rfl rfl (w_n rfl) ?_
 intro B2
 refine TL_seq ?_
 refine T_seq (T_region ?_)
 refine TL_v (pt B1 1) (s_fa fl75_1 sz3 rfl) rfl rfl ?_
 refine TL_v (iN q) (s_ld ag3 rfl 1 rfl rfl) rfl rfl ?_
 refine TL_v (pt B1 0) (s_fa fl75_0 sz3 rfl) rfl rfl ?_
 refine TL_v (iN p) (s_ld ag3 rfl 1 rfl rfl) rfl rfl ?_
 refine TL_v (.agg #[iN q, iN p, .slice none 0 0]) (fun _ _ j _ => r_build (vs := [(0, iN q), (1, iN p)]) (by kernel_rfl) (cons2 (pair2 (j _ _ rfl)) (cons2 (pair2 (j _ _ rfl)) rfl))) rfl rfl ?_
 refine TL_new 3 (.cells #[.int .i64 0, .int .i64 0, .slice none 0 0] 75) (fun B => pt B 0) (fun _ _ _ _ => r_alloc (v := .agg #[.int .i64 0, .int .i64 0, .slice none 0 0]) (by kernel_rfl) rfl) rfl rfl rfl (w_n rfl) ?_
 intro B3
 refine TL_store 3 (.cells #[iN q, iN p, .slice none 0 0] 75) rfl (s_st sz75 rfl rfl 3 rfl rfl rfl rfl rfl) rfl rfl (w_n rfl) ?_
 refine TL_seq ?_
 refine T_seq ?_
 refine T_seq (T_region ?_)
 refine TL_v (pt B3 1) (s_fa fl75_1 sz3 rfl) rfl rfl ?_
 refine TL_v (iN p) (s_ld ag3 rfl 3 rfl rfl) rfl rfl ?_
 refine TL_v (.int .i64 0) (s_mv rfl) rfl rfl ?_
 refine TL_seq ?_
 refine T_block ?_
 refine T_mem (_ :: _) (fun _ hm => hm.nilRow 950 37 4) ?_
 refine T_loop (ι := Nat × List C4 × Option Addr × Nat) (fun (z : Nat × List C4 × Option Addr × Nat) => match z with | (y, l3, a3, cap3) => y ≤ p ∧ l3 = pick (quarI p q) px (y * q)) (fun (z : Nat × List C4 × Option Addr × Nat) => match z with | (y, l3, a3, cap3) => [(1, pt B1 0), (2, pt B2 0), (3, pt B3 0), (12, iN p), (13, iN y)]) (fun (z : Nat × List C4 × Option Addr × Nat) => match z with | (y, l3, a3, cap3) => [(1, .blk B1 (.cells #[iN p, iN q, .slice a px.length cap] 75)), (2, .blk B2 (.cells #[.int .i64 0, .int .i64 0, .slice none 0 0] 75)), (3, .blk B3 (.cells #[iN q, iN p, .slice a3 l3.length cap3] 75)), (950, .row (.slice a3 l3.length cap3) 37 4 l3.length (l3.flatMap C4.cells))]) (fun (z : Nat × List C4 × Option Addr × Nat) => match z with | (y, l3, a3, cap3) => p - y) (0, [], none, 0) ⟨Nat.zero_le _, by rw [Nat.zero_mul]; rfl⟩ (sc4 rfl rfl rfl rfl (sc rfl sub_nil)) (sc4 rfl rfl rfl rfl sub_nil) ?_
 rintro ⟨y, l3, a3, cap3⟩ hp
 obtain ⟨hy, hl3⟩ := hp
 show T _ _ _ [(1, pt B1 0), (2, pt B2 0), (3, pt B3 0), (12, iN p), (13, iN y)] [(1, .blk B1 (.cells #[iN p, iN q, .slice a px.length cap] 75)), (2, .blk B2 (.cells #[.int .i64 0, .int .i64 0, .slice none 0 0] 75)), (3, .blk B3 (.cells #[iN q, iN p, .slice a3 l3.length cap3] 75)), (950, .row (.slice a3 l3.length cap3) 37 4 l3.length (l3.flatMap C4.cells))]
 refine T_seq (T_region ?_)
 refine TL_v (.bool (decide (((y : Nat) : Int) < ((p : Nat) : Int)))) (fun _ _ j _ => r_lss (j _ _ rfl) (j _ _ rfl)) rfl rfl ?_
 refine TL_seq ?_
 refine T_seq ?_
 refine T_cond rfl (fun h1 => ?_) (fun h1 => ?_)
 ·replace h1 := of_decide_eq_true h1
  refine T_skip' ?_
  refine p_seq ?_
  refine T_seq ?_
  refine T_block ?_
  refine T_seq (T_region ?_)
  refine TL_v (iN y) (s_mv rfl) rfl rfl ?_
  refine TL_v (iN y) (s_as rfl) rfl rfl ?_
  refine TL_seq ?_
  refine T_seq (T_region ?_)
  refine TL_v (pt B3 0) (s_fa fl75_0 sz3 rfl) rfl rfl ?_
  refine TL_v (iN q) (s_ld ag3 rfl 3 rfl rfl) rfl rfl ?_
  refine TL_v (.int .i64 0) (s_mv rfl) rfl rfl ?_
  refine TL_seq ?_
  refine T_block ?_
  refine T_loop (ι := Nat × List C4 × Option Addr × Nat) (fun (z : Nat × List C4 × Option Addr × Nat) => match z with | (x, l4, a4, cap4) => x ≤ q ∧ l4 = pick (quarI p q) px (y * q + x)) (fun (z : Nat × List C4 × Option Addr × Nat) => match z with | (x, l4, a4, cap4) => [(1, pt B1 0), (2, pt B2 0), (3, pt B3 0), (12, iN p), (13, iN y), (14, .bool (decide (((y : Nat) : Int) < ((p : Nat) : Int)))), (15, iN y), (4, iN y), (16, pt B3 0), (17, iN q), (18, iN x)]) (fun (z : Nat × List C4 × Option Addr × Nat) => match z with | (x, l4, a4, cap4) => [(1, .blk B1 (.cells #[iN p, iN q, .slice a px.length cap] 75)), (2, .blk B2 (.cells #[.int .i64 0, .int .i64 0, .slice none 0 0] 75)), (3, .blk B3 (.cells #[iN q, iN p, .slice a4 l4.length cap4] 75)), (950, .row (.slice a4 l4.length cap4) 37 4 l4.length (l4.flatMap C4.cells))]) (fun (z : Nat × List C4 × Option Addr × Nat) => match z with | (x, l4, a4, cap4) => q - x) (0, l3, a3, cap3) ⟨Nat.zero_le _, hl3⟩ (sc4 rfl rfl rfl rfl (sc4 rfl rfl rfl rfl (sc rfl (sc rfl (sc rfl sub_nil))))) (sc4 rfl rfl rfl rfl sub_nil) ?_
  rintro ⟨x, l4, a4, cap4⟩ hp
  obtain ⟨hx, hl4⟩ := hp
  show T _ _ _ [(1, pt B1 0), (2, pt B2 0), (3, pt B3 0), (12, iN p), (13, iN y), (14, .bool (decide (((y : Nat) : Int) < ((p : Nat) : Int)))), (15, iN y), (4, iN y), (16, pt B3 0), (17, iN q), (18, iN x)] [(1, .blk B1 (.cells #[iN p, iN q, .slice a px.length cap] 75)), (2, .blk B2 (.cells #[.int .i64 0, .int .i64 0, .slice none 0 0] 75)), (3, .blk B3 (.cells #[iN q, iN p, .slice a4 l4.length cap4] 75)), (950, .row (.slice a4 l4.length cap4) 37 4 l4.length (l4.flatMap C4.cells))]
  refine T_seq (T_region ?_)
  refine TL_v (.bool (decide (((x : Nat) : Int) < ((q : Nat) : Int)))) (fun _ _ j _ => r_lss (j _ _ rfl) (j _ _ rfl)) rfl rfl ?_
  refine TL_seq ?_
  refine T_seq ?_
  refine T_cond rfl (fun h2 => ?_) (fun h2 => ?_)
  ·replace h2 := of_decide_eq_true h2
   refine T_skip' ?_
   refine p_seq ?_
   refine T_seq ?_
   refine T_block ?_
   have hl5 : l4.length = y * q + x := by rw [hl4, pick_len]
   have hxy := in_px (show x < q by omega) (show y < p by omega)
   have hcm := Nat.mul_comm p q
   have hdm := dm2 (x := x) (y := y) (W := q) (by omega)
   have hix : quarI p q (y * q + x) = (q - 1 - x) * p + y := by unfold quarI; rw [hdm.1, hdm.2]
   obtain ⟨c, hc⟩ : ∃ c, px[(q - 1 - x) * p + y]? = some c := ⟨_, List.getElem?_eq_getElem (by have := in_px (W := p) (H := q) (show y < p by omega) (show q - 1 - x < q by omega); omega)⟩
   refine T_seq (T_region ?_)
   refine TL_v (iN x) (s_mv rfl) rfl rfl ?_
   refine TL_v (iN x) (s_as rfl) rfl rfl ?_
   refine TL_seq ?_
   refine T_draw (V := [(0, pt B3 2), (1, .slice a4 l4.length cap4), (2, .agg #[iN p, iN q, .slice a px.length cap]), (3, iN y), (4, pt B1 1), (5, iN q), (6, iN (q - 1)), (7, iN x), (8, iN ((q - 1) - x))]) [0, 1, 0, 0, 0, 16, 48, 0, 240, 508, 1020, 2047, 4095, 8191] [[(3, none)], [(21, some 0)], [(1, none)], [(4, none)], [(1, none)], [(25, some 4)], [(26, some 5)], [(5, none)], [(27, some 6), (28, some 7)], [(23, some 2), (24, some 3), (29, some 8)], [(30, some 9)], [(22, some 1), (31, some 10)], [(3, none)], [(33, some 12), (32, some 11)]] 11776 mixed (by kernel_rfl) ?_
   refine G_step [0, 1, 2, 3, 4, 5, 6, 7, 8] 9 [] (by kernel_rfl) (allM (all_cons (q_r (pt B3 2) rfl rfl rfl (s_fa fl75_2 sz71 rfl)) (all_cons (q_r (.slice a4 l4.length cap4) rfl rfl rfl (s_ld ag71 rfl 3 rfl rfl)) (all_cons (q_r (.agg #[iN p, iN q, .slice a px.length cap]) rfl rfl rfl (s_la ag75 sz75 rfl 1 rfl rfl rfl)) (all_cons (q_r (iN y) rfl rfl rfl (s_mv rfl)) (all_cons (q_r (pt B1 1) rfl rfl rfl (s_fa fl75_1 sz3 rfl)) (all_cons (q_r (iN q) rfl rfl rfl (s_ld ag3 rfl 1 rfl rfl)) (all_cons (q_r (iN (q - 1)) rfl rfl rfl (s_op r_sub rfl rfl (iw (by omega) (by omega) (by omega)))) (all_cons (q_r (iN x) rfl rfl rfl (s_mv rfl)) (all_cons (q_r (iN ((q - 1) - x)) rfl rfl rfl (s_op r_sub rfl rfl (iw (by omega) (by omega) (by omega)))) all_nil)))))))))) (allM (all_cons ?_ all_nil))
   refine LOb_call (.agg #[.int .u8 c.r, .int .u8 c.g, .int .u8 c.b, .int .u8 c.a]) [] rfl (wv_n rfl) rfl rfl (fun _ _ j _ => r_call (args := [.agg #[iN p, iN q, .slice a px.length cap], iN y, iN ((q - 1) - x)]) (enters_of Try.func57 (by kernel_rfl) rfl) (j _ _ rfl) ((cons2 (j _ _ rfl) (cons2 (j _ _ rfl) (cons2 (j _ _ rfl) rfl)))) rfl) (fun w hm => srat_c p q px a cap w (hv.keep hm.ext) hcap hp8 hq8 hlen y ((q - 1) - x) (show y < p by omega) (show q - 1 - x < q by omega) c hc) (by kernel_rfl) ?_
   refine G_step [0, 1] 10 [] (by kernel_rfl) (allM (all_cons (q_r (pt B3 2) rfl rfl rfl (s_fa fl75_2 sz71 rfl)) (all_cons (q_r (.slice a4 l4.length cap4) rfl rfl rfl (s_ld ag71 rfl 3 rfl rfl)) all_nil))) (allM (all_cons ?_ all_nil))
   refine LOb_new 4 (.cells #[.int .u8 c.r, .int .u8 c.g, .int .u8 c.b, .int .u8 c.a] 37) (fun B => .slice (some ⟨B, 0, none⟩) 1 1) (fun B => []) rfl (wv_n rfl) rfl rfl (fun _ _ j _ => r_buildSlice (vs := [(0, .agg #[.int .u8 c.r, .int .u8 c.g, .int .u8 c.b, .int .u8 c.a])]) (by kernel_rfl) (cons2 (pair2 (j _ _ rfl)) rfl)) (fun B => by kernel_rfl) ?_
   intro B4
   refine G_step [0, 1] 11 [] (by kernel_rfl) (allM (all_cons (q_r (pt B3 2) rfl rfl rfl (s_fa fl75_2 sz71 rfl)) (all_cons (q_r (.slice a4 l4.length cap4) rfl rfl rfl (s_ld ag71 rfl 3 rfl rfl)) all_nil))) (allM (all_cons ?_ all_nil))
   refine LOb_append (n := l4.length) (m := 1) (xs := (l4.flatMap C4.cells)) (news := [.int .u8 c.r, .int .u8 c.g, .int .u8 c.b, .int .u8 c.a]) (z := .agg #[z8, z8, z8, z8]) 950 (fun a cap => [(12, pt B3 2)]) rfl (wv_n rfl) rfl rfl rfl sl71 sz37 by37 (by kernel_rfl) rfl rfl (.inl rfl) (fun _ hm => src_blk (news := [.int .u8 c.r, .int .u8 c.g, .int .u8 c.b, .int .u8 c.a]) (hm.at 4 rfl) rfl) (by first | exact T64.cells_one _ | simp [Value.oneCell']) (by omega) (by omega) (fun a cap => by kernel_rfl) ?_
   intro a5 cap5
   refine G_step [12] 13 [] (by kernel_rfl) (allM (all_cons (q_r (pt B3 2) rfl rfl rfl (s_fa fl75_2 sz71 rfl)) all_nil)) (allM (all_cons ?_ all_nil))
   refine LOb_store 3 (.cells #[iN q, iN p, .slice a5 (l4.length + 1) cap5] 75) [] rfl (wv_n rfl) rfl rfl rfl (s_st sz71 rfl rfl 3 rfl rfl rfl rfl rfl) (by kernel_rfl) ?_
   refine G_lastQ [] [(1, pt B1 0), (2, pt B2 0), (3, pt B3 0), (12, iN p), (13, iN y), (14, .bool (decide (((y : Nat) : Int) < ((p : Nat) : Int)))), (15, iN y), (4, iN y), (16, pt B3 0), (17, iN q), (18, iN x), (19, .bool (decide (((x : Nat) : Int) < ((q : Nat) : Int)))), (20, iN x), (5, iN x), (21, pt B3 2), (22, .slice a4 l4.length cap4), (23, .agg #[iN p, iN q, .slice a px.length cap]), (24, iN y), (25, pt B1 1), (26, iN q), (27, iN (q - 1)), (28, iN x), (29, iN ((q - 1) - x)), (30, .agg #[.int .u8 c.r, .int .u8 c.g, .int .u8 c.b, .int .u8 c.a]), (31, .slice (some ⟨B4, 0, none⟩) 1 1), (32, .slice a5 (l4.length + 1) cap5), (33, pt B3 2)] (by kernel_rfl) (allM all_nil) (end_old rfl rfl (end_old rfl rfl (end_old rfl rfl (end_old rfl rfl (end_old rfl rfl (end_old rfl rfl (end_old rfl rfl (end_old rfl rfl (end_old rfl rfl (end_old rfl rfl (end_old rfl rfl (end_old rfl rfl (end_old rfl rfl (end_old rfl rfl (end_new 0 rfl rfl (end_new 1 rfl rfl (end_new 2 rfl rfl (end_new 3 rfl rfl (end_new 4 rfl rfl (end_new 5 rfl rfl (end_new 6 rfl rfl (end_new 7 rfl rfl (end_new 8 rfl rfl (end_new 9 rfl rfl (end_new 10 rfl rfl (end_new 11 rfl rfl (end_new 12 rfl rfl end_nil))))))))))))))))))))))))))) ?_
   refine p_blk_n ?_
   refine p_seq ?_
   refine T_region ?_
   refine TL_v (iN (x + 1)) (s_op r_add rfl rfl (iw (by omega) (by omega) (by omega))) rfl rfl ?_
   refine TL_v (iN (x + 1)) (s_mv rfl) rfl rfl ?_
   refine TL_nil ?_
   have hl6 : l4 ++ [c] = pick (quarI p q) px (y * q + (x + 1)) := by
    rw [← Nat.add_assoc, pick_succ, hl4]
    congr 1
    rw [show quarI p q (y * q + x) = (q - 1 - x) * p + y from hix, get_of hc]
   rw [show (l4.length + 1) = (l4 ++ [c]).length from by simp, show ((l4.flatMap C4.cells) ++ [.int .u8 c.r, .int .u8 c.g, .int .u8 c.b, .int .u8 c.a]) = (l4 ++ [c]).flatMap C4.cells from by simp [C4.cells]]
   exact p_at (x + 1, (l4 ++ [c]), a5, cap5) ⟨⟨by omega, hl6⟩, by dsimp only; omega⟩ (sc4 rfl rfl rfl rfl (sc4 rfl rfl rfl rfl (sc rfl (sc rfl (sc rfl sub_nil))))) (sc4 rfl rfl rfl rfl sub_nil)
  ·replace h2 := of_decide_eq_false h2
   refine T_exit' ?_
   refine p_then_x ?_
   refine p_then_x ?_
   refine p_blk_x ?_
   refine p_blk_n ?_
   refine p_seq ?_
   refine T_region ?_
   refine TL_v (iN (y + 1)) (s_op r_add rfl rfl (iw (by omega) (by omega) (by omega))) rfl rfl ?_
   refine TL_v (iN (y + 1)) (s_mv rfl) rfl rfl ?_
   refine TL_nil ?_
   exact p_at (y + 1, l4, a4, cap4) ⟨⟨by omega, by have e := hl4; rw [show x = q by omega, row_end] at e; exact e⟩, by dsimp only; omega⟩ (sc4 rfl rfl rfl rfl (sc rfl sub_nil)) (sc4 rfl rfl rfl rfl sub_nil)
 ·replace h1 := of_decide_eq_false h1
  refine T_exit' ?_
  refine p_then_x ?_
  refine p_then_x ?_
  refine p_blk_x ?_
  refine p_seq ?_
  refine T_seq (T_region ?_)
  refine TL_v (.agg #[iN q, iN p, .slice a3 l3.length cap3]) (s_la ag75 sz75 rfl 3 rfl rfl rfl) rfl rfl ?_
  refine TL_store 2 (.cells #[iN q, iN p, .slice a3 l3.length cap3] 75) rfl (s_st sz75 rfl rfl 2 rfl rfl rfl rfl rfl) rfl rfl (w_n rfl) ?_
  refine TL_seq ?_
  refine T_ret' ?_
  refine ret_of rfl (.agg #[iN q, iN p, .slice a3 l3.length cap3]) (fun tmps w hk hm => res1 rfl (res_cell (hk 2 _ rfl) (run_loadVar_agg ag75 sz75 (hm.at 2 rfl) (Nat.le_of_ble_eq_true rfl) rfl))) (fun w hm => ?_)
  have hye : y = p := by omega
  have e3 : l3 = quarL p q px := by rw [hl3, hye, Nat.mul_comm]; rfl
  subst e3
  exact ⟨a3, cap3, rfl, hm.ext, hm.row 950 rfl⟩

set_option maxHeartbeats 1000000 in
theorem rflip_c (p q : Nat) (px : List C4) (a : Option Addr) (cap : Nat) (w : World) (hv : SliceAt w a cap 4 C4.cells px) (hcap : cap ≤ Go.maxLen) (hp : 1 ≤ p ∧ p ≤ 8) (hq : 1 ≤ q ∧ q ≤ 8) (hlen : px.length = p * q) : Calls Try.prog 54 #[.agg #[.int .i64 (p : Int), .int .i64 (q : Int), .slice a px.length cap]] w fun e w' => ∃ a' cap', e = .returned (.agg #[.int .i64 (p : Int), .int .i64 (q : Int), .slice a' (flpL p q px).length cap']) ∧ Below w.heap.size w w' ∧ w'.ownsRow w.heap.size 37 4 (.slice a' (flpL p q px).length cap') (flpL p q px).length ((flpL p q px).flatMap C4.cells) := by
 have hp8 := hp
 have hq8 := hq
 have hvl := hv.1
 have h64 := size8 hp hq
 unfold Go.maxLen at hcap
 refine calls_of_T (l := [.agg #[iN p, iN q, .slice a px.length cap]]) 37 Try.func54 rfl rfl rfl ?_
 show T _ _ _ [(0, .agg #[iN p, iN q, .slice a px.length cap])] []
 refine T_seq (T_region ?_)
 refine TL_new 1 (.cells #[iN p, iN q, .slice a px.length cap] 75) (fun B => pt B 0) (fun _ _ j _ => r_box (j _ _ rfl) rfl) rfl rfl rfl (w_n rfl) ?_
 intro B1
 refine TL_new 2 (.cells #[.int .i64 0, .int .i64 0, .slice none 0 0] 75) (fun B => pt B 0) (fun _ _ _ _ => r_alloc (v := .agg #[.int .i64 0, .int .i64 0, .slice none 0 0]) (by kernel_rfl) rfl) rfl rfl rfl (w_n rfl) ?_
 intro B2
 refine TL_seq ?_
 refine T_seq (T_region ?_)
 refine TL_v (pt B1 0) (s_fa fl75_0 sz3 rfl) rfl rfl ?_
 refine TL_v (iN p) (s_ld ag3 rfl 1 rfl rfl) rfl rfl ?_
 refine TL_v (pt B1 1) (s_fa fl75_1 sz3 rfl) rfl rfl ?_
 refine TL_v (iN q) (s_ld ag3 rfl 1 rfl rfl) rfl rfl ?_
 refine TL_v (.agg #[iN p, iN q, .slice none 0 0]) (fun _ _ j _ => r_build (vs := [(0, iN p), (1, iN q)]) (by kernel_rfl) (cons2 (pair2 (j _ _ rfl)) (cons2 (pair2 (j _ _ rfl)) rfl))) rfl rfl ?_
 refine TL_new 3 (.cells #[.int .i64 0, .int .i64 0, .slice none 0 0] 75) (fun B => pt B 0) (fun _ _ _ _ => r_alloc (v := .agg #[.int .i64 0, .int .i64 0, .slice none 0 0]) (by kernel_rfl) rfl) rfl rfl rfl (w_n rfl) ?_
 intro B3
 refine TL_store 3 (.cells #[iN p, iN q, .slice none 0 0] 75) rfl (s_st sz75 rfl rfl 3 rfl rfl rfl rfl rfl) rfl rfl (w_n rfl) ?_
 refine TL_seq ?_
 refine T_seq ?_
 refine T_seq (T_region ?_)
 refine TL_v (pt B1 1) (s_fa fl75_1 sz3 rfl) rfl rfl ?_
 refine TL_v (iN q) (s_ld ag3 rfl 1 rfl rfl) rfl rfl ?_
 refine TL_v (.int .i64 0) (s_mv rfl) rfl rfl ?_
 refine TL_seq ?_
 refine T_block ?_
 refine T_mem (_ :: _) (fun _ hm => hm.nilRow 950 37 4) ?_
 refine T_loop (ι := Nat × List C4 × Option Addr × Nat) (fun (z : Nat × List C4 × Option Addr × Nat) => match z with | (y, l3, a3, cap3) => y ≤ q ∧ l3 = pick (flipI p) px (y * p)) (fun (z : Nat × List C4 × Option Addr × Nat) => match z with | (y, l3, a3, cap3) => [(1, pt B1 0), (2, pt B2 0), (3, pt B3 0), (12, iN q), (13, iN y)]) (fun (z : Nat × List C4 × Option Addr × Nat) => match z with | (y, l3, a3, cap3) => [(1, .blk B1 (.cells #[iN p, iN q, .slice a px.length cap] 75)), (2, .blk B2 (.cells #[.int .i64 0, .int .i64 0, .slice none 0 0] 75)), (3, .blk B3 (.cells #[iN p, iN q, .slice a3 l3.length cap3] 75)), (950, .row (.slice a3 l3.length cap3) 37 4 l3.length (l3.flatMap C4.cells))]) (fun (z : Nat × List C4 × Option Addr × Nat) => match z with | (y, l3, a3, cap3) => q - y) (0, [], none, 0) ⟨Nat.zero_le _, by rw [Nat.zero_mul]; rfl⟩ (sc4 rfl rfl rfl rfl (sc rfl sub_nil)) (sc4 rfl rfl rfl rfl sub_nil) ?_
 rintro ⟨y, l3, a3, cap3⟩ hp
 obtain ⟨hy, hl3⟩ := hp
 show T _ _ _ [(1, pt B1 0), (2, pt B2 0), (3, pt B3 0), (12, iN q), (13, iN y)] [(1, .blk B1 (.cells #[iN p, iN q, .slice a px.length cap] 75)), (2, .blk B2 (.cells #[.int .i64 0, .int .i64 0, .slice none 0 0] 75)), (3, .blk B3 (.cells #[iN p, iN q, .slice a3 l3.length cap3] 75)), (950, .row (.slice a3 l3.length cap3) 37 4 l3.length (l3.flatMap C4.cells))]
 refine T_seq (T_region ?_)
 refine TL_v (.bool (decide (((y : Nat) : Int) < ((q : Nat) : Int)))) (fun _ _ j _ => r_lss (j _ _ rfl) (j _ _ rfl)) rfl rfl ?_
 refine TL_seq ?_
 refine T_seq ?_
 refine T_cond rfl (fun h1 => ?_) (fun h1 => ?_)
 ·replace h1 := of_decide_eq_true h1
  refine T_skip' ?_
  refine p_seq ?_
  refine T_seq ?_
  refine T_block ?_
  refine T_seq (T_region ?_)
  refine TL_v (iN y) (s_mv rfl) rfl rfl ?_
  refine TL_v (iN y) (s_as rfl) rfl rfl ?_
  refine TL_seq ?_
  refine T_seq (T_region ?_)
  refine TL_v (pt B1 0) (s_fa fl75_0 sz3 rfl) rfl rfl ?_
  refine TL_v (iN p) (s_ld ag3 rfl 1 rfl rfl) rfl rfl ?_
  refine TL_v (.int .i64 0) (s_mv rfl) rfl rfl ?_
  refine TL_seq ?_
  refine T_block ?_
  refine T_loop (ι := Nat × List C4 × Option Addr × Nat) (fun (z : Nat × List C4 × Option Addr × Nat) => match z with | (x, l4, a4, cap4) => x ≤ p ∧ l4 = pick (flipI p) px (y * p + x)) (fun (z : Nat × List C4 × Option Addr × Nat) => match z with | (x, l4, a4, cap4) => [(1, pt B1 0), (2, pt B2 0), (3, pt B3 0), (12, iN q), (13, iN y), (14, .bool (decide (((y : Nat) : Int) < ((q : Nat) : Int)))), (15, iN y), (4, iN y), (16, pt B1 0), (17, iN p), (18, iN x)]) (fun (z : Nat × List C4 × Option Addr × Nat) => match z with | (x, l4, a4, cap4) => [(1, .blk B1 (.cells #[iN p, iN q, .slice a px.length cap] 75)), (2, .blk B2 (.cells #[.int .i64 0, .int .i64 0, .slice none 0 0] 75)), (3, .blk B3 (.cells #[iN p, iN q, .slice a4 l4.length cap4] 75)), (950, .row (.slice a4 l4.length cap4) 37 4 l4.length (l4.flatMap C4.cells))]) (fun (z : Nat × List C4 × Option Addr × Nat) => match z with | (x, l4, a4, cap4) => p - x) (0, l3, a3, cap3) ⟨Nat.zero_le _, hl3⟩ (sc4 rfl rfl rfl rfl (sc4 rfl rfl rfl rfl (sc rfl (sc rfl (sc rfl sub_nil))))) (sc4 rfl rfl rfl rfl sub_nil) ?_
  rintro ⟨x, l4, a4, cap4⟩ hp
  obtain ⟨hx, hl4⟩ := hp
  show T _ _ _ [(1, pt B1 0), (2, pt B2 0), (3, pt B3 0), (12, iN q), (13, iN y), (14, .bool (decide (((y : Nat) : Int) < ((q : Nat) : Int)))), (15, iN y), (4, iN y), (16, pt B1 0), (17, iN p), (18, iN x)] [(1, .blk B1 (.cells #[iN p, iN q, .slice a px.length cap] 75)), (2, .blk B2 (.cells #[.int .i64 0, .int .i64 0, .slice none 0 0] 75)), (3, .blk B3 (.cells #[iN p, iN q, .slice a4 l4.length cap4] 75)), (950, .row (.slice a4 l4.length cap4) 37 4 l4.length (l4.flatMap C4.cells))]
  refine T_seq (T_region ?_)
  refine TL_v (.bool (decide (((x : Nat) : Int) < ((p : Nat) : Int)))) (fun _ _ j _ => r_lss (j _ _ rfl) (j _ _ rfl)) rfl rfl ?_
  refine TL_seq ?_
  refine T_seq ?_
  refine T_cond rfl (fun h2 => ?_) (fun h2 => ?_)
  ·replace h2 := of_decide_eq_true h2
   refine T_skip' ?_
   refine p_seq ?_
   refine T_seq ?_
   refine T_block ?_
   have hl5 : l4.length = y * p + x := by rw [hl4, pick_len]
   have hxy := in_px (show x < p by omega) (show y < q by omega)
   have hcm := Nat.mul_comm p q
   have hdm := dm2 (x := x) (y := y) (W := p) (by omega)
   have hix : flipI p (y * p + x) = y * p + (p - 1 - x) := by unfold flipI; rw [hdm.1, hdm.2]
   obtain ⟨c, hc⟩ : ∃ c, px[y * p + (p - 1 - x)]? = some c := ⟨_, List.getElem?_eq_getElem (by have := in_px (W := p) (H := q) (show p - 1 - x < p by omega) (show y < q by omega); omega)⟩
   refine T_seq (T_region ?_)
   refine TL_v (iN x) (s_mv rfl) rfl rfl ?_
   refine TL_v (iN x) (s_as rfl) rfl rfl ?_
   refine TL_seq ?_
   refine T_draw (V := [(0, pt B3 2), (1, .slice a4 l4.length cap4), (2, .agg #[iN p, iN q, .slice a px.length cap]), (3, pt B1 0), (4, iN p), (5, iN (p - 1)), (6, iN x), (7, iN ((p - 1) - x)), (8, iN y)]) [0, 1, 0, 0, 8, 24, 0, 120, 0, 508, 1020, 2047, 4095, 8191] [[(3, none)], [(21, some 0)], [(1, none)], [(1, none)], [(24, some 3)], [(25, some 4)], [(5, none)], [(26, some 5), (27, some 6)], [(4, none)], [(23, some 2), (28, some 7), (29, some 8)], [(30, some 9)], [(22, some 1), (31, some 10)], [(3, none)], [(33, some 12), (32, some 11)]] 11776 mixed (by kernel_rfl) ?_
   refine G_step [0, 1, 2, 3, 4, 5, 6, 7, 8] 9 [] (by kernel_rfl) (allM (all_cons (q_r (pt B3 2) rfl rfl rfl (s_fa fl75_2 sz71 rfl)) (all_cons (q_r (.slice a4 l4.length cap4) rfl rfl rfl (s_ld ag71 rfl 3 rfl rfl)) (all_cons (q_r (.agg #[iN p, iN q, .slice a px.length cap]) rfl rfl rfl (s_la ag75 sz75 rfl 1 rfl rfl rfl)) (all_cons (q_r (pt B1 0) rfl rfl rfl (s_fa fl75_0 sz3 rfl)) (all_cons (q_r (iN p) rfl rfl rfl (s_ld ag3 rfl 1 rfl rfl)) (all_cons (q_r (iN (p - 1)) rfl rfl rfl (s_op r_sub rfl rfl (iw (by omega) (by omega) (by omega)))) (all_cons (q_r (iN x) rfl rfl rfl (s_mv rfl)) (all_cons (q_r (iN ((p - 1) - x)) rfl rfl rfl (s_op r_sub rfl rfl (iw (by omega) (by omega) (by omega)))) (all_cons (q_r (iN y) rfl rfl rfl (s_mv rfl)) all_nil)))))))))) (allM (all_cons ?_ all_nil))
   refine LOb_call (.agg #[.int .u8 c.r, .int .u8 c.g, .int .u8 c.b, .int .u8 c.a]) [] rfl (wv_n rfl) rfl rfl (fun _ _ j _ => r_call (args := [.agg #[iN p, iN q, .slice a px.length cap], iN ((p - 1) - x), iN y]) (enters_of Try.func57 (by kernel_rfl) rfl) (j _ _ rfl) ((cons2 (j _ _ rfl) (cons2 (j _ _ rfl) (cons2 (j _ _ rfl) rfl)))) rfl) (fun w hm => srat_c p q px a cap w (hv.keep hm.ext) hcap hp8 hq8 hlen ((p - 1) - x) y (show p - 1 - x < p by omega) (show y < q by omega) c hc) (by kernel_rfl) ?_
   refine G_step [0, 1] 10 [] (by kernel_rfl) (allM (all_cons (q_r (pt B3 2) rfl rfl rfl (s_fa fl75_2 sz71 rfl)) (all_cons (q_r (.slice a4 l4.length cap4) rfl rfl rfl (s_ld ag71 rfl 3 rfl rfl)) all_nil))) (allM (all_cons ?_ all_nil))
   refine LOb_new 4 (.cells #[.int .u8 c.r, .int .u8 c.g, .int .u8 c.b, .int .u8 c.a] 37) (fun B => .slice (some ⟨B, 0, none⟩) 1 1) (fun B => []) rfl (wv_n rfl) rfl rfl (fun _ _ j _ => r_buildSlice (vs := [(0, .agg #[.int .u8 c.r, .int .u8 c.g, .int .u8 c.b, .int .u8 c.a])]) (by kernel_rfl) (cons2 (pair2 (j _ _ rfl)) rfl)) (fun B => by kernel_rfl) ?_
   intro B4
   refine G_step [0, 1] 11 [] (by kernel_rfl) (allM (all_cons (q_r (pt B3 2) rfl rfl rfl (s_fa fl75_2 sz71 rfl)) (all_cons (q_r (.slice a4 l4.length cap4) rfl rfl rfl (s_ld ag71 rfl 3 rfl rfl)) all_nil))) (allM (all_cons ?_ all_nil))
   refine LOb_append (n := l4.length) (m := 1) (xs := (l4.flatMap C4.cells)) (news := [.int .u8 c.r, .int .u8 c.g, .int .u8 c.b, .int .u8 c.a]) (z := .agg #[z8, z8, z8, z8]) 950 (fun a cap => [(12, pt B3 2)]) rfl (wv_n rfl) rfl rfl rfl sl71 sz37 by37 (by kernel_rfl) rfl rfl (.inl rfl) (fun _ hm => src_blk (news := [.int .u8 c.r, .int .u8 c.g, .int .u8 c.b, .int .u8 c.a]) (hm.at 4 rfl) rfl) (by first | exact T64.cells_one _ | simp [Value.oneCell']) (by omega) (by omega) (fun a cap => by kernel_rfl) ?_
   intro a5 cap5
   refine G_step [12] 13 [] (by kernel_rfl) (allM (all_cons (q_r (pt B3 2) rfl rfl rfl (s_fa fl75_2 sz71 rfl)) all_nil)) (allM (all_cons ?_ all_nil))
   refine LOb_store 3 (.cells #[iN p, iN q, .slice a5 (l4.length + 1) cap5] 75) [] rfl (wv_n rfl) rfl rfl rfl (s_st sz71 rfl rfl 3 rfl rfl rfl rfl rfl) (by kernel_rfl) ?_
   refine G_lastQ [] [(1, pt B1 0), (2, pt B2 0), (3, pt B3 0), (12, iN q), (13, iN y), (14, .bool (decide (((y : Nat) : Int) < ((q : Nat) : Int)))), (15, iN y), (4, iN y), (16, pt B1 0), (17, iN p), (18, iN x), (19, .bool (decide (((x : Nat) : Int) < ((p : Nat) : Int)))), (20, iN x), (5, iN x), (21, pt B3 2), (22, .slice a4 l4.length cap4), (23, .agg #[iN p, iN q, .slice a px.length cap]), (24, pt B1 0), (25, iN p), (26, iN (p - 1)), (27, iN x), (28, iN ((p - 1) - x)), (29, iN y), (30, .agg #[.int .u8 c.r, .int .u8 c.g, .int .u8 c.b, .int .u8 c.a]), (31, .slice (some ⟨B4, 0, none⟩) 1 1), (32, .slice a5 (l4.length + 1) cap5), (33, pt B3 2)] (by kernel_rfl) (allM all_nil) (end_old rfl rfl (end_old rfl rfl (end_old rfl rfl (end_old rfl rfl (end_old rfl rfl (end_old rfl rfl (end_old rfl rfl (end_old rfl rfl (end_old rfl rfl (end_old rfl rfl (end_old rfl rfl (end_old rfl rfl (end_old rfl rfl (end_old rfl rfl (end_new 0 rfl rfl (end_new 1 rfl rfl (end_new 2 rfl rfl (end_new 3 rfl rfl (end_new 4 rfl rfl (end_new 5 rfl rfl (end_new 6 rfl rfl (end_new 7 rfl rfl (end_new 8 rfl rfl (end_new 9 rfl rfl (end_new 10 rfl rfl (end_new 11 rfl rfl (end_new 12 rfl rfl end_nil))))))))))))))))))))))))))) ?_
   refine p_blk_n ?_
   refine p_seq ?_
   refine T_region ?_
   refine TL_v (iN (x + 1)) (s_op r_add rfl rfl (iw (by omega) (by omega) (by omega))) rfl rfl ?_
   refine TL_v (iN (x + 1)) (s_mv rfl) rfl rfl ?_
   refine TL_nil ?_
   have hl6 : l4 ++ [c] = pick (flipI p) px (y * p + (x + 1)) := by
    rw [← Nat.add_assoc, pick_succ, hl4]
    congr 1
    rw [show flipI p (y * p + x) = y * p + (p - 1 - x) from hix, get_of hc]
   rw [show (l4.length + 1) = (l4 ++ [c]).length from by simp, show ((l4.flatMap C4.cells) ++ [.int .u8 c.r, .int .u8 c.g, .int .u8 c.b, .int .u8 c.a]) = (l4 ++ [c]).flatMap C4.cells from by simp [C4.cells]]
   exact p_at (x + 1, (l4 ++ [c]), a5, cap5) ⟨⟨by omega, hl6⟩, by dsimp only; omega⟩ (sc4 rfl rfl rfl rfl (sc4 rfl rfl rfl rfl (sc rfl (sc rfl (sc rfl sub_nil))))) (sc4 rfl rfl rfl rfl sub_nil)
  ·replace h2 := of_decide_eq_false h2
   refine T_exit' ?_
   refine p_then_x ?_
   refine p_then_x ?_
   refine p_blk_x ?_
   refine p_blk_n ?_
   refine p_seq ?_
   refine T_region ?_
   refine TL_v (iN (y + 1)) (s_op r_add rfl rfl (iw (by omega) (by omega) (by omega))) rfl rfl ?_
   refine TL_v (iN (y + 1)) (s_mv rfl) rfl rfl ?_
   refine TL_nil ?_
   exact p_at (y + 1, l4, a4, cap4) ⟨⟨by omega, by have e := hl4; rw [show x = p by omega, row_end] at e; exact e⟩, by dsimp only; omega⟩ (sc4 rfl rfl rfl rfl (sc rfl sub_nil)) (sc4 rfl rfl rfl rfl sub_nil)
 ·replace h1 := of_decide_eq_false h1
  refine T_exit' ?_
  refine p_then_x ?_
  refine p_then_x ?_
  refine p_blk_x ?_
  refine p_seq ?_
  refine T_seq (T_region ?_)
  refine TL_v (.agg #[iN p, iN q, .slice a3 l3.length cap3]) (s_la ag75 sz75 rfl 3 rfl rfl rfl) rfl rfl ?_
  refine TL_store 2 (.cells #[iN p, iN q, .slice a3 l3.length cap3] 75) rfl (s_st sz75 rfl rfl 2 rfl rfl rfl rfl rfl) rfl rfl (w_n rfl) ?_
  refine TL_seq ?_
  refine T_ret' ?_
  refine ret_of rfl (.agg #[iN p, iN q, .slice a3 l3.length cap3]) (fun tmps w hk hm => res1 rfl (res_cell (hk 2 _ rfl) (run_loadVar_agg ag75 sz75 (hm.at 2 rfl) (Nat.le_of_ble_eq_true rfl) rfl))) (fun w hm => ?_)
  have hye : y = q := by omega
  have e3 : l3 = flpL p q px := by rw [hl3, hye, Nat.mul_comm]; rfl
  subst e3
  exact ⟨a3, cap3, rfl, hm.ext, hm.row 950 rfl⟩

set_option maxHeartbeats 1000000 in
theorem rturn_0 (p q : Nat) (qn : Int) (px : List C4) (a : Option Addr) (cap : Nat) (w : World) (hv : SliceAt w a cap 4 C4.cells px) (hcap : cap ≤ Go.maxLen) (hp : 1 ≤ p ∧ p ≤ 8) (hq : 1 ≤ q ∧ q ≤ 8) (hlen : px.length = p * q) (hqn4 : q4 qn = 0) : Calls Try.prog 56 #[.agg #[.int .i64 (p : Int), .int .i64 (q : Int), .slice a px.length cap], .int .i64 qn] w fun e w' => e = .returned (.agg #[.int .i64 (p : Int), .int .i64 (q : Int), .slice a px.length cap]) ∧ Below w.heap.size w w' := by
 have hvl := hv.1
 have h64 := size8 hp hq
 have hqn := tmod_bd qn (n := 4) (by decide)
 unfold Go.maxLen at hcap
 refine calls_of_T (l := [.agg #[iN p, iN q, .slice a px.length cap], .int .i64 qn]) 15 Try.func56 rfl rfl rfl ?_
 show T _ _ _ [(0, .agg #[iN p, iN q, .slice a px.length cap]), (1, .int .i64 qn)] []
 refine T_seq (T_region ?_)
 refine TL_new 1 (.cells #[iN p, iN q, .slice a px.length cap] 75) (fun B => pt B 0) (fun _ _ j _ => r_box (j _ _ rfl) rfl) rfl rfl rfl (w_n rfl) ?_
 intro B1
 refine TL_new 2 (.cells #[.int .i64 0, .int .i64 0, .slice none 0 0] 75) (fun B => pt B 0) (fun _ _ _ _ => r_alloc (v := .agg #[.int .i64 0, .int .i64 0, .slice none 0 0]) (by kernel_rfl) rfl) rfl rfl rfl (w_n rfl) ?_
 intro B2
 refine TL_seq ?_
 refine T_seq ?_
 refine T_seq (T_region ?_)
 refine TL_v (.int .i64 qn) (s_mv rfl) rfl rfl ?_
 refine TL_v (.int .i64 (qn.tmod 4)) (fun _ _ j _ => r_rem (j _ _ rfl) (j _ _ rfl) (by omega)) rfl rfl ?_
 refine TL_v (.int .i64 ((qn.tmod 4) + 4)) (s_op r_add rfl rfl (int_as (wrap64 (by omega) (by omega)))) rfl rfl ?_
 refine TL_v (.int .i64 0) (fun _ _ j _ => r_as (r_rem (j _ _ rfl) (j _ _ rfl) (by omega)) (int_as (by rw [q4_eq, hqn4]; rfl))) rfl rfl ?_
 refine TL_v (.int .i64 0) (s_mv rfl) rfl rfl ?_
 refine TL_seq ?_
 refine T_block ?_
 refine T_rounds 1 ?_
 refine TR_succ ?_
 refine T_seq (T_region ?_)
 refine TL_v (.bool false) (s_op r_lss rfl rfl (by rfl)) rfl rfl ?_
 refine TL_seq ?_
 refine T_seq ?_
 refine T_cond_f rfl ?_
 refine T_exit' ?_
 refine p_then_x ?_
 refine p_then_x ?_
 refine p_blk_x ?_
 refine p_seq ?_
 refine T_seq (T_region ?_)
 refine TL_v (.agg #[iN p, iN q, .slice a px.length cap]) (s_la ag75 sz75 rfl 1 rfl rfl rfl) rfl rfl ?_
 refine TL_store 2 (.cells #[iN p, iN q, .slice a px.length cap] 75) rfl (s_st sz75 rfl rfl 2 rfl rfl rfl rfl rfl) rfl rfl (w_n rfl) ?_
 refine TL_seq ?_
 refine T_ret' ?_
 refine ret_of rfl (.agg #[iN p, iN q, .slice a px.length cap]) (fun tmps w hk hm => res1 rfl (res_cell (hk 4 _ rfl) (run_loadVar_agg ag75 sz75 (hm.at 2 rfl) (Nat.le_of_ble_eq_true rfl) rfl))) (fun w hm => ?_)
 exact ⟨rfl, hm.ext⟩

set_option maxHeartbeats 1000000 in
theorem rturn_1 (p q : Nat) (qn : Int) (px : List C4) (a : Option Addr) (cap : Nat) (w : World) (hv : SliceAt w a cap 4 C4.cells px) (hcap : cap ≤ Go.maxLen) (hp : 1 ≤ p ∧ p ≤ 8) (hq : 1 ≤ q ∧ q ≤ 8) (hlen : px.length = p * q) (hqn4 : q4 qn = 1) : Calls Try.prog 56 #[.agg #[.int .i64 (p : Int), .int .i64 (q : Int), .slice a px.length cap], .int .i64 qn] w fun e w' => ∃ a' cap', e = .returned (.agg #[.int .i64 ((turnS 1 p q px).1 : Int), .int .i64 ((turnS 1 p q px).2.1 : Int), .slice a' ((turnS 1 p q px).2.2).length cap']) ∧ Below w.heap.size w w' ∧ w'.ownsRow w.heap.size 37 4 (.slice a' ((turnS 1 p q px).2.2).length cap') ((turnS 1 p q px).2.2).length (((turnS 1 p q px).2.2).flatMap C4.cells) := by
 have hvl := hv.1
 have h64 := size8 hp hq
 have hqn := tmod_bd qn (n := 4) (by decide)
 unfold Go.maxLen at hcap
 refine calls_of_T (l := [.agg #[iN p, iN q, .slice a px.length cap], .int .i64 qn]) 15 Try.func56 rfl rfl rfl ?_
 show T _ _ _ [(0, .agg #[iN p, iN q, .slice a px.length cap]), (1, .int .i64 qn)] []
 refine T_seq (T_region ?_)
 refine TL_new 1 (.cells #[iN p, iN q, .slice a px.length cap] 75) (fun B => pt B 0) (fun _ _ j _ => r_box (j _ _ rfl) rfl) rfl rfl rfl (w_n rfl) ?_
 intro B1
 refine TL_new 2 (.cells #[.int .i64 0, .int .i64 0, .slice none 0 0] 75) (fun B => pt B 0) (fun _ _ _ _ => r_alloc (v := .agg #[.int .i64 0, .int .i64 0, .slice none 0 0]) (by kernel_rfl) rfl) rfl rfl rfl (w_n rfl) ?_
 intro B2
 refine TL_seq ?_
 refine T_seq ?_
 refine T_seq (T_region ?_)
 refine TL_v (.int .i64 qn) (s_mv rfl) rfl rfl ?_
 refine TL_v (.int .i64 (qn.tmod 4)) (fun _ _ j _ => r_rem (j _ _ rfl) (j _ _ rfl) (by omega)) rfl rfl ?_
 refine TL_v (.int .i64 ((qn.tmod 4) + 4)) (s_op r_add rfl rfl (int_as (wrap64 (by omega) (by omega)))) rfl rfl ?_
 refine TL_v (.int .i64 1) (fun _ _ j _ => r_as (r_rem (j _ _ rfl) (j _ _ rfl) (by omega)) (int_as (by rw [q4_eq, hqn4]; rfl))) rfl rfl ?_
 refine TL_v (.int .i64 0) (s_mv rfl) rfl rfl ?_
 refine TL_seq ?_
 refine T_block ?_
 refine T_rounds 2 ?_
 refine TR_succ ?_
 refine T_seq (T_region ?_)
 refine TL_v (.bool true) (s_op r_lss rfl rfl (by rfl)) rfl rfl ?_
 refine TL_seq ?_
 refine T_seq ?_
 refine T_cond_t rfl ?_
 refine T_skip' ?_
 refine p_seq ?_
 refine T_seq ?_
 refine T_block ?_
 refine T_region ?_
 refine TL_v (.agg #[iN p, iN q, .slice a px.length cap]) (s_la ag75 sz75 rfl 1 rfl rfl rfl) rfl rfl ?_
 refine TL_callN (fun (_ : Option Addr × Nat) => True) (fun (ar3, cr3) => .agg #[iN q, iN p, .slice ar3 ((quarL p q px).length) cr3]) (fun (ar3, cr3) => [(3, .row (.slice ar3 ((quarL p q px).length) cr3) 37 4 ((quarL p q px).length) ((quarL p q px).flatMap C4.cells))]) (fun _ _ j _ => r_call (args := [.agg #[iN p, iN q, .slice a px.length cap]]) (enters_of Try.func92 (by kernel_rfl) rfl) (j _ _ rfl) ((cons2 (j _ _ rfl) rfl)) rfl) (fun w hm => (rquar_c p q px a cap w (hv.keep hm.ext) hcap hp hq hlen).mono fun e w' ⟨a', cap', he, hb, hr⟩ => ⟨(a', cap'), trivial, he, hb, newOk1 3 hr⟩) rfl rfl rfl (w_n rfl) ?_
 rintro ⟨ar3, cr3⟩ -
 refine TL_store 1 (.cells #[iN q, iN p, .slice ar3 ((quarL p q px).length) cr3] 75) rfl (s_st sz75 rfl rfl 1 rfl rfl rfl rfl rfl) rfl rfl (w_n rfl) ?_
 refine TL_nil ?_
 refine p_blk_n ?_
 refine p_seq ?_
 refine T_region ?_
 refine TL_v (.int .i64 1) (s_op r_add rfl rfl (by rfl)) rfl rfl ?_
 refine TL_v (.int .i64 1) (s_mv rfl) rfl rfl ?_
 refine TL_nil ?_
 refine p_round ?_
 refine TR_succ ?_
 refine T_seq (T_region ?_)
 refine TL_v (.bool false) (s_op r_lss rfl rfl (by rfl)) rfl rfl ?_
 refine TL_seq ?_
 refine T_seq ?_
 refine T_cond_f rfl ?_
 refine T_exit' ?_
 refine p_then_x ?_
 refine p_then_x ?_
 refine p_blk_x ?_
 refine p_seq ?_
 refine T_seq (T_region ?_)
 refine TL_v (.agg #[iN q, iN p, .slice ar3 ((quarL p q px).length) cr3]) (s_la ag75 sz75 rfl 1 rfl rfl rfl) rfl rfl ?_
 refine TL_store 2 (.cells #[iN q, iN p, .slice ar3 ((quarL p q px).length) cr3] 75) rfl (s_st sz75 rfl rfl 2 rfl rfl rfl rfl rfl) rfl rfl (w_n rfl) ?_
 refine TL_seq ?_
 refine T_ret' ?_
 refine ret_of rfl (.agg #[iN q, iN p, .slice ar3 ((quarL p q px).length) cr3]) (fun tmps w hk hm => res1 rfl (res_cell (hk 4 _ rfl) (run_loadVar_agg ag75 sz75 (hm.at 2 rfl) (Nat.le_of_ble_eq_true rfl) rfl))) (fun w hm => ?_)
 exact ⟨ar3, cr3, rfl, hm.ext, hm.row 3 rfl⟩

set_option maxHeartbeats 1000000 in
theorem rturn_2 (p q : Nat) (qn : Int) (px : List C4) (a : Option Addr) (cap : Nat) (w : World) (hv : SliceAt w a cap 4 C4.cells px) (hcap : cap ≤ Go.maxLen) (hp : 1 ≤ p ∧ p ≤ 8) (hq : 1 ≤ q ∧ q ≤ 8) (hlen : px.length = p * q) (hqn4 : q4 qn = 2) : Calls Try.prog 56 #[.agg #[.int .i64 (p : Int), .int .i64 (q : Int), .slice a px.length cap], .int .i64 qn] w fun e w' => ∃ a' cap', e = .returned (.agg #[.int .i64 ((turnS 2 p q px).1 : Int), .int .i64 ((turnS 2 p q px).2.1 : Int), .slice a' ((turnS 2 p q px).2.2).length cap']) ∧ Below w.heap.size w w' ∧ w'.ownsRow w.heap.size 37 4 (.slice a' ((turnS 2 p q px).2.2).length cap') ((turnS 2 p q px).2.2).length (((turnS 2 p q px).2.2).flatMap C4.cells) := by
 have hvl := hv.1
 have h64 := size8 hp hq
 have hqn := tmod_bd qn (n := 4) (by decide)
 unfold Go.maxLen at hcap
 refine calls_of_T (l := [.agg #[iN p, iN q, .slice a px.length cap], .int .i64 qn]) 15 Try.func56 rfl rfl rfl ?_
 show T _ _ _ [(0, .agg #[iN p, iN q, .slice a px.length cap]), (1, .int .i64 qn)] []
 refine T_seq (T_region ?_)
 refine TL_new 1 (.cells #[iN p, iN q, .slice a px.length cap] 75) (fun B => pt B 0) (fun _ _ j _ => r_box (j _ _ rfl) rfl) rfl rfl rfl (w_n rfl) ?_
 intro B1
 refine TL_new 2 (.cells #[.int .i64 0, .int .i64 0, .slice none 0 0] 75) (fun B => pt B 0) (fun _ _ _ _ => r_alloc (v := .agg #[.int .i64 0, .int .i64 0, .slice none 0 0]) (by kernel_rfl) rfl) rfl rfl rfl (w_n rfl) ?_
 intro B2
 refine TL_seq ?_
 refine T_seq ?_
 refine T_seq (T_region ?_)
 refine TL_v (.int .i64 qn) (s_mv rfl) rfl rfl ?_
 refine TL_v (.int .i64 (qn.tmod 4)) (fun _ _ j _ => r_rem (j _ _ rfl) (j _ _ rfl) (by omega)) rfl rfl ?_
 refine TL_v (.int .i64 ((qn.tmod 4) + 4)) (s_op r_add rfl rfl (int_as (wrap64 (by omega) (by omega)))) rfl rfl ?_
 refine TL_v (.int .i64 2) (fun _ _ j _ => r_as (r_rem (j _ _ rfl) (j _ _ rfl) (by omega)) (int_as (by rw [q4_eq, hqn4]; rfl))) rfl rfl ?_
 refine TL_v (.int .i64 0) (s_mv rfl) rfl rfl ?_
 refine TL_seq ?_
 refine T_block ?_
 refine T_rounds 3 ?_
 refine TR_succ ?_
 refine T_seq (T_region ?_)
 refine TL_v (.bool true) (s_op r_lss rfl rfl (by rfl)) rfl rfl ?_
 refine TL_seq ?_
 refine T_seq ?_
 refine T_cond_t rfl ?_
 refine T_skip' ?_
 refine p_seq ?_
 refine T_seq ?_
 refine T_block ?_
 refine T_region ?_
 refine TL_v (.agg #[iN p, iN q, .slice a px.length cap]) (s_la ag75 sz75 rfl 1 rfl rfl rfl) rfl rfl ?_
 refine TL_callN (fun (_ : Option Addr × Nat) => True) (fun (ar3, cr3) => .agg #[iN q, iN p, .slice ar3 ((quarL p q px).length) cr3]) (fun (ar3, cr3) => [(3, .row (.slice ar3 ((quarL p q px).length) cr3) 37 4 ((quarL p q px).length) ((quarL p q px).flatMap C4.cells))]) (fun _ _ j _ => r_call (args := [.agg #[iN p, iN q, .slice a px.length cap]]) (enters_of Try.func92 (by kernel_rfl) rfl) (j _ _ rfl) ((cons2 (j _ _ rfl) rfl)) rfl) (fun w hm => (rquar_c p q px a cap w (hv.keep hm.ext) hcap hp hq hlen).mono fun e w' ⟨a', cap', he, hb, hr⟩ => ⟨(a', cap'), trivial, he, hb, newOk1 3 hr⟩) rfl rfl rfl (w_n rfl) ?_
 rintro ⟨ar3, cr3⟩ -
 refine TL_store 1 (.cells #[iN q, iN p, .slice ar3 ((quarL p q px).length) cr3] 75) rfl (s_st sz75 rfl rfl 1 rfl rfl rfl rfl rfl) rfl rfl (w_n rfl) ?_
 refine TL_nil ?_
 refine p_blk_n ?_
 refine p_seq ?_
 refine T_region ?_
 refine TL_v (.int .i64 1) (s_op r_add rfl rfl (by rfl)) rfl rfl ?_
 refine TL_v (.int .i64 1) (s_mv rfl) rfl rfl ?_
 refine TL_nil ?_
 refine p_round ?_
 refine TR_succ ?_
 refine T_seq (T_region ?_)
 refine TL_v (.bool true) (s_op r_lss rfl rfl (by rfl)) rfl rfl ?_
 refine TL_seq ?_
 refine T_seq ?_
 refine T_cond_t rfl ?_
 refine T_skip' ?_
 refine p_seq ?_
 refine T_seq ?_
 refine T_block ?_
 refine T_region ?_
 refine TL_v (.agg #[iN q, iN p, .slice ar3 ((quarL p q px).length) cr3]) (s_la ag75 sz75 rfl 1 rfl rfl rfl) rfl rfl ?_
 refine TL_callN (fun (_ : Option Addr × Nat) => True) (fun (ar4, cr4) => .agg #[iN p, iN q, .slice ar4 ((quarL q p (quarL p q px)).length) cr4]) (fun (ar4, cr4) => [(4, .row (.slice ar4 ((quarL q p (quarL p q px)).length) cr4) 37 4 ((quarL q p (quarL p q px)).length) ((quarL q p (quarL p q px)).flatMap C4.cells))]) (fun _ _ j _ => r_call (args := [.agg #[iN q, iN p, .slice ar3 ((quarL p q px).length) cr3]]) (enters_of Try.func92 (by kernel_rfl) rfl) (j _ _ rfl) ((cons2 (j _ _ rfl) rfl)) rfl) (fun w hm => (rquar_c q p (quarL p q px) ar3 cr3 w (SliceAt.own C4.cells_len (hm.row 3 rfl) rfl rfl) (row_cap (hm.row 3 rfl)) hq hp (quarL_len _ _ _)).mono fun e w' ⟨a', cap', he, hb, hr⟩ => ⟨(a', cap'), trivial, he, hb, newOk1 4 hr⟩) rfl rfl rfl (w_n rfl) ?_
 rintro ⟨ar4, cr4⟩ -
 refine TL_store 1 (.cells #[iN p, iN q, .slice ar4 ((quarL q p (quarL p q px)).length) cr4] 75) rfl (s_st sz75 rfl rfl 1 rfl rfl rfl rfl rfl) rfl rfl (w_n rfl) ?_
 refine TL_nil ?_
 refine p_blk_n ?_
 refine p_seq ?_
 refine T_region ?_
 refine TL_v (.int .i64 2) (s_op r_add rfl rfl (by rfl)) rfl rfl ?_
 refine TL_v (.int .i64 2) (s_mv rfl) rfl rfl ?_
 refine TL_nil ?_
 refine p_round ?_
 refine TR_succ ?_
 refine T_seq (T_region ?_)
 refine TL_v (.bool false) (s_op r_lss rfl rfl (by rfl)) rfl rfl ?_
 refine TL_seq ?_
 refine T_seq ?_
 refine T_cond_f rfl ?_
 refine T_exit' ?_
 refine p_then_x ?_
 refine p_then_x ?_
 refine p_blk_x ?_
 refine p_seq ?_
 refine T_seq (T_region ?_)
 refine TL_v (.agg #[iN p, iN q, .slice ar4 ((quarL q p (quarL p q px)).length) cr4]) (s_la ag75 sz75 rfl 1 rfl rfl rfl) rfl rfl ?_
 refine TL_store 2 (.cells #[iN p, iN q, .slice ar4 ((quarL q p (quarL p q px)).length) cr4] 75) rfl (s_st sz75 rfl rfl 2 rfl rfl rfl rfl rfl) rfl rfl (w_n rfl) ?_
 refine TL_seq ?_
 refine T_ret' ?_
 refine ret_of rfl (.agg #[iN p, iN q, .slice ar4 ((quarL q p (quarL p q px)).length) cr4]) (fun tmps w hk hm => res1 rfl (res_cell (hk 4 _ rfl) (run_loadVar_agg ag75 sz75 (hm.at 2 rfl) (Nat.le_of_ble_eq_true rfl) rfl))) (fun w hm => ?_)
 exact ⟨ar4, cr4, rfl, hm.ext, hm.row 4 rfl⟩

set_option maxHeartbeats 1000000 in
theorem rturn_3 (p q : Nat) (qn : Int) (px : List C4) (a : Option Addr) (cap : Nat) (w : World) (hv : SliceAt w a cap 4 C4.cells px) (hcap : cap ≤ Go.maxLen) (hp : 1 ≤ p ∧ p ≤ 8) (hq : 1 ≤ q ∧ q ≤ 8) (hlen : px.length = p * q) (hqn4 : q4 qn = 3) : Calls Try.prog 56 #[.agg #[.int .i64 (p : Int), .int .i64 (q : Int), .slice a px.length cap], .int .i64 qn] w fun e w' => ∃ a' cap', e = .returned (.agg #[.int .i64 ((turnS 3 p q px).1 : Int), .int .i64 ((turnS 3 p q px).2.1 : Int), .slice a' ((turnS 3 p q px).2.2).length cap']) ∧ Below w.heap.size w w' ∧ w'.ownsRow w.heap.size 37 4 (.slice a' ((turnS 3 p q px).2.2).length cap') ((turnS 3 p q px).2.2).length (((turnS 3 p q px).2.2).flatMap C4.cells) := by
 have hvl := hv.1
 have h64 := size8 hp hq
 have hqn := tmod_bd qn (n := 4) (by decide)
 unfold Go.maxLen at hcap
 refine calls_of_T (l := [.agg #[iN p, iN q, .slice a px.length cap], .int .i64 qn]) 15 Try.func56 rfl rfl rfl ?_
 show T _ _ _ [(0, .agg #[iN p, iN q, .slice a px.length cap]), (1, .int .i64 qn)] []
 refine T_seq (T_region ?_)
 refine TL_new 1 (.cells #[iN p, iN q, .slice a px.length cap] 75) (fun B => pt B 0) (fun _ _ j _ => r_box (j _ _ rfl) rfl) rfl rfl rfl (w_n rfl) ?_
 intro B1
 refine TL_new 2 (.cells #[.int .i64 0, .int .i64 0, .slice none 0 0] 75) (fun B => pt B 0) (fun _ _ _ _ => r_alloc (v := .agg #[.int .i64 0, .int .i64 0, .slice none 0 0]) (by kernel_rfl) rfl) rfl rfl rfl (w_n rfl) ?_
 intro B2
 refine TL_seq ?_
 refine T_seq ?_
 refine T_seq (T_region ?_)
 refine TL_v (.int .i64 qn) (s_mv rfl) rfl rfl ?_
 refine TL_v (.int .i64 (qn.tmod 4)) (fun _ _ j _ => r_rem (j _ _ rfl) (j _ _ rfl) (by omega)) rfl rfl ?_
 refine TL_v (.int .i64 ((qn.tmod 4) + 4)) (s_op r_add rfl rfl (int_as (wrap64 (by omega) (by omega)))) rfl rfl ?_
 refine TL_v (.int .i64 3) (fun _ _ j _ => r_as (r_rem (j _ _ rfl) (j _ _ rfl) (by omega)) (int_as (by rw [q4_eq, hqn4]; rfl))) rfl rfl ?_
 refine TL_v (.int .i64 0) (s_mv rfl) rfl rfl ?_
 refine TL_seq ?_
 refine T_block ?_
 refine T_rounds 4 ?_
 refine TR_succ ?_
 refine T_seq (T_region ?_)
 refine TL_v (.bool true) (s_op r_lss rfl rfl (by rfl)) rfl rfl ?_
 refine TL_seq ?_
 refine T_seq ?_
 refine T_cond_t rfl ?_
 refine T_skip' ?_
 refine p_seq ?_
 refine T_seq ?_
 refine T_block ?_
 refine T_region ?_
 refine TL_v (.agg #[iN p, iN q, .slice a px.length cap]) (s_la ag75 sz75 rfl 1 rfl rfl rfl) rfl rfl ?_
 refine TL_callN (fun (_ : Option Addr × Nat) => True) (fun (ar3, cr3) => .agg #[iN q, iN p, .slice ar3 ((quarL p q px).length) cr3]) (fun (ar3, cr3) => [(3, .row (.slice ar3 ((quarL p q px).length) cr3) 37 4 ((quarL p q px).length) ((quarL p q px).flatMap C4.cells))]) (fun _ _ j _ => r_call (args := [.agg #[iN p, iN q, .slice a px.length cap]]) (enters_of Try.func92 (by kernel_rfl) rfl) (j _ _ rfl) ((cons2 (j _ _ rfl) rfl)) rfl) (fun w hm => (rquar_c p q px a cap w (hv.keep hm.ext) hcap hp hq hlen).mono fun e w' ⟨a', cap', he, hb, hr⟩ => ⟨(a', cap'), trivial, he, hb, newOk1 3 hr⟩) rfl rfl rfl (w_n rfl) ?_
 rintro ⟨ar3, cr3⟩ -
 refine TL_store 1 (.cells #[iN q, iN p, .slice ar3 ((quarL p q px).length) cr3] 75) rfl (s_st sz75 rfl rfl 1 rfl rfl rfl rfl rfl) rfl rfl (w_n rfl) ?_
 refine TL_nil ?_
 refine p_blk_n ?_
 refine p_seq ?_
 refine T_region ?_
 refine TL_v (.int .i64 1) (s_op r_add rfl rfl (by rfl)) rfl rfl ?_
 refine TL_v (.int .i64 1) (s_mv rfl) rfl rfl ?_
 refine TL_nil ?_
 refine p_round ?_
 refine TR_succ ?_
 refine T_seq (T_region ?_)
 refine TL_v (.bool true) (s_op r_lss rfl rfl (by rfl)) rfl rfl ?_
 refine TL_seq ?_
 refine T_seq ?_
 refine T_cond_t rfl ?_
 refine T_skip' ?_
 refine p_seq ?_
 refine T_seq ?_
 refine T_block ?_
 refine T_region ?_
 refine TL_v (.agg #[iN q, iN p, .slice ar3 ((quarL p q px).length) cr3]) (s_la ag75 sz75 rfl 1 rfl rfl rfl) rfl rfl ?_
 refine TL_callN (fun (_ : Option Addr × Nat) => True) (fun (ar4, cr4) => .agg #[iN p, iN q, .slice ar4 ((quarL q p (quarL p q px)).length) cr4]) (fun (ar4, cr4) => [(4, .row (.slice ar4 ((quarL q p (quarL p q px)).length) cr4) 37 4 ((quarL q p (quarL p q px)).length) ((quarL q p (quarL p q px)).flatMap C4.cells))]) (fun _ _ j _ => r_call (args := [.agg #[iN q, iN p, .slice ar3 ((quarL p q px).length) cr3]]) (enters_of Try.func92 (by kernel_rfl) rfl) (j _ _ rfl) ((cons2 (j _ _ rfl) rfl)) rfl) (fun w hm => (rquar_c q p (quarL p q px) ar3 cr3 w (SliceAt.own C4.cells_len (hm.row 3 rfl) rfl rfl) (row_cap (hm.row 3 rfl)) hq hp (quarL_len _ _ _)).mono fun e w' ⟨a', cap', he, hb, hr⟩ => ⟨(a', cap'), trivial, he, hb, newOk1 4 hr⟩) rfl rfl rfl (w_n rfl) ?_
 rintro ⟨ar4, cr4⟩ -
 refine TL_store 1 (.cells #[iN p, iN q, .slice ar4 ((quarL q p (quarL p q px)).length) cr4] 75) rfl (s_st sz75 rfl rfl 1 rfl rfl rfl rfl rfl) rfl rfl (w_n rfl) ?_
 refine TL_nil ?_
 refine p_blk_n ?_
 refine p_seq ?_
 refine T_region ?_
 refine TL_v (.int .i64 2) (s_op r_add rfl rfl (by rfl)) rfl rfl ?_
 refine TL_v (.int .i64 2) (s_mv rfl) rfl rfl ?_
 refine TL_nil ?_
 refine p_round ?_
 refine TR_succ ?_
 refine T_seq (T_region ?_)
 refine TL_v (.bool true) (s_op r_lss rfl rfl (by rfl)) rfl rfl ?_
 refine TL_seq ?_
 refine T_seq ?_
 refine T_cond_t rfl ?_
 refine T_skip' ?_
 refine p_seq ?_
 refine T_seq ?_
 refine T_block ?_
 refine T_region ?_
 refine TL_v (.agg #[iN p, iN q, .slice ar4 ((quarL q p (quarL p q px)).length) cr4]) (s_la ag75 sz75 rfl 1 rfl rfl rfl) rfl rfl ?_
 refine TL_callN (fun (_ : Option Addr × Nat) => True) (fun (ar5, cr5) => .agg #[iN q, iN p, .slice ar5 ((quarL p q (quarL q p (quarL p q px))).length) cr5]) (fun (ar5, cr5) => [(5, .row (.slice ar5 ((quarL p q (quarL q p (quarL p q px))).length) cr5) 37 4 ((quarL p q (quarL q p (quarL p q px))).length) ((quarL p q (quarL q p (quarL p q px))).flatMap C4.cells))]) (fun _ _ j _ => r_call (args := [.agg #[iN p, iN q, .slice ar4 ((quarL q p (quarL p q px)).length) cr4]]) (enters_of Try.func92 (by kernel_rfl) rfl) (j _ _ rfl) ((cons2 (j _ _ rfl) rfl)) rfl) (fun w hm => (rquar_c p q (quarL q p (quarL p q px)) ar4 cr4 w (SliceAt.own C4.cells_len (hm.row 4 rfl) rfl rfl) (row_cap (hm.row 4 rfl)) hp hq (quarL_len _ _ _)).mono fun e w' ⟨a', cap', he, hb, hr⟩ => ⟨(a', cap'), trivial, he, hb, newOk1 5 hr⟩) rfl rfl rfl (w_n rfl) ?_
 rintro ⟨ar5, cr5⟩ -
 refine TL_store 1 (.cells #[iN q, iN p, .slice ar5 ((quarL p q (quarL q p (quarL p q px))).length) cr5] 75) rfl (s_st sz75 rfl rfl 1 rfl rfl rfl rfl rfl) rfl rfl (w_n rfl) ?_
 refine TL_nil ?_
 refine p_blk_n ?_
 refine p_seq ?_
 refine T_region ?_
 refine TL_v (.int .i64 3) (s_op r_add rfl rfl (by rfl)) rfl rfl ?_
 refine TL_v (.int .i64 3) (s_mv rfl) rfl rfl ?_
 refine TL_nil ?_
 refine p_round ?_
 refine TR_succ ?_
 refine T_seq (T_region ?_)
 refine TL_v (.bool false) (s_op r_lss rfl rfl (by rfl)) rfl rfl ?_
 refine TL_seq ?_
 refine T_seq ?_
 refine T_cond_f rfl ?_
 refine T_exit' ?_
 refine p_then_x ?_
 refine p_then_x ?_
 refine p_blk_x ?_
 refine p_seq ?_
 refine T_seq (T_region ?_)
 refine TL_v (.agg #[iN q, iN p, .slice ar5 ((quarL p q (quarL q p (quarL p q px))).length) cr5]) (s_la ag75 sz75 rfl 1 rfl rfl rfl) rfl rfl ?_
 refine TL_store 2 (.cells #[iN q, iN p, .slice ar5 ((quarL p q (quarL q p (quarL p q px))).length) cr5] 75) rfl (s_st sz75 rfl rfl 2 rfl rfl rfl rfl rfl) rfl rfl (w_n rfl) ?_
 refine TL_seq ?_
 refine T_ret' ?_
 refine ret_of rfl (.agg #[iN q, iN p, .slice ar5 ((quarL p q (quarL q p (quarL p q px))).length) cr5]) (fun tmps w hk hm => res1 rfl (res_cell (hk 4 _ rfl) (run_loadVar_agg ag75 sz75 (hm.at 2 rfl) (Nat.le_of_ble_eq_true rfl) rfl))) (fun w hm => ?_)
 exact ⟨ar5, cr5, rfl, hm.ext, hm.row 5 rfl⟩

theorem rturn_n (p q : Nat) (qn : Int) (px : List C4) (a : Option Addr) (cap : Nat) (w : World) (hv : SliceAt w a cap 4 C4.cells px) (hcap : cap ≤ Go.maxLen) (hp : 1 ≤ p ∧ p ≤ 8) (hq : 1 ≤ q ∧ q ≤ 8) (hlen : px.length = p * q) (hqn4 : ¬ q4 qn = 0) : Calls Try.prog 56 #[.agg #[.int .i64 (p : Int), .int .i64 (q : Int), .slice a px.length cap], .int .i64 qn] w fun e w' => ∃ a' cap', e = .returned (.agg #[.int .i64 ((turnS (q4 qn) p q px).1 : Int), .int .i64 ((turnS (q4 qn) p q px).2.1 : Int), .slice a' ((turnS (q4 qn) p q px).2.2).length cap']) ∧ Below w.heap.size w w' ∧ w'.ownsRow w.heap.size 37 4 (.slice a' ((turnS (q4 qn) p q px).2.2).length cap') ((turnS (q4 qn) p q px).2.2).length (((turnS (q4 qn) p q px).2.2).flatMap C4.cells) := by
 have h4 := q4_lt qn
 have : q4 qn = 1 ∨ q4 qn = 2 ∨ q4 qn = 3 := by omega
 rcases this with h | h | h
 ·rw [h]; exact rturn_1 p q qn px a cap w hv hcap hp hq hlen h
 ·rw [h]; exact rturn_2 p q qn px a cap w hv hcap hp hq hlen h
 ·rw [h]; exact rturn_3 p q qn px a cap w hv hcap hp hq hlen h
end Go.Proofs.Ytbiapeaghbndoaa
/- stamp: what is cut out of a canvas. -/
namespace Go.Proofs.Ytbiapeaghbndoaa
open Go Go.RowKit
def fillL (h : Nat → C4) (n k : Nat) : List C4 := (List.range n).map fun i => if i < k then h i else zeroC
theorem fillL_len (h : Nat → C4) (n k : Nat) : (fillL h n k).length = n := by simp [fillL]
theorem fillL_get {h : Nat → C4} {n k i : Nat} (hi : i < n) : (fillL h n k)[i]? = some (if i < k then h i else zeroC) := by
  unfold fillL
  rw [List.getElem?_map, List.getElem?_range hi]; rfl
theorem fillL_zero (h : Nat → C4) (n : Nat) : fillL h n 0 = List.replicate n zeroC := by
  apply List.ext_getElem?
  intro i
  by_cases hi : i < n
  · rw [fillL_get hi, if_neg (by omega), List.getElem?_replicate, if_pos hi]
  · rw [List.getElem?_eq_none (by rw [fillL_len]; omega), List.getElem?_eq_none (by simp; omega)]
theorem fillL_step {h : Nat → C4} {n k : Nat} (hk : k < n) : (fillL h n k).set k (h k) = fillL h n (k + 1) := by
  apply List.ext_getElem?
  intro i
  by_cases hi : i < n
  · rw [fillL_get hi, List.getElem?_set, fillL_len]
    by_cases e : k = i
    · subst e; rw [if_pos rfl, if_pos hk, if_pos (by omega)]
    · rw [if_neg e, fillL_get hi]
      by_cases e2 : i < k
      · rw [if_pos e2, if_pos (by omega)]
      · rw [if_neg e2, if_neg (by omega)]
  · rw [List.getElem?_eq_none (by rw [List.length_set, fillL_len]; omega), List.getElem?_eq_none (by rw [fillL_len]; omega)]
def cutI (wd : Nat) (ts : List T64) (u v p : Nat) (k : Nat) : C4 := colAt wd ts (u + k % p) (v + k / p)
def cutL (wd : Nat) (ts : List T64) (u v p q : Nat) : List C4 := (List.range (p * q)).map (cutI wd ts u v p)
theorem cut_all (wd : Nat) (ts : List T64) (u v p q : Nat) : fillL (cutI wd ts u v p) (p * q) (q * p) = cutL wd ts u v p q := by
  unfold fillL cutL
  apply List.map_congr_left
  intro i hi
  rw [List.mem_range] at hi
  rw [Nat.mul_comm] at hi
  rw [if_pos hi]
theorem cut_step {wd u v p q k : Nat} {ts : List T64} {x : Nat × Nat} (hx : (ptsG p q)[k]? = some x) : (fillL (cutI wd ts u v p) (p * q) k).set (x.2 * p + x.1) (colAt wd ts (u + x.1) (v + x.2)) = fillL (cutI wd ts u v p) (p * q) (k + 1) := by
  obtain ⟨h1, h2, h3, h4⟩ := ptsG_in hx
  obtain ⟨h5, h6⟩ := dm2 (x := x.1) (y := x.2) (W := p) h1
  rw [h3] at h5 h6 ⊢
  rw [← fillL_step (by rw [Nat.mul_comm]; exact h4)]
  congr 1
  unfold cutI
  rw [h5, h6]
end Go.Proofs.Ytbiapeaghbndoaa
/- stamp: a colour over another one. -/
namespace Go.Proofs.Ytbiapeaghbndoaa
open Go Go.RowKit
def C4.ok (c : C4) : Prop := ok8 c.r ∧ ok8 c.g ∧ ok8 c.b ∧ ok8 c.a
def overC (u o : C4) : C4 := ⟨shareI u.r o.r o.a, shareI u.g o.g o.a, shareI u.b o.b o.a, o.a + shareI u.a 0 o.a⟩
theorem over_a {a a' : Int} (ha : ok8 a) (ha' : ok8 a') : ok8 (a' + shareI a 0 a') := by
  obtain ⟨a1, a2⟩ := ha
  obtain ⟨a1', a2'⟩ := ha'
  obtain ⟨h1, h2, h3, h4, h5⟩ := shareI_bd a 0 a' a1 a2 (by omega) (by omega) a1' a2'
  have : 0 ≤ (255 - a) * (255 - a') := Int.mul_nonneg (by omega) (by omega)
  rw [Int.sub_mul] at this
  unfold ok8 shareI
  omega
theorem overC_ok {u o : C4} (hu : u.ok) (ho : o.ok) : (overC u o).ok :=
  ⟨shareI_range hu.1 ho.1 ho.2.2.2, shareI_range hu.2.1 ho.2.1 ho.2.2.2, shareI_range hu.2.2.1 ho.2.2.1 ho.2.2.2, over_a hu.2.2.2 ho.2.2.2⟩
theorem zeroC_ok : zeroC.ok := by unfold C4.ok ok8; decide
theorem over_c (x y : C4) (w : World) (hx : x.ok) (hy : y.ok) : Calls Try.prog 98 #[x.v, y.v] w fun e w' => e = .returned (overC x y).v ∧ Below w.heap.size w w' :=
  over_any _ _ _ _ _ _ _ _ w hx.1 hx.2.1 hx.2.2.1 hx.2.2.2 hy.1 hy.2.1 hy.2.2.1 hy.2.2.2
end Go.Proofs.Ytbiapeaghbndoaa
