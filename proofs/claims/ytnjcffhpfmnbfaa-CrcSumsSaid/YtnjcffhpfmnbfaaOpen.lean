/- crc: Open, Spoil. Printed by a program of this seat's prover. -/
import Derived.Test.YtnjcffhpfmnbfaaSeal
namespace Go.Proofs.Ytnjcffhpfmnbfaa
open Go Go.RowKit
set_option maxRecDepth 10000
def openL (l : List By) : List By := (openP l).getD []
def openE (l : List By) : Int := match openP l with
  | some _ => 0
  | none => 120
def openB (l : List By) : Bool := (openP l).isSome
theorem open_t {l p q r : List By} (h4 : 4 ≤ l.length) (hp : p = l.take (l.length - 4)) (hq : q = l.take (l.length - 4)) (hr : r = (l.drop (l.length - 4)).take (l.length - (l.length - 4))) (h : r = four (sumC 0#32 q)) : openP l = some p := by
  subst hp hq
  unfold openP
  rw [List.take_of_length_le (by rw [List.length_drop]; exact Nat.le_refl _)] at hr
  subst hr
  exact if_pos ⟨h4, h⟩
theorem open_f {l q r : List By} (hq : q = l.take (l.length - 4)) (hr : r = (l.drop (l.length - 4)).take (l.length - (l.length - 4))) (h : ¬ r = four (sumC 0#32 q)) : openP l = none := by
  subst hq
  unfold openP
  rw [List.take_of_length_le (by rw [List.length_drop]; exact Nat.le_refl _)] at hr
  subst hr
  exact if_neg fun e => h e.2
theorem open_s {l : List By} (h4 : ¬ 4 ≤ l.length) : openP l = none := if_neg fun e => h4 e.1
theorem isb_t {m : Wd} {k : Nat} (h : m.getLsbD k = true) : decide ((((m >>> k) &&& 1#32).toNat : Int) = 1) = true := by
  have : (m >>> k) &&& 1#32 = 1#32 := by
    have := (and_one (m >>> k)).2 (by rw [BitVec.getLsbD_ushiftRight, Nat.add_zero]; exact h)
    rwa [BitVec.xor_zero] at this
  rw [this]; rfl
theorem isb_f {m : Wd} {k : Nat} (h : ¬ m.getLsbD k = true) : decide ((((m >>> k) &&& 1#32).toNat : Int) = 1) = false := by
  refine decide_eq_false fun e => h ?_
  have e2 : (m >>> k) &&& 1#32 = 1#32 := BitVec.eq_of_toNat_eq (by show _ = 1; omega)
  have := (and_one (m >>> k)).1 (by rw [BitVec.xor_zero]; exact e2)
  rwa [BitVec.getLsbD_ushiftRight, Nat.add_zero] at this
theorem isr_t {m : Wd} {k : Nat} (h : m.getLsbD k = true) : decide ((((m >>> k) % 2#32).toNat : Int) = 1) = true := by
  rw [odd_w, BitVec.getLsbD_ushiftRight, Nat.add_zero, h]; rfl
theorem isr_f {m : Wd} {k : Nat} (h : ¬ m.getLsbD k = true) : decide ((((m >>> k) % 2#32).toNat : Int) = 1) = false := by
  rw [odd_w, BitVec.getLsbD_ushiftRight, Nat.add_zero, Bool.eq_false_iff.2 h]; rfl
def isS (l : List By) (n : Nat) (mask : Wd) (k : Nat) : Bool := mask.getLsbD k && decide (n + k < 8 * l.length)
theorem isS_t {l : List By} {n : Nat} {mask : Wd} {k : Nat} (h : isS l n mask k = true) : mask.getLsbD k = true ∧ n + k < 8 * l.length := by
  unfold isS at h
  rw [Bool.and_eq_true] at h
  exact ⟨h.1, of_decide_eq_true h.2⟩
theorem isS_f {l : List By} {n : Nat} {mask : Wd} {k : Nat} (h : isS l n mask k = false) : ¬ (mask.getLsbD k = true ∧ n + k < 8 * l.length) := fun e => Bool.noConfusion (h.symm.trans (by unfold isS; rw [e.1, decide_eq_true e.2, Bool.and_true]))
theorem spoil_t {l : List By} {n : Nat} {mask : Wd} {k : Nat} {y : By} (h : mask.getLsbD k = true ∧ n + k < 8 * l.length) (hy : (spoilN l n mask k)[(n + k) / 8]? = some y) : (spoilN l n mask k).set ((n + k) / 8) (y ^^^ (1#8 <<< ((n + k) % 8))) = spoilN l n mask (k + 1) := by
  conv => rhs; unfold spoilN
  rw [if_pos h, hy]; rfl
theorem spoil_f {l : List By} {n : Nat} {mask : Wd} {k : Nat} (h : ¬ (mask.getLsbD k = true ∧ n + k < 8 * l.length)) : spoilN l n mask k = spoilN l n mask (k + 1) := by
  conv => rhs; unfold spoilN
  rw [if_neg h]
theorem some_t {l : List By} {n : Nat} {mask : Wd} {k : Nat} (h : mask.getLsbD k = true ∧ n + k < 8 * l.length) : true = someN l n mask (k + 1) := (if_pos h).symm
theorem some_f {l : List By} {n : Nat} {mask : Wd} {k : Nat} (h : ¬ (mask.getLsbD k = true ∧ n + k < 8 * l.length)) : someN l n mask k = someN l n mask (k + 1) := (if_neg h).symm
theorem bits8 : ∀ y : Fin 256, ∀ m : Fin 8, ((BitVec.ofFin y : By).getLsbD m.val = true → (BitVec.ofFin y : By) - (1#8 <<< m.val) = BitVec.ofFin y ^^^ (1#8 <<< m.val)) ∧ ((BitVec.ofFin y : By).getLsbD m.val = false → (BitVec.ofFin y : By) + (1#8 <<< m.val) = BitVec.ofFin y ^^^ (1#8 <<< m.val)) := by decide +kernel
theorem byte_sub {y : By} {m : Nat} (hm : m < 8) (h : y.getLsbD m = true) : y - (1#8 <<< m) = y ^^^ (1#8 <<< m) := (bits8 y.toFin ⟨m, hm⟩).1 h
theorem byte_add {y : By} {m : Nat} (hm : m < 8) (h : y.getLsbD m = false) : y + (1#8 <<< m) = y ^^^ (1#8 <<< m) := (bits8 y.toFin ⟨m, hm⟩).2 h
theorem bit_of {q : List By} {m : Nat} {y : By} (hy : q[m / 8]? = some y) : bitA q m = y.getLsbD (m % 8) := by unfold bitA; rw [hy]; rfl
theorem bw_t {c : Bool} (h : bw c = 1#32) : c = true := by
  cases c
  · exact absurd h (by decide)
  · rfl
theorem bw_f {c : Bool} (h : ¬ bw c = 1#32) : c = false := by
  cases c
  · rfl
  · exact absurd rfl h
theorem spoil_s {l : List By} {n : Nat} {mask : Wd} {k : Nat} {y : By} (h : mask.getLsbD k = true ∧ n + k < 8 * l.length) (hy : (spoilN l n mask k)[(n + k) / 8]? = some y) (hb : bw (bitA (spoilN l n mask k) (n + k)) = 1#32) : (spoilN l n mask k).set ((n + k) / 8) (y - (1#8 <<< ((n + k) % 8))) = spoilN l n mask (k + 1) := by
  rw [byte_sub (Nat.mod_lt _ (by decide)) ((bit_of hy).symm.trans (bw_t hb)), spoil_t h hy]
theorem spoil_a {l : List By} {n : Nat} {mask : Wd} {k : Nat} {y : By} (h : mask.getLsbD k = true ∧ n + k < 8 * l.length) (hy : (spoilN l n mask k)[(n + k) / 8]? = some y) (hb : ¬ bw (bitA (spoilN l n mask k) (n + k)) = 1#32) : (spoilN l n mask k).set ((n + k) / 8) (y + (1#8 <<< ((n + k) % 8))) = spoilN l n mask (k + 1) := by
  rw [byte_add (Nat.mod_lt _ (by decide)) ((bit_of hy).symm.trans (bw_f hb)), spoil_t h hy]
theorem dbl_by (x : By) : 2#8 * x = x <<< 1 := by
  apply BitVec.eq_of_toNat_eq
  rw [BitVec.toNat_mul, BitVec.toNat_shiftLeft, Nat.shiftLeft_eq]
  show (2 * x.toNat) % 2 ^ 8 = x.toNat * 2 % 2 ^ 8
  rw [Nat.mul_comm]
theorem dbl_b (k : Nat) : 2#8 * (1#8 <<< k) = 1#8 <<< (k + 1) := by rw [dbl_by, BitVec.shiftLeft_add]
def spoilE (o : Option (List By)) : Int := match o with
  | some _ => 0
  | none => 2

theorem open_c (l : List By) (a : Option Addr) (cap : Nat) (w : World) (hv : SliceAt w a cap 1 byc l) (hl : l.length ≤ 1000000) (hcap : cap ≤ Go.maxLen) : Calls Try.prog 16 #[.slice a l.length cap] w fun e w' => ∃ a' cap', e = .returned (.tuple #[.slice a' (openL l).length cap', .int .i64 (openE l)]) ∧ Below w.heap.size w w' ∧ w'.ownsRow w.heap.size 5 1 (.slice a' (openL l).length cap') (openL l).length ((openL l).flatMap byc) := by
  have hvl := hv.1
  refine calls_of_T (l := [.slice a l.length cap]) 31 Try.func16 rfl rfl rfl ?_
  show T _ _ _ [(0, .slice a l.length cap)] []
  refine T_seq (T_region ?_)
  refine TL_q (.slice none 0 0) (fun _ _ hρ _ => r_assign (hρ _ _ rfl)) rfl rfl rfl (w_n rfl) ?_
  refine TL_q (.int .i64 0) (fun _ _ hρ _ => r_assign (hρ _ _ rfl)) rfl rfl rfl (w_n rfl) ?_
  refine TL_seq ?_
  by_cases h4 : 4 ≤ l.length
  · skip
    refine T_seq (T_region ?_)
    refine TL_q (.slice a l.length cap) (fun _ _ hρ _ => r_move (hρ _ _ rfl)) rfl rfl rfl (w_n rfl) ?_
    refine TL_q (.int .i64 ((l.length : Nat) : Int)) (fun _ _ hρ _ => r_len sl29 (hρ _ _ rfl)) rfl rfl rfl (w_n rfl) ?_
    refine TL_q (.int .i64 ((l.length - 4 : Nat) : Int)) (fun _ _ hρ _ => r_as (r_sub (hρ _ _ rfl) (hρ _ _ rfl)) (int_as ((wrap64 (by omega) (by omega)).trans (by omega)))) rfl rfl rfl (w_n rfl) ?_
    refine TL_q (.int .i64 ((l.length - 4 : Nat) : Int)) (fun _ _ hρ _ => r_assign (hρ _ _ rfl)) rfl rfl rfl (w_n rfl) ?_
    refine TL_seq ?_
    refine T_seq ?_
    have hng : ¬ (((l.length - 4 : Nat) : Int) < 0) := by omega
    refine T_seq (T_region ?_)
    refine TL_q (.int .i64 ((l.length - 4 : Nat) : Int)) (fun _ _ hρ _ => r_move (hρ _ _ rfl)) rfl rfl rfl (w_n rfl) ?_
    refine TL_q (.bool false) (fun _ _ hρ _ => r_as (r_lss (hρ _ _ rfl) (hρ _ _ rfl)) (bool_as (decide_eq_false hng))) rfl rfl rfl (w_n rfl) ?_
    refine TL_seq ?_
    refine T_cond_f rfl ?_
    refine T_skip' ?_
    refine p_seq ?_
    obtain ⟨l1, hl1, hn1⟩ : ∃ lz, lz = l.take (l.length - 4) ∧ lz.length = l.length - 4 := ⟨_, rfl, by rw [List.length_take]; omega⟩
    have hs1 := SliceAt.front hv (n := l.length - 4) (m := l.length - 4) (by omega) (by omega) (by omega)
    rw [← hl1] at hs1
    obtain ⟨l2, hl2, hn2⟩ : ∃ lz, lz = l.take (l.length - 4) ∧ lz.length = l.length - 4 := ⟨_, rfl, by rw [List.length_take]; omega⟩
    have hs2 := SliceAt.front hv (n := l.length - 4) (m := cap) (by omega) (by omega) (by omega)
    rw [← hl2] at hs2
    refine T_join (ι := Nat × Nat) (fun _ => True) (fun (z : Nat × Nat) => match z with | (Bx7, Bx10) => [(0, .slice a l.length cap), (2, .slice none 0 0), (3, .int .i64 0), (4, .int .i64 ((l.length - 4 : Nat) : Int)), (6, .pointer (some ⟨Bx10, 0, none⟩)), (5, .slice a l1.length (l.length - 4))]) (fun (z : Nat × Nat) => match z with | (Bx7, Bx10) => [(1, .blk Bx7 (.cells #[.slice a l2.length cap] 29)), (2, .blk Bx10 (.cells #[.int .u8 ((((sumC 0#32 l2)).setWidth 8).toNat : Int), .int .u8 ((((sumC 0#32 l2) >>> 8).setWidth 8).toNat : Int), .int .u8 ((((sumC 0#32 l2) >>> 16).setWidth 8).toNat : Int), .int .u8 ((((sumC 0#32 l2) >>> 24).setWidth 8).toNat : Int)] 26))]) (T_draw (V := [(0, .slice a l.length cap), (1, .int .i64 ((l.length - 4 : Nat) : Int)), (2, .int .i64 ((l.length - 4 : Nat) : Int)), (3, .slice a l1.length (l.length - 4)), (4, .slice a l.length cap), (5, .int .i64 ((l.length - 4 : Nat) : Int)), (6, .slice a l2.length cap)]) [0, 0, 0, 7, 0, 0, 48, 112, 240, 496, 0, 2047, 4095] [[(0, none)], [(4, none)], [(4, none)], [(12, some 0), (13, some 1), (14, some 2)], [(0, none)], [(4, none)], [(16, some 4), (17, some 5)], [(18, some 6)], [(19, some 7)], [(20, some 8)], [], [(15, some 3)], [(6, some 10), (21, some 9)]] 6016 mixed (by kernel_rfl) ?_) (fun z _ => ?_)
    · skip
      refine G_step [0, 1, 2, 3, 4, 5, 6] 7 [10] (by kernel_rfl) (allM (all_cons (q_run (.slice a l.length cap) rfl rfl (wv_n rfl) rfl (fun _ _ hρ _ => r_move (hρ _ _ rfl))) (all_cons (q_run (.int .i64 ((l.length - 4 : Nat) : Int)) rfl rfl (wv_n rfl) rfl (fun _ _ hρ _ => r_move (hρ _ _ rfl))) (all_cons (q_run (.int .i64 ((l.length - 4 : Nat) : Int)) rfl rfl (wv_n rfl) rfl (fun _ _ hρ _ => r_move (hρ _ _ rfl))) (all_cons (q_run (.slice a l1.length (l.length - 4)) rfl rfl (wv_n rfl) rfl (fun ρ _ hρ _ => r_as (r_sliceO sl29 sz5 (hρ _ _ rfl) (bd_some (n := l.length - 4) (hρ _ _ rfl)) (bd_some (n := l.length - 4) (hρ _ _ rfl)) (bd_none ρ _) (by simp) (by omega) (by omega) (by omega)) (by rw [hn1]; exact slo_zero _ _ _ _))) (all_cons (q_run (.slice a l.length cap) rfl rfl (wv_n rfl) rfl (fun _ _ hρ _ => r_move (hρ _ _ rfl))) (all_cons (q_run (.int .i64 ((l.length - 4 : Nat) : Int)) rfl rfl (wv_n rfl) rfl (fun _ _ hρ _ => r_move (hρ _ _ rfl))) (all_cons (q_run (.slice a l2.length cap) rfl rfl (wv_n rfl) rfl (fun ρ _ hρ _ => r_as (r_sliceO sl29 sz5 (hρ _ _ rfl) (bd_none ρ _) (bd_some (n := l.length - 4) (hρ _ _ rfl)) (bd_none ρ _) (by simp) (by omega) (by omega) (by omega)) (by rw [hn2]; exact slo_zero _ _ _ _))) all_nil)))))))) (allM (all_cons ?_ (all_cons ?_ all_nil)))
      · skip
        refine LOb_new 1 (.cells #[.slice a l2.length cap] 29) (fun B => .slice (some ⟨B, 0, none⟩) 1 1) (fun B => []) rfl (wv_n rfl) rfl rfl (fun _ _ hρ _ => r_buildSlice (vs := [(0, .slice a l2.length cap)]) (by kernel_rfl) (cons2 (pair2 (hρ _ _ rfl)) rfl)) (fun B => by kernel_rfl) ?_
        intro B3
        refine G_step [0, 1, 2, 3] 8 [10] (by kernel_rfl) (allM (all_cons (q_run (.slice a l.length cap) rfl rfl (wv_n rfl) rfl (fun _ _ hρ _ => r_move (hρ _ _ rfl))) (all_cons (q_run (.int .i64 ((l.length - 4 : Nat) : Int)) rfl rfl (wv_n rfl) rfl (fun _ _ hρ _ => r_move (hρ _ _ rfl))) (all_cons (q_run (.int .i64 ((l.length - 4 : Nat) : Int)) rfl rfl (wv_n rfl) rfl (fun _ _ hρ _ => r_move (hρ _ _ rfl))) (all_cons (q_run (.slice a l1.length (l.length - 4)) rfl rfl (wv_n rfl) rfl (fun ρ _ hρ _ => r_as (r_sliceO sl29 sz5 (hρ _ _ rfl) (bd_some (n := l.length - 4) (hρ _ _ rfl)) (bd_some (n := l.length - 4) (hρ _ _ rfl)) (bd_none ρ _) (by simp) (by omega) (by omega) (by omega)) (by rw [hn1]; exact slo_zero _ _ _ _))) all_nil))))) (allM (all_cons ?_ (all_cons ?_ all_nil)))
        · skip
          refine LOb_call (.int .u32 ((sumC 0#32 l2).toNat : Int)) [] rfl (wv_n rfl) rfl rfl (fun _ _ hρ _ => r_call (args := [.slice (some ⟨B3, 0, none⟩) 1 1]) (enters_of Try.func20 (by kernel_rfl) rfl) (hρ _ _ rfl) ((cons2 (hρ _ _ rfl) rfl)) rfl) (fun w hm => (sum_c [(⟨a, cap, l2⟩ : RowV)] (some ⟨B3, 0, none⟩) 1 w ⟨by simp, (fun e => by cases e), .inr ⟨_, 0, _, _, _, rfl, (hm.at 1 rfl), row_of_take (fun _ => rfl) rfl⟩⟩ (List.forall_mem_cons.2 ⟨(hs2.keep hm.ext), (fun _ h => nomatch h)⟩) (List.forall_mem_cons.2 ⟨(by omega), (fun _ h => nomatch h)⟩) (by decide)).mono fun _ _ h => ⟨h.1.trans (congrArg (fun x : List By => Ending.returned (.int .u32 ((sumC 0#32 x).toNat : Int))) (by simp only [List.flatMap_cons, List.flatMap_nil, List.append_nil])), h.2⟩) (by kernel_rfl) ?_
          refine G_step [0, 1, 2, 3] 9 [10] (by kernel_rfl) (allM (all_cons (q_run (.slice a l.length cap) rfl rfl (wv_n rfl) rfl (fun _ _ hρ _ => r_move (hρ _ _ rfl))) (all_cons (q_run (.int .i64 ((l.length - 4 : Nat) : Int)) rfl rfl (wv_n rfl) rfl (fun _ _ hρ _ => r_move (hρ _ _ rfl))) (all_cons (q_run (.int .i64 ((l.length - 4 : Nat) : Int)) rfl rfl (wv_n rfl) rfl (fun _ _ hρ _ => r_move (hρ _ _ rfl))) (all_cons (q_run (.slice a l1.length (l.length - 4)) rfl rfl (wv_n rfl) rfl (fun ρ _ hρ _ => r_as (r_sliceO sl29 sz5 (hρ _ _ rfl) (bd_some (n := l.length - 4) (hρ _ _ rfl)) (bd_some (n := l.length - 4) (hρ _ _ rfl)) (bd_none ρ _) (by simp) (by omega) (by omega) (by omega)) (by rw [hn1]; exact slo_zero _ _ _ _))) all_nil))))) (allM (all_cons ?_ (all_cons ?_ all_nil)))
          · skip
            refine LOb_call (.agg #[.int .u8 ((((sumC 0#32 l2)).setWidth 8).toNat : Int), .int .u8 ((((sumC 0#32 l2) >>> 8).setWidth 8).toNat : Int), .int .u8 ((((sumC 0#32 l2) >>> 16).setWidth 8).toNat : Int), .int .u8 ((((sumC 0#32 l2) >>> 24).setWidth 8).toNat : Int)]) [] rfl (wv_n rfl) rfl rfl (fun _ _ hρ _ => r_call (args := [.int .u32 ((sumC 0#32 l2).toNat : Int)]) (enters_of Try.func26 (by kernel_rfl) rfl) (hρ _ _ rfl) ((cons2 (hρ _ _ rfl) rfl)) rfl) (fun w _ => four_c (sumC 0#32 l2) w) (by kernel_rfl) ?_
            refine G_step [0, 1, 2, 3] 10 [] (by kernel_rfl) (allM (all_cons (q_run (.slice a l.length cap) rfl rfl (wv_n rfl) rfl (fun _ _ hρ _ => r_move (hρ _ _ rfl))) (all_cons (q_run (.int .i64 ((l.length - 4 : Nat) : Int)) rfl rfl (wv_n rfl) rfl (fun _ _ hρ _ => r_move (hρ _ _ rfl))) (all_cons (q_run (.int .i64 ((l.length - 4 : Nat) : Int)) rfl rfl (wv_n rfl) rfl (fun _ _ hρ _ => r_move (hρ _ _ rfl))) (all_cons (q_run (.slice a l1.length (l.length - 4)) rfl rfl (wv_n rfl) rfl (fun ρ _ hρ _ => r_as (r_sliceO sl29 sz5 (hρ _ _ rfl) (bd_some (n := l.length - 4) (hρ _ _ rfl)) (bd_some (n := l.length - 4) (hρ _ _ rfl)) (bd_none ρ _) (by simp) (by omega) (by omega) (by omega)) (by rw [hn1]; exact slo_zero _ _ _ _))) all_nil))))) (allM (all_cons ?_ all_nil))
            refine LOb_new 2 (.cells #[.int .u8 0, .int .u8 0, .int .u8 0, .int .u8 0] 26) (fun B => .pointer (some ⟨B, 0, none⟩)) (fun B => [(11, .slice a l1.length (l.length - 4))]) rfl (wv_n rfl) rfl rfl (fun _ _ _ _ => r_alloc (v := .agg #[.int .u8 0, .int .u8 0, .int .u8 0, .int .u8 0]) (by kernel_rfl) rfl) (fun B => by kernel_rfl) ?_
            intro B4
            refine G_step [0, 1, 2, 3, 11] 12 [] (by kernel_rfl) (allM (all_cons (q_run (.slice a l.length cap) rfl rfl (wv_n rfl) rfl (fun _ _ hρ _ => r_move (hρ _ _ rfl))) (all_cons (q_run (.int .i64 ((l.length - 4 : Nat) : Int)) rfl rfl (wv_n rfl) rfl (fun _ _ hρ _ => r_move (hρ _ _ rfl))) (all_cons (q_run (.int .i64 ((l.length - 4 : Nat) : Int)) rfl rfl (wv_n rfl) rfl (fun _ _ hρ _ => r_move (hρ _ _ rfl))) (all_cons (q_run (.slice a l1.length (l.length - 4)) rfl rfl (wv_n rfl) rfl (fun ρ _ hρ _ => r_as (r_sliceO sl29 sz5 (hρ _ _ rfl) (bd_some (n := l.length - 4) (hρ _ _ rfl)) (bd_some (n := l.length - 4) (hρ _ _ rfl)) (bd_none ρ _) (by simp) (by omega) (by omega) (by omega)) (by rw [hn1]; exact slo_zero _ _ _ _))) (all_cons (q_run (.slice a l1.length (l.length - 4)) rfl rfl (wv_n rfl) rfl (fun _ _ hρ _ => r_assign (hρ _ _ rfl))) all_nil)))))) (allM (all_cons ?_ all_nil))
            refine LOb_store 2 (.cells #[.int .u8 ((((sumC 0#32 l2)).setWidth 8).toNat : Int), .int .u8 ((((sumC 0#32 l2) >>> 8).setWidth 8).toNat : Int), .int .u8 ((((sumC 0#32 l2) >>> 16).setWidth 8).toNat : Int), .int .u8 ((((sumC 0#32 l2) >>> 24).setWidth 8).toNat : Int)] 26) [] rfl (wv_n rfl) rfl rfl rfl (fun _ _ hρ hm => r_store sz26 (hρ _ _ rfl) (hρ _ _ rfl) (hm.at 2 rfl) rfl rfl rfl rfl) (by kernel_rfl) ?_
            exact G_lastQ [] [(0, .slice a l.length cap), (2, .slice none 0 0), (3, .int .i64 0), (4, .int .i64 ((l.length - 4 : Nat) : Int)), (6, .pointer (some ⟨B4, 0, none⟩)), (5, .slice a l1.length (l.length - 4))] (by kernel_rfl) (allM all_nil) (end_old rfl rfl (end_old rfl rfl (end_old rfl rfl (end_old rfl rfl (end_new 10 rfl rfl (end_new 11 rfl rfl end_nil)))))) (fun a w hf hm => At_intro (B3, B4) trivial hf hm (sub_cons rfl (sub_cons rfl (sub_cons rfl (sub_cons rfl (sub_cons rfl (sub_cons rfl sub_nil)))))) (sub_cons rfl (sub_cons rfl sub_nil)))
          · skip
            refine LOb_new 2 (.cells #[.int .u8 0, .int .u8 0, .int .u8 0, .int .u8 0] 26) (fun B => .pointer (some ⟨B, 0, none⟩)) (fun B => []) rfl (wv_n rfl) rfl rfl (fun _ _ _ _ => r_alloc (v := .agg #[.int .u8 0, .int .u8 0, .int .u8 0, .int .u8 0]) (by kernel_rfl) rfl) (fun B => by kernel_rfl) ?_
            intro B5
            refine G_step [0, 1, 2, 3] 9 [] (by kernel_rfl) (allM (all_cons (q_run (.slice a l.length cap) rfl rfl (wv_n rfl) rfl (fun _ _ hρ _ => r_move (hρ _ _ rfl))) (all_cons (q_run (.int .i64 ((l.length - 4 : Nat) : Int)) rfl rfl (wv_n rfl) rfl (fun _ _ hρ _ => r_move (hρ _ _ rfl))) (all_cons (q_run (.int .i64 ((l.length - 4 : Nat) : Int)) rfl rfl (wv_n rfl) rfl (fun _ _ hρ _ => r_move (hρ _ _ rfl))) (all_cons (q_run (.slice a l1.length (l.length - 4)) rfl rfl (wv_n rfl) rfl (fun ρ _ hρ _ => r_as (r_sliceO sl29 sz5 (hρ _ _ rfl) (bd_some (n := l.length - 4) (hρ _ _ rfl)) (bd_some (n := l.length - 4) (hρ _ _ rfl)) (bd_none ρ _) (by simp) (by omega) (by omega) (by omega)) (by rw [hn1]; exact slo_zero _ _ _ _))) all_nil))))) (allM (all_cons ?_ all_nil))
            refine LOb_call (.agg #[.int .u8 ((((sumC 0#32 l2)).setWidth 8).toNat : Int), .int .u8 ((((sumC 0#32 l2) >>> 8).setWidth 8).toNat : Int), .int .u8 ((((sumC 0#32 l2) >>> 16).setWidth 8).toNat : Int), .int .u8 ((((sumC 0#32 l2) >>> 24).setWidth 8).toNat : Int)]) [(11, .slice a l1.length (l.length - 4))] rfl (wv_n rfl) rfl rfl (fun _ _ hρ _ => r_call (args := [.int .u32 ((sumC 0#32 l2).toNat : Int)]) (enters_of Try.func26 (by kernel_rfl) rfl) (hρ _ _ rfl) ((cons2 (hρ _ _ rfl) rfl)) rfl) (fun w _ => four_c (sumC 0#32 l2) w) (by kernel_rfl) ?_
            refine G_step [0, 1, 2, 3, 11] 12 [] (by kernel_rfl) (allM (all_cons (q_run (.slice a l.length cap) rfl rfl (wv_n rfl) rfl (fun _ _ hρ _ => r_move (hρ _ _ rfl))) (all_cons (q_run (.int .i64 ((l.length - 4 : Nat) : Int)) rfl rfl (wv_n rfl) rfl (fun _ _ hρ _ => r_move (hρ _ _ rfl))) (all_cons (q_run (.int .i64 ((l.length - 4 : Nat) : Int)) rfl rfl (wv_n rfl) rfl (fun _ _ hρ _ => r_move (hρ _ _ rfl))) (all_cons (q_run (.slice a l1.length (l.length - 4)) rfl rfl (wv_n rfl) rfl (fun ρ _ hρ _ => r_as (r_sliceO sl29 sz5 (hρ _ _ rfl) (bd_some (n := l.length - 4) (hρ _ _ rfl)) (bd_some (n := l.length - 4) (hρ _ _ rfl)) (bd_none ρ _) (by simp) (by omega) (by omega) (by omega)) (by rw [hn1]; exact slo_zero _ _ _ _))) (all_cons (q_run (.slice a l1.length (l.length - 4)) rfl rfl (wv_n rfl) rfl (fun _ _ hρ _ => r_assign (hρ _ _ rfl))) all_nil)))))) (allM (all_cons ?_ all_nil))
            refine LOb_store 2 (.cells #[.int .u8 ((((sumC 0#32 l2)).setWidth 8).toNat : Int), .int .u8 ((((sumC 0#32 l2) >>> 8).setWidth 8).toNat : Int), .int .u8 ((((sumC 0#32 l2) >>> 16).setWidth 8).toNat : Int), .int .u8 ((((sumC 0#32 l2) >>> 24).setWidth 8).toNat : Int)] 26) [] rfl (wv_n rfl) rfl rfl rfl (fun _ _ hρ hm => r_store sz26 (hρ _ _ rfl) (hρ _ _ rfl) (hm.at 2 rfl) rfl rfl rfl rfl) (by kernel_rfl) ?_
            exact G_lastQ [] [(0, .slice a l.length cap), (2, .slice none 0 0), (3, .int .i64 0), (4, .int .i64 ((l.length - 4 : Nat) : Int)), (6, .pointer (some ⟨B5, 0, none⟩)), (5, .slice a l1.length (l.length - 4))] (by kernel_rfl) (allM all_nil) (end_old rfl rfl (end_old rfl rfl (end_old rfl rfl (end_old rfl rfl (end_new 10 rfl rfl (end_new 11 rfl rfl end_nil)))))) (fun a w hf hm => At_intro (B3, B5) trivial hf hm (sub_cons rfl (sub_cons rfl (sub_cons rfl (sub_cons rfl (sub_cons rfl (sub_cons rfl sub_nil)))))) (sub_cons rfl (sub_cons rfl sub_nil)))
        · skip
          refine LOb_new 2 (.cells #[.int .u8 0, .int .u8 0, .int .u8 0, .int .u8 0] 26) (fun B => .pointer (some ⟨B, 0, none⟩)) (fun B => []) rfl (wv_n rfl) rfl rfl (fun _ _ _ _ => r_alloc (v := .agg #[.int .u8 0, .int .u8 0, .int .u8 0, .int .u8 0]) (by kernel_rfl) rfl) (fun B => by kernel_rfl) ?_
          intro B6
          refine G_step [0, 1, 2, 3] 8 [] (by kernel_rfl) (allM (all_cons (q_run (.slice a l.length cap) rfl rfl (wv_n rfl) rfl (fun _ _ hρ _ => r_move (hρ _ _ rfl))) (all_cons (q_run (.int .i64 ((l.length - 4 : Nat) : Int)) rfl rfl (wv_n rfl) rfl (fun _ _ hρ _ => r_move (hρ _ _ rfl))) (all_cons (q_run (.int .i64 ((l.length - 4 : Nat) : Int)) rfl rfl (wv_n rfl) rfl (fun _ _ hρ _ => r_move (hρ _ _ rfl))) (all_cons (q_run (.slice a l1.length (l.length - 4)) rfl rfl (wv_n rfl) rfl (fun ρ _ hρ _ => r_as (r_sliceO sl29 sz5 (hρ _ _ rfl) (bd_some (n := l.length - 4) (hρ _ _ rfl)) (bd_some (n := l.length - 4) (hρ _ _ rfl)) (bd_none ρ _) (by simp) (by omega) (by omega) (by omega)) (by rw [hn1]; exact slo_zero _ _ _ _))) all_nil))))) (allM (all_cons ?_ all_nil))
          refine LOb_call (.int .u32 ((sumC 0#32 l2).toNat : Int)) [] rfl (wv_n rfl) rfl rfl (fun _ _ hρ _ => r_call (args := [.slice (some ⟨B3, 0, none⟩) 1 1]) (enters_of Try.func20 (by kernel_rfl) rfl) (hρ _ _ rfl) ((cons2 (hρ _ _ rfl) rfl)) rfl) (fun w hm => (sum_c [(⟨a, cap, l2⟩ : RowV)] (some ⟨B3, 0, none⟩) 1 w ⟨by simp, (fun e => by cases e), .inr ⟨_, 0, _, _, _, rfl, (hm.at 1 rfl), row_of_take (fun _ => rfl) rfl⟩⟩ (List.forall_mem_cons.2 ⟨(hs2.keep hm.ext), (fun _ h => nomatch h)⟩) (List.forall_mem_cons.2 ⟨(by omega), (fun _ h => nomatch h)⟩) (by decide)).mono fun _ _ h => ⟨h.1.trans (congrArg (fun x : List By => Ending.returned (.int .u32 ((sumC 0#32 x).toNat : Int))) (by simp only [List.flatMap_cons, List.flatMap_nil, List.append_nil])), h.2⟩) (by kernel_rfl) ?_
          refine G_step [0, 1, 2, 3] 9 [] (by kernel_rfl) (allM (all_cons (q_run (.slice a l.length cap) rfl rfl (wv_n rfl) rfl (fun _ _ hρ _ => r_move (hρ _ _ rfl))) (all_cons (q_run (.int .i64 ((l.length - 4 : Nat) : Int)) rfl rfl (wv_n rfl) rfl (fun _ _ hρ _ => r_move (hρ _ _ rfl))) (all_cons (q_run (.int .i64 ((l.length - 4 : Nat) : Int)) rfl rfl (wv_n rfl) rfl (fun _ _ hρ _ => r_move (hρ _ _ rfl))) (all_cons (q_run (.slice a l1.length (l.length - 4)) rfl rfl (wv_n rfl) rfl (fun ρ _ hρ _ => r_as (r_sliceO sl29 sz5 (hρ _ _ rfl) (bd_some (n := l.length - 4) (hρ _ _ rfl)) (bd_some (n := l.length - 4) (hρ _ _ rfl)) (bd_none ρ _) (by simp) (by omega) (by omega) (by omega)) (by rw [hn1]; exact slo_zero _ _ _ _))) all_nil))))) (allM (all_cons ?_ all_nil))
          refine LOb_call (.agg #[.int .u8 ((((sumC 0#32 l2)).setWidth 8).toNat : Int), .int .u8 ((((sumC 0#32 l2) >>> 8).setWidth 8).toNat : Int), .int .u8 ((((sumC 0#32 l2) >>> 16).setWidth 8).toNat : Int), .int .u8 ((((sumC 0#32 l2) >>> 24).setWidth 8).toNat : Int)]) [(11, .slice a l1.length (l.length - 4))] rfl (wv_n rfl) rfl rfl (fun _ _ hρ _ => r_call (args := [.int .u32 ((sumC 0#32 l2).toNat : Int)]) (enters_of Try.func26 (by kernel_rfl) rfl) (hρ _ _ rfl) ((cons2 (hρ _ _ rfl) rfl)) rfl) (fun w _ => four_c (sumC 0#32 l2) w) (by kernel_rfl) ?_
          refine G_step [0, 1, 2, 3, 11] 12 [] (by kernel_rfl) (allM (all_cons (q_run (.slice a l.length cap) rfl rfl (wv_n rfl) rfl (fun _ _ hρ _ => r_move (hρ _ _ rfl))) (all_cons (q_run (.int .i64 ((l.length - 4 : Nat) : Int)) rfl rfl (wv_n rfl) rfl (fun _ _ hρ _ => r_move (hρ _ _ rfl))) (all_cons (q_run (.int .i64 ((l.length - 4 : Nat) : Int)) rfl rfl (wv_n rfl) rfl (fun _ _ hρ _ => r_move (hρ _ _ rfl))) (all_cons (q_run (.slice a l1.length (l.length - 4)) rfl rfl (wv_n rfl) rfl (fun ρ _ hρ _ => r_as (r_sliceO sl29 sz5 (hρ _ _ rfl) (bd_some (n := l.length - 4) (hρ _ _ rfl)) (bd_some (n := l.length - 4) (hρ _ _ rfl)) (bd_none ρ _) (by simp) (by omega) (by omega) (by omega)) (by rw [hn1]; exact slo_zero _ _ _ _))) (all_cons (q_run (.slice a l1.length (l.length - 4)) rfl rfl (wv_n rfl) rfl (fun _ _ hρ _ => r_assign (hρ _ _ rfl))) all_nil)))))) (allM (all_cons ?_ all_nil))
          refine LOb_store 2 (.cells #[.int .u8 ((((sumC 0#32 l2)).setWidth 8).toNat : Int), .int .u8 ((((sumC 0#32 l2) >>> 8).setWidth 8).toNat : Int), .int .u8 ((((sumC 0#32 l2) >>> 16).setWidth 8).toNat : Int), .int .u8 ((((sumC 0#32 l2) >>> 24).setWidth 8).toNat : Int)] 26) [] rfl (wv_n rfl) rfl rfl rfl (fun _ _ hρ hm => r_store sz26 (hρ _ _ rfl) (hρ _ _ rfl) (hm.at 2 rfl) rfl rfl rfl rfl) (by kernel_rfl) ?_
          exact G_lastQ [] [(0, .slice a l.length cap), (2, .slice none 0 0), (3, .int .i64 0), (4, .int .i64 ((l.length - 4 : Nat) : Int)), (6, .pointer (some ⟨B6, 0, none⟩)), (5, .slice a l1.length (l.length - 4))] (by kernel_rfl) (allM all_nil) (end_old rfl rfl (end_old rfl rfl (end_old rfl rfl (end_old rfl rfl (end_new 10 rfl rfl (end_new 11 rfl rfl end_nil)))))) (fun a w hf hm => At_intro (B3, B6) trivial hf hm (sub_cons rfl (sub_cons rfl (sub_cons rfl (sub_cons rfl (sub_cons rfl (sub_cons rfl sub_nil)))))) (sub_cons rfl (sub_cons rfl sub_nil)))
      · skip
        refine LOb_new 2 (.cells #[.int .u8 0, .int .u8 0, .int .u8 0, .int .u8 0] 26) (fun B => .pointer (some ⟨B, 0, none⟩)) (fun B => []) rfl (wv_n rfl) rfl rfl (fun _ _ _ _ => r_alloc (v := .agg #[.int .u8 0, .int .u8 0, .int .u8 0, .int .u8 0]) (by kernel_rfl) rfl) (fun B => by kernel_rfl) ?_
        intro B7
        refine G_step [0, 1, 2, 3, 4, 5, 6] 7 [] (by kernel_rfl) (allM (all_cons (q_run (.slice a l.length cap) rfl rfl (wv_n rfl) rfl (fun _ _ hρ _ => r_move (hρ _ _ rfl))) (all_cons (q_run (.int .i64 ((l.length - 4 : Nat) : Int)) rfl rfl (wv_n rfl) rfl (fun _ _ hρ _ => r_move (hρ _ _ rfl))) (all_cons (q_run (.int .i64 ((l.length - 4 : Nat) : Int)) rfl rfl (wv_n rfl) rfl (fun _ _ hρ _ => r_move (hρ _ _ rfl))) (all_cons (q_run (.slice a l1.length (l.length - 4)) rfl rfl (wv_n rfl) rfl (fun ρ _ hρ _ => r_as (r_sliceO sl29 sz5 (hρ _ _ rfl) (bd_some (n := l.length - 4) (hρ _ _ rfl)) (bd_some (n := l.length - 4) (hρ _ _ rfl)) (bd_none ρ _) (by simp) (by omega) (by omega) (by omega)) (by rw [hn1]; exact slo_zero _ _ _ _))) (all_cons (q_run (.slice a l.length cap) rfl rfl (wv_n rfl) rfl (fun _ _ hρ _ => r_move (hρ _ _ rfl))) (all_cons (q_run (.int .i64 ((l.length - 4 : Nat) : Int)) rfl rfl (wv_n rfl) rfl (fun _ _ hρ _ => r_move (hρ _ _ rfl))) (all_cons (q_run (.slice a l2.length cap) rfl rfl (wv_n rfl) rfl (fun ρ _ hρ _ => r_as (r_sliceO sl29 sz5 (hρ _ _ rfl) (bd_none ρ _) (bd_some (n := l.length - 4) (hρ _ _ rfl)) (bd_none ρ _) (by simp) (by omega) (by omega) (by omega)) (by rw [hn2]; exact slo_zero _ _ _ _))) all_nil)))))))) (allM (all_cons ?_ all_nil))
        refine LOb_new 1 (.cells #[.slice a l2.length cap] 29) (fun B => .slice (some ⟨B, 0, none⟩) 1 1) (fun B => []) rfl (wv_n rfl) rfl rfl (fun _ _ hρ _ => r_buildSlice (vs := [(0, .slice a l2.length cap)]) (by kernel_rfl) (cons2 (pair2 (hρ _ _ rfl)) rfl)) (fun B => by kernel_rfl) ?_
        intro B8
        refine G_step [0, 1, 2, 3] 8 [] (by kernel_rfl) (allM (all_cons (q_run (.slice a l.length cap) rfl rfl (wv_n rfl) rfl (fun _ _ hρ _ => r_move (hρ _ _ rfl))) (all_cons (q_run (.int .i64 ((l.length - 4 : Nat) : Int)) rfl rfl (wv_n rfl) rfl (fun _ _ hρ _ => r_move (hρ _ _ rfl))) (all_cons (q_run (.int .i64 ((l.length - 4 : Nat) : Int)) rfl rfl (wv_n rfl) rfl (fun _ _ hρ _ => r_move (hρ _ _ rfl))) (all_cons (q_run (.slice a l1.length (l.length - 4)) rfl rfl (wv_n rfl) rfl (fun ρ _ hρ _ => r_as (r_sliceO sl29 sz5 (hρ _ _ rfl) (bd_some (n := l.length - 4) (hρ _ _ rfl)) (bd_some (n := l.length - 4) (hρ _ _ rfl)) (bd_none ρ _) (by simp) (by omega) (by omega) (by omega)) (by rw [hn1]; exact slo_zero _ _ _ _))) all_nil))))) (allM (all_cons ?_ all_nil))
        refine LOb_call (.int .u32 ((sumC 0#32 l2).toNat : Int)) [] rfl (wv_n rfl) rfl rfl (fun _ _ hρ _ => r_call (args := [.slice (some ⟨B8, 0, none⟩) 1 1]) (enters_of Try.func20 (by kernel_rfl) rfl) (hρ _ _ rfl) ((cons2 (hρ _ _ rfl) rfl)) rfl) (fun w hm => (sum_c [(⟨a, cap, l2⟩ : RowV)] (some ⟨B8, 0, none⟩) 1 w ⟨by simp, (fun e => by cases e), .inr ⟨_, 0, _, _, _, rfl, (hm.at 1 rfl), row_of_take (fun _ => rfl) rfl⟩⟩ (List.forall_mem_cons.2 ⟨(hs2.keep hm.ext), (fun _ h => nomatch h)⟩) (List.forall_mem_cons.2 ⟨(by omega), (fun _ h => nomatch h)⟩) (by decide)).mono fun _ _ h => ⟨h.1.trans (congrArg (fun x : List By => Ending.returned (.int .u32 ((sumC 0#32 x).toNat : Int))) (by simp only [List.flatMap_cons, List.flatMap_nil, List.append_nil])), h.2⟩) (by kernel_rfl) ?_
        refine G_step [0, 1, 2, 3] 9 [] (by kernel_rfl) (allM (all_cons (q_run (.slice a l.length cap) rfl rfl (wv_n rfl) rfl (fun _ _ hρ _ => r_move (hρ _ _ rfl))) (all_cons (q_run (.int .i64 ((l.length - 4 : Nat) : Int)) rfl rfl (wv_n rfl) rfl (fun _ _ hρ _ => r_move (hρ _ _ rfl))) (all_cons (q_run (.int .i64 ((l.length - 4 : Nat) : Int)) rfl rfl (wv_n rfl) rfl (fun _ _ hρ _ => r_move (hρ _ _ rfl))) (all_cons (q_run (.slice a l1.length (l.length - 4)) rfl rfl (wv_n rfl) rfl (fun ρ _ hρ _ => r_as (r_sliceO sl29 sz5 (hρ _ _ rfl) (bd_some (n := l.length - 4) (hρ _ _ rfl)) (bd_some (n := l.length - 4) (hρ _ _ rfl)) (bd_none ρ _) (by simp) (by omega) (by omega) (by omega)) (by rw [hn1]; exact slo_zero _ _ _ _))) all_nil))))) (allM (all_cons ?_ all_nil))
        refine LOb_call (.agg #[.int .u8 ((((sumC 0#32 l2)).setWidth 8).toNat : Int), .int .u8 ((((sumC 0#32 l2) >>> 8).setWidth 8).toNat : Int), .int .u8 ((((sumC 0#32 l2) >>> 16).setWidth 8).toNat : Int), .int .u8 ((((sumC 0#32 l2) >>> 24).setWidth 8).toNat : Int)]) [(11, .slice a l1.length (l.length - 4))] rfl (wv_n rfl) rfl rfl (fun _ _ hρ _ => r_call (args := [.int .u32 ((sumC 0#32 l2).toNat : Int)]) (enters_of Try.func26 (by kernel_rfl) rfl) (hρ _ _ rfl) ((cons2 (hρ _ _ rfl) rfl)) rfl) (fun w _ => four_c (sumC 0#32 l2) w) (by kernel_rfl) ?_
        refine G_step [0, 1, 2, 3, 11] 12 [] (by kernel_rfl) (allM (all_cons (q_run (.slice a l.length cap) rfl rfl (wv_n rfl) rfl (fun _ _ hρ _ => r_move (hρ _ _ rfl))) (all_cons (q_run (.int .i64 ((l.length - 4 : Nat) : Int)) rfl rfl (wv_n rfl) rfl (fun _ _ hρ _ => r_move (hρ _ _ rfl))) (all_cons (q_run (.int .i64 ((l.length - 4 : Nat) : Int)) rfl rfl (wv_n rfl) rfl (fun _ _ hρ _ => r_move (hρ _ _ rfl))) (all_cons (q_run (.slice a l1.length (l.length - 4)) rfl rfl (wv_n rfl) rfl (fun ρ _ hρ _ => r_as (r_sliceO sl29 sz5 (hρ _ _ rfl) (bd_some (n := l.length - 4) (hρ _ _ rfl)) (bd_some (n := l.length - 4) (hρ _ _ rfl)) (bd_none ρ _) (by simp) (by omega) (by omega) (by omega)) (by rw [hn1]; exact slo_zero _ _ _ _))) (all_cons (q_run (.slice a l1.length (l.length - 4)) rfl rfl (wv_n rfl) rfl (fun _ _ hρ _ => r_assign (hρ _ _ rfl))) all_nil)))))) (allM (all_cons ?_ all_nil))
        refine LOb_store 2 (.cells #[.int .u8 ((((sumC 0#32 l2)).setWidth 8).toNat : Int), .int .u8 ((((sumC 0#32 l2) >>> 8).setWidth 8).toNat : Int), .int .u8 ((((sumC 0#32 l2) >>> 16).setWidth 8).toNat : Int), .int .u8 ((((sumC 0#32 l2) >>> 24).setWidth 8).toNat : Int)] 26) [] rfl (wv_n rfl) rfl rfl rfl (fun _ _ hρ hm => r_store sz26 (hρ _ _ rfl) (hρ _ _ rfl) (hm.at 2 rfl) rfl rfl rfl rfl) (by kernel_rfl) ?_
        exact G_lastQ [] [(0, .slice a l.length cap), (2, .slice none 0 0), (3, .int .i64 0), (4, .int .i64 ((l.length - 4 : Nat) : Int)), (6, .pointer (some ⟨B7, 0, none⟩)), (5, .slice a l1.length (l.length - 4))] (by kernel_rfl) (allM all_nil) (end_old rfl rfl (end_old rfl rfl (end_old rfl rfl (end_old rfl rfl (end_new 10 rfl rfl (end_new 11 rfl rfl end_nil)))))) (fun a w hf hm => At_intro (B8, B7) trivial hf hm (sub_cons rfl (sub_cons rfl (sub_cons rfl (sub_cons rfl (sub_cons rfl (sub_cons rfl sub_nil)))))) (sub_cons rfl (sub_cons rfl sub_nil)))
    · skip
      obtain ⟨Bx7, Bx10⟩ := z
      show T _ _ _ [(0, .slice a l.length cap), (2, .slice none 0 0), (3, .int .i64 0), (4, .int .i64 ((l.length - 4 : Nat) : Int)), (6, .pointer (some ⟨Bx10, 0, none⟩)), (5, .slice a l1.length (l.length - 4))] [(1, .blk Bx7 (.cells #[.slice a l2.length cap] 29)), (2, .blk Bx10 (.cells #[.int .u8 ((((sumC 0#32 l2)).setWidth 8).toNat : Int), .int .u8 ((((sumC 0#32 l2) >>> 8).setWidth 8).toNat : Int), .int .u8 ((((sumC 0#32 l2) >>> 16).setWidth 8).toNat : Int), .int .u8 ((((sumC 0#32 l2) >>> 24).setWidth 8).toNat : Int)] 26))]
      refine T_seq ?_
      obtain ⟨l9, hl9, hn9⟩ : ∃ lz, lz = (l.drop (l.length - 4)).take (l.length - (l.length - 4)) ∧ lz.length = l.length - (l.length - 4) := ⟨_, rfl, by rw [List.length_take, List.length_drop]; omega⟩
      obtain ⟨a9, ha9⟩ : ∃ az : Option Addr, az = (if cap = l.length - 4 then a else Option.map (·.add ((l.length - 4) * 1)) a) := ⟨_, rfl⟩
      have hs9 := SliceAt.part hv (lo := l.length - 4) (hi := l.length) (m := cap) (by omega) (by omega) (by omega) (by omega)
      rw [← hl9, ← ha9] at hs9
      refine T_seq (T_draw (V := [(0, .slice a l.length cap), (1, .int .i64 ((l.length - 4 : Nat) : Int)), (2, .slice a9 l9.length (cap - (l.length - 4))), (3, .slice (some ⟨Bx10, 0, none⟩) 4 4)]) [0, 0, 3, 0, 15, 31] [[(0, none)], [(4, none)], [(22, some 0), (23, some 1)], [(6, none)], [(24, some 2), (25, some 3)], [(26, some 4)]] 16 mixed (by kernel_rfl) ?_)
      refine G_step [0, 1, 2, 3] 4 [] (by kernel_rfl) (allM (all_cons (q_run (.slice a l.length cap) rfl rfl (wv_n rfl) rfl (fun _ _ hρ _ => r_move (hρ _ _ rfl))) (all_cons (q_run (.int .i64 ((l.length - 4 : Nat) : Int)) rfl rfl (wv_n rfl) rfl (fun _ _ hρ _ => r_move (hρ _ _ rfl))) (all_cons (q_run (.slice a9 l9.length (cap - (l.length - 4))) rfl rfl (wv_n rfl) rfl (fun ρ _ hρ _ => r_as (r_sliceO sl29 sz5 (hρ _ _ rfl) (bd_none ρ _) (bd_none ρ _) (bd_some (n := l.length - 4) (hρ _ _ rfl)) (by simp) (by omega) (by omega) (by omega)) (by rw [hn9, ha9]))) (all_cons (q_run (.slice (some ⟨Bx10, 0, none⟩) 4 4) rfl rfl (wv_n rfl) rfl (fun _ _ hρ _ => r_sliceA ar26 sz5 (by decide) (hρ _ _ rfl))) all_nil))))) (allM (all_cons ?_ all_nil))
      refine LOb_call (.bool (decide (l9 = [((sumC 0#32 l2)).setWidth 8, ((sumC 0#32 l2) >>> 8).setWidth 8, ((sumC 0#32 l2) >>> 16).setWidth 8, ((sumC 0#32 l2) >>> 24).setWidth 8]))) [(5, .bool (!(decide (l9 = [((sumC 0#32 l2)).setWidth 8, ((sumC 0#32 l2) >>> 8).setWidth 8, ((sumC 0#32 l2) >>> 16).setWidth 8, ((sumC 0#32 l2) >>> 24).setWidth 8]))))] rfl (wv_n rfl) rfl rfl (fun _ _ hρ _ => r_call (args := [.slice a9 l9.length (cap - (l.length - 4)), .slice (some ⟨Bx10, 0, none⟩) 4 4]) (enters_of Try.func11 (by kernel_rfl) rfl) (hρ _ _ rfl) ((cons2 (hρ _ _ rfl) (cons2 (hρ _ _ rfl) rfl))) rfl) (fun w hm => equal_b l9 [((sumC 0#32 l2)).setWidth 8, ((sumC 0#32 l2) >>> 8).setWidth 8, ((sumC 0#32 l2) >>> 16).setWidth 8, ((sumC 0#32 l2) >>> 24).setWidth 8] a9 (some ⟨Bx10, 0, none⟩) (cap - (l.length - 4)) 4 w (hs9.keep hm.ext) ⟨by simp, (fun e => by cases e), .inr ⟨_, 0, _, _, _, rfl, (hm.at 2 rfl), row_of_take (fun _ => rfl) rfl⟩⟩ (by omega) (Nat.le_of_ble_eq_true rfl)) (by kernel_rfl) ?_
      refine G_last [5] [(2, .slice none 0 0), (3, .int .i64 0), (5, .slice a l1.length (l.length - 4)), (27, .bool (!(decide (l9 = [((sumC 0#32 l2)).setWidth 8, ((sumC 0#32 l2) >>> 8).setWidth 8, ((sumC 0#32 l2) >>> 16).setWidth 8, ((sumC 0#32 l2) >>> 24).setWidth 8]))))] (by kernel_rfl) (allM (all_cons (q_run (.bool (!(decide (l9 = [((sumC 0#32 l2)).setWidth 8, ((sumC 0#32 l2) >>> 8).setWidth 8, ((sumC 0#32 l2) >>> 16).setWidth 8, ((sumC 0#32 l2) >>> 24).setWidth 8])))) rfl rfl (wv_n rfl) rfl (fun _ _ hρ _ => r_not (b := decide (l9 = [((sumC 0#32 l2)).setWidth 8, ((sumC 0#32 l2) >>> 8).setWidth 8, ((sumC 0#32 l2) >>> 16).setWidth 8, ((sumC 0#32 l2) >>> 24).setWidth 8])) (hρ _ _ rfl))) all_nil)) (end_old rfl rfl (end_old rfl rfl (end_old rfl rfl (end_new 5 rfl rfl end_nil)))) ?_
      refine T_cond rfl (fun h1 => ?_) (fun h1 => ?_)
      · replace h1 := of_decide_eq_false (bnot_t h1)
        refine T_seq (T_region ?_)
        refine TL_q (.slice none 0 0) (fun _ _ hρ _ => r_assign (hρ _ _ rfl)) rfl rfl rfl (w_n rfl) ?_
        refine TL_q (.int .i64 120) (fun _ _ hρ _ => r_assign (hρ _ _ rfl)) rfl rfl rfl (w_n rfl) ?_
        refine TL_seq ?_
        refine T_ret' ?_
        refine p_then_r ?_
        refine ret_of rfl (.tuple #[.slice none 0 0, .int .i64 120]) (fun tmps w hk hm => res2 rfl (res_tmp (hk 2 _ rfl)) (res_tmp (hk 3 _ rfl))) (fun w hm => ?_)
        have e0 : openP l = none := open_f hl2 hl9 h1
        have e1 : openL l = [] := by unfold openL; rw [e0]; rfl
        have e2 : openE l = 120 := by unfold openE; rw [e0]; try rfl
        rw [e1, e2]
        exact ⟨none, 0, rfl, hm.ext, World.ownsRow_nil _ _ _ _⟩
      · replace h1 := of_decide_eq_true (bnot_f h1)
        refine T_skip' ?_
        refine p_seq ?_
        refine T_seq (T_region ?_)
        refine TL_new 3 (.cells #[] 5) (fun B => .slice (some ⟨B, 0, none⟩) 0 0) (fun _ _ _ _ => r_buildSlice (vs := []) (by kernel_rfl) rfl) rfl rfl rfl (w_n rfl) ?_
        intro B10
        refine TL_q (.slice a l1.length (l.length - 4)) (fun _ _ hρ _ => r_move (hρ _ _ rfl)) rfl rfl rfl (w_n rfl) ?_
        refine TL_mem ([(3, .row (.slice (some ⟨B10, 0, none⟩) 0 0) 5 1 0 []), (1, .blk Bx7 (.cells #[.slice a l2.length cap] 29)), (2, .blk Bx10 (.cells #[.int .u8 ((((sumC 0#32 l2)).setWidth 8).toNat : Int), .int .u8 ((((sumC 0#32 l2) >>> 8).setWidth 8).toNat : Int), .int .u8 ((((sumC 0#32 l2) >>> 16).setWidth 8).toNat : Int), .int .u8 ((((sumC 0#32 l2) >>> 24).setWidth 8).toNat : Int)] 26))]) (fun _ hm => MemOk.sub (hm.toRow (n := 0) (cap := 0) (s := 1) 3 rfl rfl (by omega) rfl _ rfl) (sub_cons rfl (sub_cons rfl (sub_cons rfl sub_nil)))) ?_
        refine TL_append (n := 0) (m := l1.length) (xs := []) (news := (l1.flatMap byc)) (z := .int .u8 0) 3 rfl rfl rfl sl29 sz5 by5 (by kernel_rfl) rfl rfl (.inl rfl) (fun _ hm => by have := src_of byc_len (hs1.keep hm.ext); simpa using this) (by intro u hu; obtain ⟨x, _, hx⟩ := List.mem_flatMap.1 hu; exact byc_one x u hx) (by omega) (by omega) rfl (w_n rfl) ?_
        intro a11 cap11
        refine TL_q (.slice a11 (0 + l1.length) cap11) (fun _ _ hρ _ => r_assign (hρ _ _ rfl)) rfl rfl rfl (w_n rfl) ?_
        refine TL_q (.int .i64 0) (fun _ _ hρ _ => r_assign (hρ _ _ rfl)) rfl rfl rfl (w_n rfl) ?_
        refine TL_seq ?_
        refine T_ret' ?_
        refine ret_of rfl (.tuple #[.slice a11 (0 + l1.length) cap11, .int .i64 0]) (fun tmps w hk hm => res2 rfl (res_tmp (hk 2 _ rfl)) (res_tmp (hk 3 _ rfl))) (fun w hm => ?_)
        have e0 : openP l = some l1 := open_t h4 hl1 hl2 hl9 h1
        have e1 : openL l = l1 := by unfold openL; rw [e0]; rfl
        have e2 : openE l = 0 := by unfold openE; rw [e0]; try rfl
        rw [e1, e2]
        have hrow := hm.row 3 rfl
        simp only [Nat.zero_add, List.nil_append] at hrow ⊢
        exact ⟨a11, cap11, rfl, hm.ext, hrow⟩
  · skip
    refine T_seq (T_region ?_)
    refine TL_q (.slice a l.length cap) (fun _ _ hρ _ => r_move (hρ _ _ rfl)) rfl rfl rfl (w_n rfl) ?_
    refine TL_q (.int .i64 ((l.length : Nat) : Int)) (fun _ _ hρ _ => r_len sl29 (hρ _ _ rfl)) rfl rfl rfl (w_n rfl) ?_
    refine TL_q (.int .i64 (((l.length : Nat) : Int) - 4)) (fun _ _ hρ _ => r_as (r_sub (hρ _ _ rfl) (hρ _ _ rfl)) (int_as (wrap64 (by omega) (by omega)))) rfl rfl rfl (w_n rfl) ?_
    refine TL_q (.int .i64 (((l.length : Nat) : Int) - 4)) (fun _ _ hρ _ => r_assign (hρ _ _ rfl)) rfl rfl rfl (w_n rfl) ?_
    refine TL_seq ?_
    refine T_seq ?_
    have hng : ((l.length : Nat) : Int) - 4 < 0 := by omega
    refine T_seq (T_region ?_)
    refine TL_q (.int .i64 (((l.length : Nat) : Int) - 4)) (fun _ _ hρ _ => r_move (hρ _ _ rfl)) rfl rfl rfl (w_n rfl) ?_
    refine TL_q (.bool true) (fun _ _ hρ _ => r_as (r_lss (hρ _ _ rfl) (hρ _ _ rfl)) (bool_as (decide_eq_true hng))) rfl rfl rfl (w_n rfl) ?_
    refine TL_seq ?_
    refine T_cond_t rfl ?_
    refine T_seq (T_region ?_)
    refine TL_q (.slice none 0 0) (fun _ _ hρ _ => r_assign (hρ _ _ rfl)) rfl rfl rfl (w_n rfl) ?_
    refine TL_q (.int .i64 120) (fun _ _ hρ _ => r_assign (hρ _ _ rfl)) rfl rfl rfl (w_n rfl) ?_
    refine TL_seq ?_
    refine T_ret' ?_
    refine p_then_r ?_
    refine ret_of rfl (.tuple #[.slice none 0 0, .int .i64 120]) (fun tmps w hk hm => res2 rfl (res_tmp (hk 2 _ rfl)) (res_tmp (hk 3 _ rfl))) (fun w hm => ?_)
    have e0 : openP l = none := open_s h4
    have e1 : openL l = [] := by unfold openL; rw [e0]; rfl
    have e2 : openE l = 120 := by unfold openE; rw [e0]; try rfl
    rw [e1, e2]
    exact ⟨none, 0, rfl, hm.ext, World.ownsRow_nil _ _ _ _⟩

theorem is_c (l : List By) (a : Option Addr) (cap n k : Nat) (mask : Wd) (B5 B4 B3 : Nat) (w : World) (hl : l.length ≤ 1000000) (hn : n < 8 * l.length) (hk : k < 32) (h5 : hp w B5 = some (.cells #[.int .u32 (mask.toNat : Int)] 24)) (h4 : hp w B4 = some (.cells #[.int .i64 (n : Int)] 3)) (h3 : hp w B3 = some (.cells #[.slice a l.length cap] 29)) : Calls Try.prog 32 #[.int .i64 (k : Int), .pointer (some ⟨B5, 0, none⟩), .pointer (some ⟨B4, 0, none⟩), .pointer (some ⟨B3, 0, none⟩)] w fun e w' => e = .returned (.bool (isS l n mask k)) ∧ Below w.heap.size w w' := by
  refine calls_of_T (l := [.int .i64 ((k : Nat) : Int), .pointer (some ⟨B5, 0, none⟩), .pointer (some ⟨B4, 0, none⟩), .pointer (some ⟨B3, 0, none⟩)]) 20 Try.func32 rfl rfl rfl ?_
  show T _ _ _ [(0, .int .i64 ((k : Nat) : Int)), (1, .pointer (some ⟨B5, 0, none⟩)), (2, .pointer (some ⟨B4, 0, none⟩)), (3, .pointer (some ⟨B3, 0, none⟩))] []
  refine T_seq (T_region ?_)
  refine TL_q (.bool false) (fun _ _ hρ _ => r_assign (hρ _ _ rfl)) rfl rfl rfl (w_n rfl) ?_
  refine TL_seq ?_
  by_cases hb : mask.getLsbD k = true
  · skip
    refine T_seq (T_region ?_)
    refine TL_q (.int .u32 ((mask).toNat : Int)) (fun _ _ hρ hm => r_load ag24 (hρ _ _ rfl) (hm.old h5) rfl) rfl rfl rfl (w_n rfl) ?_
    refine TL_q (.int .i64 ((k : Nat) : Int)) (fun _ _ hρ _ => r_move (hρ _ _ rfl)) rfl rfl rfl (w_n rfl) ?_
    refine TL_q (.int .u32 ((mask >>> k).toNat : Int)) (fun _ _ hρ _ => r_shrB (k := .u32) (a := mask) (n := k) (by show _ ≤ 32; omega) (hρ _ _ rfl) (hρ _ _ rfl)) rfl rfl rfl (w_n rfl) ?_
    refine TL_q (.int .u32 (((mask >>> k) &&& (1#32)).toNat : Int)) (fun _ _ hρ _ => r_andB (k := .u32) (a := (mask >>> k)) (b := (1#32)) rfl (hρ _ _ rfl) (hρ _ _ rfl)) rfl rfl rfl (w_n rfl) ?_
    refine TL_q (.bool true) (fun _ _ hρ _ => r_as (r_eql (hρ _ _ rfl) (hρ _ _ rfl)) (bool_as (isb_t hb))) rfl rfl rfl (w_n rfl) ?_
    refine TL_q (.bool true) (fun _ _ hρ _ => r_move (hρ _ _ rfl)) rfl rfl rfl (w_n rfl) ?_
    refine TL_q (.int .i64 ((n : Nat) : Int)) (fun _ _ hρ hm => r_load ag3 (hρ _ _ rfl) (hm.old h4) rfl) rfl rfl rfl (want_y 11 rfl rfl rfl) ?_
    refine TL_q (.int .i64 ((k : Nat) : Int)) (fun _ _ hρ _ => r_move (hρ _ _ rfl)) rfl rfl rfl (want_y 11 rfl rfl rfl) ?_
    refine TL_q (.int .i64 ((n + k : Nat) : Int)) (fun _ _ hρ _ => r_as (r_add (hρ _ _ rfl) (hρ _ _ rfl)) (int_as ((wrap64 (by omega) (by omega)).trans (by omega)))) rfl rfl rfl (want_y 11 rfl rfl rfl) ?_
    refine TL_q (.slice a l.length cap) (fun _ _ hρ hm => r_load ag29 (hρ _ _ rfl) (hm.old h3) rfl) rfl rfl rfl (want_y 11 rfl rfl rfl) ?_
    refine TL_q (.int .i64 ((l.length : Nat) : Int)) (fun _ _ hρ _ => r_len sl29 (hρ _ _ rfl)) rfl rfl rfl (want_y 11 rfl rfl rfl) ?_
    refine TL_q (.int .i64 ((8 * l.length : Nat) : Int)) (fun _ _ hρ _ => r_as (r_mul (hρ _ _ rfl) (hρ _ _ rfl)) (int_as ((wrap64 (by omega) (by omega)).trans (by omega)))) rfl rfl rfl (want_y 11 rfl rfl rfl) ?_
    refine TL_q (.bool (decide (((n + k : Nat) : Int) < ((8 * l.length : Nat) : Int)))) (fun _ _ hρ _ => r_lss (hρ _ _ rfl) (hρ _ _ rfl)) rfl rfl rfl (want_y 11 rfl rfl rfl) ?_
    refine TL_q (.bool (decide (((n + k : Nat) : Int) < ((8 * l.length : Nat) : Int)))) (fun _ _ hρ _ => r_pick_t (hρ _ _ rfl) (hρ _ _ rfl)) rfl rfl rfl (w_n rfl) ?_
    refine TL_q (.bool (decide (((n + k : Nat) : Int) < ((8 * l.length : Nat) : Int)))) (fun _ _ hρ _ => r_assign (hρ _ _ rfl)) rfl rfl rfl (w_n rfl) ?_
    refine TL_seq ?_
    refine T_ret' ?_
    refine ret_of rfl (.bool (decide (((n + k : Nat) : Int) < ((8 * l.length : Nat) : Int)))) (fun tmps w hk hm => res1 rfl (res_tmp (hk 5 _ rfl))) (fun w hm => ?_)
    exact ⟨congrArg (fun b => Ending.returned (.bool b)) (by unfold isS; rw [hb, Bool.true_and]; exact decide_eq_decide.2 (by omega)), hm.ext⟩
  · skip
    refine T_seq (T_region ?_)
    refine TL_q (.int .u32 ((mask).toNat : Int)) (fun _ _ hρ hm => r_load ag24 (hρ _ _ rfl) (hm.old h5) rfl) rfl rfl rfl (w_n rfl) ?_
    refine TL_q (.int .i64 ((k : Nat) : Int)) (fun _ _ hρ _ => r_move (hρ _ _ rfl)) rfl rfl rfl (w_n rfl) ?_
    refine TL_q (.int .u32 ((mask >>> k).toNat : Int)) (fun _ _ hρ _ => r_shrB (k := .u32) (a := mask) (n := k) (by show _ ≤ 32; omega) (hρ _ _ rfl) (hρ _ _ rfl)) rfl rfl rfl (w_n rfl) ?_
    refine TL_q (.int .u32 (((mask >>> k) &&& (1#32)).toNat : Int)) (fun _ _ hρ _ => r_andB (k := .u32) (a := (mask >>> k)) (b := (1#32)) rfl (hρ _ _ rfl) (hρ _ _ rfl)) rfl rfl rfl (w_n rfl) ?_
    refine TL_q (.bool false) (fun _ _ hρ _ => r_as (r_eql (hρ _ _ rfl) (hρ _ _ rfl)) (bool_as (isb_f hb))) rfl rfl rfl (w_n rfl) ?_
    refine TL_q (.bool false) (fun _ _ hρ _ => r_move (hρ _ _ rfl)) rfl rfl rfl (w_n rfl) ?_
    refine TL_no rfl rfl (want_n 11 rfl rfl rfl) ?_
    refine TL_no rfl rfl (want_n 11 rfl rfl rfl) ?_
    refine TL_no rfl rfl (want_n 11 rfl rfl rfl) ?_
    refine TL_no rfl rfl (want_n 11 rfl rfl rfl) ?_
    refine TL_no rfl rfl (want_n 11 rfl rfl rfl) ?_
    refine TL_no rfl rfl (want_n 11 rfl rfl rfl) ?_
    refine TL_no rfl rfl (want_n 11 rfl rfl rfl) ?_
    refine TL_q (.bool false) (fun _ _ hρ _ => r_pick_f (hρ _ _ rfl) (hρ _ _ rfl)) rfl rfl rfl (w_n rfl) ?_
    refine TL_q (.bool false) (fun _ _ hρ _ => r_assign (hρ _ _ rfl)) rfl rfl rfl (w_n rfl) ?_
    refine TL_seq ?_
    refine T_ret' ?_
    refine ret_of rfl (.bool false) (fun tmps w hk hm => res1 rfl (res_tmp (hk 5 _ rfl))) (fun w hm => ?_)
    exact ⟨congrArg (fun b => Ending.returned (.bool b)) (by unfold isS; rw [Bool.eq_false_iff.2 hb]; rfl), hm.ext⟩

theorem spoil_in (n : Nat) (mask : Wd) (l : List By) (a : Option Addr) (cap : Nat) (w : World) (hv : SliceAt w a cap 1 byc l) (hl : l.length ≤ 1000000) (hcap : cap ≤ Go.maxLen) (hn : n < 8 * l.length) : Calls Try.prog 18 #[.slice a l.length cap, .int .i64 (n : Int), .int .u32 (mask.toNat : Int)] w fun e w' => ∃ a' cap', e = .returned (.tuple #[.slice a' ((spoilP l n mask).getD []).length cap', .int .i64 (spoilE (spoilP l n mask))]) ∧ Below w.heap.size w w' ∧ w'.ownsRow w.heap.size 5 1 (.slice a' ((spoilP l n mask).getD []).length cap') ((spoilP l n mask).getD []).length (((spoilP l n mask).getD []).flatMap byc) := by
  have hvl := hv.1
  refine calls_of_T (l := [.slice a l.length cap, .int .i64 ((n : Nat) : Int), .int .u32 ((mask).toNat : Int)]) 52 Try.func18 rfl rfl rfl ?_
  show T _ _ _ [(0, .slice a l.length cap), (1, .int .i64 ((n : Nat) : Int)), (2, .int .u32 ((mask).toNat : Int))] []
  refine T_seq (T_region ?_)
  refine TL_new 1 (.cells #[.slice a l.length cap] 29) (fun B => .pointer (some ⟨B, 0, none⟩)) (fun _ _ hρ _ => r_box (hρ _ _ rfl) rfl) rfl rfl rfl (w_n rfl) ?_
  intro B1
  refine TL_new 2 (.cells #[.int .i64 ((n : Nat) : Int)] 3) (fun B => .pointer (some ⟨B, 0, none⟩)) (fun _ _ hρ _ => r_box (hρ _ _ rfl) rfl) rfl rfl rfl (w_n rfl) ?_
  intro B2
  refine TL_new 3 (.cells #[.int .u32 ((mask).toNat : Int)] 24) (fun B => .pointer (some ⟨B, 0, none⟩)) (fun _ _ hρ _ => r_box (hρ _ _ rfl) rfl) rfl rfl rfl (w_n rfl) ?_
  intro B3
  refine TL_q (.slice none 0 0) (fun _ _ hρ _ => r_assign (hρ _ _ rfl)) rfl rfl rfl (w_n rfl) ?_
  refine TL_q (.int .i64 0) (fun _ _ hρ _ => r_assign (hρ _ _ rfl)) rfl rfl rfl (w_n rfl) ?_
  refine TL_seq ?_
  refine T_seq ?_
  have hp1 : ¬ (((n : Nat) : Int) < 0) := by omega
  have hp2 : ¬ (((8 * l.length : Nat) : Int) ≤ ((n : Nat) : Int)) := by omega
  refine T_seq (T_region ?_)
  refine TL_q (.int .i64 ((n : Nat) : Int)) (fun _ _ hρ hm => r_load ag3 (hρ _ _ rfl) (hm.at 2 rfl) rfl) rfl rfl rfl (w_n rfl) ?_
  refine TL_q (.bool false) (fun _ _ hρ _ => r_as (r_lss (hρ _ _ rfl) (hρ _ _ rfl)) (bool_as (decide_eq_false hp1))) rfl rfl rfl (w_n rfl) ?_
  refine TL_q (.bool false) (fun _ _ hρ _ => r_move (hρ _ _ rfl)) rfl rfl rfl (w_n rfl) ?_
  refine TL_q (.int .i64 ((n : Nat) : Int)) (fun _ _ hρ hm => r_load ag3 (hρ _ _ rfl) (hm.at 2 rfl) rfl) rfl rfl rfl (want_y 14 rfl rfl rfl) ?_
  refine TL_q (.slice a l.length cap) (fun _ _ hρ hm => r_load ag29 (hρ _ _ rfl) (hm.at 1 rfl) rfl) rfl rfl rfl (want_y 14 rfl rfl rfl) ?_
  refine TL_q (.int .i64 ((l.length : Nat) : Int)) (fun _ _ hρ _ => r_len sl29 (hρ _ _ rfl)) rfl rfl rfl (want_y 14 rfl rfl rfl) ?_
  refine TL_q (.int .i64 ((8 * l.length : Nat) : Int)) (fun _ _ hρ _ => r_as (r_mul (hρ _ _ rfl) (hρ _ _ rfl)) (int_as ((wrap64 (by omega) (by omega)).trans (by omega)))) rfl rfl rfl (want_y 14 rfl rfl rfl) ?_
  refine TL_q (.bool false) (fun _ _ hρ _ => r_as (r_geq (hρ _ _ rfl) (hρ _ _ rfl)) (bool_as (decide_eq_false hp2))) rfl rfl rfl (want_y 14 rfl rfl rfl) ?_
  refine TL_q (.bool false) (fun _ _ hρ _ => r_pick_f (hρ _ _ rfl) (hρ _ _ rfl)) rfl rfl rfl (w_n rfl) ?_
  refine TL_seq ?_
  refine T_cond_f rfl ?_
  refine T_skip' ?_
  refine p_seq ?_
  refine T_seq (T_region ?_)
  refine TL_q (.func (.func 32) #[] #[.pointer (some ⟨B3, 0, none⟩), .pointer (some ⟨B2, 0, none⟩), .pointer (some ⟨B1, 0, none⟩)]) (fun _ _ hρ _ => r_makeFunc (by simp) (map_arr (cons2 (hρ _ _ rfl) (cons2 (hρ _ _ rfl) (cons2 (hρ _ _ rfl) rfl))))) rfl rfl rfl (w_n rfl) ?_
  refine TL_q (.func (.func 32) #[] #[.pointer (some ⟨B3, 0, none⟩), .pointer (some ⟨B2, 0, none⟩), .pointer (some ⟨B1, 0, none⟩)]) (fun _ _ hρ _ => r_assign (hρ _ _ rfl)) rfl rfl rfl (w_n rfl) ?_
  refine TL_seq ?_
  refine T_seq (T_region ?_)
  refine TL_q (.slice a l.length cap) (fun _ _ hρ hm => r_load ag29 (hρ _ _ rfl) (hm.at 1 rfl) rfl) rfl rfl rfl (w_n rfl) ?_
  refine TL_q (.int .i64 ((l.length : Nat) : Int)) (fun _ _ hρ _ => r_len sl29 (hρ _ _ rfl)) rfl rfl rfl (w_n rfl) ?_
  refine TL_makeSlice (n := l.length) (cap := l.length) (z := .int .u8 0) (f := byc) (u := 0#8) 4 rfl rfl rfl sl29 by5 sz5 (by kernel_rfl) rfl rfl (by omega) (by omega) (by omega) rfl (w_n rfl) ?_
  intro B4
  refine TL_q (.slice (some ⟨B4, 0, none⟩) l.length l.length) (fun _ _ hρ _ => r_assign (hρ _ _ rfl)) rfl rfl rfl (w_n rfl) ?_
  refine TL_seq ?_
  refine T_seq (T_region ?_)
  refine TL_q (.slice (some ⟨B4, 0, none⟩) l.length l.length) (fun _ _ hρ _ => r_move (hρ _ _ rfl)) rfl rfl rfl (w_n rfl) ?_
  refine TL_q (.slice a l.length cap) (fun _ _ hρ hm => r_load ag29 (hρ _ _ rfl) (hm.at 1 rfl) rfl) rfl rfl rfl (w_n rfl) ?_
  refine TL_copy (news := (l.flatMap byc)) 4 rfl rfl rfl rfl sl29 sz5 (fun _ hm => by have := src_of byc_len (hv.keep hm.ext); simpa using this) (by intro u hu; obtain ⟨x, _, hx⟩ := List.mem_flatMap.1 hu; exact byc_one x u hx) rfl (w_n rfl) ?_
  refine TL_seq ?_
  refine T_seq (T_region ?_)
  refine TL_q (.bool false) (fun _ _ hρ _ => r_assign (hρ _ _ rfl)) rfl rfl rfl (w_n rfl) ?_
  refine TL_seq ?_
  refine T_seq ?_
  refine T_seq (T_region ?_)
  refine TL_q (.int .i64 0) (fun _ _ hρ _ => r_move (hρ _ _ rfl)) rfl rfl rfl (w_n rfl) ?_
  refine TL_seq ?_
  refine T_block ?_
  refine T_loop (ι := Nat) (fun (k : Nat) => k ≤ 32) (fun (k : Nat) => [(4, .pointer (some ⟨B2, 0, none⟩)), (6, .slice none 0 0), (7, .int .i64 0), (8, .func (.func 32) #[] #[.pointer (some ⟨B3, 0, none⟩), .pointer (some ⟨B2, 0, none⟩), .pointer (some ⟨B1, 0, none⟩)]), (9, .slice (some ⟨B4, 0, none⟩) l.length l.length), (28, .int .i64 ((k : Nat) : Int)), (10, .bool (someN l n mask k))]) (fun (k : Nat) => [(1, .blk B1 (.cells #[.slice a l.length cap] 29)), (2, .blk B2 (.cells #[.int .i64 ((n : Nat) : Int)] 3)), (3, .blk B3 (.cells #[.int .u32 ((mask).toNat : Int)] 24)), (4, .row (.slice (some ⟨B4, 0, none⟩) l.length l.length) 5 1 l.length ((spoilN l n mask k).flatMap byc))]) (fun (k : Nat) => 32 - k) 0 (Nat.zero_le _) (sub_cons rfl (sub_cons rfl (sub_cons rfl (sub_cons rfl (sub_cons rfl (sub_cons rfl (sub_cons rfl sub_nil))))))) (sub_cons rfl (sub_cons rfl (sub_cons rfl (sub_cons rfl sub_nil)))) ?_
  rintro k hp
  show T _ _ _ [(4, .pointer (some ⟨B2, 0, none⟩)), (6, .slice none 0 0), (7, .int .i64 0), (8, .func (.func 32) #[] #[.pointer (some ⟨B3, 0, none⟩), .pointer (some ⟨B2, 0, none⟩), .pointer (some ⟨B1, 0, none⟩)]), (9, .slice (some ⟨B4, 0, none⟩) l.length l.length), (28, .int .i64 ((k : Nat) : Int)), (10, .bool (someN l n mask k))] [(1, .blk B1 (.cells #[.slice a l.length cap] 29)), (2, .blk B2 (.cells #[.int .i64 ((n : Nat) : Int)] 3)), (3, .blk B3 (.cells #[.int .u32 ((mask).toNat : Int)] 24)), (4, .row (.slice (some ⟨B4, 0, none⟩) l.length l.length) 5 1 l.length ((spoilN l n mask k).flatMap byc))]
  refine T_seq (T_region ?_)
  refine TL_q (.bool (decide (((k : Nat) : Int) < 32))) (fun _ _ hρ _ => r_lss (hρ _ _ rfl) (hρ _ _ rfl)) rfl rfl rfl (w_n rfl) ?_
  refine TL_seq ?_
  refine T_seq ?_
  refine T_cond rfl (fun h1 => ?_) (fun h1 => ?_)
  · replace h1 := of_decide_eq_true h1
    refine T_skip' ?_
    refine p_seq ?_
    refine T_seq ?_
    refine T_block ?_
    refine T_seq (T_region ?_)
    refine TL_q (.int .i64 ((k : Nat) : Int)) (fun _ _ hρ _ => r_move (hρ _ _ rfl)) rfl rfl rfl (w_n rfl) ?_
    refine TL_q (.int .i64 ((k : Nat) : Int)) (fun _ _ hρ _ => r_assign (hρ _ _ rfl)) rfl rfl rfl (w_n rfl) ?_
    refine TL_seq ?_
    refine T_seq (T_region ?_)
    refine TL_q (.func (.func 32) #[] #[.pointer (some ⟨B3, 0, none⟩), .pointer (some ⟨B2, 0, none⟩), .pointer (some ⟨B1, 0, none⟩)]) (fun _ _ hρ _ => r_move (hρ _ _ rfl)) rfl rfl rfl (w_n rfl) ?_
    refine TL_q (.int .i64 ((k : Nat) : Int)) (fun _ _ hρ _ => r_move (hρ _ _ rfl)) rfl rfl rfl (w_n rfl) ?_
    refine TL_call (.bool (isS l n mask k)) (fun _ _ hρ _ => r_call (args := [.int .i64 ((k : Nat) : Int)]) (enters_of Try.func32 (by kernel_rfl) rfl) (hρ _ _ rfl) ((cons2 (hρ _ _ rfl) rfl)) rfl) (fun w hm => is_c l a cap n k mask B3 B2 B1 w hl hn (by omega) (hm.at 3 rfl) (hm.at 2 rfl) (hm.at 1 rfl)) rfl rfl rfl (w_n rfl) ?_
    refine TL_seq ?_
    refine T_cond rfl (fun h2 => ?_) (fun h2 => ?_)
    · skip
      have hsl := spoilN_len l n mask k
      have hsi := isS_t h2
      obtain ⟨y, hy⟩ : ∃ y, (spoilN l n mask k)[(n + k) / 8]? = some y := ⟨_, List.getElem?_eq_getElem (by omega)⟩
      refine T_seq (T_draw (V := [(0, .slice (some ⟨B4, 0, none⟩) l.length l.length), (1, .int .i64 ((n : Nat) : Int)), (2, .int .i64 ((k : Nat) : Int)), (3, .int .i64 ((n + k : Nat) : Int)), (4, .int .i64 (((n + k) / 8 : Nat) : Int)), (5, .pointer (some ⟨B4, 0 + ((n + k) / 8) * 1, none⟩)), (6, .int .u8 ((y).toNat : Int)), (7, .int .i64 ((n : Nat) : Int)), (8, .int .i64 ((k : Nat) : Int)), (9, .int .i64 ((n + k : Nat) : Int)), (10, .int .i64 (((n + k) % 8 : Nat) : Int)), (11, .int .u8 (((1#8) <<< ((n + k) % 8)).toNat : Int)), (12, .int .u8 ((y ^^^ ((1#8) <<< ((n + k) % 8))).toNat : Int)), (13, .pointer (some ⟨B4, 0 + ((n + k) / 8) * 1, none⟩))]) [0, 0, 0, 6, 14, 31, 63, 0, 0, 384, 896, 1920, 4095, 8191, 16383] [[(9, none)], [(4, none)], [(11, none)], [(35, some 1), (36, some 2)], [(37, some 3)], [(34, some 0), (38, some 4)], [(39, some 5)], [(4, none)], [(11, none)], [(41, some 7), (42, some 8)], [(43, some 9)], [(44, some 10)], [(40, some 6), (45, some 11)], [(34, some 0), (38, some 4)], [(47, some 13), (46, some 12)]] 16384 mixed (by kernel_rfl) ?_)
      refine G_step [0, 1, 2, 3, 4, 5, 6, 7, 8, 9, 10, 11, 12, 13] 14 [] (by kernel_rfl) (allM (all_cons (q_run (.slice (some ⟨B4, 0, none⟩) l.length l.length) rfl rfl (wv_n rfl) rfl (fun _ _ hρ _ => r_move (hρ _ _ rfl))) (all_cons (q_run (.int .i64 ((n : Nat) : Int)) rfl rfl (wv_n rfl) rfl (fun _ _ hρ hm => r_load ag3 (hρ _ _ rfl) (hm.at 2 rfl) rfl)) (all_cons (q_run (.int .i64 ((k : Nat) : Int)) rfl rfl (wv_n rfl) rfl (fun _ _ hρ _ => r_move (hρ _ _ rfl))) (all_cons (q_run (.int .i64 ((n + k : Nat) : Int)) rfl rfl (wv_n rfl) rfl (fun _ _ hρ _ => r_as (r_add (hρ _ _ rfl) (hρ _ _ rfl)) (int_as ((wrap64 (by omega) (by omega)).trans (by omega))))) (all_cons (q_run (.int .i64 (((n + k) / 8 : Nat) : Int)) rfl rfl (wv_n rfl) rfl (fun _ _ hρ _ => r_as (r_quo (hρ _ _ rfl) (hρ _ _ rfl) (by omega)) (int_as ((quo_i64 (by omega) (by omega) (by omega)).trans (by omega))))) (all_cons (q_run (.pointer (some ⟨B4, 0 + ((n + k) / 8) * 1, none⟩)) rfl rfl (wv_n rfl) rfl (fun _ _ hρ _ => r_indexAddrS (i := (n + k) / 8) sl29 sz5 (hρ _ _ rfl) (hρ _ _ rfl) (by omega))) (all_cons (q_run (.int .u8 ((y).toNat : Int)) rfl rfl (wv_n rfl) rfl (fun _ _ hρ hm => r_loadOwn1 (f := byc) (u := y) (l := (spoilN l n mask k)) ag5 (hρ _ _ rfl) (hm.row 4 rfl) (spoilN_len l n mask k).symm rfl byc_len hy rfl)) (all_cons (q_run (.int .i64 ((n : Nat) : Int)) rfl rfl (wv_n rfl) rfl (fun _ _ hρ hm => r_load ag3 (hρ _ _ rfl) (hm.at 2 rfl) rfl)) (all_cons (q_run (.int .i64 ((k : Nat) : Int)) rfl rfl (wv_n rfl) rfl (fun _ _ hρ _ => r_move (hρ _ _ rfl))) (all_cons (q_run (.int .i64 ((n + k : Nat) : Int)) rfl rfl (wv_n rfl) rfl (fun _ _ hρ _ => r_as (r_add (hρ _ _ rfl) (hρ _ _ rfl)) (int_as ((wrap64 (by omega) (by omega)).trans (by omega))))) (all_cons (q_run (.int .i64 (((n + k) % 8 : Nat) : Int)) rfl rfl (wv_n rfl) rfl (fun _ _ hρ _ => r_as (r_rem (hρ _ _ rfl) (hρ _ _ rfl) (by omega)) (int_as ((Int.tmod_eq_emod_of_nonneg (by omega)).trans (by omega))))) (all_cons (q_run (.int .u8 (((1#8) <<< ((n + k) % 8)).toNat : Int)) rfl rfl (wv_n rfl) rfl (fun _ _ hρ _ => r_shlB (k := .u8) (a := (1#8)) (n := (n + k) % 8) rfl (by show _ ≤ 8; omega) (hρ _ _ rfl) (hρ _ _ rfl))) (all_cons (q_run (.int .u8 ((y ^^^ ((1#8) <<< ((n + k) % 8))).toNat : Int)) rfl rfl (wv_n rfl) rfl (fun _ _ hρ _ => r_xorB (k := .u8) (a := y) (b := ((1#8) <<< ((n + k) % 8))) rfl (hρ _ _ rfl) (hρ _ _ rfl))) (all_cons (q_run (.pointer (some ⟨B4, 0 + ((n + k) / 8) * 1, none⟩)) rfl rfl (wv_n rfl) rfl (fun _ _ hρ _ => r_indexAddrS (i := (n + k) / 8) sl29 sz5 (hρ _ _ rfl) (hρ _ _ rfl) (by omega))) all_nil))))))))))))))) (allM (all_cons ?_ all_nil))
      refine LOb_storeRow (f := byc) (l := (spoilN l n mask k)) (u := y ^^^ ((1#8) <<< ((n + k) % 8))) (k := ((n + k) / 8)) 4 [] rfl (spoilN_len l n mask k).symm rfl (wv_n rfl) rfl rfl sz5 byc_len (by omega) rfl rfl (by kernel_rfl) ?_
      refine G_last [] [(4, .pointer (some ⟨B2, 0, none⟩)), (6, .slice none 0 0), (7, .int .i64 0), (8, .func (.func 32) #[] #[.pointer (some ⟨B3, 0, none⟩), .pointer (some ⟨B2, 0, none⟩), .pointer (some ⟨B1, 0, none⟩)]), (9, .slice (some ⟨B4, 0, none⟩) l.length l.length), (28, .int .i64 ((k : Nat) : Int)), (10, .bool (someN l n mask k)), (29, .bool (decide (((k : Nat) : Int) < 32))), (30, .int .i64 ((k : Nat) : Int)), (11, .int .i64 ((k : Nat) : Int)), (31, .func (.func 32) #[] #[.pointer (some ⟨B3, 0, none⟩), .pointer (some ⟨B2, 0, none⟩), .pointer (some ⟨B1, 0, none⟩)]), (32, .int .i64 ((k : Nat) : Int)), (33, .bool (isS l n mask k)), (34, .slice (some ⟨B4, 0, none⟩) l.length l.length), (35, .int .i64 ((n : Nat) : Int)), (36, .int .i64 ((k : Nat) : Int)), (37, .int .i64 ((n + k : Nat) : Int)), (38, .int .i64 (((n + k) / 8 : Nat) : Int)), (39, .pointer (some ⟨B4, 0 + ((n + k) / 8) * 1, none⟩)), (40, .int .u8 ((y).toNat : Int)), (41, .int .i64 ((n : Nat) : Int)), (42, .int .i64 ((k : Nat) : Int)), (43, .int .i64 ((n + k : Nat) : Int)), (44, .int .i64 (((n + k) % 8 : Nat) : Int)), (45, .int .u8 (((1#8) <<< ((n + k) % 8)).toNat : Int)), (46, .int .u8 ((y ^^^ ((1#8) <<< ((n + k) % 8))).toNat : Int)), (47, .pointer (some ⟨B4, 0 + ((n + k) / 8) * 1, none⟩))] (by kernel_rfl) (allM all_nil) (end_old rfl rfl (end_old rfl rfl (end_old rfl rfl (end_old rfl rfl (end_old rfl rfl (end_old rfl rfl (end_old rfl rfl (end_old rfl rfl (end_old rfl rfl (end_old rfl rfl (end_old rfl rfl (end_old rfl rfl (end_old rfl rfl (end_new 0 rfl rfl (end_new 1 rfl rfl (end_new 2 rfl rfl (end_new 3 rfl rfl (end_new 4 rfl rfl (end_new 5 rfl rfl (end_new 6 rfl rfl (end_new 7 rfl rfl (end_new 8 rfl rfl (end_new 9 rfl rfl (end_new 10 rfl rfl (end_new 11 rfl rfl (end_new 12 rfl rfl (end_new 13 rfl rfl end_nil))))))))))))))))))))))))))) ?_
      refine T_region ?_
      refine TL_q (.bool true) (fun _ _ hρ _ => r_assign (hρ _ _ rfl)) rfl rfl rfl (w_n rfl) ?_
      refine TL_nil ?_
      refine p_blk_n ?_
      refine p_seq ?_
      refine T_region ?_
      refine TL_q (.int .i64 ((k + 1 : Nat) : Int)) (fun _ _ hρ _ => r_as (r_add (hρ _ _ rfl) (hρ _ _ rfl)) (int_as ((wrap64 (by omega) (by omega)).trans (by omega)))) rfl rfl rfl (w_n rfl) ?_
      refine TL_q (.int .i64 ((k + 1 : Nat) : Int)) (fun _ _ hρ _ => r_move (hρ _ _ rfl)) rfl rfl rfl (w_n rfl) ?_
      refine TL_nil ?_
      exact p_at (k + 1) ⟨by omega, by omega⟩ (sub_cons rfl (sub_cons rfl (sub_cons rfl (sub_cons rfl (sub_cons rfl (sub_cons rfl (sub_cons (by exact congrArg (fun z : Bool => some (Value.bool z)) (some_t (isS_t h2))) sub_nil))))))) (sub_cons rfl (sub_cons rfl (sub_cons rfl (sub_cons (by exact congrArg (fun z : List By => some (Res.row _ 5 1 _ (z.flatMap byc))) (spoil_t (isS_t h2) hy)) sub_nil))))
    · skip
      refine T_skip' ?_
      refine p_blk_n ?_
      refine p_seq ?_
      refine T_region ?_
      refine TL_q (.int .i64 ((k + 1 : Nat) : Int)) (fun _ _ hρ _ => r_as (r_add (hρ _ _ rfl) (hρ _ _ rfl)) (int_as ((wrap64 (by omega) (by omega)).trans (by omega)))) rfl rfl rfl (w_n rfl) ?_
      refine TL_q (.int .i64 ((k + 1 : Nat) : Int)) (fun _ _ hρ _ => r_move (hρ _ _ rfl)) rfl rfl rfl (w_n rfl) ?_
      refine TL_nil ?_
      exact p_at (k + 1) ⟨by omega, by omega⟩ (sub_cons rfl (sub_cons rfl (sub_cons rfl (sub_cons rfl (sub_cons rfl (sub_cons rfl (sub_cons (by exact congrArg (fun z : Bool => some (Value.bool z)) (some_f (isS_f h2))) sub_nil))))))) (sub_cons rfl (sub_cons rfl (sub_cons rfl (sub_cons (by exact congrArg (fun z : List By => some (Res.row _ 5 1 _ (z.flatMap byc))) (spoil_f (isS_f h2))) sub_nil))))
  · replace h1 := of_decide_eq_false h1
    refine T_exit' ?_
    refine p_then_x ?_
    refine p_then_x ?_
    refine p_blk_x ?_
    refine p_seq ?_
    refine T_seq ?_
    refine T_seq (T_region ?_)
    refine TL_q (.bool (someN l n mask k)) (fun _ _ hρ _ => r_move (hρ _ _ rfl)) rfl rfl rfl (w_n rfl) ?_
    refine TL_q (.bool (!(someN l n mask k))) (fun _ _ hρ _ => r_not (b := someN l n mask k) (hρ _ _ rfl)) rfl rfl rfl (w_n rfl) ?_
    refine TL_seq ?_
    refine T_cond rfl (fun h3 => ?_) (fun h3 => ?_)
    · replace h3 := bnot_t h3
      refine T_seq (T_region ?_)
      refine TL_q (.slice none 0 0) (fun _ _ hρ _ => r_assign (hρ _ _ rfl)) rfl rfl rfl (w_n rfl) ?_
      refine TL_q (.int .i64 2) (fun _ _ hρ _ => r_assign (hρ _ _ rfl)) rfl rfl rfl (w_n rfl) ?_
      refine TL_seq ?_
      refine T_ret' ?_
      refine p_then_r ?_
      refine ret_of rfl (.tuple #[.slice none 0 0, .int .i64 2]) (fun tmps w hk hm => res2 rfl (res_tmp (hk 6 _ rfl)) (res_tmp (hk 7 _ rfl))) (fun w hm => ?_)
      have e0 : spoilP l n mask = none := if_neg (fun e => by have hk32 : k = 32 := (by omega); subst hk32; rw [h3] at e; exact absurd e.2 (by decide))
      rw [e0]
      exact ⟨none, 0, rfl, hm.ext, World.ownsRow_nil _ _ _ _⟩
    · replace h3 := bnot_f h3
      refine T_skip' ?_
      refine p_seq ?_
      refine T_seq (T_region ?_)
      refine TL_q (.slice (some ⟨B4, 0, none⟩) l.length l.length) (fun _ _ hρ _ => r_move (hρ _ _ rfl)) rfl rfl rfl (w_n rfl) ?_
      refine TL_q (.slice (some ⟨B4, 0, none⟩) l.length l.length) (fun _ _ hρ _ => r_assign (hρ _ _ rfl)) rfl rfl rfl (w_n rfl) ?_
      refine TL_q (.int .i64 0) (fun _ _ hρ _ => r_assign (hρ _ _ rfl)) rfl rfl rfl (w_n rfl) ?_
      refine TL_seq ?_
      refine T_ret' ?_
      refine ret_of rfl (.tuple #[.slice (some ⟨B4, 0, none⟩) l.length l.length, .int .i64 0]) (fun tmps w hk hm => res2 rfl (res_tmp (hk 6 _ rfl)) (res_tmp (hk 7 _ rfl))) (fun w hm => ?_)
      have hk32 : k = 32 := by omega
      subst hk32
      have e0 : spoilP l n mask = some (spoilN l n mask 32) := if_pos ⟨hn, h3⟩
      rw [e0]
      have hq : ((some (spoilN l n mask 32)).getD []).length = l.length := spoilN_len l n mask 32
      rw [hq]
      exact ⟨_, _, rfl, hm.ext, hm.row 4 rfl⟩

theorem spoil_out (bit : Int) (mask : Wd) (l : List By) (a : Option Addr) (cap : Nat) (w : World) (hv : SliceAt w a cap 1 byc l) (hl : l.length ≤ 1000000) (hcap : cap ≤ Go.maxLen) (hn : bit < 0 ∨ 8 * (l.length : Int) ≤ bit) : Calls Try.prog 18 #[.slice a l.length cap, .int .i64 bit, .int .u32 (mask.toNat : Int)] w fun e w' => e = .returned (.tuple #[.slice none 0 0, .int .i64 2]) ∧ Below w.heap.size w w' := by
  have hvl := hv.1
  refine calls_of_T (l := [.slice a l.length cap, .int .i64 bit, .int .u32 ((mask).toNat : Int)]) 52 Try.func18 rfl rfl rfl ?_
  show T _ _ _ [(0, .slice a l.length cap), (1, .int .i64 bit), (2, .int .u32 ((mask).toNat : Int))] []
  refine T_seq (T_region ?_)
  refine TL_new 1 (.cells #[.slice a l.length cap] 29) (fun B => .pointer (some ⟨B, 0, none⟩)) (fun _ _ hρ _ => r_box (hρ _ _ rfl) rfl) rfl rfl rfl (w_n rfl) ?_
  intro B1
  refine TL_new 2 (.cells #[.int .i64 bit] 3) (fun B => .pointer (some ⟨B, 0, none⟩)) (fun _ _ hρ _ => r_box (hρ _ _ rfl) rfl) rfl rfl rfl (w_n rfl) ?_
  intro B2
  refine TL_new 3 (.cells #[.int .u32 ((mask).toNat : Int)] 24) (fun B => .pointer (some ⟨B, 0, none⟩)) (fun _ _ hρ _ => r_box (hρ _ _ rfl) rfl) rfl rfl rfl (w_n rfl) ?_
  intro B3
  refine TL_q (.slice none 0 0) (fun _ _ hρ _ => r_assign (hρ _ _ rfl)) rfl rfl rfl (w_n rfl) ?_
  refine TL_q (.int .i64 0) (fun _ _ hρ _ => r_assign (hρ _ _ rfl)) rfl rfl rfl (w_n rfl) ?_
  refine TL_seq ?_
  refine T_seq ?_
  by_cases hb : bit < 0
  · skip
    refine T_seq (T_region ?_)
    refine TL_q (.int .i64 bit) (fun _ _ hρ hm => r_load ag3 (hρ _ _ rfl) (hm.at 2 rfl) rfl) rfl rfl rfl (w_n rfl) ?_
    refine TL_q (.bool true) (fun _ _ hρ _ => r_as (r_lss (hρ _ _ rfl) (hρ _ _ rfl)) (bool_as (decide_eq_true hb))) rfl rfl rfl (w_n rfl) ?_
    refine TL_q (.bool true) (fun _ _ hρ _ => r_move (hρ _ _ rfl)) rfl rfl rfl (w_n rfl) ?_
    refine TL_no rfl rfl (want_n 14 rfl rfl rfl) ?_
    refine TL_no rfl rfl (want_n 14 rfl rfl rfl) ?_
    refine TL_no rfl rfl (want_n 14 rfl rfl rfl) ?_
    refine TL_no rfl rfl (want_n 14 rfl rfl rfl) ?_
    refine TL_no rfl rfl (want_n 14 rfl rfl rfl) ?_
    refine TL_q (.bool true) (fun _ _ hρ _ => r_pick_t (hρ _ _ rfl) (hρ _ _ rfl)) rfl rfl rfl (w_n rfl) ?_
    refine TL_seq ?_
    refine T_cond_t rfl ?_
    refine T_seq (T_region ?_)
    refine TL_q (.slice none 0 0) (fun _ _ hρ _ => r_assign (hρ _ _ rfl)) rfl rfl rfl (w_n rfl) ?_
    refine TL_q (.int .i64 2) (fun _ _ hρ _ => r_assign (hρ _ _ rfl)) rfl rfl rfl (w_n rfl) ?_
    refine TL_seq ?_
    refine T_ret' ?_
    refine p_then_r ?_
    refine ret_of rfl (.tuple #[.slice none 0 0, .int .i64 2]) (fun tmps w hk hm => res2 rfl (res_tmp (hk 6 _ rfl)) (res_tmp (hk 7 _ rfl))) (fun w hm => ?_)
    exact ⟨rfl, hm.ext⟩
  · skip
    have hp2 : (((8 * l.length : Nat) : Int) ≤ bit) := by omega
    refine T_seq (T_region ?_)
    refine TL_q (.int .i64 bit) (fun _ _ hρ hm => r_load ag3 (hρ _ _ rfl) (hm.at 2 rfl) rfl) rfl rfl rfl (w_n rfl) ?_
    refine TL_q (.bool false) (fun _ _ hρ _ => r_as (r_lss (hρ _ _ rfl) (hρ _ _ rfl)) (bool_as (decide_eq_false hb))) rfl rfl rfl (w_n rfl) ?_
    refine TL_q (.bool false) (fun _ _ hρ _ => r_move (hρ _ _ rfl)) rfl rfl rfl (w_n rfl) ?_
    refine TL_q (.int .i64 bit) (fun _ _ hρ hm => r_load ag3 (hρ _ _ rfl) (hm.at 2 rfl) rfl) rfl rfl rfl (want_y 14 rfl rfl rfl) ?_
    refine TL_q (.slice a l.length cap) (fun _ _ hρ hm => r_load ag29 (hρ _ _ rfl) (hm.at 1 rfl) rfl) rfl rfl rfl (want_y 14 rfl rfl rfl) ?_
    refine TL_q (.int .i64 ((l.length : Nat) : Int)) (fun _ _ hρ _ => r_len sl29 (hρ _ _ rfl)) rfl rfl rfl (want_y 14 rfl rfl rfl) ?_
    refine TL_q (.int .i64 ((8 * l.length : Nat) : Int)) (fun _ _ hρ _ => r_as (r_mul (hρ _ _ rfl) (hρ _ _ rfl)) (int_as ((wrap64 (by omega) (by omega)).trans (by omega)))) rfl rfl rfl (want_y 14 rfl rfl rfl) ?_
    refine TL_q (.bool true) (fun _ _ hρ _ => r_as (r_geq (hρ _ _ rfl) (hρ _ _ rfl)) (bool_as (decide_eq_true hp2))) rfl rfl rfl (want_y 14 rfl rfl rfl) ?_
    refine TL_q (.bool true) (fun _ _ hρ _ => r_pick_f (hρ _ _ rfl) (hρ _ _ rfl)) rfl rfl rfl (w_n rfl) ?_
    refine TL_seq ?_
    refine T_cond_t rfl ?_
    refine T_seq (T_region ?_)
    refine TL_q (.slice none 0 0) (fun _ _ hρ _ => r_assign (hρ _ _ rfl)) rfl rfl rfl (w_n rfl) ?_
    refine TL_q (.int .i64 2) (fun _ _ hρ _ => r_assign (hρ _ _ rfl)) rfl rfl rfl (w_n rfl) ?_
    refine TL_seq ?_
    refine T_ret' ?_
    refine p_then_r ?_
    refine ret_of rfl (.tuple #[.slice none 0 0, .int .i64 2]) (fun tmps w hk hm => res2 rfl (res_tmp (hk 6 _ rfl)) (res_tmp (hk 7 _ rfl))) (fun w hm => ?_)
    exact ⟨rfl, hm.ext⟩

theorem rspoil_out (bit : Int) (mask : Wd) (l : List By) (a : Option Addr) (cap : Nat) (w : World) (hv : SliceAt w a cap 1 byc l) (hl : l.length ≤ 1000000) (hcap : cap ≤ Go.maxLen) (hn : bit < 0 ∨ 8 * (l.length : Int) ≤ bit) : Calls Try.prog 19 #[.slice a l.length cap, .int .i64 bit, .int .u32 (mask.toNat : Int)] w fun e w' => e = .returned (.tuple #[.slice none 0 0, .bool false]) ∧ Below w.heap.size w w' := by
  have hvl := hv.1
  refine calls_of_T (l := [.slice a l.length cap, .int .i64 bit, .int .u32 ((mask).toNat : Int)]) 79 Try.func19 rfl rfl rfl ?_
  show T _ _ _ [(0, .slice a l.length cap), (1, .int .i64 bit), (2, .int .u32 ((mask).toNat : Int))] []
  refine T_seq (T_region ?_)
  refine TL_q (.slice none 0 0) (fun _ _ hρ _ => r_assign (hρ _ _ rfl)) rfl rfl rfl (w_n rfl) ?_
  refine TL_q (.bool false) (fun _ _ hρ _ => r_assign (hρ _ _ rfl)) rfl rfl rfl (w_n rfl) ?_
  refine TL_seq ?_
  refine T_seq ?_
  by_cases hb : bit < 0
  · skip
    refine T_seq (T_region ?_)
    refine TL_q (.int .i64 bit) (fun _ _ hρ _ => r_move (hρ _ _ rfl)) rfl rfl rfl (w_n rfl) ?_
    refine TL_q (.bool true) (fun _ _ hρ _ => r_as (r_lss (hρ _ _ rfl) (hρ _ _ rfl)) (bool_as (decide_eq_true hb))) rfl rfl rfl (w_n rfl) ?_
    refine TL_q (.bool true) (fun _ _ hρ _ => r_move (hρ _ _ rfl)) rfl rfl rfl (w_n rfl) ?_
    refine TL_no rfl rfl (want_n 15 rfl rfl rfl) ?_
    refine TL_no rfl rfl (want_n 15 rfl rfl rfl) ?_
    refine TL_no rfl rfl (want_n 15 rfl rfl rfl) ?_
    refine TL_no rfl rfl (want_n 15 rfl rfl rfl) ?_
    refine TL_no rfl rfl (want_n 15 rfl rfl rfl) ?_
    refine TL_q (.bool true) (fun _ _ hρ _ => r_pick_t (hρ _ _ rfl) (hρ _ _ rfl)) rfl rfl rfl (w_n rfl) ?_
    refine TL_seq ?_
    refine T_cond_t rfl ?_
    refine T_seq (T_region ?_)
    refine TL_q (.slice none 0 0) (fun _ _ hρ _ => r_assign (hρ _ _ rfl)) rfl rfl rfl (w_n rfl) ?_
    refine TL_q (.bool false) (fun _ _ hρ _ => r_assign (hρ _ _ rfl)) rfl rfl rfl (w_n rfl) ?_
    refine TL_seq ?_
    refine T_ret' ?_
    refine p_then_r ?_
    refine ret_of rfl (.tuple #[.slice none 0 0, .bool false]) (fun tmps w hk hm => res2 rfl (res_tmp (hk 6 _ rfl)) (res_tmp (hk 7 _ rfl))) (fun w hm => ?_)
    exact ⟨rfl, hm.ext⟩
  · skip
    have hp2 : (((8 * l.length : Nat) : Int) ≤ bit) := by omega
    refine T_seq (T_region ?_)
    refine TL_q (.int .i64 bit) (fun _ _ hρ _ => r_move (hρ _ _ rfl)) rfl rfl rfl (w_n rfl) ?_
    refine TL_q (.bool false) (fun _ _ hρ _ => r_as (r_lss (hρ _ _ rfl) (hρ _ _ rfl)) (bool_as (decide_eq_false hb))) rfl rfl rfl (w_n rfl) ?_
    refine TL_q (.bool false) (fun _ _ hρ _ => r_move (hρ _ _ rfl)) rfl rfl rfl (w_n rfl) ?_
    refine TL_q (.int .i64 bit) (fun _ _ hρ _ => r_move (hρ _ _ rfl)) rfl rfl rfl (want_y 15 rfl rfl rfl) ?_
    refine TL_q (.slice a l.length cap) (fun _ _ hρ _ => r_move (hρ _ _ rfl)) rfl rfl rfl (want_y 15 rfl rfl rfl) ?_
    refine TL_q (.int .i64 ((l.length : Nat) : Int)) (fun _ _ hρ _ => r_len sl29 (hρ _ _ rfl)) rfl rfl rfl (want_y 15 rfl rfl rfl) ?_
    refine TL_q (.int .i64 ((8 * l.length : Nat) : Int)) (fun _ _ hρ _ => r_as (r_mul (hρ _ _ rfl) (hρ _ _ rfl)) (int_as ((wrap64 (by omega) (by omega)).trans (by omega)))) rfl rfl rfl (want_y 15 rfl rfl rfl) ?_
    refine TL_q (.bool true) (fun _ _ hρ _ => r_as (r_geq (hρ _ _ rfl) (hρ _ _ rfl)) (bool_as (decide_eq_true hp2))) rfl rfl rfl (want_y 15 rfl rfl rfl) ?_
    refine TL_q (.bool true) (fun _ _ hρ _ => r_pick_f (hρ _ _ rfl) (hρ _ _ rfl)) rfl rfl rfl (w_n rfl) ?_
    refine TL_seq ?_
    refine T_cond_t rfl ?_
    refine T_seq (T_region ?_)
    refine TL_q (.slice none 0 0) (fun _ _ hρ _ => r_assign (hρ _ _ rfl)) rfl rfl rfl (w_n rfl) ?_
    refine TL_q (.bool false) (fun _ _ hρ _ => r_assign (hρ _ _ rfl)) rfl rfl rfl (w_n rfl) ?_
    refine TL_seq ?_
    refine T_ret' ?_
    refine p_then_r ?_
    refine ret_of rfl (.tuple #[.slice none 0 0, .bool false]) (fun tmps w hk hm => res2 rfl (res_tmp (hk 6 _ rfl)) (res_tmp (hk 7 _ rfl))) (fun w hm => ?_)
    exact ⟨rfl, hm.ext⟩
end Go.Proofs.Ytnjcffhpfmnbfaa
