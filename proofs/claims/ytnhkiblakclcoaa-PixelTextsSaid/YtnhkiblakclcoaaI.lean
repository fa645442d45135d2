/- pixel: digit, Read. -/
import Derived.Test.YtnhkiblakclcoaaD
import Derived.Laws.RangeAny
import Derived.Test.YtnhkiblakclcoaaRec
namespace Go.Proofs.Ytnhkiblakclcoaa
open Go.RowKit
attribute [local go_sem] Oper.semAt_some
attribute [local go_sem] Nat.add_assoc wide_fn wide_depth

def hexv (c : Int) : Option Int := if 48 ≤ c ∧ c ≤ 57 then some (c - 48) else if 97 ≤ c ∧ c ≤ 102 then some (c - 87) else none
abbrev noneP : List PanicEntry := [{ v := .iface 66 (.agg #[]), recovered := false }]

set_option maxHeartbeats 400000 in
theorem digit_ok (c d : Int) (w : World) (h : hexv c = some d) :
    Calls Try.prog 33 #[.int .i32 c] w fun e w' => e = .returned (.int .u32 d) ∧ w = w' := by
  unfold hexv at h
  by_cases h1 : 48 ≤ c ∧ c ≤ 57
  · rw [if_pos h1] at h
    obtain ⟨h1, h2⟩ := h1
    simp at h
    go_enter Try.func33, Try.ntmps33
    have Hd := Lib.hid h
    clear h
    go_wp2
    go_ret
    exact ⟨ret_int (by have := Hd.out; omega), rfl⟩
  · rw [if_neg h1] at h
    by_cases h2 : 97 ≤ c ∧ c ≤ 102
    · rw [if_pos h2] at h
      obtain ⟨h3, h4⟩ := h2
      simp at h
      have Hd := Lib.hid h
      have h5 : ¬ c ≤ 57 := by omega
      have h6 : 48 ≤ c := by omega
      clear h h1
      go_enter Try.func33, Try.ntmps33
      go_wp2
      go_ret
      exact ⟨ret_int (by have := Hd.out; omega), rfl⟩
    · rw [if_neg h2] at h; cases h

set_option maxHeartbeats 400000 in
theorem digit_bad (c : Int) (w : World) (h : hexv c = none) :
    Calls Try.prog 33 #[.int .i32 c] w fun e w' => e = .panicked noneP ∧ w = w' := by
  unfold hexv at h
  have h1 : ¬ (48 ≤ c ∧ c ≤ 57) := fun hh => by rw [if_pos hh] at h; cases h
  rw [if_neg h1] at h
  have h2 : ¬ (97 ≤ c ∧ c ≤ 102) := fun hh => by rw [if_pos hh] at h; cases h
  clear h
  have : c < 48 ∨ (57 < c ∧ c < 97) ∨ 102 < c := by omega
  rcases this with h3 | ⟨h3, h4⟩ | h3
  · clear h1 h2
    have h5 : ¬ 48 ≤ c := by omega
    have h6 : ¬ 97 ≤ c := by omega
    go_enter Try.func33, Try.ntmps33
    go_wp2
    exact ⟨rfl, rfl, rfl⟩
  · clear h1 h2
    have h5 : 48 ≤ c := by omega
    have h6 : ¬ c ≤ 57 := by omega
    have h7 : ¬ 97 ≤ c := by omega
    go_enter Try.func33, Try.ntmps33
    go_wp2
    exact ⟨rfl, rfl, rfl⟩
  · clear h1 h2
    have h5 : 48 ≤ c := by omega
    have h6 : ¬ c ≤ 57 := by omega
    have h7 : 97 ≤ c := by omega
    have h8 : ¬ c ≤ 102 := by omega
    go_enter Try.func33, Try.ntmps33
    go_wp2
    exact ⟨rfl, rfl, rfl⟩

/-- The deferred closure, behind a panic: it is recovered; the error is laid. -/
theorem read1_panicking (A B N : Nat) (w : World) (hNA : N ≤ A) (hNB : N ≤ B) (hA : hp w A = some (.cells #[.int .u8 0, .int .u8 0, .int .u8 0, .int .u8 0] 27)) (hB : hp w B = some (.cells #[.int .i64 0] 32)) (hAB : A ≠ B) :
    CallsD Try.prog 32 #[.pointer (some ⟨A, 0, none⟩), .pointer (some ⟨B, 0, none⟩)] (.panicking noneP) w fun e u' w' =>
      e = .returned (.tuple #[]) ∧ u' = .panicking [{ v := .iface 66 (.agg #[]), recovered := true }] ∧ Below N w w' ∧ hp w' A = some (.cells #[.int .u8 0, .int .u8 0, .int .u8 0, .int .u8 0] 27) ∧ hp w' B = some (.cells #[.int .i64 130] 32) := by
  obtain ⟨a0, a1, a2, a3, af⟩ := cells4 hA
  obtain ⟨b0, bf⟩ := cells1 hB
  refine callsD_of_wpS Try.func32 rfl fun c₀ cs hu => ?_
  simp only [Try.ntmps32, List.size_toArray, List.length_cons, List.length_nil, Nat.reduceAdd, Nat.reduceSub, Array.replicate_succ, Array.replicate_zero, List.push_toArray, List.append_toArray, List.nil_append, List.cons_append]
  apply wpS_seq
  apply wpS_region
  simp [wpOpsS, go_sem, recoverD, hu, Exit.thenS]
  refine wpS_plain (fun w' => Below N w w' ∧ hp w' A = some (.cells #[.int .u8 0, .int .u8 0, .int .u8 0, .int .u8 0] 27) ∧ hp w' B = some (.cells #[.int .i64 130] 32)) rfl ?_ ?_
  · have hAB' : ¬ A = B := hAB
    have HA := Lib.hid (And.intro hA hB)
    clear hA hB
    have hta : ∀ w, (Instr.typeAssert (.iface 66 (.agg #[])) 20 66 true).run Try.prog w = .ok (.tuple #[.agg #[], .bool true]) w := fun _ => by kernel_rfl
    have hAl : A < w.heap.size := hp_lt HA.out.1
    have hBl : B < w.heap.size := hp_lt HA.out.2
    go_wp2
    obtain ⟨hA, hB⟩ := HA.out
    have hBA' : ¬ B = A := fun e => hAB e.symm
    refine ⟨rfl, ?_, ?_, ?_⟩
    · refine Below.alloc ?_ (by simp; omega) _
      exact (((((Below.refl N w).setCell (p := ⟨A, 0, none⟩) hNA _).setCell (p := ⟨A, 1, none⟩) hNA _).setCell (p := ⟨A, 2, none⟩) hNA _).setCell (p := ⟨A, 3, none⟩) hNA _).setCell (p := ⟨B, 0, none⟩) hNB _
    · refine hp_old _ ?_
      simp [hp_setCell, hA, Obj.put, hAB']
    · refine hp_old _ ?_
      simp [hp_setCell, hB, Obj.put, hBA']
  · intro w' hw'
    exact ⟨rfl, rfl, hw'⟩
theorem read1_idle (A B : Nat) (w : World) :
    CallsD Try.prog 32 #[.pointer (some ⟨A, 0, none⟩), .pointer (some ⟨B, 0, none⟩)] .returning w fun e u' w' =>
      e = .returned (.tuple #[]) ∧ u' = .returning ∧ w = w' := by
  refine callsD_of_wpS Try.func32 rfl fun c₀ cs hu => ?_
  simp only [Try.ntmps32, List.size_toArray, List.length_cons, List.length_nil, Nat.reduceAdd, Nat.reduceSub, Array.replicate_succ, Array.replicate_zero, List.push_toArray, List.append_toArray, List.nil_append, List.cons_append]
  apply wpS_seq
  apply wpS_region
  simp [wpOpsS, go_sem, recoverD, hu, Exit.thenS]
  rw [← frame_mode c₀ hu]
  refine wpS_plain (fun w' => w = w') rfl ?_ ?_
  · go_wp2_with fail
    exact ⟨rfl, rfl⟩
  · intro w' hw'
    exact ⟨rfl, rfl, hw'⟩

/-- What is read so far. -/
def readW : List Int → Option Int
  | [] => some 0
  | c :: l => match readW l, hexv c with
    | some x, some d => some (x * 16 + d)
    | _, _ => none
/-- A text's bytes, the last one first. -/
def revB (s : ByteArray) (k : Nat) : List Int := ((s.data.toList.take k).map fun b : UInt8 => (b.toNat : Int)).reverse
theorem hexv_bd {c d : Int} (h : hexv c = some d) : 0 ≤ d ∧ d ≤ 15 ∧ 0 ≤ c ∧ c ≤ 102 := by
  unfold hexv at h
  split at h
  · simp at h; omega
  · split at h
    · simp at h; omega
    · cases h
theorem readW_bd : ∀ {l : List Int} {x : Int}, readW l = some x → 0 ≤ x ∧ x < 16 ^ l.length
  | [], x, h => by simp [readW] at h; subst h; simp
  | c :: l, x, h => by
    unfold readW at h
    cases h1 : readW l with
    | none => simp [h1] at h
    | some y =>
      cases h2 : hexv c with
      | none => simp [h1, h2] at h
      | some d =>
        simp [h1, h2] at h
        have h3 := readW_bd h1
        have h4 := hexv_bd h2
        rw [List.length_cons, Int.pow_succ]
        omega
/-- What a text's colour is, as a word. -/
def readC (s : ByteArray) : Option Int := if s.size = 8 then readW (revB s 8) else none
theorem revB_succ (s : ByteArray) (k : Nat) (h : k < s.size) : revB s (k + 1) = ((s[k]'h).toNat : Int) :: revB s k := by
  unfold revB
  rw [List.take_succ_eq_append_getElem (by simpa using h)]
  simp
  rfl
theorem revB_len (s : ByteArray) (k : Nat) (h : k ≤ s.size) : (revB s k).length = k := by
  unfold revB
  rw [List.length_reverse, List.length_map, List.length_take]
  exact Nat.min_eq_left h
theorem readW_none_mono (s : ByteArray) {k : Nat} (h : readW (revB s k) = none) : ∀ j, k ≤ j → j ≤ s.size → readW (revB s j) = none := by
  intro j hj hjs
  induction j with
  | zero => have : k = 0 := by omega
            subst this; exact h
  | succ j ih =>
    rcases Nat.lt_or_ge k (j + 1) with h1 | h1
    · rw [revB_succ s j (by omega), readW, ih (by omega) (by omega)]
    · have : k = j + 1 := by omega
      subst this; exact h
theorem or_16 (p x : Int) (h0 : 0 ≤ p) (h1 : p ≤ 268435455) (x0 : 0 ≤ x) (x1 : x ≤ 15) : bits BinOp.or IntKind.u32 (p * 16) x = p * 16 + x := by
  obtain ⟨a, rfl⟩ := Int.eq_ofNat_of_zero_le h0
  obtain ⟨b, rfl⟩ := Int.eq_ofNat_of_zero_le x0
  have e : ((a : Int) * 16) = ((a * 16 : Nat) : Int) := by omega
  rw [e, u32_or_nat _ _ (by omega) (by omega)]
  have := Nat.shiftLeft_add_eq_or_of_lt (i := 4) (show b < 2 ^ 4 by omega) a
  rw [Nat.shiftLeft_eq] at this
  rw [show a * 16 ||| b = a * 16 + b from this.symm]
  omega

set_option maxHeartbeats 1000000 in
theorem read_len (s : ByteArray) (w : World) (h : s.size ≠ 8) (hm : s.size ≤ maxLen) :
    Calls Try.prog 15 #[.string s] w fun e w' => e = .returned (.tuple #[col 0 0 0 0, .int .i64 130]) ∧ Below w.heap.size w w' := by
  have hmf : ∀ (fn : Fn) (first cap : Array Value) (w : World), (Instr.makeFunc fn first cap).run Try.prog w = .ok (.func fn first cap) w := fun _ _ _ _ => rfl
  unfold maxLen at hm
  have hne : (((s.size : Int)) != 8) = true := by simp; omega
  clear h
  go_enter_defers Try.func15, Try.ntmps15
  go_wp2
  refine leaves_cons (f := 32) (args := #[.pointer (some ⟨w.heap.size, 0, none⟩), .pointer (some ⟨w.heap.size + 1, 0, none⟩)]) (by simp) (by simp [go_sem]) ?_
  refine (read1_idle _ _ _).mono ?_
  rintro e u' w'' ⟨rfl, rfl, rfl⟩
  simp [Leaves, settle, results, Try.results15, go_sem]
  exact ((Below.refl _ _).alloc (Nat.le_refl _) _).alloc (by simp) _

set_option maxHeartbeats 4000000 in
theorem read_8 (s : ByteArray) (w : World) (h : s.size = 8) :
    Calls Try.prog 15 #[.string s] w fun e w' => (∀ x, readC s = some x → e = .returned (.tuple #[col (x / 16777216) (x / 65536 % 256) (x / 256 % 256) (x % 256), .int .i64 0])) ∧
      (readC s = none → e = .returned (.tuple #[col 0 0 0 0, .int .i64 130])) ∧ Below w.heap.size w w' := by
  have hmf : ∀ (fn : Fn) (first cap : Array Value) (w : World), (Instr.makeFunc fn first cap).run Try.prog w = .ok (.func fn first cap) w := fun _ _ _ _ => rfl
  have hne : (((s.size : Int)) != 8) = false := by simp [h]
  have HR := Lib.hid (show readC s = readW (revB s 8) from by unfold readC; rw [if_pos h])
  have Hs := Lib.hid h
  clear h
  obtain ⟨N, hN⟩ : ∃ N, w.heap.size = N := ⟨_, rfl⟩
  rw [hN]
  go_enter_defers Try.func15, Try.ntmps15
  go_wp2_with fail
  obtain ⟨W, hW⟩ : ∃ W, (w.alloc (.cells #[.int .u8 0, .int .u8 0, .int .u8 0, .int .u8 0] 27)).alloc (.cells #[.int .i64 0] 32) = W := ⟨_, rfl⟩
  have hWs : W.heap.size = N + 2 := by rw [← hW]; simp [hN]
  have hA : hp W N = some (.cells #[.int .u8 0, .int .u8 0, .int .u8 0, .int .u8 0] 27) := by rw [← hW]; simp [hp_alloc, hN]
  have hB : hp W (N + 1) = some (.cells #[.int .i64 0] 32) := by rw [← hW]; simp [hp_alloc, hN]
  have hbel : Below N w W := by rw [← hW]; exact ((Below.refl _ _).alloc (by omega) _).alloc (by simp; omega) _
  rw [hW]
  clear hW
  have HB := Lib.hid (And.intro hbel (And.intro hA hB))
  have hnx : ∀ (pos : Nat) (h : pos < s.size) (ty : TypeId), (Instr.next (.pointer (some ⟨N + 2, 0, none⟩)) true ty).run Try.prog (W.iter s pos) = .ok (.tuple #[.bool true, .int .i64 pos, .int .i32 (Utf8.decode s pos).1]) (W.iter s (pos + (Utf8.decode s pos).2)) := by
    intro pos h ty; rw [← hWs]; exact run_next_any W s pos ty h
  have hend : ∀ (ty : TypeId), (Instr.next (.pointer (some ⟨N + 2, 0, none⟩)) true ty).run Try.prog (W.iter s 8) = .ok (.tuple #[.bool false]) (W.iter s 8) := by
    intro ty; rw [← hWs]; exact run_next_end W s 8 ty (by have := Hs.out; omega)
  have Hnx := Lib.hid hnx
  clear hbel hA hB hnx
  go_loopw [4] (fun t wr => ∃ (k : Nat) (x : Int), k ≤ 8 ∧ readW (revB s k) = some x ∧ t = .int .u32 x ∧ wr = W.iter s k) (fun _ wr => 8 - wr.iterPos (N + 2))
  case atStart => exact ⟨0, 0, by omega, by simp [revB, readW], rfl, rfl⟩
  case round =>
    obtain ⟨k, x, hk, hx, rfl, rfl⟩ := hrel
    have hpos : (W.iter s k).iterPos (N + 2) = k := by rw [← hWs]; exact World.iterPos_iter W s k
    have Hpos := Lib.hid hpos
    clear hpos
    rcases Nat.lt_or_ge k 8 with hlt | hge
    · have hks : k < s.size := by have := Hs.out; omega
      obtain ⟨x0, x1⟩ := readW_bd hx
      have hlen : (revB s k).length = k := revB_len s k (by omega)
      have hx1 : x ≤ 268435455 := by
        rw [hlen] at x1
        have : (16 : Int) ^ k ≤ 16 ^ 7 := by
          have := Nat.pow_le_pow_right (show 0 < 16 by omega) (show k ≤ 7 by omega)
          exact_mod_cast this
        omega
      obtain ⟨c, hc⟩ : ∃ c : Int, ((s[k]'hks).toNat : Int) = c := ⟨_, rfl⟩
      have hsucc := revB_succ s k hks
      rw [hc] at hsucc
      cases hd : hexv c with
      | some d =>
        obtain ⟨d0, d1, c0, c1⟩ := hexv_bd hd
        have ha : (s[k]'hks).toNat < 128 := by omega
        have hdec := decode_ascii s k hks ha
        have hn1 := Hnx.out k hks
        rw [hdec] at hn1
        simp only [hc] at hn1
        have hxs : readW (revB s (k + 1)) = some (x * 16 + d) := by rw [hsucc, readW, hx, hd]
        have Hx := Lib.hid hxs
        have HX := Lib.hid hx
        have Hd := Lib.hid hd
        clear x1 hx hsucc hdec hc ha hlen hxs hd hend hne
        go_wp2_with (go_at_call 33; refine (digit_ok c d _ Hd.out).mono ?_; rintro e w' ⟨rfl, rfl⟩)
        rw [or_16 x d x0 hx1 d0 d1]
        go_roundw
        case rel => exact ⟨k + 1, _, by omega, Hx.out, rfl, rfl⟩
        case measure =>
          have h1 : (W.iter s (k + 1)).iterPos (N + 2) = k + 1 := by rw [← hWs]; exact World.iterPos_iter W s (k + 1)
          rw [h1, Hpos.out]; omega
      | none =>
        have hdn : hexv ((Utf8.decode s k).1 : Int) = none := by
          by_cases ha : (s[k]'hks).toNat < 128
          · rw [decode_ascii s k hks ha]; simp only [hc]; exact hd
          · have := (decode_high s k hks (by omega)).1
            unfold hexv
            rw [if_neg (by omega), if_neg (by omega)]
        have hn1 := Hnx.out k hks
        have hfin : readC s = none := by
          rw [HR.out]
          refine readW_none_mono s (k := k + 1) ?_ 8 (by omega) (by have := Hs.out; omega)
          rw [hsucc, readW, hx, hd]
        have Hf := Lib.hid hfin
        have Hd := Lib.hid hdn
        generalize (Utf8.decode s k).1 = cc at *
        generalize (Utf8.decode s k).2 = ww at *
        clear x1 hx hsucc hlen hd hend hne hfin hdn hc
        go_wp2_with (go_at_call 33; refine (digit_bad _ _ Hd.out).mono ?_; rintro e w' ⟨rfl, rfl⟩)
        obtain ⟨hbel, hA, hB⟩ := HB.out
        refine leaves_cons (f := 32) (args := #[.pointer (some ⟨N, 0, none⟩), .pointer (some ⟨N + 1, 0, none⟩)]) (by simp) (by simp [go_sem]) ?_
        refine (read1_panicking N (N + 1) N _ (by omega) (by omega) (hp_old _ hA) (hp_old _ hB) (by omega)).mono ?_
        rintro e u' w'' ⟨rfl, rfl, hb2, hA2, hB2⟩
        obtain ⟨a0, a1, a2, a3, _⟩ := cells4 hA2
        obtain ⟨b0, _⟩ := cells1 hB2
        have hb3 : Below N w w'' := (hbel.alloc (by omega) _).trans hb2
        simp [Leaves, settle, results, Try.results15, go_sem, a0, a1, a2, a3, b0]
        exact ⟨fun x hx => (by rw [Hf.out] at hx; cases hx), hb3⟩
    · have hk8 : k = 8 := by omega
      subst hk8
      obtain ⟨x0, x1⟩ := readW_bd hx
      have hlen : (revB s 8).length = 8 := revB_len s 8 (by have := Hs.out; omega)
      rw [hlen] at x1
      have h16 : (16 : Int) ^ 8 = 4294967296 := by decide
      have hx1 : x ≤ 4294967295 := by omega
      have hfin : readC s = some x := by rw [HR.out]; exact hx
      have Hf := Lib.hid hfin
      clear x1 hx hlen hne hfin h16
      go_wp2_with (go_at_call 14; refine (unpack_any x _ x0 hx1).mono ?_)
      rintro e w2 ⟨rfl, hb2⟩
      obtain ⟨hbel, hA, hB⟩ := HB.out
      replace hA := kept hb2 (hp_old _ hA)
      replace hB := kept hb2 (hp_old _ hB)
      replace hbel := below_call (hbel.alloc (by omega) _) (by omega) hb2
      clear hb2
      obtain ⟨a0, a1, a2, a3, af⟩ := cells4 hA
      obtain ⟨b0, bf⟩ := cells1 hB
      have HB := Lib.hid (And.intro hbel (And.intro hA hB))
      clear hbel hA hB
      go_wp2
      obtain ⟨hbel, hA, hB⟩ := HB.out
      have hA3 : hp (((((w2.setCell ⟨N, 0, none⟩ (.int .u8 (x / 16777216))).setCell ⟨N, 1, none⟩ (.int .u8 (x / 65536 % 256))).setCell ⟨N, 2, none⟩ (.int .u8 (x / 256 % 256))).setCell ⟨N, 3, none⟩ (.int .u8 (x % 256))).setCell ⟨N + 1, 0, none⟩ (.int .i64 0)) N
          = some (.cells #[.int .u8 (x / 16777216), .int .u8 (x / 65536 % 256), .int .u8 (x / 256 % 256), .int .u8 (x % 256)] 27) := by simp [hp_setCell, hA, Obj.put]
      have hB3 : hp (((((w2.setCell ⟨N, 0, none⟩ (.int .u8 (x / 16777216))).setCell ⟨N, 1, none⟩ (.int .u8 (x / 65536 % 256))).setCell ⟨N, 2, none⟩ (.int .u8 (x / 256 % 256))).setCell ⟨N, 3, none⟩ (.int .u8 (x % 256))).setCell ⟨N + 1, 0, none⟩ (.int .i64 0)) (N + 1)
          = some (.cells #[.int .i64 0] 32) := by simp [hp_setCell, hB, Obj.put]
      have hb3 : Below N w (((((w2.setCell ⟨N, 0, none⟩ (.int .u8 (x / 16777216))).setCell ⟨N, 1, none⟩ (.int .u8 (x / 65536 % 256))).setCell ⟨N, 2, none⟩ (.int .u8 (x / 256 % 256))).setCell ⟨N, 3, none⟩ (.int .u8 (x % 256))).setCell ⟨N + 1, 0, none⟩ (.int .i64 0)) :=
        ((((hbel.setCell (p := ⟨N, 0, none⟩) (by simp) _).setCell (p := ⟨N, 1, none⟩) (by simp) _).setCell (p := ⟨N, 2, none⟩) (by simp) _).setCell (p := ⟨N, 3, none⟩) (by simp) _).setCell (p := ⟨N + 1, 0, none⟩) (by simp) _
      refine leaves_cons (f := 32) (args := #[.pointer (some ⟨N, 0, none⟩), .pointer (some ⟨N + 1, 0, none⟩)]) (by simp) (by simp [go_sem]) ?_
      refine (read1_idle _ _ _).mono ?_
      rintro e u' w'' ⟨rfl, rfl, rfl⟩
      generalize (((((w2.setCell ⟨N, 0, none⟩ (.int .u8 (x / 16777216))).setCell ⟨N, 1, none⟩ (.int .u8 (x / 65536 % 256))).setCell ⟨N, 2, none⟩ (.int .u8 (x / 256 % 256))).setCell ⟨N, 3, none⟩ (.int .u8 (x % 256))).setCell ⟨N + 1, 0, none⟩ (.int .i64 0)) = W3 at *
      obtain ⟨d0, d1, d2, d3, _⟩ := cells4 hA3
      obtain ⟨e0, _⟩ := cells1 hB3
      simp [Leaves, settle, results, Try.results15, go_sem, d0, d1, d2, d3, e0]
      refine ⟨fun y hy => ?_, fun hy => ?_, hb3⟩
      · rw [Hf.out] at hy
        simp at hy
        subst hy
        exact ⟨rfl, rfl, rfl, rfl⟩
      · rw [Hf.out] at hy; cases hy
end Go.Proofs.Ytnhkiblakclcoaa
