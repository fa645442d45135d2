/- pixel: colours as texts: the two ways answer alike. -/
import Derived.Test.YtnhkiblakclcoaaTxtRef
namespace Go.Proofs.Ytnhkiblakclcoaa
open Go.RowKit
def hx (k : Nat) : UInt8 := UInt8.ofNat (hexd ((k : Nat) : Int)).toNat
theorem hexT_eq (n : Nat) (h : n < 256) : hexT n = ⟨#[hx (n / 16), hx (n % 16)]⟩ := by
  have key : ∀ n : Fin 256, (hexT n.val).data = #[hx (n.val / 16), hx (n.val % 16)] := by decide +kernel
  exact ByteArray.ext (key ⟨n, h⟩)
theorem text_eq (c : C4) (h : c.ok) : strOf (textN c.r c.g c.b c.a 4) = textT c := by
  obtain ⟨r, g, b, a⟩ := c
  obtain ⟨⟨a1, a2⟩, ⟨a3, a4⟩, ⟨a5, a6⟩, ⟨a7, a8⟩⟩ := h
  dsimp only at *
  obtain ⟨r, rfl⟩ := Int.eq_ofNat_of_zero_le a1
  obtain ⟨g, rfl⟩ := Int.eq_ofNat_of_zero_le a3
  obtain ⟨b, rfl⟩ := Int.eq_ofNat_of_zero_le a5
  obtain ⟨a, rfl⟩ := Int.eq_ofNat_of_zero_le a7
  unfold textT
  dsimp only
  rw [Int.toNat_natCast, Int.toNat_natCast, Int.toNat_natCast, Int.toNat_natCast, hexT_eq r (by omega), hexT_eq g (by omega), hexT_eq b (by omega), hexT_eq a (by omega)]
  rfl
theorem pack_eq (c : C4) : packN c.r c.g c.b c.a 4 = packC c := rfl
theorem pack_un (x : Int) (h0 : 0 ≤ x) (h1 : x ≤ 4294967295) : packC ⟨x / 16777216, x / 65536 % 256, x / 256 % 256, x % 256⟩ = x := by
  unfold packC; dsimp only; omega
theorem un_ok (x : Int) (h0 : 0 ≤ x) (h1 : x ≤ 4294967295) : (⟨x / 16777216, x / 65536 % 256, x / 256 % 256, x % 256⟩ : C4).ok :=
  ⟨⟨by dsimp only; omega, by dsimp only; omega⟩, ⟨by dsimp only; omega, by dsimp only; omega⟩, ⟨by dsimp only; omega, by dsimp only; omega⟩, ⟨by dsimp only; omega, by dsimp only; omega⟩⟩
theorem un_pack (c : C4) (h : c.ok) : col (packC c / 16777216) (packC c / 65536 % 256) (packC c / 256 % 256) (packC c % 256) = c.v := by
  obtain ⟨⟨a1, a2⟩, ⟨a3, a4⟩, ⟨a5, a6⟩, ⟨a7, a8⟩⟩ := h
  show col _ _ _ _ = col _ _ _ _
  have e1 : packC c / 16777216 = c.r := by unfold packC; omega
  have e2 : packC c / 65536 % 256 = c.g := by unfold packC; omega
  have e3 : packC c / 256 % 256 = c.b := by unfold packC; omega
  have e4 : packC c % 256 = c.a := by unfold packC; omega
  rw [e1, e2, e3, e4]
theorem find_some {b : ByteArray} {m : Nat} : ∀ n, findT b n = some m → m < n ∧ (hexT m).toList = b.toList
  | 0, h => by cases h
  | n + 1, h => by
    cases hc : (hexT n).toList == b.toList
    · rw [find_f hc] at h
      obtain ⟨h1, h2⟩ := find_some n h
      exact ⟨by omega, h2⟩
    · rw [find_t hc] at h
      cases h
      exact ⟨by omega, eq_of_beq hc⟩
theorem find_none {b : ByteArray} : ∀ n, findT b n = none → ∀ m, m < n → (hexT m).toList ≠ b.toList
  | 0, _, m, hm => by omega
  | n + 1, h, m, hm => by
    cases hc : (hexT n).toList == b.toList
    · rw [find_f hc] at h
      rcases Nat.lt_or_ge m n with h1 | h1
      · exact find_none n h m h1
      · have : m = n := by omega
        subst this
        intro e
        rw [e, beq_self_eq_true] at hc
        cases hc
    · rw [find_t hc] at h
      cases h
theorem fnd_val {b : ByteArray} (h : fnd b = true) : val b < 256 ∧ (hexT (val b)).toList = b.toList := by
  unfold fnd at h
  unfold val
  cases hf : findT b 256 with
  | none => rw [hf] at h; cases h
  | some m => exact find_some 256 hf
theorem fnd_of {b : ByteArray} {m : Nat} (hm : m < 256) (h : (hexT m).toList = b.toList) : fnd b = true := by
  unfold fnd
  cases hf : findT b 256 with
  | none => exact absurd h (find_none 256 hf m hm)
  | some m => rfl
theorem hx_hexv (d : Nat) (h : d < 16) : hexv ((hx d).toNat : Int) = some ((d : Nat) : Int) := by
  have key : ∀ d : Fin 16, hexv ((hx d.val).toNat : Int) = some ((d.val : Nat) : Int) := by decide +kernel
  exact key ⟨d, h⟩
theorem hexv_hx (x : UInt8) (d : Int) (h : hexv (x.toNat : Int) = some d) : ∃ n : Nat, n < 16 ∧ hx n = x := by
  have key : ∀ x : Fin 256, (hexv ((x.val : Nat) : Int)).isSome = true → hx ((hexv ((x.val : Nat) : Int)).getD 0).toNat = UInt8.ofNat x.val := by decide +kernel
  have := key ⟨x.toNat, x.toNat_lt⟩
  dsimp only at this
  rw [h] at this
  have hb := hexv_bd h
  refine ⟨d.toNat, by omega, ?_⟩
  have := this rfl
  simpa using this
theorem two {b : ByteArray} {x y : UInt8} (hb : b.toList = [x, y]) (h : fnd b = true) : val b < 256 ∧ hexv (x.toNat : Int) = some ((val b / 16 : Nat) : Int) ∧ hexv (y.toNat : Int) = some ((val b % 16 : Nat) : Int) := by
  obtain ⟨h1, h2⟩ := fnd_val h
  rw [hexT_eq _ h1, hb, ByteArray.toList_eq] at h2
  have h3 : [hx (val b / 16), hx (val b % 16)] = [x, y] := h2
  simp only [List.cons.injEq, and_true] at h3
  obtain ⟨rfl, rfl⟩ := h3
  exact ⟨h1, hx_hexv _ (by omega), hx_hexv _ (by omega)⟩
theorem two_of {b : ByteArray} {x y : UInt8} {d e : Int} (hb : b.toList = [x, y]) (h1 : hexv (x.toNat : Int) = some d) (h2 : hexv (y.toNat : Int) = some e) : fnd b = true := by
  obtain ⟨m, hm, rfl⟩ := hexv_hx x d h1
  obtain ⟨n, hn, rfl⟩ := hexv_hx y e h2
  refine fnd_of (m := 16 * m + n) (by omega) ?_
  rw [hexT_eq _ (by omega), hb, ByteArray.toList_eq]
  have e1 : (16 * m + n) / 16 = m := by omega
  have e2 : (16 * m + n) % 16 = n := by omega
  rw [e1, e2]
theorem readW_cons {c : Int} {l : List Int} {x : Int} (h : readW (c :: l) = some x) : ∃ y d, readW l = some y ∧ hexv c = some d := by
  unfold readW at h
  cases h1 : readW l with
  | none => simp [h1] at h
  | some y =>
    cases h2 : hexv c with
    | none => simp [h1, h2] at h
    | some d => exact ⟨y, d, rfl, rfl⟩
theorem readW_of {c : Int} {l : List Int} {y d : Int} (h1 : readW l = some y) (h2 : hexv c = some d) : readW (c :: l) = some (y * 16 + d) := by
  unfold readW; rw [h1, h2]
theorem eight (s : ByteArray) (h : s.size = 8) : ∃ b0 b1 b2 b3 b4 b5 b6 b7 : UInt8, s = ⟨#[b0, b1, b2, b3, b4, b5, b6, b7]⟩ := by
  obtain ⟨⟨l⟩⟩ := s
  have h : l.length = 8 := h
  match l, h with
  | [b0, b1, b2, b3, b4, b5, b6, b7], _ => exact ⟨b0, b1, b2, b3, b4, b5, b6, b7, rfl⟩
theorem valC_ok (s : ByteArray) (h : okR s) : (valC s).ok := by
  obtain ⟨_, h0, h1, h2, h3⟩ := h
  have := (fnd_val h0).1
  have := (fnd_val h1).1
  have := (fnd_val h2).1
  have := (fnd_val h3).1
  unfold valC
  exact ⟨⟨by dsimp only; omega, by dsimp only; omega⟩, ⟨by dsimp only; omega, by dsimp only; omega⟩, ⟨by dsimp only; omega, by dsimp only; omega⟩, ⟨by dsimp only; omega, by dsimp only; omega⟩⟩
theorem readC_yes (s : ByteArray) (h : okR s) : readC s = some (packC (valC s)) := by
  obtain ⟨h8, h0, h1, h2, h3⟩ := h
  obtain ⟨b0, b1, b2, b3, b4, b5, b6, b7, rfl⟩ := eight s h8
  obtain ⟨l0, u0, v0⟩ := two (x := b0) (y := b1) (by rw [ByteArray.toList_eq]; rfl) h0
  obtain ⟨l1, u1, v1⟩ := two (x := b2) (y := b3) (by rw [ByteArray.toList_eq]; rfl) h1
  obtain ⟨l2, u2, v2⟩ := two (x := b4) (y := b5) (by rw [ByteArray.toList_eq]; rfl) h2
  obtain ⟨l3, u3, v3⟩ := two (x := b6) (y := b7) (by rw [ByteArray.toList_eq]; rfl) h3
  unfold readC
  rw [if_pos h8]
  have := readW_of (readW_of (readW_of (readW_of (readW_of (readW_of (readW_of (readW_of (l := []) (y := 0) rfl u0) v0) u1) v1) u2) v2) u3) v3
  refine Eq.trans this (congrArg some ?_)
  unfold packC valC
  dsimp only
  omega
theorem readC_no (s : ByteArray) (h8 : s.size = 8) (h : ¬ okR s) : readC s = none := by
  cases hr : readC s with
  | none => rfl
  | some x =>
    exfalso
    apply h
    obtain ⟨b0, b1, b2, b3, b4, b5, b6, b7, rfl⟩ := eight s h8
    unfold readC at hr
    rw [if_pos h8] at hr
    obtain ⟨_, _, hr, u7⟩ := readW_cons (c := b7.toNat) (l := [(b6.toNat : Int), b5.toNat, b4.toNat, b3.toNat, b2.toNat, b1.toNat, b0.toNat]) hr
    obtain ⟨_, _, hr, u6⟩ := readW_cons hr
    obtain ⟨_, _, hr, u5⟩ := readW_cons hr
    obtain ⟨_, _, hr, u4⟩ := readW_cons hr
    obtain ⟨_, _, hr, u3⟩ := readW_cons hr
    obtain ⟨_, _, hr, u2⟩ := readW_cons hr
    obtain ⟨_, _, hr, u1⟩ := readW_cons hr
    obtain ⟨_, _, hr, u0⟩ := readW_cons hr
    exact ⟨h8, two_of (by rw [ByteArray.toList_eq]; rfl) u0 u1, two_of (by rw [ByteArray.toList_eq]; rfl) u2 u3, two_of (by rw [ByteArray.toList_eq]; rfl) u4 u5, two_of (by rw [ByteArray.toList_eq]; rfl) u6 u7⟩
-- the contracts as the law needs them
theorem pack_c (c : C4) (w : World) (h : c.ok) : Calls Try.prog 10 #[c.v] w fun e w' => e = .returned (.int .u32 (packC c)) ∧ Below w.heap.size w w' := pack_any c.r c.g c.b c.a w h.1 h.2.1 h.2.2.1 h.2.2.2
theorem text_c (c : C4) (w : World) (h : c.ok) : Calls Try.prog 12 #[c.v] w fun e w' => e = .returned (.string (textT c)) ∧ Below w.heap.size w w' := by
  rw [← text_eq c h]
  exact text_any c.r c.g c.b c.a w h.1 h.2.1 h.2.2.1 h.2.2.2
theorem read_no (s : ByteArray) (w : World) (hs : s.size ≤ Go.maxLen) (h : ¬ okR s) : Calls Try.prog 15 #[.string s] w fun e w' => e = .returned (.tuple #[(⟨0, 0, 0, 0⟩ : C4).v, .int .i64 130]) ∧ Below w.heap.size w w' := by
  by_cases h8 : s.size = 8
  · exact (read_8 s w h8).mono fun e w' ⟨_, h2, h3⟩ => ⟨h2 (readC_no s h8 h), h3⟩
  · exact read_len s w h8 hs
theorem read_yes (s : ByteArray) (w : World) (h : okR s) : Calls Try.prog 15 #[.string s] w fun e w' => e = .returned (.tuple #[(valC s).v, .int .i64 0]) ∧ Below w.heap.size w w' := by
  refine (read_8 s w h.1).mono fun e w' ⟨h1, _, h3⟩ => ⟨?_, h3⟩
  rw [h1 _ (readC_yes s h), un_pack _ (valC_ok s h)]
theorem readR_c (s : ByteArray) (w : World) (hs : s.size ≤ Go.maxLen) (h : okR s) : Calls Try.prog 16 #[.string s] w fun e w' => e = .returned (.tuple #[(valC s).v, .bool true]) ∧ Below w.heap.size w w' := by
  have := read_ref s w hs
  unfold readR at this
  rwa [if_pos h] at this
theorem readR_n (s : ByteArray) (w : World) (hs : s.size ≤ Go.maxLen) (h : ¬ okR s) : Calls Try.prog 16 #[.string s] w fun e w' => e = .returned (.tuple #[(⟨0, 0, 0, 0⟩ : C4).v, .bool false]) ∧ Below w.heap.size w w' := by
  have := read_ref s w hs
  unfold readR noR at this
  rwa [if_neg h] at this
end Go.Proofs.Ytnhkiblakclcoaa
