/- crc: registers, plainly. -/
import Derived.Test.YtnjcffhpfmnbfaaSync
namespace Go.Proofs.Ytnjcffhpfmnbfaa
abbrev Wd := BitVec 32
abbrev By := BitVec 8
abbrev P0 : Wd := 3988292384#32
/-- A register behind a bit 0. -/
def fed0 (r : Wd) : Wd := if r.getLsbD 0 = true then (r >>> 1) ^^^ P0 else r >>> 1
def fedN : Nat → Wd → Wd
  | 0, r => r
  | n + 1, r => fed0 (fedN n r)
/-- A register behind a byte. -/
def step (r : Wd) (b : By) : Wd := fedN 8 (r ^^^ b.setWidth 32)
def regL (r : Wd) (l : List By) : Wd := l.foldl step r
/-- More of a sum. -/
def sumC (s : Wd) (l : List By) : Wd := ~~~ (regL (~~~ s) l)
theorem shr_xor (a b : Wd) (n : Nat) : (a ^^^ b) >>> n = (a >>> n) ^^^ (b >>> n) := BitVec.ushiftRight_xor_distrib a b n
theorem fed0_xor (a b : Wd) : fed0 (a ^^^ b) = fed0 a ^^^ fed0 b := by
  unfold fed0
  rw [BitVec.getLsbD_xor, shr_xor]
  cases a.getLsbD 0 <;> cases b.getLsbD 0
  · simp
  · simp [BitVec.xor_assoc]
  · simp only [Bool.xor_false, if_true, if_neg (show ¬ false = true by decide)]
    rw [BitVec.xor_assoc, BitVec.xor_comm (b >>> 1), ← BitVec.xor_assoc]
  · simp only [Bool.xor_self, if_true, if_neg (show ¬ false = true by decide)]
    rw [BitVec.xor_assoc (a >>> 1), ← BitVec.xor_assoc P0, BitVec.xor_comm P0, BitVec.xor_assoc (b >>> 1), BitVec.xor_self, BitVec.xor_zero]
theorem fedN_xor (n : Nat) (a b : Wd) : fedN n (a ^^^ b) = fedN n a ^^^ fedN n b := by
  induction n with
  | zero => rfl
  | succ n ih => show fed0 _ = fed0 _ ^^^ fed0 _; rw [ih, fed0_xor]
theorem fedN_add (m : Nat) (r : Wd) : ∀ n, fedN (m + n) r = fedN n (fedN m r)
  | 0 => rfl
  | n + 1 => by show fed0 (fedN (m + n) r) = fed0 (fedN n (fedN m r)); rw [fedN_add m r n]
theorem fedN_zero : ∀ n, fedN n 0#32 = 0#32
  | 0 => rfl
  | n + 1 => by show fed0 (fedN n 0#32) = _; rw [fedN_zero n]; rfl
/-- Where the low bits are 0, they are let go. -/
theorem fedN_low : ∀ (n : Nat) (r : Wd), (∀ i, i < n → r.getLsbD i = false) → fedN n r = r >>> n
  | 0, r, _ => by simp [fedN]
  | n + 1, r, h => by
    show fed0 (fedN n r) = _
    rw [fedN_low n r (fun i hi => h i (by omega))]
    unfold fed0
    rw [if_neg (by rw [BitVec.getLsbD_ushiftRight, Nat.add_zero, h n (by omega)]; decide), ← BitVec.shiftRight_add]
theorem mask_low (r : Wd) : (r &&& ~~~ 15#32) ^^^ (r &&& 15#32) = r := by
  apply BitVec.eq_of_getLsbD_eq
  intro i hi
  rw [BitVec.getLsbD_xor, BitVec.getLsbD_and, BitVec.getLsbD_and, BitVec.getLsbD_not]
  cases r.getLsbD i <;> cases (15#32).getLsbD i <;> simp [hi]
theorem fed4 (r : Wd) : (r >>> 4) ^^^ fedN 4 (r &&& 15#32) = fedN 4 r := by
  have h1 := fedN_xor 4 (r &&& ~~~ 15#32) (r &&& 15#32)
  rw [mask_low] at h1
  have h2 : fedN 4 (r &&& ~~~ 15#32) = (r &&& ~~~ 15#32) >>> 4 := fedN_low 4 _ (fun i hi => by
    rw [BitVec.getLsbD_and]
    have : (~~~ 15#32).getLsbD i = false := by
      match i, hi with
      | 0, _ => rfl
      | 1, _ => rfl
      | 2, _ => rfl
      | 3, _ => rfl
    rw [this, Bool.and_false])
  have h3 : (r &&& 15#32) >>> 4 = 0#32 := by
    apply BitVec.eq_of_getLsbD_eq
    intro i hi
    rw [BitVec.getLsbD_ushiftRight, BitVec.getLsbD_and]
    have : (15#32).getLsbD (4 + i) = false := by
      show (15#32).getLsbD (4 + i) = false
      rw [BitVec.getLsbD_ofNat]
      simp only [Bool.and_eq_false_iff]
      right
      rw [show (15 : Nat) = 2 ^ 4 - 1 from rfl, Nat.testBit_two_pow_sub_one]
      simp
    rw [this]; simp
  rw [h1, h2]
  congr 1
  have h4 : ((r &&& ~~~ 15#32) ^^^ (r &&& 15#32)) >>> 4 = r >>> 4 := by rw [mask_low]
  rw [shr_xor, h3, BitVec.xor_zero] at h4
  exact h4.symm
/-- A byte, as it is fed by four bits twice. -/
theorem step_two (r : Wd) (b : By) : (((r ^^^ b.setWidth 32) >>> 4 ^^^ fedN 4 ((r ^^^ b.setWidth 32) &&& 15#32)) >>> 4) ^^^ fedN 4 (((r ^^^ b.setWidth 32) >>> 4 ^^^ fedN 4 ((r ^^^ b.setWidth 32) &&& 15#32)) &&& 15#32) = step r b := by
  rw [fed4, fed4, ← fedN_add]; rfl
theorem and_one (r : Wd) : (((r ^^^ 0#32) &&& 1#32) = 1#32) ↔ r.getLsbD 0 = true := by
  rw [BitVec.xor_zero]
  constructor
  · intro h
    have := congrArg (fun x => BitVec.getLsbD x 0) h
    simp only [BitVec.getLsbD_and] at this
    simpa using this
  · intro h
    apply BitVec.eq_of_getLsbD_eq
    intro i hi
    rw [BitVec.getLsbD_and]
    by_cases h0 : i = 0
    · subst h0; rw [h]; rfl
    · have : (1#32).getLsbD i = false := by
        rw [BitVec.getLsbD_one]; simp [h0]
      rw [this, Bool.and_false]
/-! ### back -/
def back0 (r : Wd) : Wd := if r.getLsbD 31 = true then ((r ^^^ P0) <<< 1) ||| 1#32 else r <<< 1
def backN : Nat → Wd → Wd
  | 0, r => r
  | n + 1, r => back0 (backN n r)
theorem back_fed (r : Wd) : back0 (fed0 r) = r := by
  cases h : r.getLsbD 0
  · rw [show fed0 r = r >>> 1 from if_neg (by rw [h]; decide)]
    unfold back0
    have h31 : (r >>> 1).getLsbD 31 = false := by rw [BitVec.getLsbD_ushiftRight]; exact BitVec.getLsbD_of_ge _ _ (by omega)
    rw [if_neg (by rw [h31]; decide)]
    apply BitVec.eq_of_getLsbD_eq
    intro i hi
    rw [BitVec.getLsbD_shiftLeft, BitVec.getLsbD_ushiftRight]
    by_cases h0 : i = 0
    · subst h0; rw [h]; simp
    · rw [show 1 + (i - 1) = i by omega]; simp [hi, h0]
  · rw [show fed0 r = (r >>> 1) ^^^ P0 from if_pos h]
    unfold back0
    have h31 : ((r >>> 1) ^^^ P0).getLsbD 31 = true := by
      rw [BitVec.getLsbD_xor, BitVec.getLsbD_ushiftRight, BitVec.getLsbD_of_ge r _ (by omega)]; decide
    rw [if_pos h31, BitVec.xor_assoc, BitVec.xor_self, BitVec.xor_zero]
    apply BitVec.eq_of_getLsbD_eq
    intro i hi
    rw [BitVec.getLsbD_or, BitVec.getLsbD_shiftLeft, BitVec.getLsbD_ushiftRight, BitVec.getLsbD_one]
    by_cases h0 : i = 0
    · subst h0; rw [h]; simp
    · rw [show 1 + (i - 1) = i by omega]; simp [hi, h0]
theorem fed_back (r : Wd) : fed0 (back0 r) = r := by
  cases h : r.getLsbD 31
  · rw [show back0 r = r <<< 1 from if_neg (by rw [h]; decide)]
    unfold fed0
    have h0 : (r <<< 1).getLsbD 0 = false := by rw [BitVec.getLsbD_shiftLeft]; simp
    rw [if_neg (by rw [h0]; decide)]
    apply BitVec.eq_of_getLsbD_eq
    intro i hi
    rw [BitVec.getLsbD_ushiftRight, BitVec.getLsbD_shiftLeft]
    by_cases h2 : i = 31
    · subst h2; rw [h]; simp
    · rw [show 1 + i - 1 = i by omega]; simp; omega
  · rw [show back0 r = ((r ^^^ P0) <<< 1) ||| 1#32 from if_pos h]
    unfold fed0
    have h0 : (((r ^^^ P0) <<< 1) ||| 1#32).getLsbD 0 = true := by rw [BitVec.getLsbD_or]; simp
    rw [if_pos h0]
    have h3 : (((r ^^^ P0) <<< 1) ||| 1#32) >>> 1 = r ^^^ P0 := by
      apply BitVec.eq_of_getLsbD_eq
      intro i hi
      rw [BitVec.getLsbD_ushiftRight, BitVec.getLsbD_or, BitVec.getLsbD_shiftLeft, BitVec.getLsbD_one]
      by_cases h2 : i = 31
      · subst h2; rw [BitVec.getLsbD_xor, h]; decide
      · rw [show 1 + i - 1 = i by omega]
        have : 1 + i < 32 := by omega
        simp [this]
    rw [h3, BitVec.xor_assoc, BitVec.xor_self, BitVec.xor_zero]
theorem backN_fed (r : Wd) : ∀ n, backN n (fedN n r) = r
  | 0 => rfl
  | n + 1 => by
    have key : ∀ m x, backN (m + 1) x = backN m (back0 x) := by
      intro m
      induction m with
      | zero => intro x; rfl
      | succ m ih => intro x; show back0 (backN (m + 1) x) = back0 (backN m (back0 x)); rw [ih]
    rw [key]
    show backN n (back0 (fed0 (fedN n r))) = r
    rw [back_fed]
    exact backN_fed r n
theorem fedN_back (r : Wd) : ∀ n, fedN n (backN n r) = r
  | 0 => rfl
  | n + 1 => by
    have key : ∀ m x, fedN (m + 1) x = fedN m (fed0 x) := by
      intro m
      induction m with
      | zero => intro x; rfl
      | succ m ih => intro x; show fed0 (fedN (m + 1) x) = fed0 (fedN m (fed0 x)); rw [ih]
    rw [key]
    show fedN n (fed0 (back0 (backN n r))) = r
    rw [fed_back]
    exact fedN_back r n
theorem fedN_inj {n : Nat} {a b : Wd} (h : fedN n a = fedN n b) : a = b := by rw [← backN_fed a n, h, backN_fed]
/-- The four bytes of a word. -/
def four (x : Wd) : List By := [x.setWidth 8, (x >>> 8).setWidth 8, (x >>> 16).setWidth 8, (x >>> 24).setWidth 8]
def tailW (s t : Wd) : Wd := backN 32 (~~~ t) ^^^ ~~~ s
end Go.Proofs.Ytnjcffhpfmnbfaa
