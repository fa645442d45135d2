/- crc: sums bit by bit, what is sealed, what is spoilt; plainly. -/
import Derived.Test.YtnjcffhpfmnbfaaCrcP
namespace Go.Proofs.Ytnjcffhpfmnbfaa
def bw (c : Bool) : Wd := if c = true then 1#32 else 0#32
theorem bw_xor (a b : Bool) : bw (a ^^ b) = bw a ^^^ bw b := by cases a <;> cases b <;> rfl
theorem bw_bit (c : Bool) (i : Nat) : (bw c).getLsbD i = (c && decide (i = 0)) := by
  cases c
  · simp [bw]
  · show (1#32).getLsbD i = _
    rw [BitVec.getLsbD_one]; simp
/-- A register behind bits. -/
def regF (r : Wd) (f : Nat → Bool) : Nat → Wd
  | 0 => r
  | n + 1 => fed0 (regF r f n ^^^ bw (f n))
theorem regF_congr {r : Wd} {f g : Nat → Bool} : ∀ {n : Nat}, (∀ i, i < n → f i = g i) → regF r f n = regF r g n
  | 0, _ => rfl
  | n + 1, h => by
    show fed0 (regF r f n ^^^ bw (f n)) = fed0 (regF r g n ^^^ bw (g n))
    rw [regF_congr (fun i hi => h i (by omega)), h n (by omega)]
theorem regF_add (r : Wd) (f : Nat → Bool) (m : Nat) : ∀ n, regF r f (m + n) = regF (regF r f m) (fun i => f (m + i)) n
  | 0 => rfl
  | n + 1 => by
    show fed0 (regF r f (m + n) ^^^ bw (f (m + n))) = _
    rw [regF_add r f m n]; rfl
theorem xor4 (a b c d : Wd) : (a ^^^ b) ^^^ (c ^^^ d) = (a ^^^ c) ^^^ (b ^^^ d) := by
  rw [BitVec.xor_assoc, BitVec.xor_assoc, ← BitVec.xor_assoc b, BitVec.xor_comm b c, BitVec.xor_assoc c]
theorem regF_xor (a b : Wd) (f g : Nat → Bool) : ∀ n, regF (a ^^^ b) (fun i => f i ^^ g i) n = regF a f n ^^^ regF b g n
  | 0 => rfl
  | n + 1 => by
    show fed0 (regF (a ^^^ b) _ n ^^^ bw (f n ^^ g n)) = fed0 _ ^^^ fed0 _
    rw [regF_xor a b f g n, bw_xor, xor4, fed0_xor]
theorem regF_quiet (r : Wd) {f : Nat → Bool} : ∀ n, (∀ i, i < n → f i = false) → regF r f n = fedN n r
  | 0, _ => rfl
  | n + 1, h => by
    show fed0 (regF r f n ^^^ bw (f n)) = fed0 (fedN n r)
    rw [regF_quiet r n (fun i hi => h i (by omega)), h n (by omega)]
    show fed0 (fedN n r ^^^ 0#32) = _
    rw [BitVec.xor_zero]
/-- The low bits of a word. -/
def lowW (k : Nat) (x : Wd) : Wd := x ^^^ ((x >>> k) <<< k)
theorem lowW_bit (k : Nat) (x : Wd) (i : Nat) : (lowW k x).getLsbD i = (decide (i < k) && x.getLsbD i) := by
  unfold lowW
  rw [BitVec.getLsbD_xor, BitVec.getLsbD_shiftLeft, BitVec.getLsbD_ushiftRight]
  by_cases h : i < k
  · simp [h]
  · by_cases h32 : i < 32
    · rw [show k + (i - k) = i by omega]; simp [h, h32]
    · rw [BitVec.getLsbD_of_ge x i (by omega)]; simp [h32]
theorem lowW_all (x : Wd) : lowW 32 x = x := by
  apply BitVec.eq_of_getLsbD_eq
  intro i hi
  rw [lowW_bit]; simp [hi]
theorem lowW_zero (x : Wd) : lowW 0 x = 0#32 := by
  apply BitVec.eq_of_getLsbD_eq
  intro i hi
  rw [lowW_bit]; simp
theorem lowW_succ (k : Nat) (x : Wd) (hk : k < 32) : lowW (k + 1) x = lowW k x ^^^ (bw (x.getLsbD k) <<< k) := by
  apply BitVec.eq_of_getLsbD_eq
  intro i hi
  rw [BitVec.getLsbD_xor, lowW_bit, lowW_bit, BitVec.getLsbD_shiftLeft, bw_bit]
  by_cases e : i = k
  · subst e; simp [hi]
  · by_cases h : i < k
    · simp [h, show i < k + 1 by omega]
    · simp [h, show ¬ i < k + 1 by omega, show ¬ i - k = 0 by omega]
theorem bw_back (c : Bool) (k : Nat) (hk : k < 32) : fedN k (bw c <<< k) = bw c := by
  rw [fedN_low k _ (fun i hi => by rw [BitVec.getLsbD_shiftLeft]; simp [hi])]
  apply BitVec.eq_of_getLsbD_eq
  intro i hi
  rw [BitVec.getLsbD_ushiftRight, BitVec.getLsbD_shiftLeft, bw_bit, bw_bit, show k + i - k = i by omega]
  by_cases e : i = 0
  · subst e; simp [hk]
  · simp [e]
theorem regF_word (r x : Wd) : ∀ k, k ≤ 32 → regF r (fun i => x.getLsbD i) k = fedN k (r ^^^ lowW k x)
  | 0, _ => by rw [lowW_zero, BitVec.xor_zero]; rfl
  | k + 1, h => by
    show fed0 (regF r _ k ^^^ bw (x.getLsbD k)) = fed0 (fedN k _)
    rw [regF_word r x k (by omega), lowW_succ k x (by omega), ← BitVec.xor_assoc, fedN_xor k (r ^^^ lowW k x), bw_back _ k (by omega)]
theorem lowW_byte (b : By) : lowW 8 (b.setWidth 32) = b.setWidth 32 := by
  apply BitVec.eq_of_getLsbD_eq
  intro i hi
  rw [lowW_bit, BitVec.getLsbD_setWidth]
  by_cases h : i < 8
  · simp [h]
  · rw [BitVec.getLsbD_of_ge b i (by omega)]; simp
theorem step_regF (r : Wd) (b : By) : step r b = regF r (fun i => b.getLsbD i) 8 := by
  have h := regF_word r (b.setWidth 32) 8 (by decide)
  rw [lowW_byte] at h
  refine h.symm.trans (regF_congr fun i hi => ?_)
  rw [BitVec.getLsbD_setWidth]; simp [show i < 32 by omega]
/-- A bit of bytes. -/
def bitA (l : List By) (n : Nat) : Bool := (l[n / 8]?.getD 0#8).getLsbD (n % 8)
theorem regL_take (r : Wd) (l : List By) : ∀ k, k ≤ l.length → regL r (l.take k) = regF r (bitA l) (8 * k)
  | 0, _ => rfl
  | k + 1, h => by
    have hx : l[k]? = some l[k] := List.getElem?_eq_getElem (by omega)
    have e : regL r (l.take (k + 1)) = step (regL r (l.take k)) l[k] := by
      unfold regL; rw [List.take_add_one, hx, List.foldl_append]; rfl
    rw [e, regL_take r l k (by omega), show 8 * (k + 1) = 8 * k + 8 by omega, regF_add, step_regF]
    refine regF_congr fun i hi => ?_
    unfold bitA
    rw [show (8 * k + i) / 8 = k by omega, show (8 * k + i) % 8 = i by omega, hx]; rfl
theorem regL_bits (r : Wd) (l : List By) : regL r l = regF r (bitA l) (8 * l.length) := by
  have := regL_take r l l.length (Nat.le_refl _)
  rwa [List.take_length] at this
theorem regL_app (r : Wd) (l m : List By) : regL r (l ++ m) = regL (regL r l) m := by unfold regL; rw [List.foldl_append]
theorem sumC_app (s : Wd) (l m : List By) : sumC (sumC s l) m = sumC s (l ++ m) := by unfold sumC; rw [BitVec.not_not, regL_app]
theorem four_len (x : Wd) : (four x).length = 4 := rfl
theorem four_bit (x : Wd) (i : Nat) (hi : i < 32) : bitA (four x) i = x.getLsbD i := by
  have key : ∀ q j, q < 4 → j < 8 → bitA (four x) (8 * q + j) = x.getLsbD (8 * q + j) := by
    intro q j hq hj
    unfold bitA
    rw [show (8 * q + j) / 8 = q by omega, show (8 * q + j) % 8 = j by omega]
    match q, hq with
    | 0, _ => show (x.setWidth 8).getLsbD j = _; rw [BitVec.getLsbD_setWidth]; simp [hj]
    | 1, _ => show ((x >>> 8).setWidth 8).getLsbD j = _; rw [BitVec.getLsbD_setWidth, BitVec.getLsbD_ushiftRight]; simp [hj]
    | 2, _ => show ((x >>> 16).setWidth 8).getLsbD j = _; rw [BitVec.getLsbD_setWidth, BitVec.getLsbD_ushiftRight]; simp [hj]
    | 3, _ => show ((x >>> 24).setWidth 8).getLsbD j = _; rw [BitVec.getLsbD_setWidth, BitVec.getLsbD_ushiftRight]; simp [hj]
  have := key (i / 8) (i % 8) (by omega) (by omega)
  rwa [show 8 * (i / 8) + i % 8 = i by omega] at this
theorem regL_four (r x : Wd) : regL r (four x) = fedN 32 (r ^^^ x) := by
  rw [regL_bits, four_len, regF_congr (g := fun i => x.getLsbD i) (fun i hi => four_bit x i (by omega)), regF_word r x 32 (Nat.le_refl _), lowW_all]
theorem four_inj {x y : Wd} (h : four x = four y) : x = y := by
  apply BitVec.eq_of_getLsbD_eq
  intro i hi
  rw [← four_bit x i hi, ← four_bit y i hi, h]
theorem byte_eq {l m : List By} (hl : l.length = m.length) (h : ∀ n, n < 8 * l.length → bitA l n = bitA m n) : l = m := by
  apply List.ext_getElem hl
  intro i h1 h2
  apply BitVec.eq_of_getLsbD_eq
  intro j hj
  have := h (8 * i + j) (by omega)
  unfold bitA at this
  rw [show (8 * i + j) / 8 = i by omega, show (8 * i + j) % 8 = j by omega, List.getElem?_eq_getElem h1, List.getElem?_eq_getElem h2] at this
  exact this
/-- The word of four bytes. -/
def wordOf : List By → Wd
  | [a, b, c, d] => (d ++ (c ++ (b ++ a)) : BitVec 32)
  | _ => 0#32
theorem word_bit (a b c d : By) (i : Nat) (hi : i < 32) : (wordOf [a, b, c, d]).getLsbD i = bitA [a, b, c, d] i := by
  show (d ++ (c ++ (b ++ a)) : BitVec 32).getLsbD i = _
  have key : ∀ q j, q < 4 → j < 8 → (d ++ (c ++ (b ++ a)) : BitVec 32).getLsbD (8 * q + j) = bitA [a, b, c, d] (8 * q + j) := by
    intro q j hq hj
    unfold bitA
    rw [show (8 * q + j) / 8 = q by omega, show (8 * q + j) % 8 = j by omega]
    rw [BitVec.getLsbD_append, BitVec.getLsbD_append, BitVec.getLsbD_append]
    match q, hq with
    | 0, _ => rw [if_pos (by omega), if_pos (by omega), if_pos (by omega), show 8 * 0 + j = j by omega]; rfl
    | 1, _ => rw [if_pos (by omega), if_pos (by omega), if_neg (by omega), show 8 * 1 + j - 8 = j by omega]; rfl
    | 2, _ => rw [if_pos (by omega), if_neg (by omega), show 8 * 2 + j - (8 + 8) = j by omega]; rfl
    | 3, _ => rw [if_neg (by omega), show 8 * 3 + j - (8 + (8 + 8)) = j by omega]; rfl
  have := key (i / 8) (i % 8) (by omega) (by omega)
  rwa [show 8 * (i / 8) + i % 8 = i by omega] at this
theorem four_word : ∀ {l : List By}, l.length = 4 → four (wordOf l) = l
  | [a, b, c, d], _ => byte_eq (by rw [four_len]; rfl) (fun n hn => by rw [four_len] at hn; rw [four_bit _ n (by omega), word_bit a b c d n (by omega)])
theorem step_inj {a b : Wd} {x : By} (h : step a x = step b x) : a = b := by
  have := fedN_inj h
  have e := congrArg (fun z => z ^^^ x.setWidth 32) this
  simpa [BitVec.xor_assoc] using e
theorem step_inj2 {r : Wd} {x y : By} (h : step r x = step r y) : x = y := by
  have := fedN_inj h
  have e := congrArg (fun z => r ^^^ z) this
  simp only [← BitVec.xor_assoc, BitVec.xor_self, BitVec.zero_xor] at e
  apply BitVec.eq_of_getLsbD_eq
  intro i hi
  have e2 := congrArg (fun z => BitVec.getLsbD z i) e
  simp only [BitVec.getLsbD_setWidth] at e2
  simpa [show i < 32 by omega] using e2
theorem regL_inj : ∀ {l : List By} {a b : Wd}, regL a l = regL b l → a = b
  | [], _, _, h => h
  | x :: l, a, b, h => step_inj (regL_inj (l := l) h)
theorem not_inj {a b : Wd} (h : ~~~a = ~~~b) : a = b := by have := congrArg (fun z => ~~~z) h; simpa using this
abbrev ones : Wd := ~~~ 0#32
/-! ### what is sealed -/
def sealP (l : List By) : List By := l ++ four (sumC 0#32 l)
def openP (l : List By) : Option (List By) := if 4 ≤ l.length ∧ l.drop (l.length - 4) = four (sumC 0#32 (l.take (l.length - 4))) then some (l.take (l.length - 4)) else none
abbrev RES : Wd := fedN 32 ones
theorem sealed_res (h t : List By) (ht : t.length = 4) : t = four (sumC 0#32 h) ↔ regL ones (h ++ t) = RES := by
  rw [regL_app]
  have e : regL (regL ones h) t = fedN 32 (regL ones h ^^^ wordOf t) := by rw [← regL_four, four_word ht]
  rw [e]
  constructor
  · intro hh
    have hw : wordOf t = sumC 0#32 h := four_inj (by rw [four_word ht]; exact hh)
    rw [hw]
    unfold sumC
    congr 1
    apply BitVec.eq_of_getLsbD_eq
    intro i hi
    rw [BitVec.getLsbD_xor, BitVec.getLsbD_not, BitVec.getLsbD_not]
    show (_ ^^ (decide (i < 32) && !(regL ones h).getLsbD i)) = _
    simp [hi]
  · intro hh
    have h1 : regL ones h ^^^ wordOf t = ones := fedN_inj hh
    have hw : wordOf t = sumC 0#32 h := by
      have e := congrArg (fun z => regL ones h ^^^ z) h1
      simp only [← BitVec.xor_assoc, BitVec.xor_self, BitVec.zero_xor] at e
      rw [e]
      unfold sumC
      apply BitVec.eq_of_getLsbD_eq
      intro i hi
      rw [BitVec.getLsbD_xor, BitVec.getLsbD_not, BitVec.getLsbD_not]
      show _ = (decide (i < 32) && !(regL ones h).getLsbD i)
      simp [hi]
    rw [← hw, four_word ht]
theorem open_res (l : List By) (h4 : 4 ≤ l.length) : (∃ h, openP l = some h) ↔ regL ones l = RES := by
  have hs := sealed_res (l.take (l.length - 4)) (l.drop (l.length - 4)) (by rw [List.length_drop]; omega)
  rw [List.take_append_drop] at hs
  rw [← hs]
  unfold openP
  constructor
  · rintro ⟨h, hh⟩
    split at hh
    · rename_i hc; exact hc.2
    · cases hh
  · intro hh; exact ⟨_, if_pos ⟨h4, hh⟩⟩
theorem open_seal (l : List By) : openP (sealP l) = some l := by
  unfold openP sealP
  have e : (l ++ four (sumC 0#32 l)).length - 4 = l.length := by rw [List.length_append, four_len]; omega
  rw [e, List.take_left, List.drop_left, if_pos ⟨by rw [List.length_append, four_len]; omega, rfl⟩]
theorem seal_res (l : List By) : regL ones (sealP l) = RES := (sealed_res l _ (four_len _)).1 rfl
/-! ### what is spoilt -/
def spoilN (l : List By) (bit : Nat) (mask : Wd) : Nat → List By
  | 0 => l
  | i + 1 => if mask.getLsbD i = true ∧ bit + i < 8 * l.length then (spoilN l bit mask i).set ((bit + i) / 8) (((spoilN l bit mask i)[(bit + i) / 8]?.getD 0#8) ^^^ (1#8 <<< ((bit + i) % 8))) else spoilN l bit mask i
def someN (l : List By) (bit : Nat) (mask : Wd) : Nat → Bool
  | 0 => false
  | i + 1 => if mask.getLsbD i = true ∧ bit + i < 8 * l.length then true else someN l bit mask i
def spoilP (l : List By) (bit : Nat) (mask : Wd) : Option (List By) := if bit < 8 * l.length ∧ someN l bit mask 32 = true then some (spoilN l bit mask 32) else none
theorem spoilN_len (l : List By) (bit : Nat) (mask : Wd) : ∀ i, (spoilN l bit mask i).length = l.length
  | 0 => rfl
  | i + 1 => by
    unfold spoilN
    split
    · rw [List.length_set, spoilN_len l bit mask i]
    · exact spoilN_len l bit mask i
theorem pow_bit (k j : Nat) (hk : k < 8) (hj : j < 8) : (1#8 <<< k).getLsbD j = decide (j = k) := by
  rw [BitVec.getLsbD_shiftLeft, BitVec.getLsbD_one]
  by_cases e : j = k
  · subst e; simp [hj]
  · by_cases h : j < k
    · simp [h, e]
    · simp [h, e]; omega
theorem set_bit (q : List By) (m n : Nat) (hm : m < 8 * q.length) (hn : n < 8 * q.length) : bitA (q.set (m / 8) ((q[m / 8]?.getD 0#8) ^^^ (1#8 <<< (m % 8)))) n = (bitA q n ^^ decide (n = m)) := by
  unfold bitA
  have h1 : m / 8 < q.length := by omega
  have h2 : n / 8 < q.length := by omega
  by_cases e : m / 8 = n / 8
  · rw [← e, List.getElem?_set_self h1]
    show (_ ^^^ _ : By).getLsbD _ = _
    rw [BitVec.getLsbD_xor, pow_bit _ _ (by omega) (by omega)]
    congr 1
    simp only [decide_eq_decide]
    omega
  · rw [List.getElem?_set_ne e, decide_eq_false (show ¬ n = m by intro h; subst h; exact e rfl), Bool.xor_false]
theorem spoilN_bit (l : List By) (bit : Nat) (mask : Wd) (n : Nat) (hn : n < 8 * l.length) : ∀ i, bitA (spoilN l bit mask i) n = (bitA l n ^^ (decide (bit ≤ n ∧ n < bit + i) && mask.getLsbD (n - bit)))
  | 0 => by
    show bitA l n = _
    rw [decide_eq_false (by omega)]; simp
  | i + 1 => by
    unfold spoilN
    have hl := spoilN_len l bit mask i
    split
    · rename_i hc
      rw [set_bit _ _ _ (by rw [hl]; exact hc.2) (by rw [hl]; exact hn), spoilN_bit l bit mask n hn i, Bool.xor_assoc]
      congr 1
      by_cases e : n = bit + i
      · subst e
        rw [show bit + i - bit = i by omega, hc.1, decide_eq_false (show ¬ (bit ≤ bit + i ∧ bit + i < bit + i) by omega), decide_eq_true (show bit ≤ bit + i ∧ bit + i < bit + (i + 1) by omega)]; simp
      · rw [decide_eq_false e, Bool.xor_false]
        congr 1
        simp only [decide_eq_decide]; omega
    · rename_i hc
      rw [spoilN_bit l bit mask n hn i]
      congr 1
      by_cases e : n = bit + i
      · subst e
        have : mask.getLsbD i = false := by
          cases hm : mask.getLsbD i
          · rfl
          · exact absurd ⟨hm, hn⟩ hc
        rw [show bit + i - bit = i by omega, this]; simp
      · congr 1
        simp only [decide_eq_decide]; omega
theorem someN_iff (l : List By) (bit : Nat) (mask : Wd) : ∀ k, someN l bit mask k = true ↔ ∃ i, i < k ∧ mask.getLsbD i = true ∧ bit + i < 8 * l.length
  | 0 => by
    constructor
    · intro h; cases h
    · rintro ⟨i, hi, _⟩; omega
  | k + 1 => by
    unfold someN
    split
    · rename_i hc
      exact ⟨fun _ => ⟨k, by omega, hc⟩, fun _ => rfl⟩
    · rename_i hc
      rw [someN_iff l bit mask k]
      constructor
      · rintro ⟨i, hi, h⟩; exact ⟨i, by omega, h⟩
      · rintro ⟨i, hi, h⟩
        by_cases e : i = k
        · subst e; exact absurd h hc
        · exact ⟨i, by omega, h⟩
theorem spoil_none {l : List By} {bit : Nat} {mask : Wd} (hb : bit < 8 * l.length) (h : spoilP l bit mask = none) : mask = 0#32 ∨ bit + 32 > 8 * l.length := by
  unfold spoilP at h
  by_cases hs : someN l bit mask 32 = true
  · rw [if_pos ⟨hb, hs⟩] at h; cases h
  · by_cases hl : bit + 32 > 8 * l.length
    · exact .inr hl
    · refine .inl (BitVec.eq_of_getLsbD_eq fun i hi => ?_)
      cases hm : mask.getLsbD i
      · simp
      · exact absurd ((someN_iff l bit mask 32).2 ⟨i, hi, hm, by omega⟩) hs
theorem spoil_some {l n : List By} {bit : Nat} {mask : Wd} (h : spoilP l bit mask = some n) : bit < 8 * l.length ∧ someN l bit mask 32 = true ∧ n = spoilN l bit mask 32 := by
  unfold spoilP at h
  split at h
  · rename_i hc; cases h; exact ⟨hc.1, hc.2, rfl⟩
  · cases h
theorem someN_len {l n : List By} (h : n.length = l.length) (bit : Nat) (mask : Wd) : ∀ k, someN n bit mask k = someN l bit mask k
  | 0 => rfl
  | k + 1 => by unfold someN; rw [h, someN_len h bit mask k]
theorem spoil_back {l n : List By} {bit : Nat} {mask : Wd} (h : spoilP l bit mask = some n) : spoilP n bit mask = some l := by
  obtain ⟨h1, h2, rfl⟩ := spoil_some h
  have hl := spoilN_len l bit mask 32
  unfold spoilP
  rw [hl, someN_len hl, if_pos ⟨h1, h2⟩]
  congr 1
  refine byte_eq (by rw [spoilN_len, hl]) (fun n hn => ?_)
  rw [spoilN_len, hl] at hn
  rw [spoilN_bit _ _ _ _ (by rw [hl]; exact hn), spoilN_bit _ _ _ _ hn, Bool.xor_assoc, Bool.xor_self, Bool.xor_false]
/-- What the bits that are turned come to. -/
theorem burst {bit N : Nat} {mask : Wd} (hb : bit < N) (h : ∃ i, i < 32 ∧ mask.getLsbD i = true ∧ bit + i < N) : regF 0#32 (fun n => decide (bit ≤ n ∧ n < bit + 32) && mask.getLsbD (n - bit)) N ≠ 0#32 := by
  obtain ⟨i, hi, hm, hn⟩ := h
  obtain ⟨k, hk⟩ : ∃ k, k = min 32 (N - bit) := ⟨_, rfl⟩
  obtain ⟨m, hN⟩ : ∃ m, N = bit + (k + m) := ⟨N - bit - k, by omega⟩
  have hk32 : k ≤ 32 := by omega
  have hik : i < k := by omega
  rw [hN, regF_add, regF_add]
  rw [regF_quiet 0#32 bit (fun j hj => by rw [decide_eq_false (by omega)]; rfl), fedN_zero]
  rw [regF_congr (n := k) (g := fun j => mask.getLsbD j) (fun j hj => by rw [show bit + j - bit = j by omega, decide_eq_true (by omega)]; simp), regF_word 0#32 mask k hk32]
  rw [regF_quiet _ m (fun j hj => by
    show (decide _ && mask.getLsbD _) = false
    by_cases h32 : k = 32
    · rw [decide_eq_false (by omega)]; rfl
    · omega)]
  intro e
  have e1 := fedN_inj (e.trans (fedN_zero m).symm)
  have e2 := fedN_inj (e1.trans (fedN_zero k).symm)
  rw [BitVec.zero_xor] at e2
  have e3 := congrArg (fun z => BitVec.getLsbD z i) e2
  simp only [lowW_bit, hm, hik, decide_true, Bool.and_true, BitVec.getLsbD_zero] at e3
  cases e3
theorem spoil_reg {l n : List By} {bit : Nat} {mask : Wd} (h : spoilP l bit mask = some n) : regL ones n ≠ regL ones l := by
  obtain ⟨h1, h2, rfl⟩ := spoil_some h
  rw [regL_bits, regL_bits, spoilN_len]
  rw [regF_congr (fun n hn => spoilN_bit l bit mask n hn 32)]
  intro e
  have hx := regF_xor ones 0#32 (bitA l) (fun n => decide (bit ≤ n ∧ n < bit + 32) && mask.getLsbD (n - bit)) (8 * l.length)
  rw [BitVec.xor_zero, e] at hx
  have := congrArg (fun z => regF ones (bitA l) (8 * l.length) ^^^ z) hx
  simp only [← BitVec.xor_assoc, BitVec.xor_self, BitVec.zero_xor] at this
  exact burst h1 ((someN_iff l bit mask 32).1 h2) this.symm
theorem burst_law (b : List By) {bit : Nat} {mask : Wd} {n : List By} (h : spoilP (sealP b) bit mask = some n) : openP n = none ∧ n ≠ sealP b := by
  have hr := spoil_reg h
  rw [seal_res] at hr
  obtain ⟨h1, h2, rfl⟩ := spoil_some h
  have hl : 4 ≤ (spoilN (sealP b) bit mask 32).length := by rw [spoilN_len]; unfold sealP; rw [List.length_append, four_len]; omega
  refine ⟨?_, fun e => hr (by rw [e, seal_res])⟩
  cases ho : openP (spoilN (sealP b) bit mask 32) with
  | none => rfl
  | some q => exact absurd ((open_res _ hl).1 ⟨q, ho⟩) hr
/-! ### one byte, four bytes -/
theorem one_byte (l : List By) (i : Nat) (hi : i < l.length) (b : By) : sumC 0#32 (l.set i b) = sumC 0#32 l ↔ b = l[i] := by
  have e : l = l.take i ++ l[i] :: l.drop (i + 1) := by rw [List.getElem_cons_drop, List.take_append_drop]
  have e2 : l.set i b = l.take i ++ b :: l.drop (i + 1) := List.set_eq_take_append_cons_drop ▸ by rw [if_pos hi]
  constructor
  · intro h
    have h1 := not_inj h
    rw [e2] at h1
    conv at h1 => rhs; rw [e]
    rw [regL_app, regL_app] at h1
    have h2 : regL (step (regL ones (l.take i)) b) (l.drop (i + 1)) = regL (step (regL ones (l.take i)) l[i]) (l.drop (i + 1)) := h1
    exact step_inj2 (regL_inj h2)
  · intro h; rw [h, List.set_getElem_self]
theorem tail_more (s t : Wd) : sumC s (four (tailW s t)) = t := by
  unfold sumC tailW
  rw [regL_four, BitVec.xor_comm (backN 32 (~~~t)), ← BitVec.xor_assoc, BitVec.xor_self, BitVec.zero_xor, fedN_back, BitVec.not_not]
theorem more_tail (s x : Wd) : tailW s (sumC s (four x)) = x := by
  unfold sumC tailW
  rw [BitVec.not_not, regL_four, backN_fed, BitVec.xor_comm (~~~s), BitVec.xor_assoc, BitVec.xor_self, BitVec.xor_zero]
theorem more_four (s t : Wd) (x : Wd) : sumC s (four x) = t ↔ x = tailW s t := by
  constructor
  · intro h; rw [← h, more_tail]
  · intro h; rw [h, tail_more]
end Go.Proofs.Ytnjcffhpfmnbfaa
