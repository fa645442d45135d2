/- tile: what is turned, flipped, shifted, counted: the plain laws. -/
import Derived.Test.YtmlkifojbjbpcaaCols
import Derived.Test.YtmlkifojbjbpcaaTurn
import Derived.Test.YtmlkifojbjbpcaaShift
import Derived.Test.YtmlkifojbjbpcaaWith
namespace Go.Proofs.Ytmlkifojbjbpcaa
open Go Go.RowKit
theorem get_set {m : List C4} {i j : Nat} {c : C4} (hi : i < m.length) : get (m.set i c) j = if i = j then c else get m j := by
  unfold get
  rw [List.getD_eq_getElem?_getD, List.getD_eq_getElem?_getD, List.getElem?_set]
  by_cases h : i = j
  · rw [if_pos h, if_pos h, if_pos hi]; rfl
  · rw [if_neg h, if_neg h]
theorem ext64 {l m : List C4} (hl : l.length = 64) (hm : m.length = 64) (h : ∀ i, i < 64 → get l i = get m i) : l = m := by
  refine List.ext_getElem (by omega) fun i h1 h2 => ?_
  have := h i (by omega)
  unfold get at this
  rwa [List.getD_eq_getElem?_getD, List.getD_eq_getElem?_getD, List.getElem?_eq_getElem h1, List.getElem?_eq_getElem h2] at this
theorem grid_getP {g : List C4 → Nat → Nat → List C4} {z : List C4} {val : Nat → C4} {π inv : Nat → Nat} {ok oki : Nat → Prop} [DecidablePred ok] [DecidablePred oki] (hz : z.length = 64) (hlen : ∀ m x y, (g m x y).length = m.length)
    (hg : ∀ m k, k < 64 → g m (k % 8) (k / 8) = if ok k then m.set (π k) (val k) else m) (hπ : ∀ k, k < 64 → ok k → π k < 64) (hinv : ∀ k, k < 64 → ∀ j, j < 64 → ((ok k ∧ π k = j) ↔ (oki j ∧ k = inv j))) :
    ∀ n, n ≤ 64 → ∀ j, j < 64 → get (gridN g z n) j = if oki j ∧ inv j < n then val (inv j) else get z j
  | 0, _, j, _ => by rw [if_neg (by omega)]; rfl
  | n + 1, hn, j, hj => by
    have ih := grid_getP hz hlen hg hπ hinv n (by omega) j hj
    show get (g (gridN g z n) (n % 8) (n / 8)) j = _
    rw [hg _ n (by omega)]
    have hv := hinv n (by omega) j hj
    by_cases ho : ok n
    · rw [if_pos ho, get_set (by rw [grid_len hlen hz]; exact hπ n (by omega) ho), ih]
      by_cases hp : π n = j
      · obtain ⟨h1, h2⟩ := hv.1 ⟨ho, hp⟩
        rw [if_pos hp, if_pos ⟨h1, by omega⟩, ← h2]
      · rw [if_neg hp]
        by_cases h3 : oki j ∧ inv j < n
        · rw [if_pos h3, if_pos ⟨h3.1, by omega⟩]
        · rw [if_neg h3, if_neg]
          intro h4
          by_cases h5 : n = inv j
          · exact hp (hv.2 ⟨h4.1, h5⟩).2
          · exact h3 ⟨h4.1, by omega⟩
    · rw [if_neg ho, ih]
      by_cases h3 : oki j ∧ inv j < n
      · rw [if_pos h3, if_pos ⟨h3.1, by omega⟩]
      · rw [if_neg h3, if_neg]
        intro h4
        by_cases h5 : n = inv j
        · exact ho (hv.2 ⟨h4.1, h5⟩).1
        · exact h3 ⟨h4.1, by omega⟩
def flipI (j : Nat) : Nat := 8 * (j / 8) + (7 - j % 8)
def turnI (j : Nat) : Nat := 8 * (7 - j % 8) + j / 8
theorem flip_get (l : List C4) {j : Nat} (hj : j < 64) : get (flipL l) j = get l (flipI j) := by
  have := grid_getP (g := flipG l) (z := zero64) (val := fun k => get l k) (π := flipI) (inv := flipI) (ok := fun _ => True) (oki := fun _ => True) zero64_len (flipG_len l)
    (fun m k hk => by rw [if_pos trivial]; unfold flipG flipI; congr 1
                      · omega
                      · congr 1; omega) (fun k hk _ => by unfold flipI; omega) (by decide +kernel) 64 (Nat.le_refl _) j hj
  rw [if_pos ⟨trivial, by unfold flipI; omega⟩] at this
  exact this
theorem turn_get (l : List C4) {j : Nat} (hj : j < 64) : get (turnL l) j = get l (turnI j) := by
  have := grid_getP (g := turnG l) (z := zero64) (val := fun k => get l k) (π := fun k => 8 * (k % 8) + (7 - k / 8)) (inv := turnI) (ok := fun _ => True) (oki := fun _ => True) zero64_len (turnG_len l)
    (fun m k hk => by rw [if_pos trivial]; unfold turnG; congr 1
                      · omega
                      · congr 1; omega) (fun k hk _ => by show 8 * (k % 8) + (7 - k / 8) < 64; omega) (by decide +kernel) 64 (Nat.le_refl _) j hj
  rw [if_pos ⟨trivial, by unfold turnI; omega⟩] at this
  exact this
theorem flipI_lt {j : Nat} (h : j < 64) : flipI j < 64 := by unfold flipI; omega
theorem turnI_lt {j : Nat} (h : j < 64) : turnI j < 64 := by unfold turnI; omega
theorem flip_flip {l : List C4} (hl : l.length = 64) : flipL (flipL l) = l :=
  ext64 (flipL_len _) hl fun i hi => by
    rw [flip_get _ hi, flip_get _ (flipI_lt hi), show flipI (flipI i) = i by unfold flipI; omega]
theorem turn4 {l : List C4} (hl : l.length = 64) : turnN l 4 = l :=
  ext64 (turnN_len hl _) hl fun i hi => by
    show get (turnL (turnL (turnL (turnL l)))) i = _
    rw [turn_get _ hi, turn_get _ (turnI_lt hi), turn_get _ (turnI_lt (turnI_lt hi)), turn_get _ (turnI_lt (turnI_lt (turnI_lt hi))), show turnI (turnI (turnI (turnI i))) = i by unfold turnI; omega]
theorem turn_add (l : List C4) (a : Nat) : ∀ b, turnN (turnN l a) b = turnN l (a + b)
  | 0 => rfl
  | b + 1 => by
    show turnL (turnN (turnN l a) b) = turnL (turnN l (a + b))
    rw [turn_add l a b]
theorem turn_mod {l : List C4} (hl : l.length = 64) : ∀ q r, turnN l (4 * q + r) = turnN l r
  | 0, r => by rw [Nat.mul_zero, Nat.zero_add]
  | q + 1, r => by
    have h := turn_mod hl q r
    rw [show 4 * (q + 1) + r = 4 + (4 * q + r) by omega, ← turn_add, turn4 hl]
    exact h
theorem times_neg (q : Int) : ∃ p, times q + times (-q) = 4 * p := by
  unfold times
  by_cases h : q % 4 = 0
  · exact ⟨0, by omega⟩
  · exact ⟨1, by omega⟩
theorem turn_back {l : List C4} (hl : l.length = 64) (q : Int) : turnN (turnN l (times q)) (times (-q)) = l := by
  obtain ⟨p, hp⟩ := times_neg q
  rw [turn_add, hp]
  exact turn_mod hl p 0
theorem tft : ∀ i, i < 64 → turnI (flipI (turnI i)) = flipI i := by decide +kernel
theorem turn_flip1 {l : List C4} : turnL (flipL (turnL l)) = flipL l :=
  ext64 (turnL_len _) (flipL_len _) fun i hi => by
    rw [turn_get _ hi, flip_get _ (turnI_lt hi), turn_get _ (flipI_lt (turnI_lt hi)), flip_get _ hi, tft i hi]
theorem turn_flipN (l : List C4) : ∀ k, turnN (flipL (turnN l k)) k = flipL l
  | 0 => rfl
  | k + 1 => by
    rw [show turnN l (k + 1) = turnL (turnN l k) from rfl]
    have h1 : turnN (flipL (turnL (turnN l k))) (k + 1) = turnN (turnN (flipL (turnL (turnN l k))) 1) k := by rw [turn_add, Nat.add_comm]
    rw [h1]
    show turnN (turnL (flipL (turnL (turnN l k)))) k = _
    rw [turn_flip1]
    exact turn_flipN l k
theorem flip_turn {l : List C4} (q : Int) : flipL (turnN l (times q)) = turnN (flipL l) (times (-q)) := by
  obtain ⟨p, hp⟩ := times_neg q
  rw [← turn_flipN l (times q), turn_add, hp]
  exact (turn_mod (flipL_len _) p 0).symm
theorem cnt_P (l : List C4) (c : C4) : ∀ k, cntN l c k = (List.range k).countP (fun i => decide (get l i = c))
  | 0 => rfl
  | k + 1 => by
    rw [List.range_succ, List.countP_append, ← cnt_P l c k]
    by_cases h : get l k = c
    · rw [cnt_t h, List.countP_cons_of_pos (by simpa using h)]; rfl
    · rw [cnt_f h, List.countP_cons_of_neg (by simpa using h)]; rfl
theorem cnt_perm {l m : List C4} (σ : Nat → Nat) (h : ∀ i, i < 64 → get m i = get l (σ i)) (hp : ((List.range 64).map σ).Perm (List.range 64)) (c : C4) : cntN m c 64 = cntN l c 64 := by
  rw [cnt_P l, ← hp.countP_eq, List.countP_map, cnt_P m]
  refine List.countP_congr fun i hi => ?_
  rw [h i (List.mem_range.1 hi)]; rfl
theorem cnt_flip (l : List C4) (c : C4) : cntN (flipL l) c 64 = cntN l c 64 := cnt_perm flipI (fun i hi => flip_get l hi) (by decide +kernel) c
theorem cnt_turn (l : List C4) (c : C4) : cntN (turnL l) c 64 = cntN l c 64 := cnt_perm turnI (fun i hi => turn_get l hi) (by decide +kernel) c
theorem cnt_turnN (l : List C4) (c : C4) : ∀ k, cntN (turnN l k) c 64 = cntN l c 64
  | 0 => rfl
  | k + 1 => (cnt_turn _ c).trans (cnt_turnN l c k)
theorem mem_cols (l : List C4) (c : C4) : ∀ k, c ∈ colsN l k ↔ 1 ≤ cntN l c k
  | 0 => by simp [colsN, cntN]
  | k + 1 => by
    have ih := mem_cols l c k
    by_cases h : cntN l (get l k) k = 0
    · rw [cols_t h, List.mem_append, ih, List.mem_singleton]
      by_cases e : get l k = c
      · rw [cnt_t e]; constructor
        · intro _; omega
        · intro _; exact .inr e.symm
      · rw [cnt_f e]; constructor
        · rintro (h1 | h1)
          · exact h1
          · exact absurd h1.symm e
        · exact .inl
    · rw [cols_f h, ih]
      by_cases e : get l k = c
      · rw [cnt_t e]
        subst e
        omega
      · rw [cnt_f e]
theorem cols_nodup (l : List C4) : ∀ k, (colsN l k).Nodup
  | 0 => List.nodup_nil
  | k + 1 => by
    have ih := cols_nodup l k
    by_cases h : cntN l (get l k) k = 0
    · rw [cols_t h]
      refine List.nodup_append.2 ⟨ih, by simp, ?_⟩
      intro a ha b hb e
      have hb := List.mem_singleton.1 hb
      subst hb e
      have := (mem_cols l _ k).1 ha
      omega
    · rw [cols_f h]; exact ih
theorem cols_len_eq {l m : List C4} (h : ∀ c, cntN m c 64 = cntN l c 64) : (colsN m 64).length = (colsN l 64).length :=
  ((List.perm_ext_iff_of_nodup (cols_nodup m 64) (cols_nodup l 64)).2 fun c => by rw [mem_cols, mem_cols, h]).length_eq
/-- The counts of the first i of a row come to. -/
def sumN (l cs : List C4) : Nat → Nat
  | 0 => 0
  | i + 1 => sumN l cs i + cntN l (get cs i) 64
theorem sum_list (l cs : List C4) : ∀ i, i ≤ cs.length → sumN l cs i = ((cs.take i).map fun c => cntN l c 64).sum
  | 0, _ => by simp [sumN]
  | i + 1, h => by
    have hg : cs[i]? = some (get cs i) := by
      unfold get
      rw [List.getD_eq_getElem?_getD, List.getElem?_eq_getElem (by omega)]; rfl
    rw [List.take_add_one, hg, List.map_append, List.sum_append, ← sum_list l cs i (by omega)]
    simp [sumN]
theorem sum_upd (l : List C4) (k : Nat) : ∀ cs : List C4, cs.Nodup → (cs.map fun c => cntN l c (k + 1)).sum = (cs.map fun c => cntN l c k).sum + if get l k ∈ cs then 1 else 0
  | [], _ => rfl
  | c :: cs, h => by
    have hd := List.nodup_cons.1 h
    have ih := sum_upd l k cs hd.2
    rw [List.map_cons, List.map_cons, List.sum_cons, List.sum_cons, ih]
    by_cases e : get l k = c
    · rw [cnt_t e, if_neg (by rw [e]; exact hd.1), if_pos (by rw [e]; exact List.mem_cons_self)]; omega
    · rw [cnt_f e]
      by_cases m : get l k ∈ cs
      · rw [if_pos m, if_pos (List.mem_cons_of_mem _ m)]; omega
      · rw [if_neg m, if_neg (fun h => (List.mem_cons.1 h).elim e m)]; omega
theorem sum_cols (l : List C4) : ∀ k, ((colsN l k).map fun c => cntN l c k).sum = k
  | 0 => rfl
  | k + 1 => by
    have ih := sum_cols l k
    by_cases h : cntN l (get l k) k = 0
    · rw [cols_t h, List.map_append, List.sum_append, sum_upd l k _ (cols_nodup l k), ih, if_neg (fun hm => by have := (mem_cols l _ k).1 hm; omega)]
      simp [cnt_t (l := l) (k := k) rfl, h]
    · rw [cols_f h, sum_upd l k _ (cols_nodup l k), ih, if_pos ((mem_cols l _ k).2 (by omega))]
theorem sum_all (l : List C4) : sumN l (colsN l 64) (colsN l 64).length = 64 := by
  rw [sum_list _ _ _ (Nat.le_refl _), List.take_length]
  exact sum_cols l 64
theorem cnt_mono (l : List C4) (c : C4) : ∀ {i k : Nat}, i < k → get l i = c → 1 ≤ cntN l c k
  | i, 0, h, _ => by omega
  | i, k + 1, h, e => by
    by_cases e2 : get l k = c
    · rw [cnt_t e2]; omega
    · rw [cnt_f e2]
      refine cnt_mono l c (i := i) ?_ e
      by_cases h3 : i = k
      · subst h3; exact absurd e e2
      · omega
theorem run_cols (l : List C4) : ∀ k, (colsN l (k + 1)).length ≤ runN l k
  | 0 => by unfold colsN; split <;> simp [colsN, runN]
  | k + 1 => by
    have ih := run_cols l k
    by_cases e : get l (k + 1) = get l k
    · rw [show runN l (k + 1) = runN l k from if_pos e, cols_f (k := k + 1) (by have := cnt_mono l (get l (k + 1)) (i := k) (k := k + 1) (by omega) e.symm; omega)]
      exact ih
    · rw [show runN l (k + 1) = runN l k + 1 from if_neg e]
      by_cases h : cntN l (get l (k + 1)) (k + 1) = 0
      · rw [cols_t h, List.length_append, List.length_singleton]; omega
      · rw [cols_f h]; omega
theorem cols_pos (l : List C4) (k : Nat) : 1 ≤ (colsN l (k + 1)).length := by
  have : get l 0 ∈ colsN l (k + 1) := (mem_cols l _ _).2 (cnt_mono l _ (i := 0) (by omega) rfl)
  exact List.length_pos_of_mem this
theorem run_one (l : List C4) (h : ∀ i j, i < 64 → j < 64 → get l i = get l j) : ∀ k, k < 64 → runN l k = 1
  | 0, _ => rfl
  | k + 1, hk => by
    rw [show runN l (k + 1) = runN l k from if_pos (h _ _ hk (by omega))]
    exact run_one l h k (by omega)
theorem one_run (l : List C4) : decide (((runN l 63 : Nat) : Int) = 1) = decide ((((colsN l 64).length : Nat) : Int) = 1) := by
  have h1 : (colsN l 64).length ≤ runN l 63 := run_cols l 63
  have h2 : 1 ≤ (colsN l 64).length := cols_pos l 63
  by_cases h : runN l 63 = 1
  · have e1 : ((runN l 63 : Nat) : Int) = 1 := by omega
    have e2 : (((colsN l 64).length : Nat) : Int) = 1 := by omega
    rw [decide_eq_true e1, decide_eq_true e2]
  · have e1 : ¬ ((runN l 63 : Nat) : Int) = 1 := by omega
    rw [decide_eq_false e1, decide_eq_false]
    intro h3
    have h3 : (colsN l 64).length = 1 := by omega
    obtain ⟨c, hc⟩ := List.length_eq_one_iff.1 h3
    refine h (run_one l (fun i j hi hj => ?_) 63 (by omega))
    have key : ∀ i, i < 64 → get l i = c := fun i hi => by
      have : get l i ∈ colsN l 64 := (mem_cols l _ _).2 (cnt_mono l _ hi rfl)
      rw [hc] at this
      exact List.mem_singleton.1 this
    rw [key i hi, key j hj]
theorem cols_not {l : List C4} {i : Nat} {x : C4} (h : (colsN l 64)[i]? = some x) : ¬ x ∈ (colsN l 64).take i := by
  intro hm
  obtain ⟨j, hj, hx⟩ := List.getElem_of_mem hm
  rw [List.length_take] at hj
  rw [List.getElem_take] at hx
  obtain ⟨hi, hx2⟩ := List.getElem?_eq_some_iff.1 h
  exact List.pairwise_iff_getElem.1 (cols_nodup l 64) j i (by omega) hi (by omega) (hx.trans hx2.symm)
/-! ### shifted -/
theorem new_get (c : C4) {j : Nat} (hj : j < 64) : get (newL c) j = c := by
  have := grid_getP (g := newG c) (z := zero64) (val := fun _ => c) (π := fun k => k) (inv := fun k => k) (ok := fun _ => True) (oki := fun _ => True) zero64_len (newG_len c)
    (fun m k hk => by rw [if_pos trivial]; unfold newG; congr 1; omega) (fun k hk _ => hk) (fun k hk j hj => by simp) 64 (Nat.le_refl _) j hj
  rw [if_pos ⟨trivial, hj⟩] at this
  exact this
theorem moved_get {dx dy : Int} (l : List C4) (c : C4) {u v : Nat} (hu : u < 8) (hv : v < 8) : get (movedL (shiftF dx dy) l c) (8 * v + u) = if isP (u - dx) (v - dy) = true then get l (8 * ((v : Int) - dy).toNat + ((u : Int) - dx).toNat) else c := by
  have hin : ∀ x y : Int, isP x y = true ↔ (0 ≤ x ∧ x < 8 ∧ 0 ≤ y ∧ y < 8) := fun x y => by unfold isP; simp
  have := grid_getP (g := movedG (shiftF dx dy) l) (z := newL c) (val := fun k => get l k) (π := fun k => (8 * (((k / 8 : Nat) : Int) + dy) + (((k % 8 : Nat) : Int) + dx)).toNat) (inv := fun j => (8 * (((j / 8 : Nat) : Int) - dy) + (((j % 8 : Nat) : Int) - dx)).toNat)
    (ok := fun k => isP (((k % 8 : Nat) : Int) + dx) (((k / 8 : Nat) : Int) + dy) = true) (oki := fun j => isP (((j % 8 : Nat) : Int) - dx) (((j / 8 : Nat) : Int) - dy) = true) (newL_len c) (movedG_len _ l)
    (fun m k hk => by
      unfold movedG putL shiftF
      rw [show 8 * (k / 8) + k % 8 = k by omega])
    (fun k hk ho => by
      have := (hin _ _).1 ho
      omega)
    (fun k hk j hj => by
      rw [hin, hin]
      constructor
      · rintro ⟨h1, h2⟩
        constructor
        · omega
        · omega
      · rintro ⟨h1, h2⟩
        constructor
        · omega
        · omega) 64 (Nat.le_refl _) (8 * v + u) (by omega)
  rw [show (8 * v + u) % 8 = u by omega, show (8 * v + u) / 8 = v by omega] at this
  unfold movedL
  rw [this]
  by_cases h : isP (u - dx) (v - dy) = true
  · have h2 := (hin _ _).1 h
    rw [if_pos ⟨h, by omega⟩, if_pos h]
    congr 1
    omega
  · rw [if_neg (fun h2 => h h2.1), if_neg h, new_get c (by omega)]
theorem clamp_id {x : Int} (h1 : -8 ≤ x) (h2 : x ≤ 8) : clamp x = x := by unfold clamp; split <;> split <;> omega
/-- Shifted there and back. -/
theorem shift_back {l : List C4} {dx dy : Int} (h1 : -8 ≤ dx ∧ dx ≤ 8) (h2 : -8 ≤ dy ∧ dy ≤ 8) {u v : Nat} (hu : u < 8) (hv : v < 8) : atC (shiftL (shiftL l zeroC dx dy) zeroC (-dx) (-dy)) u v = if isP (u + dx) (v + dy) = true then atC l u v else zeroC := by
  have hin : ∀ x y : Int, isP x y = true ↔ (0 ≤ x ∧ x < 8 ∧ 0 ≤ y ∧ y < 8) := fun x y => by unfold isP; simp
  have huv : isP (u : Int) (v : Int) = true := (hin _ _).2 ⟨by omega, by omega, by omega, by omega⟩
  unfold atC shiftL
  rw [clamp_id h1.1 h1.2, clamp_id h2.1 h2.2, clamp_id (by omega) (by omega), clamp_id (by omega) (by omega), if_pos huv, if_pos huv, show (8 * (v : Int) + u).toNat = 8 * v + u by omega, moved_get _ _ hu hv, Int.sub_neg, Int.sub_neg]
  by_cases h : isP (u + dx) (v + dy) = true
  · rw [if_pos h, if_pos h]
    have h3 := (hin _ _).1 h
    rw [moved_get (dx := dx) (dy := dy) (u := ((u : Int) + dx).toNat) (v := ((v : Int) + dy).toNat) l zeroC (by omega) (by omega), if_pos ((hin _ _).2 ⟨by omega, by omega, by omega, by omega⟩)]
    congr 1
    omega
  · rw [if_neg h, if_neg h]
/-! ### the box -/
theorem box_has (a b : List C4) : ∀ k i, i < k → ¬ get a i = get b i → (boxN a b k).x ≤ (i % 8 : Nat) ∧ ((i % 8 : Nat) : Int) ≤ (boxN a b k).x2 ∧ (boxN a b k).y ≤ (i / 8 : Nat) ∧ ((i / 8 : Nat) : Int) ≤ (boxN a b k).y2
  | 0, i, h, _ => by omega
  | k + 1, i, h, hne => by
    by_cases e : get a k = get b k
    · rw [show boxN a b (k + 1) = boxN a b k from if_pos e]
      refine box_has a b k i ?_ hne
      by_cases h2 : i = k
      · subst h2; exact absurd e hne
      · omega
    · rw [show boxN a b (k + 1) = boxS (boxN a b k) ((k % 8 : Nat) : Int) ((k / 8 : Nat) : Int) from if_neg e]
      by_cases h2 : i = k
      · subst h2
        unfold boxS
        dsimp only
        refine ⟨?_, ?_, ?_, ?_⟩ <;> split <;> omega
      · have ih := box_has a b k i (by omega) hne
        unfold boxS
        dsimp only
        refine ⟨?_, ?_, ?_, ?_⟩ <;> split <;> omega
theorem box_sym (a b : List C4) : ∀ k, boxN a b k = boxN b a k
  | 0 => rfl
  | k + 1 => by
    unfold boxN
    rw [box_sym a b k]
    by_cases h : get a k = get b k
    · rw [if_pos h, if_pos h.symm]
    · rw [if_neg h, if_neg (fun e => h e.symm)]
def inB (z : BoxV) (x y : Int) : Bool := decide (z.x ≤ x ∧ x ≤ z.x2 ∧ z.y ≤ y ∧ y ≤ z.y2)
/-- What is within the box, put. -/
def putG (z : BoxV) (b m : List C4) (x y : Nat) : List C4 := if inB z x y = true then m.set (8 * y + x) (get b (8 * y + x)) else m
theorem putG_len (z : BoxV) (b : List C4) : ∀ m x y, (putG z b m x y).length = m.length := fun m x y => by
  unfold putG; split
  · exact List.length_set
  · rfl
theorem put_all {a b : List C4} (ha : a.length = 64) (hb : b.length = 64) : gridN (putG (boxN a b 64) b) a 64 = b :=
  ext64 (grid_len (putG_len _ _) ha _) hb fun i hi => by
    have := grid_getP (g := putG (boxN a b 64) b) (z := a) (val := fun k => get b k) (π := fun k => k) (inv := fun k => k) (ok := fun k => inB (boxN a b 64) ((k % 8 : Nat) : Int) ((k / 8 : Nat) : Int) = true) (oki := fun k => inB (boxN a b 64) ((k % 8 : Nat) : Int) ((k / 8 : Nat) : Int) = true) ha (putG_len _ _)
      (fun m k hk => by unfold putG; rw [show 8 * (k / 8) + k % 8 = k by omega]) (fun k hk _ => hk) (fun k hk j hj => by
        constructor
        · rintro ⟨h1, h2⟩; subst h2; exact ⟨h1, rfl⟩
        · rintro ⟨h1, h2⟩; subst h2; exact ⟨h1, rfl⟩) 64 (Nat.le_refl _) i hi
    rw [this]
    by_cases h : inB (boxN a b 64) ((i % 8 : Nat) : Int) ((i / 8 : Nat) : Int) = true
    · rw [if_pos ⟨h, hi⟩]
    · rw [if_neg (fun h2 => h h2.1)]
      by_cases e : get a i = get b i
      · exact e
      · refine absurd ?_ h
        obtain ⟨h1, h2, h3, h4⟩ := box_has a b 64 i hi e
        unfold inB
        exact decide_eq_true ⟨h1, h2, h3, h4⟩
theorem out_same {a b : List C4} {x y : Nat} (hx : x < 8) (hy : y < 8) (h : ¬ inB (boxN a b 64) x y = true) : get b (8 * y + x) = get a (8 * y + x) := by
  by_cases e : get a (8 * y + x) = get b (8 * y + x)
  · exact e.symm
  · refine absurd ?_ h
    obtain ⟨h1, h2, h3, h4⟩ := box_has a b 64 (8 * y + x) (by omega) e
    rw [show (8 * y + x) % 8 = x by omega] at h1 h2
    rw [show (8 * y + x) / 8 = y by omega] at h3 h4
    unfold inB
    exact decide_eq_true ⟨h1, h2, h3, h4⟩
end Go.Proofs.Ytmlkifojbjbpcaa
