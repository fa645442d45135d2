/- pixel: Pack. -/
import Derived.Test.YtnhkiblakclcoaaB
namespace Go.Proofs.Ytnhkiblakclcoaa
open Go.RowKit
attribute [local go_sem] Oper.semAt_some
attribute [local go_sem] Nat.add_assoc wide_fn wide_depth

theorem or_256 (p x : Int) (h0 : 0 ≤ p) (h1 : p ≤ 16777215) (x0 : 0 ≤ x) (x1 : x ≤ 255) : bits BinOp.or IntKind.u32 (p * 256) x = p * 256 + x := by
  obtain ⟨a, rfl⟩ := Int.eq_ofNat_of_zero_le h0
  obtain ⟨b, rfl⟩ := Int.eq_ofNat_of_zero_le x0
  have e : ((a : Int) * 256) = ((a * 256 : Nat) : Int) := by omega
  rw [e, u32_or_nat _ _ (by omega) (by omega)]
  have := Nat.shiftLeft_add_eq_or_of_lt (i := 8) (show b < 2 ^ 8 by omega) a
  rw [Nat.shiftLeft_eq] at this
  rw [show a * 256 ||| b = a * 256 + b from this.symm]
  omega

def packN (r g b a : Int) (k : Nat) : Int := if k = 0 then 0 else if k = 1 then r else if k = 2 then r * 256 + g else if k = 3 then (r * 256 + g) * 256 + b else ((r * 256 + g) * 256 + b) * 256 + a
def packL (N : Nat) (r g b a : Int) (k : Nat) (_ : Unit) : List (Nat × Obj) := [(N + 1, .cells #[.int .u32 (packN r g b a k)] 28), (N + 2, colObj r g b a)]

set_option maxHeartbeats 1000000 in
theorem pack_any (r g b a : Int) (w : World) (hr : ok8 r) (hg : ok8 g) (hb : ok8 b) (ha : ok8 a) :
    Calls Try.prog 10 #[col r g b a] w fun e w' => e = .returned (.int .u32 (packN r g b a 4)) ∧ Below w.heap.size w w' := by
  obtain ⟨N, hN⟩ : ∃ N, w.heap.size = N := ⟨_, rfl⟩
  rw [hN]
  refine calls_of_marks Try.func10 rfl ?_
  simp only [Try.ntmps10, List.size_toArray, List.length_cons, List.length_nil, Nat.reduceAdd, Nat.reduceSub, Array.replicate_succ, Array.replicate_zero, List.push_toArray, List.append_toArray, List.nil_append, List.cons_append]
  go_wp2_with (go_at_call 29; refine (parts_any _ _ _ _ _).mono ?_; rintro e w' ⟨rfl, rfl⟩)
  refine wp_range (parts_iter r g b a (N + 2) hr hg hb ha) rfl (enters_of Try.func42 (by kernel_rfl) rfl) (fun _ => rfl)
    (Inv N w (packL N r g b a) (fun _ _ => True)) (fun _ _ => False)
    (fun k W h => by obtain ⟨_, _, h, _⟩ := h; exact h.2.1) (Inv.own (by omega) (by simp; omega) (fun _ _ => by simp [packL, CellsAll, Obj.isCells, colObj])) (ownFalse _) ?start ?round ?done (fun _ _ _ _ h _ => h.elim)
  case start =>
    refine ⟨(), ?_, ?_, trivial⟩
    · repeat' (first | exact Below.refl _ _ | refine Below.alloc ?_ (by simp [hN]; try omega) _)
    · simp [Blocks, packL, packN, hp_alloc, hN, colObj, Nat.add_assoc]
  case round =>
    apply Exists.intro
    refine ⟨?assign, ?body⟩
    case assign =>
      intro l x W K hK
      gi_wp2
      exact hK
    case body =>
      intro l k W hk hl hrec hinv
      obtain ⟨_, hbel, hblk, _⟩ := hinv
      obtain ⟨b1, b2, _⟩ := hblk
      clear hrec
      obtain ⟨c0, cf⟩ := cells1 b1
      have hk4 : k < 4 := by simpa using hk
      obtain ⟨x, hx, ox, hp0, hp1, hpk⟩ : ∃ x : Int, [((0 : Int), r), (1, g), (2, b), (3, a)][k] = ((k : Int), x) ∧ ok8 x ∧ 0 ≤ packN r g b a k ∧ packN r g b a k ≤ 16777215 ∧ packN r g b a (k + 1) = packN r g b a k * 256 + x := by
        unfold ok8 at *
        obtain rfl | rfl | rfl | rfl : k = 0 ∨ k = 1 ∨ k = 2 ∨ k = 3 := by omega
        · exact ⟨r, rfl, hr, by simp [packN], by simp [packN], by simp [packN]⟩
        · exact ⟨g, rfl, hg, by simp [packN]; omega, by simp [packN]; omega, by simp [packN]⟩
        · exact ⟨b, rfl, hb, by simp [packN]; omega, by simp [packN]; omega, by simp [packN]⟩
        · exact ⟨a, rfl, ha, by simp [packN]; omega, by simp [packN]; omega, by simp [packN]⟩
      rw [hx]
      obtain ⟨x1, x2⟩ := ox
      have HB := Lib.hid (And.intro hbel (And.intro b1 (And.intro b2 hpk)))
      clear b1 b2 hbel hpk hx
      generalize packN r g b a k = pk at *
      gi_wp2
      obtain ⟨hbel, b1, b2, hpk⟩ := HB.out
      refine ⟨(KeepsOthers.setCell _ _ _).from _, (), hbel.setCell (p := ⟨N + 1, 0, none⟩) (by simp) _, ?_, trivial⟩
      rw [or_256 pk x hp0 hp1 x1 x2]
      have b2' : hp W (N + 2) = some (colObj r g b a) := b2
      simp [Blocks, packL, hp_setCell, b1, b2', Obj.put, hpk]
  case done =>
    intro D W hD hinv hDk
    obtain ⟨_, hbel, hblk, _⟩ := hinv
    obtain ⟨b1, b2, _⟩ := hblk
    obtain ⟨c0, cf⟩ := cells1 b1
    have Hk := Lib.hid (And.intro hDk hbel)
    clear hDk hbel b1 b2
    go_wp2
    obtain ⟨hDk, hbel⟩ := Hk.out
    simp at hD
    refine bodyM_ret1 rfl hDk (results_tmp rfl _ _ _) ⟨rfl, Below.putObj hbel (by omega) _⟩

set_option maxHeartbeats 1000000 in
theorem unpack_any (x : Int) (w : World) (hx : 0 ≤ x) (hx' : x ≤ 4294967295) :
    Calls Try.prog 14 #[.int .u32 x] w fun e w' => e = .returned (col (x / 16777216) (x / 65536 % 256) (x / 256 % 256) (x % 256)) ∧ Below w.heap.size w w' := by
  go_enter Try.func14, Try.ntmps14
  go_wp2
  exact bodyPost_ret (v := col (x / 16777216) (x / 65536 % 256) (x / 256 % 256) (x % 256)) (by simp [results, Try.results14, go_sem]) rfl ⟨rfl, (Below.refl _ _).alloc (Nat.le_refl _) _⟩

theorem far1_any (x y : Int) (w : World) (hx : ok8 x) (hy : ok8 y) :
    Calls Try.prog 36 (#[.int .i64 x, .int .i64 y] ++ #[]) w fun e w' => e = .returned (.int .i64 (max x y - min x y)) ∧ w = w' := by
  obtain ⟨x1, x2⟩ := hx
  obtain ⟨y1, y2⟩ := hy
  show Calls Try.prog 36 #[.int .i64 x, .int .i64 y] w _
  rcases Int.lt_trichotomy x y with h | h | h
  · go_enter Try.func36, Try.ntmps36
    go_wp2
    all_goals (go_ret; exact ⟨ret_int (by omega), rfl⟩)
  · subst h
    go_enter Try.func36, Try.ntmps36
    go_wp2
    all_goals (go_ret; exact ⟨ret_int (by omega), rfl⟩)
  · go_enter Try.func36, Try.ntmps36
    go_wp2
    all_goals (go_ret; exact ⟨ret_int (by omega), rfl⟩)
end Go.Proofs.Ytnhkiblakclcoaa
