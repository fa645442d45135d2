/- pixel: Far, Near. -/
import Derived.Test.YtnhkiblakclcoaaBi
import Derived.Test.YtnhkiblakclcoaaD
namespace Go.Proofs.Ytnhkiblakclcoaa
open Go.RowKit
attribute [local go_sem] Oper.semAt_some
attribute [local go_sem] Nat.add_assoc wide_fn wide_depth

def dI (x y : Int) : Int := max x y - min x y
def farI (r g b a r' g' b' a' : Int) : Int := dI r r' + dI g g' + dI b b' + dI a a'
theorem dI_bd {x y : Int} (hx : ok8 x) (hy : ok8 y) : 0 ≤ dI x y ∧ dI x y ≤ 255 := by
  unfold dI ok8 at *; omega

/-- '==' between two colours. -/
theorem eql_col (r g b a r' g' b' a' : Int) (w : World) :
    (binOp .eql 27 (col r g b a) (col r' g' b' a')).run Try.prog w = .ok (.bool (decide (r = r' ∧ g = g' ∧ b = b' ∧ a = a'))) w := by
  by_cases h1 : r = r'
  · by_cases h2 : g = g'
    · by_cases h3 : b = b'
      · by_cases h4 : a = a'
        · subst h1 h2 h3 h4; simp [go_sem]
        · subst h1 h2 h3; simp [go_sem, h4]
      · subst h1 h2; simp [go_sem, h3]
    · subst h1; simp [go_sem, h2]
  · simp [go_sem, h1]

set_option maxHeartbeats 1000000 in
theorem far_same (r g b a : Int) (w : World) :
    Calls Try.prog 17 #[col r g b a, col r g b a] w fun e w' => e = .returned (.int .i64 0) ∧ Below w.heap.size w w' := by
  go_enter Try.func17, Try.ntmps17
  go_wp2
  go_ret
  exact ⟨rfl, ((Below.refl _ _).alloc (Nat.le_refl _) _).alloc (by simp) _⟩

set_option maxHeartbeats 1000000 in
theorem far_other (r g b a r' g' b' a' : Int) (w : World) (hr : ok8 r) (hg : ok8 g) (hb : ok8 b) (ha : ok8 a) (hr' : ok8 r') (hg' : ok8 g') (hb' : ok8 b') (ha' : ok8 a')
    (hne : ¬ (r = r' ∧ g = g' ∧ b = b' ∧ a = a')) :
    Calls Try.prog 17 #[col r g b a, col r' g' b' a'] w fun e w' => e = .returned (.int .i64 (farI r g b a r' g' b' a')) ∧ Below w.heap.size w w' := by
  have he : ∀ w, (binOp .eql 27 (col r g b a) (col r' g' b' a')).run Try.prog w = .ok (.bool false) w := fun w => by rw [eql_col, decide_eq_false hne]
  have HN := Lib.hid hne
  clear hne
  obtain ⟨N, hN⟩ : ∃ N, w.heap.size = N := ⟨_, rfl⟩
  rw [hN]
  go_enter Try.func17, Try.ntmps17
  go_wp2_with fail
  refine (both_int r g b a r' g' b' a' 36 _ (fun x y => max x y - min x y) _ hr hg hb ha hr' hg' hb' ha' (enters_of Try.func36 (by kernel_rfl) rfl) (fun W _ x y hx hy => far1_any x y W hx hy)).mono ?_
  rintro e w1 ⟨rfl, hb1⟩
  have hb0 : Below N w w1 := by
    refine Below.trans ?_ (hb1.mono (by simp [hN]; omega))
    repeat' (first | exact Below.refl _ _ | refine Below.alloc ?_ (by simp [hN]; try omega) _)
  have Hb := Lib.hid hb0
  clear hb0 hb1 he
  obtain ⟨d1, d1'⟩ := dI_bd hr hr'
  obtain ⟨d2, d2'⟩ := dI_bd hg hg'
  obtain ⟨d3, d3'⟩ := dI_bd hb hb'
  obtain ⟨d4, d4'⟩ := dI_bd ha ha'
  have Hfin := Lib.hid (show farI r g b a r' g' b' a' = dI r r' + dI g g' + dI b b' + dI a a' from rfl)
  unfold dI at *
  generalize max r r' - min r r' = x1 at *
  generalize max g g' - min g g' = x2 at *
  generalize max b b' - min b b' = x3 at *
  generalize max a a' - min a a' = x4 at *
  have i0 : ∀ w, (Instr.index 61 (.agg #[.int .i64 x1, .int .i64 x2, .int .i64 x3, .int .i64 x4]) (.int .i64 0)).run Try.prog w = .ok (.int .i64 x1) w := fun _ => by kernel_rfl
  have i1 : ∀ w, (Instr.index 61 (.agg #[.int .i64 x1, .int .i64 x2, .int .i64 x3, .int .i64 x4]) (.int .i64 1)).run Try.prog w = .ok (.int .i64 x2) w := fun _ => by kernel_rfl
  have i2 : ∀ w, (Instr.index 61 (.agg #[.int .i64 x1, .int .i64 x2, .int .i64 x3, .int .i64 x4]) (.int .i64 2)).run Try.prog w = .ok (.int .i64 x3) w := fun _ => by kernel_rfl
  have i3 : ∀ w, (Instr.index 61 (.agg #[.int .i64 x1, .int .i64 x2, .int .i64 x3, .int .i64 x4]) (.int .i64 3)).run Try.prog w = .ok (.int .i64 x4) w := fun _ => by kernel_rfl
  go_wp2_with fail
  refine wp_loop_rounds 5 ?_
  rw [rounds_succ]
  go_wp2
  rw [rounds_succ]
  go_wp2
  rw [rounds_succ]
  go_wp2
  rw [rounds_succ]
  go_wp2
  rw [rounds_succ]
  go_wp2
  go_ret
  exact ⟨ret_int (by rw [Hfin.out]), Hb.out⟩
theorem far_any (r g b a r' g' b' a' : Int) (w : World) (hr : ok8 r) (hg : ok8 g) (hb : ok8 b) (ha : ok8 a) (hr' : ok8 r') (hg' : ok8 g') (hb' : ok8 b') (ha' : ok8 a') :
    Calls Try.prog 17 #[col r g b a, col r' g' b' a'] w fun e w' => e = .returned (.int .i64 (farI r g b a r' g' b' a')) ∧ Below w.heap.size w w' := by
  by_cases h : r = r' ∧ g = g' ∧ b = b' ∧ a = a'
  · obtain ⟨rfl, rfl, rfl, rfl⟩ := h
    refine (far_same r g b a w).mono ?_
    rintro e w' ⟨rfl, hb⟩
    refine ⟨ret_int ?_, hb⟩
    unfold farI dI; omega
  · exact far_other r g b a r' g' b' a' w hr hg hb ha hr' hg' hb' ha' h

set_option maxHeartbeats 1000000 in
theorem near_any (r g b a r' g' b' a' t : Int) (w : World) (hr : ok8 r) (hg : ok8 g) (hb : ok8 b) (ha : ok8 a) (hr' : ok8 r') (hg' : ok8 g') (hb' : ok8 b') (ha' : ok8 a') :
    Calls Try.prog 18 #[col r g b a, col r' g' b' a', .int .i64 t] w fun e w' => e = .returned (.bool (decide (farI r g b a r' g' b' a' ≤ t))) ∧ Below w.heap.size w w' := by
  obtain ⟨N, hN⟩ : ∃ N, w.heap.size = N := ⟨_, rfl⟩
  rw [hN]
  go_enter Try.func18, Try.ntmps18
  go_wp2_with (go_at_call 17; refine (far_any _ _ _ _ _ _ _ _ _ hr hg hb ha hr' hg' hb' ha').mono ?_)
  rintro e w1 ⟨rfl, hb1⟩
  have hb0 : Below N w w1 := by
    refine Below.trans ?_ (hb1.mono (by simp [hN]; omega))
    repeat' (first | exact Below.refl _ _ | refine Below.alloc ?_ (by simp [hN]; try omega) _)
  have Hb := Lib.hid hb0
  clear hb0 hb1
  go_wp2
  go_ret
  exact ⟨rfl, Hb.out⟩
end Go.Proofs.Ytnhkiblakclcoaa
