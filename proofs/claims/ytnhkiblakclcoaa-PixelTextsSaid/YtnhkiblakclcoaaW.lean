/- pixel: wakes. -/
import Derived.Test.YtnhkiblakclcoaaG
import Derived.Test.YtnhkiblakclcoaaH
import Derived.Test.YtnhkiblakclcoaaI
namespace Go.Proofs.Ytnhkiblakclcoaa
open Go.RowKit
attribute [local go_sem] Oper.semAt_some
attribute [local go_sem] wide_fn wide_depth Nat.add_assoc

instance (x : Int) : Decidable (ok8 x) := by unfold ok8; exact inferInstance

theorem w_over (w : World) : Calls Try.prog 20 #[col 10 20 30 255, col 200 100 50 128] w fun e w' => e = .returned (col 105 60 40 255) ∧ Below w.heap.size w w' :=
  (over_any 10 20 30 255 200 100 50 128 w (by decide) (by decide) (by decide) (by decide) (by decide) (by decide) (by decide) (by decide)).mono fun e w' ⟨he, hb⟩ => ⟨he.trans (by simp [shareI]), hb⟩
abbrev sGood : ByteArray := ⟨#[48, 49, 48, 50, 48, 51, 102, 102]⟩
abbrev sBad : ByteArray := ⟨#[48, 49, 103, 50, 48, 51, 48, 52]⟩
theorem w_good (w : World) : Calls Try.prog 15 #[.string sGood] w fun e w' => e = .returned (.tuple #[col 1 2 3 255, .int .i64 0]) ∧ Below w.heap.size w w' :=
  (read_8 sGood w (by decide)).mono fun e w' ⟨h1, _, hb⟩ => ⟨h1 16909311 (by decide +kernel), hb⟩
theorem w_bad (w : World) : Calls Try.prog 15 #[.string sBad] w fun e w' => e = .returned (.tuple #[col 0 0 0 0, .int .i64 130]) ∧ Below w.heap.size w w' :=
  (read_8 sBad w (by decide)).mono fun e w' ⟨_, h2, hb⟩ => ⟨h2 (by decide +kernel), hb⟩
theorem w_text (w : World) : Calls Try.prog 12 #[col 1 2 3 255] w fun e w' => e = .returned (.string sGood) ∧ Below w.heap.size w w' :=
  (text_any 1 2 3 255 w (by decide) (by decide) (by decide) (by decide)).mono fun e w' ⟨he, hb⟩ => ⟨he.trans (by rw [show strOf (textN 1 2 3 255 4) = sGood from by decide +kernel]), hb⟩
theorem w_pack (w : World) : Calls Try.prog 10 #[col 1 2 3 4] w fun e w' => e = .returned (.int .u32 16909060) ∧ Below w.heap.size w w' :=
  (pack_any 1 2 3 4 w (by decide) (by decide) (by decide) (by decide)).mono fun e w' ⟨he, hb⟩ => ⟨he.trans (by simp [packN]), hb⟩
theorem w_far (w : World) : Calls Try.prog 17 #[col 1 2 3 4, col 4 3 2 1] w fun e w' => e = .returned (.int .i64 8) ∧ Below w.heap.size w w' :=
  (far_any 1 2 3 4 4 3 2 1 w (by decide) (by decide) (by decide) (by decide) (by decide) (by decide) (by decide) (by decide)).mono fun e w' ⟨he, hb⟩ => ⟨he.trans (by rw [show farI 1 2 3 4 4 3 2 1 = 8 from by decide]), hb⟩
theorem w_near (B cap : Nat) (w : World) (hB : hp w B = some (.cells #[.int .u8 0, .int .u8 0, .int .u8 0, .int .u8 0, .int .u8 9, .int .u8 9, .int .u8 9, .int .u8 9] 27)) :
    Calls Try.prog 19 #[col 5 5 5 5, .slice (some ⟨B, 0, none⟩) 2 cap] w fun e w' => e = .returned (.int .i64 1) ∧ Below w.heap.size w w' :=
  (nearest_some ⟨5, 5, 5, 5⟩ B 0 cap [⟨0, 0, 0, 0⟩, ⟨9, 9, 9, 9⟩] w ⟨by decide, by decide, by decide, by decide⟩
    (by intro c hc; simp at hc; rcases hc with rfl | rfl <;> exact ⟨by decide, by decide, by decide, by decide⟩) (hp_lt hB)
    (by
      intro i hi
      match i, hi with
      | 0, _ => exact ⟨cell_of hB rfl, cell_of hB rfl, cell_of hB rfl, cell_of hB rfl⟩
      | 1, _ => exact ⟨cell_of hB rfl, cell_of hB rfl, cell_of hB rfl, cell_of hB rfl⟩) (by decide)).mono fun e w' ⟨he, hb⟩ =>
    ⟨he.trans (by rw [show nearN ⟨5, 5, 5, 5⟩ [⟨0, 0, 0, 0⟩, ⟨9, 9, 9, 9⟩] ([(⟨0, 0, 0, 0⟩ : C4), ⟨9, 9, 9, 9⟩]).length = 1 from by decide +kernel]), hb⟩

set_option maxHeartbeats 4000000 in
theorem wakes_any (w : World) : Calls Try.prog 9 #[] w fun e w' => e = .returned (.bool true) ∧ Below w.heap.size w w' := by
  obtain ⟨N, hN⟩ : ∃ N, w.heap.size = N := ⟨_, rfl⟩
  rw [hN]
  go_enter Try.func9, Try.ntmps9
  go_wp2_with (go_at_call 20; refine (w_over _).mono ?_)
  rintro e w1 ⟨rfl, b1⟩
  have hb : Below N w w1 := by rw [← hN]; exact b1
  have hs1 := b1.size
  rw [hN] at hs1
  clear b1
  obtain ⟨M1, hM1⟩ : ∃ M, w1.heap.size = M := ⟨_, rfl⟩
  rw [hM1] at hs1
  have HB := Lib.hid hb
  clear hb
  go_wp2_with (go_at_call 15; refine (w_good _).mono ?_)
  rintro e w2 ⟨rfl, b2⟩
  have k1 := kept b2 (hp_new w1 _)
  rw [hM1] at k1
  have hb := below_call (HB.out.alloc (by omega) _) (by omega) b2
  clear b2 HB hM1
  have hs2 := hp_lt k1
  obtain ⟨M2, hM2⟩ : ∃ M, w2.heap.size = M := ⟨_, rfl⟩
  rw [hM2] at hs2
  have HB := Lib.hid (And.intro hb k1)
  clear hb k1
  go_wp2_with (go_at_call 15; refine (w_bad _).mono ?_)
  rintro e w3 ⟨rfl, b3⟩
  obtain ⟨hb, k1⟩ := HB.out
  replace k1 := kept b3 (hp_old _ k1)
  have k2 := kept b3 (hp_new w2 _)
  rw [hM2] at k2
  replace hb := below_call (hb.alloc (by omega) _) (by omega) b3
  clear b3 HB hM2
  have hs3 := hp_lt k2
  obtain ⟨M3, hM3⟩ : ∃ M, w3.heap.size = M := ⟨_, rfl⟩
  rw [hM3] at hs3
  obtain ⟨c0, c1, c2, c3, cf⟩ := cells4 k1
  obtain ⟨d0, d1, d2, d3, df⟩ := cells4 k2
  have HB := Lib.hid hb
  have q1 : M1 < M3 := by omega
  clear hb k1 k2
  have e1 := fun w => eql_col 105 60 40 255 105 60 40 255 w
  have e2 := fun w => eql_col 1 2 3 255 1 2 3 255 w
  simp only [and_self, decide_true] at e1 e2
  go_wp2_with (go_at_call 12; refine (w_text _).mono ?_)
  rintro e w4 ⟨rfl, b4⟩
  have hb := below_call (HB.out.alloc (by omega) _) (by omega) b4
  clear b4 HB c0 c1 c2 c3 cf d0 d1 d2 d3 df e1 e2
  have HB := Lib.hid hb
  clear hb
  go_wp2_with (go_at_call 10; refine (w_pack _).mono ?_)
  rintro e w5 ⟨rfl, b5⟩
  have hb := below_call HB.out (by omega) b5
  clear b5 HB
  have HB := Lib.hid hb
  clear hb
  go_wp2_with (go_at_call 17; refine (w_far _).mono ?_)
  rintro e w6 ⟨rfl, b6⟩
  have hb := below_call HB.out (by omega) b6
  clear b6 HB
  have HB := Lib.hid hb
  clear hb
  go_wp2_with (go_at_call 19; refine (w_near _ _ _ (hp_new w6 _)).mono ?_)
  rintro e w7 ⟨rfl, b7⟩
  have hb := below_call (HB.out.alloc (by have := HB.out.size; omega) _) (by omega) b7
  clear b7 HB
  have HB := Lib.hid hb
  clear hb
  go_wp2
  go_ret
  exact ⟨rfl, HB.out⟩
end Go.Proofs.Ytnhkiblakclcoaa
