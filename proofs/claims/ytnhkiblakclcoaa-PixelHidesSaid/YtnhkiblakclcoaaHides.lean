/- pixel: PixelHides: the plain law and the walk. -/
import Derived.Test.YtnhkiblakclcoaaW
import Derived.Test.YtnhkiblakclcoaaWays
import Derived.Deep.CutRange
namespace Go.Proofs.Ytnhkiblakclcoaa
open Go.RowKit
attribute [local go_sem] Oper.semAt_some
attribute [local go_sem] Nat.add_assoc wide_fn wide_depth

theorem share_full (u o : Int) : shareI u o 255 = o := by unfold shareI; omega
theorem share_none (u o : Int) : shareI u o 0 = u := by unfold shareI; omega
theorem share_same (u p : Int) : shareI u u p = u := by
  unfold shareI
  have : u * (255 - p) + u * p = u * 255 := by rw [← Int.mul_add]; congr 1; omega
  omega
theorem share_between (u o p : Int) (hp : ok8 p) : min u o ≤ shareI u o p ∧ shareI u o p ≤ max u o := by
  unfold ok8 at hp
  unfold shareI
  obtain ⟨m, hm⟩ : ∃ m, min u o = m := ⟨_, rfl⟩
  obtain ⟨x, hx⟩ : ∃ x, max u o = x := ⟨_, rfl⟩
  have h1 : 0 ≤ (u - m) * (255 - p) := Int.mul_nonneg (by omega) (by omega)
  have h2 : 0 ≤ (o - m) * p := Int.mul_nonneg (by omega) (by omega)
  have h3 : 0 ≤ (x - u) * (255 - p) := Int.mul_nonneg (by omega) (by omega)
  have h4 : 0 ≤ (x - o) * p := Int.mul_nonneg (by omega) (by omega)
  rw [Int.sub_mul] at h1 h2 h3 h4
  have e1 : m * (255 - p) + m * p = m * 255 := by rw [← Int.mul_add]; congr 1; omega
  have e2 : x * (255 - p) + x * p = x * 255 := by rw [← Int.mul_add]; congr 1; omega
  rw [hm, hx]
  omega
theorem share_over (a p : Int) (ha : ok8 a) (hp : ok8 p) : p ≤ p + shareI a 0 p ∧ a ≤ p + shareI a 0 p := by
  unfold ok8 at *
  unfold shareI
  have h1 : 0 ≤ a * (255 - p) := Int.mul_nonneg (by omega) (by omega)
  have h2 : 0 ≤ p * (255 - a) := Int.mul_nonneg (by omega) (by omega)
  rw [Int.mul_sub] at h1 h2
  rw [Int.mul_sub]
  have : p * a = a * p := Int.mul_comm _ _
  omega

abbrev wholeC (b : C4) : C4 := ⟨b.r, b.g, b.b, 255⟩
abbrev goneC (b : C4) : C4 := ⟨b.r, b.g, b.b, 0⟩
abbrev cells2C (a b : C4) : Array Value := #[.int .u8 a.r, .int .u8 a.g, .int .u8 a.b, .int .u8 a.a, .int .u8 b.r, .int .u8 b.g, .int .u8 b.b, .int .u8 b.a]
theorem cols2 {W : World} {blk : Nat} {a b : C4} (h : hp W blk = some (.cells (cells2C a b) 27)) : colsAt W blk 0 [a, b] := by
  intro i hi
  match i, hi with
  | 0, _ => exact ⟨cell_of h rfl, cell_of h rfl, cell_of h rfl, cell_of h rfl⟩
  | 1, _ => exact ⟨cell_of h rfl, cell_of h rfl, cell_of h rfl, cell_of h rfl⟩
theorem over_whole (a b : C4) : overC a (wholeC b) = wholeC b := by
  unfold overC wholeC
  simp only [share_full]
  rfl
theorem layers_whole (a b : C4) : [b, wholeC b].foldl overC a = wholeC b := by
  show overC (overC a b) (wholeC b) = wholeC b
  exact over_whole _ _
def betI (x y z : Int) : Prop := min x y ≤ z ∧ z ≤ max x y
set_option maxHeartbeats 400000 in
theorem between_any (x y z : Int) (w : World) (h : betI x y z) :
    Calls Try.prog 22 #[.int .u8 x, .int .u8 y, .int .u8 z] w fun e w' => e = .returned (.bool true) ∧ w = w' := by
  obtain ⟨h1, h2⟩ := h
  by_cases hxy : x ≤ y
  · have g1 : x ≤ z := by omega
    have g2 : z ≤ y := by omega
    clear h1 h2
    go_enter Try.func22, Try.ntmps22
    go_wp2
    all_goals
      go_ret
      first | exact ⟨rfl, rfl⟩ | exact ⟨by simp; omega, rfl⟩
  · have g1 : y ≤ z := by omega
    have g2 : z ≤ x := by omega
    clear h1 h2
    go_enter Try.func22, Try.ntmps22
    go_wp2
    all_goals
      go_ret
      first | exact ⟨rfl, rfl⟩ | exact ⟨by simp; omega, rfl⟩

set_option maxRecDepth 10000 in
set_option maxHeartbeats 8000000 in
theorem hides_any (a b : C4) (p : Int) (w : World) (ha : a.ok) (hb : b.ok) (hp8 : ok8 p) :
    Calls Try.prog 6 #[a.v, b.v, .int .u8 p] w fun e w' => e = .returned (.bool true) ∧ Below w.heap.size w w' := by
  obtain ⟨N, hN⟩ : ∃ N, w.heap.size = N := ⟨_, rfl⟩
  rw [hN]
  obtain ⟨a1, a2, a3, a4⟩ := ha
  obtain ⟨b1, b2, b3, b4⟩ := hb
  go_enter Try.func6, Try.ntmps6
  go_wp2_with (go_at_call 9; refine (wakes_any _).mono ?_)
  rintro e w1 ⟨rfl, b1'⟩
  have hbel : Below N w w1 := by
    refine Below.trans ?_ (b1'.mono (by simp [hN]; omega))
    repeat' (first | exact Below.refl _ _ | refine Below.alloc ?_ (by simp [hN]; try omega) _)
  have k0 : hp w1 N = some (.cells (colCells a) 27) := (hp_below b1' (by simp [hN]; try omega)).trans (by simp [hp_alloc, hN])
  have k1 : hp w1 (N + 1) = some (.cells (colCells b) 27) := (hp_below b1' (by simp [hN]; try omega)).trans (by simp [hp_alloc, hN])
  clear b1'
  obtain ⟨x0, x1, x2, x3, xf⟩ := cells4 k0
  obtain ⟨y0, y1, y2, y3, yf⟩ := cells4 k1
  have HB := Lib.hid (And.intro hbel (And.intro k0 k1))
  clear hbel k0 k1
  go_upto_region 3 with fail
  go_cut [7, 8] from 14 to 15 (fun v7 v8 wx => ∃ B1 B2 : Nat, v7 = .pointer (some ⟨B1, 0, none⟩) ∧ v8 = .pointer (some ⟨B2, 0, none⟩) ∧ B1 ≠ B2 ∧ N + 2 ≤ B1 ∧ N + 2 ≤ B2 ∧ Below N w wx ∧
    hp wx N = some (.cells (colCells a) 27) ∧ hp wx (N + 1) = some (.cells (colCells b) 27) ∧ hp wx B1 = some (.cells (colCells b) 27) ∧ hp wx B2 = some (.cells (colCells b) 27))
  case first =>
    obtain ⟨Q, hQ⟩ : ∃ Q, w1.heap.size = Q := ⟨_, rfl⟩
    have hq : N + 1 < Q := by have := hp_lt HB.out.2.2; omega
    have hq1 : ¬ N + 1 = Q := by omega
    have hq2 : ¬ N + 1 = Q + 1 := by omega
    have hq3 : N + 1 < Q + 1 := by omega
    have hq4 : N + 1 < w1.heap.size := by omega
    go_region
    all_goals
      go_wp2_with fail
      go_meet
      obtain ⟨hbel, k0, k1⟩ := HB.out
      have hA : ∀ X, hp (w1.alloc X) Q = some X := fun X => by rw [← hQ]; exact hp_new _ _
      have hB : ∀ X Y, hp ((w1.alloc X).alloc Y) (Q + 1) = some Y := fun X Y => by
        have := hp_new (w1.alloc X) Y
        rwa [show (w1.alloc X).heap.size = Q + 1 by simp [hQ]] at this
      have hC : ∀ X Y, Below N w ((w1.alloc X).alloc Y) := fun X Y => (hbel.alloc (by omega) _).alloc (by simp; omega) _
      first
        | exact ⟨Q, Q + 1, rfl, rfl, by omega, by omega, by omega, (hC _ _).drew, hp_old _ (hp_old _ k0), hp_old _ (hp_old _ k1), hp_old _ (hA _), hB _ _⟩
        | exact ⟨Q + 1, Q, rfl, rfl, by omega, by omega, by omega, (hC _ _).drew, hp_old _ (hp_old _ k0), hp_old _ (hp_old _ k1), hB _ _, hp_old _ (hA _)⟩
  case rest =>
    obtain ⟨B1, B2, rfl, rfl, hne, hB1, hB2, hbel, k0, k1, k2, k3⟩ := hcut
    obtain ⟨p0, p1, p2, p3, pf⟩ := cells4 k2
    obtain ⟨q0, q1, q2, q3, qf⟩ := cells4 k3
    have HB := Lib.hid (And.intro hbel (And.intro k0 (And.intro k1 (And.intro k2 k3))))
    clear hbel k0 k1 k2 k3
    go_upto_region 5 with fail
    obtain ⟨hbel, k0, k1, k2, k3⟩ := HB.out
    clear p0 p1 p2 p3 pf q0 q1 q2 q3 qf HB
    obtain ⟨W3, hW3⟩ : ∃ W, (wc.setCell ⟨B1, 3, none⟩ (.int .u8 255)).setCell ⟨B2, 3, none⟩ (.int .u8 0) = W := ⟨_, rfl⟩
    have n1 : ¬ N = B1 := by omega
    have n2 : ¬ N = B2 := by omega
    have n3 : ¬ N + 1 = B1 := by omega
    have n4 : ¬ N + 1 = B2 := by omega
    have n5 : ¬ B2 = B1 := by omega
    have r0 : hp W3 N = some (.cells (colCells a) 27) := by rw [← hW3]; simp [hp_setCell, k0, n1, n2]
    have r1 : hp W3 (N + 1) = some (.cells (colCells b) 27) := by rw [← hW3]; simp [hp_setCell, k1, n3, n4]
    have r2 : hp W3 B1 = some (.cells (colCells (wholeC b)) 27) := by rw [← hW3]; simp [hp_setCell, k2, hne, Obj.put]
    have r3 : hp W3 B2 = some (.cells (colCells (goneC b)) 27) := by rw [← hW3]; simp [hp_setCell, k3, n5, Obj.put]
    have rb : Below N w W3 := by rw [← hW3]; exact (hbel.setCell (p := ⟨B1, 3, none⟩) (by show N ≤ B1; omega) _).setCell (p := ⟨B2, 3, none⟩) (by show N ≤ B2; omega) _
    rw [hW3]
    clear hW3 k0 k1 k2 k3 hbel n1 n2 n3 n4 n5
    obtain ⟨M, hM⟩ : ∃ M, W3.heap.size = M := ⟨_, rfl⟩
    have Hfac := Lib.hid (fun W' (hS : Below M W3 W') => have hS : Ext W3 W' := (show Below W3.heap.size W3 W' by rw [hM]; exact hS); And.intro (kept hS r0) (And.intro (kept hS r1) (And.intro (kept hS r2) (kept hS r3))))
    have HB := Lib.hid rb
    have hNM : N ≤ M := by have := rb.size; rw [hM] at this; have := hp_lt r0; omega
    clear rb r0 r1 r2 r3
    have e1 : col (shareI a.r b.r 255) (shareI a.g b.g 255) (shareI a.b b.b 255) (255 + shareI a.a 0 255) = (wholeC b).v := by simp only [share_full]; rfl
    have e2 : col (shareI a.r b.r 0) (shareI a.g b.g 0) (shareI a.b b.b 0) (0 + shareI a.a 0 0) = a.v := by simp only [share_none, Int.zero_add]
    have e3 : col (shareI a.r b.r 0) (shareI a.g b.g 0) (shareI a.b b.b 0) (shareI a.a b.a 0) = a.v := by simp only [share_none]
    have e4 : col (shareI a.r b.r 255) (shareI a.g b.g 255) (shareI a.b b.b 255) (shareI a.a b.a 255) = b.v := by simp only [share_full]
    have e5 : col (shareI a.r a.r p) (shareI a.g a.g p) (shareI a.b a.b p) (shareI a.a a.a p) = a.v := by simp only [share_same]
    have z0 : ok8 0 := by decide
    have z1 : ok8 255 := by decide
    refine wp_region_det (S := fun W' => Below M W3 W')
      [a.v, (wholeC b).v, (wholeC b).v, (wholeC b).v, .bool false, .bool false, a.v, (goneC b).v, a.v, a.v, .bool false, .bool false, .bool false, a.v, b.v, a.v, a.v, .bool false, .bool false, .bool false,
        a.v, b.v, b.v, b.v, .bool false, .bool false, .bool false, a.v, a.v, .int .u8 p, a.v, a.v, .bool false, .bool false]
      (by kernel_rfl) (by kernel_rfl) (Below.refl _ _).drew ?_ ?_
    · intro A hA
      simp only [bodyAct, dstAt, Act.put, List.length_cons, List.length_nil, Nat.reduceAdd, List.getElem?_toArray, List.getElem?_cons_succ, List.getElem?_cons_zero, Option.bind_some, List.getD_cons_zero, List.getD_cons_succ, List.setIfInBounds_toArray, List.set_cons_zero, List.set_cons_succ] at hA
      subst hA
      refine ⟨?_, ?_, ?call1, ?_, ?_, ?_, ?_, ?_, ?call2, ?_, ?_, ?_, ?_, ?_, ?_, ?call3, ?_, ?_, ?_, ?_, ?_, ?_, ?call4, ?_, ?_, ?_, ?_, ?_, ?_, ?_, ?call5, ?_, ?_, ?_, trivial⟩
      all_goals
        first | refine stepOk_plain rfl (fun A' W' hS hv K hK => ?_) | refine stepOk_want rfl rfl (fun A' W' hS hv K hK => ?_)
        simp [evalFacts, opTmps, Op.operands, Call.operands, Act.eval] at hv
        obtain ⟨h0, h1, h2, h3⟩ := Hfac.out W' hS
        obtain ⟨x0, x1, x2, x3, _⟩ := cells4 h0
        obtain ⟨y0, y1, y2, y3, _⟩ := cells4 h1
        obtain ⟨t0, t1, t2, t3, _⟩ := cells4 h2
        obtain ⟨u0, u1, u2, u3, _⟩ := cells4 h3
        have HS := Lib.hid hS
        clear hS h0 h1 h2 h3
        go_simp
      case call1 =>
        refine CallsIn.mono (callsIn_wide.2 (over_any _ _ _ _ _ _ _ _ _ a1 a2 a3 a4 b1 b2 b3 z1)) ?_
        rintro e w'' ⟨rfl, hb2⟩
        rw [e1]
        exact hK _ (HS.out.trans (hb2.mono (by have := HS.out.size; omega)))
      case call2 =>
        refine CallsIn.mono (callsIn_wide.2 (over_any _ _ _ _ _ _ _ _ _ a1 a2 a3 a4 b1 b2 b3 z0)) ?_
        rintro e w'' ⟨rfl, hb2⟩
        rw [e2]
        exact hK _ (HS.out.trans (hb2.mono (by have := HS.out.size; omega)))
      case call3 =>
        refine CallsIn.mono (callsIn_wide.2 (mix_any _ _ _ _ _ _ _ _ _ _ a1 a2 a3 a4 b1 b2 b3 b4 z0)) ?_
        rintro e w'' ⟨rfl, hb2⟩
        rw [e3]
        exact hK _ (HS.out.trans (hb2.mono (by have := HS.out.size; omega)))
      case call4 =>
        refine CallsIn.mono (callsIn_wide.2 (mix_any _ _ _ _ _ _ _ _ _ _ a1 a2 a3 a4 b1 b2 b3 b4 z1)) ?_
        rintro e w'' ⟨rfl, hb2⟩
        rw [e4]
        exact hK _ (HS.out.trans (hb2.mono (by have := HS.out.size; omega)))
      case call5 =>
        refine CallsIn.mono (callsIn_wide.2 (mix_any _ _ _ _ _ _ _ _ _ _ a1 a2 a3 a4 a1 a2 a3 a4 hp8)) ?_
        rintro e w'' ⟨rfl, hb2⟩
        rw [e5]
        exact hK _ (HS.out.trans (hb2.mono (by have := HS.out.size; omega)))
      all_goals exact hK _ HS.out
    · intro A hA W' hW'
      simp only [bodyAct, dstAt, Act.put, List.length_cons, List.length_nil, Nat.reduceAdd, List.getElem?_toArray, List.getElem?_cons_succ, List.getElem?_cons_zero, Option.bind_some, List.getD_cons_zero, List.getD_cons_succ, List.setIfInBounds_toArray, List.set_cons_zero, List.set_cons_succ] at hA
      subst hA
      simp only [List.length_cons, List.length_nil, Nat.reduceAdd, List.drop_succ_cons, List.drop_zero, List.drop_nil]
      obtain ⟨k0, k1, k2, k3⟩ := Hfac.out W' hW'
      have hbW : Below N w W' := HB.out.trans (hW'.mono hNM)
      clear HB hW' Hfac e1 e2 e3 e4 e5 z0 z1
      obtain ⟨x0, x1, x2, x3, xf⟩ := cells4 k0
      obtain ⟨y0, y1, y2, y3, yf⟩ := cells4 k1
      have HB := Lib.hid (And.intro hbW (And.intro k0 (And.intro k1 k2)))
      clear hbW k0 k1 k2 k3
      gi_wp2
      go_wp2_with (go_at_call 21; refine (mix_any _ _ _ _ _ _ _ _ _ _ a1 a2 a3 a4 b1 b2 b3 b4 hp8).mono ?_)
      rintro e w4 ⟨rfl, c1⟩
      have m1 : betI a.r b.r (shareI a.r b.r p) := share_between _ _ _ hp8
      have m2 : betI a.g b.g (shareI a.g b.g p) := share_between _ _ _ hp8
      have m3 : betI a.b b.b (shareI a.b b.b p) := share_between _ _ _ hp8
      have m4 : betI a.a b.a (shareI a.a b.a p) := share_between _ _ _ hp8
      generalize shareI a.r b.r p = z1 at *
      generalize shareI a.g b.g p = z2 at *
      generalize shareI a.b b.b p = z3 at *
      generalize shareI a.a b.a p = z4 at *
      obtain ⟨hbW, k0, k1, k2⟩ := HB.out
      replace hbW := below_call hbW (by omega) c1
      replace k0 := kept c1 k0
      replace k1 := kept c1 k1
      replace k2 := kept c1 k2
      have hNw := hp_lt k1
      clear c1 HB x0 x1 x2 x3 xf y0 y1 y2 y3 yf
      obtain ⟨x0, x1, x2, x3, xf⟩ := cells4 k0
      obtain ⟨y0, y1, y2, y3, yf⟩ := cells4 k1
      have HB := Lib.hid (And.intro hbW (And.intro k0 (And.intro k1 k2)))
      clear hbW k0 k1 k2
      obtain ⟨Q, hQ⟩ : ∃ Q, w4.heap.size = Q := ⟨_, rfl⟩
      have hNQ : N < Q := by omega
      have hNQ1 : N + 1 < Q := by omega
      go_wp2_with (first | (go_at_call 22; refine (between_any _ _ _ _ (by first | exact m1 | exact m2 | exact m3 | exact m4)).mono ?_; rintro e w' ⟨rfl, rfl⟩) | (go_at_call 20; refine (over_any _ _ _ _ _ _ _ _ _ a1 a2 a3 a4 b1 b2 b3 b4).mono ?_))
      rintro e w5 ⟨rfl, c2⟩
      obtain ⟨hbW, k0, k1, k2⟩ := HB.out
      replace hbW := below_call (hbW.alloc (by omega) _) (by omega) c2
      replace k0 := kept c2 (hp_old _ k0)
      replace k1 := kept c2 (hp_old _ k1)
      replace k2 := kept c2 (hp_old _ k2)
      clear c2 HB x0 x1 x2 x3 xf y0 y1 y2 y3 yf m1 m2 m3 m4
      obtain ⟨o, ho⟩ : ∃ o, overC a b = o := ⟨_, rfl⟩
      have hl : betI a.r b.r o.r ∧ betI a.g b.g o.g ∧ betI a.b b.b o.b ∧ b.a ≤ o.a ∧ a.a ≤ o.a := by
        rw [← ho]; exact ⟨share_between _ _ _ b4, share_between _ _ _ b4, share_between _ _ _ b4, share_over _ _ a4 b4⟩
      rw [show col (shareI a.r b.r b.a) (shareI a.g b.g b.a) (shareI a.b b.b b.a) (b.a + shareI a.a 0 b.a) = o.v by rw [← ho]; rfl]
      have HL := Lib.hid hl
      clear hl ho
      have HB := Lib.hid (And.intro hbW (And.intro k0 (And.intro k1 k2)))
      have hNw5 := hp_lt k1
      clear hbW k0 k1 k2
      obtain ⟨O, hO⟩ : ∃ O, w5.heap.size = O := ⟨_, rfl⟩
      go_wp2
      obtain ⟨hbW, k0, k1, k2⟩ := HB.out
      replace k0 := hp_old (.cells (colCells o) 27) k0
      replace k1 := hp_old (.cells (colCells o) 27) k1
      replace k2 := hp_old (.cells (colCells o) 27) k2
      have k3 := hp_new w5 (.cells (colCells o) 27)
      rw [hO] at k3
      replace hbW := hbW.alloc (by omega) (.cells (colCells o) 27)
      clear HB
      have HB := Lib.hid (And.intro hbW True.intro)
      clear hbW
      generalize w5.alloc (.cells #[.int .u8 o.r, .int .u8 o.g, .int .u8 o.b, .int .u8 o.a] 27) = W5 at *
      have Hfac := Lib.hid (fun W' (hS : Ext W5.drew W') => have hS : Ext W5 W' := (Ext.refl W5).drew.trans hS; And.intro (kept hS k0) (And.intro (kept hS k1) (And.intro (kept hS k2) (kept hS k3))))
      clear k0 k1 k2 k3
      refine wp_region_rel [isV (.func (.func 22) #[] #[]), isV (.pointer (some ⟨N, 0, none⟩)), isV (.int .u8 a.r), isV (.pointer (some ⟨(N + 1), 0, none⟩)), isV (.int .u8 b.r), isV (.pointer (some ⟨O, 0, none⟩)), isV (.int .u8 o.r), isV (.bool true), isV (.bool true), isV (.func (.func 22) #[] #[]), isV (.pointer (some ⟨N, 1, none⟩)), isV (.int .u8 a.g), isV (.pointer (some ⟨(N + 1), 1, none⟩)), isV (.int .u8 b.g), isV (.pointer (some ⟨O, 1, none⟩)), isV (.int .u8 o.g), isV (.bool true), isV (.bool true), isV (.bool true), isV (.func (.func 22) #[] #[]), isV (.pointer (some ⟨N, 2, none⟩)), isV (.int .u8 a.b), isV (.pointer (some ⟨(N + 1), 2, none⟩)), isV (.int .u8 b.b), isV (.pointer (some ⟨O, 2, none⟩)), isV (.int .u8 o.b), isV (.bool true), isV (.bool true), isV (.bool true), isV (.pointer (some ⟨O, 3, none⟩)), isV (.int .u8 o.a), isV (.pointer (some ⟨(N + 1), 3, none⟩)), isV (.int .u8 b.a), isV (.bool true), isV (.bool true), isV (.bool true), isV (.pointer (some ⟨O, 3, none⟩)), isV (.int .u8 o.a), isV (.pointer (some ⟨N, 3, none⟩)), isV (.int .u8 a.a), isV (.bool true), isV (.bool true), isV (.bool true), isV a.v, isV a.v, isV a.v, isV (.bool true), isV (.bool true), isV (.bool true), isV a.v, isV b.v, isV (wholeC b).v, slP 27 2 (cells2C b (wholeC b)), isV (wholeC b).v, isV (wholeC b).v, isV (.bool true), isV (.bool true)] (by kernel_rfl) (by kernel_rfl) (by kernel_rfl) ?_ ?_ ?_
      · refine ⟨isV_keeps _, isV_keeps _, isV_keeps _, isV_keeps _, isV_keeps _, isV_keeps _, isV_keeps _, isV_keeps _, isV_keeps _, isV_keeps _, isV_keeps _, isV_keeps _, isV_keeps _, isV_keeps _, isV_keeps _, isV_keeps _, isV_keeps _, isV_keeps _, isV_keeps _, isV_keeps _, isV_keeps _, isV_keeps _, isV_keeps _, isV_keeps _, isV_keeps _, isV_keeps _, isV_keeps _, isV_keeps _, isV_keeps _, isV_keeps _, isV_keeps _, isV_keeps _, isV_keeps _, isV_keeps _, isV_keeps _, isV_keeps _, isV_keeps _, isV_keeps _, isV_keeps _, isV_keeps _, isV_keeps _, isV_keeps _, isV_keeps _, isV_keeps _, isV_keeps _, isV_keeps _, isV_keeps _, isV_keeps _, isV_keeps _, isV_keeps _, isV_keeps _, isV_keeps _, slP_keeps _ _ _, isV_keeps _, isV_keeps _, isV_keeps _, isV_keeps _, trivial⟩
      · intro V hV
        have s3 : V 3 = isV (.pointer (some ⟨N, 0, none⟩)) := by rw [hV]; rfl
        have s4 : V 4 = isV (.pointer (some ⟨(N + 1), 0, none⟩)) := by rw [hV]; rfl
        have s7 : V 7 = isV (.pointer (some ⟨B1, 0, none⟩)) := by rw [hV]; rfl
        have s10 : V 10 = isV (.func (.func 22) #[] #[]) := by rw [hV]; rfl
        have s11 : V 11 = isV (.pointer (some ⟨O, 0, none⟩)) := by rw [hV]; rfl
        have s101 : V 101 = isV (.func (.func 22) #[] #[]) := by rw [hV]; rfl
        have s102 : V 102 = isV (.pointer (some ⟨N, 0, none⟩)) := by rw [hV]; rfl
        have s103 : V 103 = isV (.int .u8 a.r) := by rw [hV]; rfl
        have s104 : V 104 = isV (.pointer (some ⟨(N + 1), 0, none⟩)) := by rw [hV]; rfl
        have s105 : V 105 = isV (.int .u8 b.r) := by rw [hV]; rfl
        have s106 : V 106 = isV (.pointer (some ⟨O, 0, none⟩)) := by rw [hV]; rfl
        have s107 : V 107 = isV (.int .u8 o.r) := by rw [hV]; rfl
        have s108 : V 108 = isV (.bool true) := by rw [hV]; rfl
        have s109 : V 109 = isV (.bool true) := by rw [hV]; rfl
        have s110 : V 110 = isV (.func (.func 22) #[] #[]) := by rw [hV]; rfl
        have s111 : V 111 = isV (.pointer (some ⟨N, 1, none⟩)) := by rw [hV]; rfl
        have s112 : V 112 = isV (.int .u8 a.g) := by rw [hV]; rfl
        have s113 : V 113 = isV (.pointer (some ⟨(N + 1), 1, none⟩)) := by rw [hV]; rfl
        have s114 : V 114 = isV (.int .u8 b.g) := by rw [hV]; rfl
        have s115 : V 115 = isV (.pointer (some ⟨O, 1, none⟩)) := by rw [hV]; rfl
        have s116 : V 116 = isV (.int .u8 o.g) := by rw [hV]; rfl
        have s117 : V 117 = isV (.bool true) := by rw [hV]; rfl
        have s118 : V 118 = isV (.bool true) := by rw [hV]; rfl
        have s119 : V 119 = isV (.bool true) := by rw [hV]; rfl
        have s120 : V 120 = isV (.func (.func 22) #[] #[]) := by rw [hV]; rfl
        have s121 : V 121 = isV (.pointer (some ⟨N, 2, none⟩)) := by rw [hV]; rfl
        have s122 : V 122 = isV (.int .u8 a.b) := by rw [hV]; rfl
        have s123 : V 123 = isV (.pointer (some ⟨(N + 1), 2, none⟩)) := by rw [hV]; rfl
        have s124 : V 124 = isV (.int .u8 b.b) := by rw [hV]; rfl
        have s125 : V 125 = isV (.pointer (some ⟨O, 2, none⟩)) := by rw [hV]; rfl
        have s126 : V 126 = isV (.int .u8 o.b) := by rw [hV]; rfl
        have s127 : V 127 = isV (.bool true) := by rw [hV]; rfl
        have s128 : V 128 = isV (.bool true) := by rw [hV]; rfl
        have s129 : V 129 = isV (.bool true) := by rw [hV]; rfl
        have s130 : V 130 = isV (.pointer (some ⟨O, 3, none⟩)) := by rw [hV]; rfl
        have s131 : V 131 = isV (.int .u8 o.a) := by rw [hV]; rfl
        have s132 : V 132 = isV (.pointer (some ⟨(N + 1), 3, none⟩)) := by rw [hV]; rfl
        have s133 : V 133 = isV (.int .u8 b.a) := by rw [hV]; rfl
        have s134 : V 134 = isV (.bool true) := by rw [hV]; rfl
        have s135 : V 135 = isV (.bool true) := by rw [hV]; rfl
        have s136 : V 136 = isV (.bool true) := by rw [hV]; rfl
        have s137 : V 137 = isV (.pointer (some ⟨O, 3, none⟩)) := by rw [hV]; rfl
        have s138 : V 138 = isV (.int .u8 o.a) := by rw [hV]; rfl
        have s139 : V 139 = isV (.pointer (some ⟨N, 3, none⟩)) := by rw [hV]; rfl
        have s140 : V 140 = isV (.int .u8 a.a) := by rw [hV]; rfl
        have s141 : V 141 = isV (.bool true) := by rw [hV]; rfl
        have s142 : V 142 = isV (.bool true) := by rw [hV]; rfl
        have s143 : V 143 = isV (.bool true) := by rw [hV]; rfl
        have s144 : V 144 = isV a.v := by rw [hV]; rfl
        have s145 : V 145 = isV a.v := by rw [hV]; rfl
        have s146 : V 146 = isV a.v := by rw [hV]; rfl
        have s147 : V 147 = isV (.bool true) := by rw [hV]; rfl
        have s148 : V 148 = isV (.bool true) := by rw [hV]; rfl
        have s149 : V 149 = isV (.bool true) := by rw [hV]; rfl
        have s150 : V 150 = isV a.v := by rw [hV]; rfl
        have s151 : V 151 = isV b.v := by rw [hV]; rfl
        have s152 : V 152 = isV (wholeC b).v := by rw [hV]; rfl
        have s153 : V 153 = slP 27 2 (cells2C b (wholeC b)) := by rw [hV]; rfl
        have s154 : V 154 = isV (wholeC b).v := by rw [hV]; rfl
        have s155 : V 155 = isV (wholeC b).v := by rw [hV]; rfl
        have s156 : V 156 = isV (.bool true) := by rw [hV]; rfl
        have s157 : V 157 = isV (.bool true) := by rw [hV]; rfl
        clear hV
        refine ⟨?q101, ?q102, ?q103, ?q104, ?q105, ?q106, ?q107, ?q108, ?q109, ?q110, ?q111, ?q112, ?q113, ?q114, ?q115, ?q116, ?q117, ?q118, ?q119, ?q120, ?q121, ?q122, ?q123, ?q124, ?q125, ?q126, ?q127, ?q128, ?q129, ?q130, ?q131, ?q132, ?q133, ?q134, ?q135, ?q136, ?q137, ?q138, ?q139, ?q140, ?q141, ?q142, ?q143, ?q144, ?q145, ?q146, ?q147, ?q148, ?q149, ?q150, ?q151, ?q152, ?q153, ?q154, ?q155, ?q156, ?q157, trivial⟩
        all_goals
          first | refine stepG_plain rfl (fun A' W' hS hv K hK => ?_) | refine stepG_want rfl (fun _ _ h => h) (fun A' W' hS hv K hK => ?_)
          simp only [factsR, opTmps, Op.operands, Call.operands, List.filterMap_cons, List.filterMap_nil, List.append_toArray, List.cons_append, List.nil_append, Array.toList, Option.toArray_some, Option.toArray_none, List.map_cons, List.map_nil, s3, s4, s7, s10, s11, s101, s102, s103, s104, s105, s106, s107, s108, s109, s110, s111, s112, s113, s114, s115, s116, s117, s118, s119, s120, s121, s122, s123, s124, s125, s126, s127, s128, s129, s130, s131, s132, s133, s134, s135, s136, s137, s138, s139, s140, s141, s142, s143, s144, s145, s146, s147, s148, s149, s150, s151, s152, s153, s154, s155, s156, s157] at hv
          simp [factsR, opTmps, Op.operands, Call.operands, isV, s3, s4, s7, s10, s11, s101, s102, s103, s104, s105, s106, s107, s108, s109, s110, s111, s112, s113, s114, s115, s116, s117, s118, s119, s120, s121, s122, s123, s124, s125, s126, s127, s128, s129, s130, s131, s132, s133, s134, s135, s136, s137, s138, s139, s140, s141, s142, s143, s144, s145, s146, s147, s148, s149, s150, s151, s152, s153, s154, s155, s156, s157, Act.eval] at hv
          clear s3 s4 s7 s10 s11 s101 s102 s103 s104 s105 s106 s107 s108 s109 s110 s111 s112 s113 s114 s115 s116 s117 s118 s119 s120 s121 s122 s123 s124 s125 s126 s127 s128 s129 s130 s131 s132 s133 s134 s135 s136 s137 s138 s139 s140 s141 s142 s143 s144 s145 s146 s147 s148 s149 s150 s151 s152 s153 s154 s155 s156 s157
          obtain ⟨h0, h1, h2, h3⟩ := Hfac.out W' hS
          obtain ⟨x0, x1, x2, x3, xf⟩ := cells4 h0
          obtain ⟨y0, y1, y2, y3, yf⟩ := cells4 h1
          obtain ⟨z0, z1, z2, z3, zf⟩ := cells4 h2
          obtain ⟨t0, t1, t2, t3, tf⟩ := cells4 h3
          have HS := Lib.hid hS
          clear hS h0 h1 h2 h3
        case q108 =>
          go_simp
          refine CallsIn.mono (callsIn_wide.2 (between_any _ _ _ _ HL.out.1)) ?_
          rintro e w'' ⟨rfl, rfl⟩
          exact hK _ _ (Ext.refl _) rfl
        case q117 =>
          go_simp
          refine CallsIn.mono (callsIn_wide.2 (between_any _ _ _ _ HL.out.2.1)) ?_
          rintro e w'' ⟨rfl, rfl⟩
          exact hK _ _ (Ext.refl _) rfl
        case q127 =>
          go_simp
          refine CallsIn.mono (callsIn_wide.2 (between_any _ _ _ _ HL.out.2.2.1)) ?_
          rintro e w'' ⟨rfl, rfl⟩
          exact hK _ _ (Ext.refl _) rfl
        case q134 =>
          go_simp
          exact hK _ _ (Ext.refl _) (congrArg Value.bool (decide_eq_true (by have := HL.out.2.2.2; omega)))
        case q141 =>
          go_simp
          exact hK _ _ (Ext.refl _) (congrArg Value.bool (decide_eq_true (by have := HL.out.2.2.2; omega)))
        case q145 =>
          go_simp
          refine CallsIn.mono (callsIn_wide.2 (layers_nil a _)) ?_
          rintro e w'' ⟨rfl, hb2⟩
          exact hK _ _ hb2 rfl
        case q153 =>
          go_simp
          exact hK _ _ ((Below.refl _ _).alloc (Nat.le_refl _) _) ⟨_, rfl, hp_new _ _⟩
        case q154 =>
          obtain ⟨hv1, blk, hv2, hcells⟩ := hv
          go_simp
          refine CallsIn.mono (callsIn_wide.2 (layers_some a blk 0 _ [b, wholeC b] _ ⟨a1, a2, a3, a4⟩ (by intro d hd; simp at hd; rcases hd with rfl | rfl <;> first | exact ⟨b1, b2, b3, b4⟩ | exact ⟨b1, b2, b3, show ok8 255 by decide⟩) (hp_lt hcells) (cols2 hcells) (by simp))) ?_
          rintro e w'' ⟨rfl, hb2⟩
          rw [layers_whole]
          exact hK _ _ hb2 rfl
        all_goals
          go_simp
          exact hK _ _ (Ext.refl _) rfl
      · intro us W' hE hP A hA
        have h81 : us.getD 56 undef = .bool true := allPhi_at hP 56 (by simp)
        simp only [bodyAct, dstAt, Act.put, List.length_cons, List.length_nil, Nat.reduceAdd, List.getElem?_toArray, List.getElem?_cons_succ, List.getElem?_cons_zero, Option.bind_some, List.setIfInBounds_toArray, List.set_cons_zero, List.set_cons_succ, h81] at hA
        subst hA
        simp only [List.length_cons, List.length_nil, Nat.reduceAdd, List.drop_succ_cons, List.drop_zero, List.drop_nil]
        have hbW := HB.out.1.trans (Below.mono ((Ext.refl _).drew.trans hE) (by have := HB.out.1.size; omega))
        have HB := Lib.hid hbW
        clear hE hP hbW Hfac
        gi_wp2
        go_wp2
        go_ret
        exact ⟨rfl, HB.out⟩
end Go.Proofs.Ytnhkiblakclcoaa
