/- pixel: PixelBack's walk. -/
import Derived.Test.YtnhkiblakclcoaaBack
namespace Go.Proofs.Ytnhkiblakclcoaa
open Go.RowKit
attribute [local go_sem] Oper.semAt_some
attribute [local go_sem] Nat.add_assoc wide_fn wide_depth

abbrev unp (x : Int) : Value := col (x / 16777216) (x / 65536 % 256) (x / 256 % 256) (x % 256)
theorem unp_ok {x : Int} (h0 : 0 ≤ x) (h1 : x ≤ 4294967295) : ok8 (x / 16777216) ∧ ok8 (x / 65536 % 256) ∧ ok8 (x / 256 % 256) ∧ ok8 (x % 256) := by
  unfold ok8; omega
theorem pack_bd {r g b a : Int} (hr : ok8 r) (hg : ok8 g) (hb : ok8 b) (ha : ok8 a) : 0 ≤ packN r g b a 4 ∧ packN r g b a 4 ≤ 4294967295 := by
  unfold ok8 at *; simp [packN]; omega
theorem unp_pack {r g b a : Int} (hr : ok8 r) (hg : ok8 g) (hb : ok8 b) (ha : ok8 a) : unp (packN r g b a 4) = col r g b a := by
  unfold ok8 at *
  have e : packN r g b a 4 = ((r * 256 + g) * 256 + b) * 256 + a := by simp [packN]
  obtain ⟨X, hX⟩ : ∃ X, ((r * 256 + g) * 256 + b) * 256 + a = X := ⟨_, rfl⟩
  rw [e, hX]
  unfold unp
  rw [show X / 16777216 = r by omega, show X / 65536 % 256 = g by omega, show X / 256 % 256 = b by omega, show X % 256 = a by omega]
theorem pack_unp {x : Int} (h0 : 0 ≤ x) (h1 : x ≤ 4294967295) : packN (x / 16777216) (x / 65536 % 256) (x / 256 % 256) (x % 256) 4 = x := by
  simp [packN]; omega

set_option maxHeartbeats 4000000 in
theorem back_any (c : C4) (x : Int) (s : ByteArray) (w : World) (hc : c.ok) (h0 : 0 ≤ x) (h1 : x ≤ 4294967295) (hm : s.size ≤ maxLen) :
    Calls Try.prog 4 #[c.v, .int .u32 x, .string s] w fun e w' => e = .returned (.bool true) ∧ Below w.heap.size w w' := by
  obtain ⟨N, hN⟩ : ∃ N, w.heap.size = N := ⟨_, rfl⟩
  rw [hN]
  obtain ⟨c1, c2, c3, c4⟩ := hc
  have Hx := Lib.hid (And.intro h0 h1)
  clear h0 h1
  go_enter Try.func4, Try.ntmps4
  go_wp2_with (go_at_call 9; refine (wakes_any _).mono ?_)
  rintro e w1 ⟨rfl, b1⟩
  have k1 := kept b1 (hp_new w _)
  rw [hN] at k1
  have hb := below_call ((Below.refl N w).alloc (by omega) _) (by omega) b1
  clear b1
  obtain ⟨x0, x1, x2, x3, xf⟩ := cells4 k1
  have HB := Lib.hid (And.intro hb k1)
  clear hb k1
  go_wp2_with (go_at_call 12; refine (text_any _ _ _ _ _ c1 c2 c3 c4).mono ?_)
  rintro e w2 ⟨rfl, b2⟩
  obtain ⟨hb, k1⟩ := HB.out
  replace hb := below_call hb (by have := hb.size; omega) b2
  replace k1 := kept b2 k1
  clear b2 HB x0 x1 x2 x3 xf
  have HB := Lib.hid (And.intro hb k1)
  clear hb k1
  have hrd := readC_text c1 c2 c3 c4
  have hsz : (strOf (textN c.r c.g c.b c.a 4)).size ≤ maxLen := by
    rw [show (strOf (textN c.r c.g c.b c.a 4)).size = 8 from rfl]; decide
  obtain ⟨p0, p1⟩ := pack_bd c1 c2 c3 c4
  have hup := unp_pack c1 c2 c3 c4
  have Hpk := Lib.hid (show packN c.r c.g c.b c.a 4 = packN c.r c.g c.b c.a 4 from rfl)
  generalize strOf (textN c.r c.g c.b c.a 4) = S at *
  go_wp2_with (go_at_call 15; refine (read_any _ _ hsz).mono ?_)
  rintro e w3 ⟨rfl, b3⟩
  rw [hrd]
  obtain ⟨hb, k1⟩ := HB.out
  replace hb := below_call hb (by have := hb.size; omega) b3
  replace k1 := kept b3 k1
  clear b3 HB hrd hsz
  have HB := Lib.hid (And.intro hb k1)
  clear hb k1
  simp only [readV]
  rw [show col (packN c.r c.g c.b c.a 4 / 16777216) (packN c.r c.g c.b c.a 4 / 65536 % 256) (packN c.r c.g c.b c.a 4 / 256 % 256) (packN c.r c.g c.b c.a 4 % 256) = c.v from hup]
  have Hup := Lib.hid hup
  clear hup
  obtain ⟨pk, hpk⟩ : ∃ pk, packN c.r c.g c.b c.a 4 = pk := ⟨_, rfl⟩
  rw [hpk] at p0 p1 Hup
  have Hpk := Lib.hid hpk
  clear hpk
  obtain ⟨M, hM⟩ : ∃ M, w3.heap.size = M := ⟨_, rfl⟩
  go_wp2
  obtain ⟨hb, k1⟩ := HB.out
  have hNM : N < M := by have := hp_lt k1; omega
  replace k1 := hp_old (.cells #[.int .u8 c.r, .int .u8 c.g, .int .u8 c.b, .int .u8 c.a] 27) k1
  have k2 := hp_new w3 (.cells #[.int .u8 c.r, .int .u8 c.g, .int .u8 c.b, .int .u8 c.a] 27)
  rw [hM] at k2
  replace hb := hb.alloc (by omega) (.cells #[.int .u8 c.r, .int .u8 c.g, .int .u8 c.b, .int .u8 c.a] 27)
  have hsz : (w3.alloc (.cells #[.int .u8 c.r, .int .u8 c.g, .int .u8 c.b, .int .u8 c.a] 27)).heap.size = M + 1 := by simp [hM]
  generalize w3.alloc (.cells #[.int .u8 c.r, .int .u8 c.g, .int .u8 c.b, .int .u8 c.a] 27) = W3 at *
  have Hfac := Lib.hid (fun W' (hS : Below (M + 1) W3 W') => And.intro ((hp_below hS (by omega)).trans k1) ((hp_below hS (by omega)).trans k2))
  clear HB k1 k2 hM
  have HB := Lib.hid hb
  clear hb
  refine wp_region_det (S := fun W' => Below (M + 1) W3 W')
    [.int .i64 0, .bool false, .bool false, c.v, c.v, .bool false, .bool false, .bool false, c.v, .int .u32 pk, c.v, c.v, .bool false, .bool false, .bool false, .int .u32 x, unp x, .int .u32 x, .int .u32 x, .bool false, .bool false]
    (by kernel_rfl) (by kernel_rfl) (Below.refl _ _).drew ?_ ?_
  · intro A hA
    simp only [bodyAct, dstAt, Act.put, List.length_cons, List.length_nil, Nat.reduceAdd, List.getElem?_toArray, List.getElem?_cons_succ, List.getElem?_cons_zero, Option.bind_some, List.getD_cons_zero, List.getD_cons_succ, List.setIfInBounds_toArray, List.set_cons_zero, List.set_cons_succ] at hA
    subst hA
    refine ⟨?_, ?_, ?_, ?_, ?_, ?_, ?_, ?_, ?_, ?call1, ?call2, ?_, ?_, ?_, ?_, ?_, ?call3, ?call4, ?_, ?_, ?_, trivial⟩
    all_goals
      first | refine stepOk_plain rfl (fun A' W' hS hv K hK => ?_) | refine stepOk_want rfl rfl (fun A' W' hS hv K hK => ?_)
      simp [evalFacts, opTmps, Op.operands, Call.operands, Act.eval] at hv
      obtain ⟨h0, h1⟩ := Hfac.out W' hS
      obtain ⟨x0, x1, x2, x3, _⟩ := cells4 h0
      obtain ⟨y0, y1, y2, y3, _⟩ := cells4 h1
      have HS := Lib.hid hS
      clear hS h0 h1
      go_simp
    case call1 =>
      refine CallsIn.mono (callsIn_wide.2 (pack_any _ _ _ _ _ c1 c2 c3 c4)) ?_
      rintro e w'' ⟨rfl, hb2⟩
      rw [Hpk.out]
      exact hK _ (HS.out.trans (hb2.mono (by have := HS.out.size; omega)))
    case call2 =>
      refine CallsIn.mono (callsIn_wide.2 (unpack_any _ _ p0 p1)) ?_
      rintro e w'' ⟨rfl, hb2⟩
      rw [show col (pk / 16777216) (pk / 65536 % 256) (pk / 256 % 256) (pk % 256) = c.v from Hup.out]
      exact hK _ (HS.out.trans (hb2.mono (by have := HS.out.size; omega)))
    case call3 =>
      refine CallsIn.mono (callsIn_wide.2 (unpack_any _ _ Hx.out.1 Hx.out.2)) ?_
      rintro e w'' ⟨rfl, hb2⟩
      exact hK _ (HS.out.trans (hb2.mono (by have := HS.out.size; omega)))
    case call4 =>
      obtain ⟨u1, u2, u3, u4⟩ := unp_ok Hx.out.1 Hx.out.2
      refine CallsIn.mono (callsIn_wide.2 (pack_any _ _ _ _ _ u1 u2 u3 u4)) ?_
      rintro e w'' ⟨rfl, hb2⟩
      rw [pack_unp Hx.out.1 Hx.out.2]
      exact hK _ (HS.out.trans (hb2.mono (by have := HS.out.size; omega)))
    all_goals exact hK _ HS.out
  · intro A hA W' hW'
    simp only [bodyAct, dstAt, Act.put, List.length_cons, List.length_nil, Nat.reduceAdd, List.getElem?_toArray, List.getElem?_cons_succ, List.getElem?_cons_zero, Option.bind_some, List.getD_cons_zero, List.getD_cons_succ, List.setIfInBounds_toArray, List.set_cons_zero, List.set_cons_succ] at hA
    subst hA
    simp only [List.length_cons, List.length_nil, Nat.reduceAdd, List.drop_succ_cons, List.drop_zero, List.drop_nil]
    have hbW : Below N w W' := HB.out.trans (hW'.mono (by omega))
    have hsW : M + 1 ≤ W'.heap.size := by have := hW'.size; omega
    clear HB hW' Hfac
    have HB := Lib.hid hbW
    clear hbW
    gi_wp2
    go_wp2_with (go_at_call 15; refine (read_any _ _ hm).mono ?_)
    rintro e w4 ⟨rfl, b4⟩
    have hb := below_call HB.out (by omega) b4
    have hs4 : M + 1 ≤ w4.heap.size := by have := b4.size; omega
    clear b4 HB
    have HB := Lib.hid hb
    clear hb
    cases hr : readC s with
    | none =>
      simp only [readV]
      clear hr
      go_wp2
      go_ret
      exact ⟨rfl, HB.out.alloc (by omega) _⟩
    | some y =>
      obtain ⟨ht, y0, y1⟩ := text_readC hr
      obtain ⟨u1, u2, u3, u4⟩ := unp_ok y0 y1
      simp only [readV]
      have Ht := Lib.hid ht
      clear hr ht y0 y1
      generalize y / 16777216 = z1 at *
      generalize y / 65536 % 256 = z2 at *
      generalize y / 256 % 256 = z3 at *
      generalize y % 256 = z4 at *
      go_wp2_with (go_at_call 12; refine (text_any _ _ _ _ _ u1 u2 u3 u4).mono ?_)
      rintro e w5 ⟨rfl, b5⟩
      rw [Ht.out]
      have hb := below_call (HB.out.alloc (by omega) _) (by omega) b5
      have HB := Lib.hid hb
      clear hb b5 Ht
      go_wp2
      go_ret
      exact ⟨rfl, HB.out⟩
end Go.Proofs.Ytnhkiblakclcoaa
