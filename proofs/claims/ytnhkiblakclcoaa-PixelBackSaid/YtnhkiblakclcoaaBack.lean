/- pixel: PixelBack: what the words and texts of colours read back as, and the walk. -/
import Derived.Test.YtnhkiblakclcoaaW
import Derived.Test.YtnhkiblakclcoaaRel
namespace Go.Proofs.Ytnhkiblakclcoaa
open Go.RowKit

theorem hexv_hexd {d : Int} (h0 : 0 ≤ d) (h1 : d ≤ 15) : hexv (hexd d) = some d := by
  unfold hexv hexd
  split
  · rw [if_pos (by omega)]; congr 1; omega
  · rw [if_neg (by omega), if_pos (by omega)]; congr 1; omega
theorem hexd_hexv {c d : Int} (h : hexv c = some d) : hexd d = c ∧ 0 ≤ d ∧ d ≤ 15 := by
  unfold hexv at h
  unfold hexd
  split at h
  · simp at h; split <;> omega
  · split at h
    · simp at h; split <;> omega
    · simp at h
theorem hexd_bd {d : Int} (h0 : 0 ≤ d) (h1 : d ≤ 15) : 48 ≤ hexd d ∧ hexd d ≤ 102 := by
  unfold hexd; split <;> omega
theorem hexd_byte {d : Int} (h0 : 0 ≤ d) (h1 : d ≤ 15) : (((UInt8.ofNat (hexd d).toNat).toNat : Nat) : Int) = hexd d := by
  have := hexd_bd h0 h1
  rw [UInt8.toNat_ofNat']
  omega
theorem strOf8 (a b c d e f g h : Int) : strOf [a, b, c, d, e, f, g, h] = ⟨#[UInt8.ofNat a.toNat, UInt8.ofNat b.toNat, UInt8.ofNat c.toNat, UInt8.ofNat d.toNat, UInt8.ofNat e.toNat, UInt8.ofNat f.toNat, UInt8.ofNat g.toNat, UInt8.ofNat h.toNat]⟩ := rfl
theorem readW8 {a b c d e f g h : Int} {da db dc dd de df dg dh : Int} (ha : hexv a = some da) (hb : hexv b = some db) (hc : hexv c = some dc) (hd : hexv d = some dd) (he : hexv e = some de) (hf : hexv f = some df) (hg : hexv g = some dg) (hh : hexv h = some dh) :
    readW [h, g, f, e, d, c, b, a] = some (((((((da * 16 + db) * 16 + dc) * 16 + dd) * 16 + de) * 16 + df) * 16 + dg) * 16 + dh) := by
  simp [readW, ha, hb, hc, hd, he, hf, hg, hh]
theorem revB8 (a b c d e f g h : UInt8) : revB ⟨#[a, b, c, d, e, f, g, h]⟩ 8 = [(h.toNat : Int), (g.toNat : Int), (f.toNat : Int), (e.toNat : Int), (d.toNat : Int), (c.toNat : Int), (b.toNat : Int), (a.toNat : Int)] := rfl
theorem readC_text {r g b a : Int} (hr : ok8 r) (hg : ok8 g) (hb : ok8 b) (ha : ok8 a) : readC (strOf (textN r g b a 4)) = some (packN r g b a 4) := by
  unfold ok8 at *
  have e : textN r g b a 4 = [hexd (r / 16), hexd (r % 16), hexd (g / 16), hexd (g % 16), hexd (b / 16), hexd (b % 16), hexd (a / 16), hexd (a % 16)] := rfl
  rw [e, strOf8]
  unfold readC
  rw [if_pos (show ByteArray.size _ = 8 from rfl), revB8]
  rw [hexd_byte (d := r / 16) (by omega) (by omega), hexd_byte (d := r % 16) (by omega) (by omega), hexd_byte (d := g / 16) (by omega) (by omega), hexd_byte (d := g % 16) (by omega) (by omega),
    hexd_byte (d := b / 16) (by omega) (by omega), hexd_byte (d := b % 16) (by omega) (by omega), hexd_byte (d := a / 16) (by omega) (by omega), hexd_byte (d := a % 16) (by omega) (by omega)]
  rw [readW8 (hexv_hexd (d := r / 16) (by omega) (by omega)) (hexv_hexd (d := r % 16) (by omega) (by omega)) (hexv_hexd (d := g / 16) (by omega) (by omega)) (hexv_hexd (d := g % 16) (by omega) (by omega))
    (hexv_hexd (d := b / 16) (by omega) (by omega)) (hexv_hexd (d := b % 16) (by omega) (by omega)) (hexv_hexd (d := a / 16) (by omega) (by omega)) (hexv_hexd (d := a % 16) (by omega) (by omega))]
  congr 1
  simp [packN]
  omega
theorem readW_cons {c x : Int} {l : List Int} (h : readW (c :: l) = some x) : ∃ y d, readW l = some y ∧ hexv c = some d ∧ x = y * 16 + d := by
  unfold readW at h
  split at h
  · rename_i y d h1 h2
    simp at h
    exact ⟨y, d, h1, h2, h.symm⟩
  · simp at h
theorem str8 (s : ByteArray) (h : s.size = 8) : ∃ a b c d e f g i : UInt8, s = ⟨#[a, b, c, d, e, f, g, i]⟩ := by
  obtain ⟨⟨l⟩⟩ := s
  have h : l.length = 8 := h
  match l, h with
  | [a, b, c, d, e, f, g, i], _ => exact ⟨a, b, c, d, e, f, g, i, rfl⟩
theorem ofNat_back (b : UInt8) {d : Int} (h : hexv (b.toNat : Int) = some d) : UInt8.ofNat (hexd d).toNat = b := by
  rw [(hexd_hexv h).1]
  simp
theorem text_readC {s : ByteArray} {x : Int} (h : readC s = some x) : strOf (textN (x / 16777216) (x / 65536 % 256) (x / 256 % 256) (x % 256) 4) = s ∧ 0 ≤ x ∧ x ≤ 4294967295 := by
  unfold readC at h
  split at h
  · rename_i hs
    obtain ⟨a, b, c, d, e, f, g, i, rfl⟩ := str8 s hs
    rw [revB8] at h
    obtain ⟨y1, d1, g1, k1, rfl⟩ := readW_cons h
    obtain ⟨y2, d2, g2, k2, rfl⟩ := readW_cons g1
    obtain ⟨y3, d3, g3, k3, rfl⟩ := readW_cons g2
    obtain ⟨y4, d4, g4, k4, rfl⟩ := readW_cons g3
    obtain ⟨y5, d5, g5, k5, rfl⟩ := readW_cons g4
    obtain ⟨y6, d6, g6, k6, rfl⟩ := readW_cons g5
    obtain ⟨y7, d7, g7, k7, rfl⟩ := readW_cons g6
    obtain ⟨y8, d8, g8, k8, rfl⟩ := readW_cons g7
    have h0 : y8 = 0 := by simp [readW] at g8; exact g8.symm
    subst h0
    obtain ⟨_, p1, q1⟩ := hexd_hexv k1
    obtain ⟨_, p2, q2⟩ := hexd_hexv k2
    obtain ⟨_, p3, q3⟩ := hexd_hexv k3
    obtain ⟨_, p4, q4⟩ := hexd_hexv k4
    obtain ⟨_, p5, q5⟩ := hexd_hexv k5
    obtain ⟨_, p6, q6⟩ := hexd_hexv k6
    obtain ⟨_, p7, q7⟩ := hexd_hexv k7
    obtain ⟨_, p8, q8⟩ := hexd_hexv k8
    have o1 := ofNat_back i k1
    have o2 := ofNat_back g k2
    have o3 := ofNat_back f k3
    have o4 := ofNat_back e k4
    have o5 := ofNat_back d k5
    have o6 := ofNat_back c k6
    have o7 := ofNat_back b k7
    have o8 := ofNat_back a k8
    refine ⟨?_, by omega, by omega⟩
    clear k1 k2 k3 k4 k5 k6 k7 k8 hs h g1 g2 g3 g4 g5 g6 g7 g8
    obtain ⟨X, hX⟩ : ∃ X, (((((((0 * 16 + d8) * 16 + d7) * 16 + d6) * 16 + d5) * 16 + d4) * 16 + d3) * 16 + d2) * 16 + d1 = X := ⟨_, rfl⟩
    rw [hX]
    have e : textN (X / 16777216) (X / 65536 % 256) (X / 256 % 256) (X % 256) 4 = [hexd (X / 16777216 / 16), hexd (X / 16777216 % 16), hexd (X / 65536 % 256 / 16), hexd (X / 65536 % 256 % 16), hexd (X / 256 % 256 / 16), hexd (X / 256 % 256 % 16), hexd (X % 256 / 16), hexd (X % 256 % 16)] := rfl
    rw [e, show X / 16777216 / 16 = d8 by omega, show X / 16777216 % 16 = d7 by omega, show X / 65536 % 256 / 16 = d6 by omega, show X / 65536 % 256 % 16 = d5 by omega,
      show X / 256 % 256 / 16 = d4 by omega, show X / 256 % 256 % 16 = d3 by omega, show X % 256 / 16 = d2 by omega, show X % 256 % 16 = d1 by omega, strOf8, o1, o2, o3, o4, o5, o6, o7, o8]
  · simp at h
/-- What Read answers. -/
def readV : Option Int → Value
  | some x => .tuple #[col (x / 16777216) (x / 65536 % 256) (x / 256 % 256) (x % 256), .int .i64 0]
  | none => .tuple #[col 0 0 0 0, .int .i64 130]
theorem read_any (s : ByteArray) (w : World) (hm : s.size ≤ maxLen) :
    Calls Try.prog 15 #[.string s] w fun e w' => e = .returned (readV (readC s)) ∧ Below w.heap.size w w' := by
  by_cases h : s.size = 8
  · refine (read_8 s w h).mono ?_
    rintro e w' ⟨h1, h2, hb⟩
    refine ⟨?_, hb⟩
    cases hr : readC s with
    | none => exact h2 hr
    | some x => exact h1 x hr
  · refine (read_len s w h hm).mono ?_
    rintro e w' ⟨rfl, hb⟩
    refine ⟨?_, hb⟩
    have : readC s = none := by unfold readC; rw [if_neg h]
    rw [this]; rfl
end Go.Proofs.Ytnhkiblakclcoaa
