/- pixel: Text. -/
import Derived.Test.YtnhkiblakclcoaaB
import Derived.Test.YtnhkiblakclcoaaReg
import Derived.Test.YtnhkiblakclcoaaRow
namespace Go.Proofs.Ytnhkiblakclcoaa
open Go.RowKit
attribute [local go_sem] Oper.semAt_some
attribute [local go_sem] Nat.add_assoc wide_fn wide_depth

/-- The digit to the base 16. -/
def hexd (n : Int) : Int := if n < 10 then 48 + n else 87 + n
def hexB (p : Int) : List Int := [hexd (p / 16), hexd (p % 16)]
def textN (r g b a : Int) (k : Nat) : List Int := ([r, g, b, a].take k).flatMap hexB
def strOf (l : List Int) : ByteArray := l.foldl (fun r n => r.push (UInt8.ofNat n.toNat)) ByteArray.empty

abbrev digS : Value := .string ⟨#[48, 49, 50, 51, 52, 53, 54, 55, 56, 57, 97, 98, 99, 100, 101, 102]⟩
theorem dig_at (n : Int) (h : 0 ≤ n) (h' : n ≤ 15) (w : World) : (Instr.index 9 digS (.int .i64 n)).run Try.prog w = .ok (.int .u8 (hexd n)) w := by
  have h0 : (Instr.index 9 digS (.int .i64 0)).run Try.prog w = .ok (.int .u8 (hexd 0)) w := by kernel_rfl
  have h1 : (Instr.index 9 digS (.int .i64 1)).run Try.prog w = .ok (.int .u8 (hexd 1)) w := by kernel_rfl
  have h2 : (Instr.index 9 digS (.int .i64 2)).run Try.prog w = .ok (.int .u8 (hexd 2)) w := by kernel_rfl
  have h3 : (Instr.index 9 digS (.int .i64 3)).run Try.prog w = .ok (.int .u8 (hexd 3)) w := by kernel_rfl
  have h4 : (Instr.index 9 digS (.int .i64 4)).run Try.prog w = .ok (.int .u8 (hexd 4)) w := by kernel_rfl
  have h5 : (Instr.index 9 digS (.int .i64 5)).run Try.prog w = .ok (.int .u8 (hexd 5)) w := by kernel_rfl
  have h6 : (Instr.index 9 digS (.int .i64 6)).run Try.prog w = .ok (.int .u8 (hexd 6)) w := by kernel_rfl
  have h7 : (Instr.index 9 digS (.int .i64 7)).run Try.prog w = .ok (.int .u8 (hexd 7)) w := by kernel_rfl
  have h8 : (Instr.index 9 digS (.int .i64 8)).run Try.prog w = .ok (.int .u8 (hexd 8)) w := by kernel_rfl
  have h9 : (Instr.index 9 digS (.int .i64 9)).run Try.prog w = .ok (.int .u8 (hexd 9)) w := by kernel_rfl
  have h10 : (Instr.index 9 digS (.int .i64 10)).run Try.prog w = .ok (.int .u8 (hexd 10)) w := by kernel_rfl
  have h11 : (Instr.index 9 digS (.int .i64 11)).run Try.prog w = .ok (.int .u8 (hexd 11)) w := by kernel_rfl
  have h12 : (Instr.index 9 digS (.int .i64 12)).run Try.prog w = .ok (.int .u8 (hexd 12)) w := by kernel_rfl
  have h13 : (Instr.index 9 digS (.int .i64 13)).run Try.prog w = .ok (.int .u8 (hexd 13)) w := by kernel_rfl
  have h14 : (Instr.index 9 digS (.int .i64 14)).run Try.prog w = .ok (.int .u8 (hexd 14)) w := by kernel_rfl
  have h15 : (Instr.index 9 digS (.int .i64 15)).run Try.prog w = .ok (.int .u8 (hexd 15)) w := by kernel_rfl
  have : n = 0 ∨ n = 1 ∨ n = 2 ∨ n = 3 ∨ n = 4 ∨ n = 5 ∨ n = 6 ∨ n = 7 ∨ n = 8 ∨ n = 9 ∨ n = 10 ∨ n = 11 ∨ n = 12 ∨ n = 13 ∨ n = 14 ∨ n = 15 := by omega
  rcases this with rfl | rfl | rfl | rfl | rfl | rfl | rfl | rfl | rfl | rfl | rfl | rfl | rfl | rfl | rfl | rfl
  · exact h0
  · exact h1
  · exact h2
  · exact h3
  · exact h4
  · exact h5
  · exact h6
  · exact h7
  · exact h8
  · exact h9
  · exact h10
  · exact h11
  · exact h12
  · exact h13
  · exact h14
  · exact h15
theorem and_15 (p : Int) (h : 0 ≤ p) (h' : p ≤ 255) : bits BinOp.and IntKind.i64 p 15 = p % 16 := by
  obtain ⟨n, rfl⟩ := Int.eq_ofNat_of_zero_le h
  have h255 : n < 256 := by omega
  have key : ∀ m : Fin 256, bits BinOp.and IntKind.i64 ((m.val : Nat) : Int) 15 = ((m.val : Nat) : Int) % 16 := by decide +kernel
  exact key ⟨n, h255⟩

theorem infoB : (Try.prog.info? 5).map (fun i => (i.zero, i.size, i.bytes)) = some (some (.int .u8 0), 1, 1) := by kernel_rfl

def textL (N : Nat) (r g b a : Int) (_ : Nat) (_ : Unit) : List (Nat × Obj) := [(N + 2, colObj r g b a)]
def textI (N : Nat) (w : World) (r g b a : Int) (k : Nat) (W : World) : Prop :=
  Inv N w (textL N r g b a) (fun _ _ => True) k W ∧ ∃ v, Boxed W (N + 1) 63 v ∧ W.ownsRow N 5 1 v (2 * k) ((textN r g b a k).map (Value.int .u8)) ∧ True

theorem textI_own (N : Nat) (w : World) (r g b a : Int) (B : Nat) (hn : N ≤ w.heap.size) (hB : N ≤ B) : OwnFrom B (textI N w r g b a) :=
  OwnFrom.and (Inv.own hn hB (fun _ _ => by simp [textL, CellsAll, Obj.isCells, colObj]))
    (Own.from (holdsRow_own N (N + 1) 63 5 1 (fun k => 2 * k) (fun k => (textN r g b a k).map (Value.int .u8)) (fun _ _ => True)) B)

set_option maxHeartbeats 4000000 in
theorem text_any (r g b a : Int) (w : World) (hr : ok8 r) (hg : ok8 g) (hb : ok8 b) (ha : ok8 a) :
    Calls Try.prog 12 #[col r g b a] w fun e w' => e = .returned (.string (strOf (textN r g b a 4))) ∧ Below w.heap.size w w' := by
  obtain ⟨N, hN⟩ : ∃ N, w.heap.size = N := ⟨_, rfl⟩
  rw [hN]
  refine calls_of_marks Try.func12 rfl ?_
  simp only [Try.ntmps12, List.size_toArray, List.length_cons, List.length_nil, Nat.reduceAdd, Nat.reduceSub, Array.replicate_succ, Array.replicate_zero, List.push_toArray, List.append_toArray, List.nil_append, List.cons_append]
  go_wp2_with (go_at_call 29; refine (parts_any _ _ _ _ _).mono ?_; rintro e w' ⟨rfl, rfl⟩)
  refine wp_range (parts_iter r g b a (N + 2) hr hg hb ha) rfl (enters_of Try.func42 (by kernel_rfl) rfl) (fun _ => rfl)
    (textI N w r g b a) (fun _ _ => False)
    (fun k W h => by obtain ⟨⟨_, _, h, _⟩, _⟩ := h; exact h.1) (textI_own N w r g b a _ (by omega) (by simp; omega)) (ownFalse _) ?start ?round ?done (fun _ _ _ _ h _ => h.elim)
  case start =>
    refine ⟨⟨(), ?_, ?_, trivial⟩, .slice none 0 0, ?_, ?_, trivial⟩
    · repeat' (first | exact Below.refl _ _ | refine Below.alloc ?_ (by simp [hN]; try omega) _)
    · simp [Blocks, textL, hp_alloc, hN, colObj, Nat.add_assoc]
    · show hp _ _ = _
      simp [hp_alloc, hN, Nat.add_assoc]
    · exact World.ownsRow_nil _ _ _ _
  case round =>
    apply Exists.intro
    refine ⟨?assign, ?body⟩
    case assign =>
      intro l x W K hK
      gi_wp2
      exact hK
    case body =>
      intro l k W hk hl hrec hinv
      obtain ⟨⟨_, hbel, hblk, _⟩, sv, hbox, hrow, _⟩ := hinv
      obtain ⟨b2, _⟩ := hblk
      clear hrec
      have hk4 : k < 4 := by simpa using hk
      obtain ⟨x, hx, ox, htx⟩ : ∃ x : Int, [((0 : Int), r), (1, g), (2, b), (3, a)][k] = ((k : Int), x) ∧ ok8 x ∧ textN r g b a (k + 1) = textN r g b a k ++ [hexd (x / 16), hexd (x % 16)] := by
        obtain rfl | rfl | rfl | rfl : k = 0 ∨ k = 1 ∨ k = 2 ∨ k = 3 := by omega
        · exact ⟨r, rfl, hr, by simp [textN, hexB]⟩
        · exact ⟨g, rfl, hg, by simp [textN, hexB]⟩
        · exact ⟨b, rfl, hb, by simp [textN, hexB]⟩
        · exact ⟨a, rfl, ha, by simp [textN, hexB]⟩
      rw [hx]
      obtain ⟨x1, x2⟩ := ox
      have hand := and_15 x x1 x2
      have q1 : 0 ≤ x / 16 := by omega
      have q2 : x / 16 ≤ 15 := by omega
      have q3 : 0 ≤ x % 16 := by omega
      have q4 : x % 16 ≤ 15 := by omega
      have ix1 := dig_at (x / 16) q1 q2
      have ix2 := dig_at (x % 16) q3 q4
      have c0 := hbox.cell
      obtain ⟨M, hM⟩ : ∃ M, W.heap.size = M := ⟨_, rfl⟩
      have qM : N + 1 < M := by have := hbox.lt; omega
      have HB := Lib.hid (And.intro hbel (And.intro hbox (And.intro hrow (And.intro b2 htx))))
      have hmx : Try.prog.follows .mixedOrders = true := by kernel_rfl
      clear b2 hbel htx hx hbox hrow
      gi_wp2
      refine wpIn_region_detD (S := fun D W' => W' = if D 7 then (W.alloc (.cells #[.int .u8 (hexd (x / 16)), .int .u8 (hexd (x % 16))] 5)).drew else W.drew)
        [sv, .int .i64 x, .int .i64 (x / 16), .int .u8 (hexd (x / 16)), .int .i64 x, .int .i64 (x % 16), .int .u8 (hexd (x % 16)), .slice (some ⟨M, 0, none⟩) 2 2]
        (fun _ => trivial) hmx (by kernel_rfl) rfl ?_ ?_
      · intro A hA
        simp only [bodyAct, dstAt, Act.put, List.length_cons, List.length_nil, Nat.reduceAdd, List.getElem?_toArray, List.getElem?_cons_succ, List.getElem?_cons_zero, Option.bind_some, List.getD_cons_zero, List.getD_cons_succ, List.setIfInBounds_toArray, List.set_cons_zero, List.set_cons_succ] at hA
        subst hA
        refine ⟨?_, ?_, ?_, ?_, ?_, ?_, ?_, ?bs, trivial⟩
        case bs =>
          refine stepOkD_plain rfl (fun D hD A' W' hS hv K hK => ?_)
          simp [evalFacts, opTmps, Op.operands, Call.operands, Act.eval] at hv
          rw [hD] at hS
          simp only [Bool.false_eq_true, if_false] at hS
          subst hS
          go_simp
          exact hK _ (by simp [upd])
        all_goals
          refine stepOkD_plain rfl (fun D hD A' W' hS hv K hK => ?_)
          simp [evalFacts, opTmps, Op.operands, Call.operands, Act.eval] at hv
          have c1 : W'.cell? ⟨N + 1, 0, none⟩ = some sv := by
            rw [hS]
            split
            · exact (HB.out.2.1.alloc _).cell
            · exact c0
          have HS := Lib.hid hS
          clear hS
          go_simp
          exact hK _ (by rw [HS.out]; simp [upd])
      · intro A hA W' hW'
        simp only [bodyAct, dstAt, Act.put, List.length_cons, List.length_nil, Nat.reduceAdd, List.getElem?_toArray, List.getElem?_cons_succ, List.getElem?_cons_zero, Option.bind_some, List.getD_cons_zero, List.getD_cons_succ, List.setIfInBounds_toArray, List.set_cons_zero, List.set_cons_succ] at hA
        subst hA
        simp at hW'
        subst hW'
        simp only [List.length_cons, List.length_nil, Nat.reduceAdd, List.drop_succ_cons, List.drop_zero]
        obtain ⟨hbel, hbox, hrow, b2, htx⟩ := HB.out
        obtain ⟨i0, hi, hz0, hz1, hz2⟩ := info_parts infoB
        have hrow' : W.drew.ownsRow N 5 1 sv (2 * k) ((textN r g b a k).map (Value.int .u8)) := hrow
        have hbox' : Boxed W.drew (N + 1) 63 sv := hbox
        have hN' : N ≤ W.heap.size := by omega
        refine wpListIn_append_own (W.drew.alloc (.cells #[.int .u8 (hexd (x / 16)), .int .u8 (hexd (x % 16))] 5)) rfl _ _ 63 rfl N 5 i0 (.int .u8 0) 1 1 Try.underlying63 hi hz0 hz1 hz2 rfl (by decide) sv (2 * k) _ rfl (hrow'.alloc _) ⟨M, 0, none⟩ 2 2 [.int .u8 (hexd (x / 16)), .int .u8 (hexd (x % 16))] rfl rfl ?c1 ?c2 ?c3 ?c4 ?c5 ?_
        case c1 =>
          have hnw : hp (W.drew.alloc (.cells #[.int .u8 (hexd (x / 16)), .int .u8 (hexd (x % 16))] 5)) M = some (.cells #[.int .u8 (hexd (x / 16)), .int .u8 (hexd (x % 16))] 5) := by
            rw [← hM]; exact hp_new W.drew _
          obtain ⟨u0, u1, _⟩ := cells2 hnw
          intro j u hj
          match j, hj with
          | 0, hj => simp at hj; subst hj; simpa [Addr.add] using u0
          | 1, hj => simp at hj; subst hj; simpa [Addr.add] using u1
          | j + 2, hj => simp at hj
        case c2 => simp [Value.oneCell']
        case c3 => unfold maxLen; omega
        case c4 => omega
        case c5 => simp; omega
        intro v' w1 hown' hgrow _
        obtain ⟨g', cap', rfl⟩ := ownsRow_succ hown'
        obtain ⟨hv1, hv2, hr2, hk2, hb2⟩ := hbox'.appended (by decide) hrow' hN' (by omega) hown' hgrow
        have hkeep := row_keeps hrow' (show hp W.drew (N + 2) = some (colObj r g b a) from b2) (by decide) hgrow
        have hc1 := hv1.cell
        have hf1 := hv1.frozen
        have HC := Lib.hid (And.intro hbel (And.intro hv2 (And.intro hr2 (And.intro hk2 (And.intro hb2 (And.intro hkeep htx))))))
        clear hbel hbox hrow b2 htx hrow' hbox' hv1 hv2 hr2 hk2 hb2 hown' hgrow hkeep
        gi_wp2
        obtain ⟨hbel, hv2, hr2, hk2, hb2, b2, htx⟩ := HC.out
        have h2k : 2 * (k + 1) = 2 * k + 2 := by omega
        refine ⟨((KeepsOthers.drew W).trans hk2).from _, ⟨(), hbel.drew.trans hb2, ?_, trivial⟩, _, hv2, ?_, trivial⟩
        · simp [Blocks, textL, hp_setCell, b2, colObj]
        · rw [h2k, htx]
          simpa using hr2
  case done =>
    intro D W hD hinv hDk
    obtain ⟨⟨_, hbel, hblk, _⟩, sv, hbox, hrow, _⟩ := hinv
    simp at hD
    obtain ⟨g', cap', rfl⟩ := ownsRow_succ (k := 7) hrow
    have c0 := hbox.cell
    have hcv := conv_row (k := 8) (P := Try.prog) (src := 63) (dst := 9) (W := W) (cap := cap') (textN r g b a 4) Try.underlying63 Try.underlying5 Try.underlying9 (by simp [textN, hexB]) (row_cells (k := 8) hrow)
    have HB := Lib.hid (And.intro hbel hDk)
    clear hbel hDk hrow hbox hblk
    rw [show 7 + 1 = 8 from rfl] at c0
    go_wp2
    obtain ⟨hbel, hDk⟩ := HB.out
    refine bodyM_ret1 rfl hDk (results_tmp rfl _ _ _) ⟨rfl, Below.putObj hbel (by omega) _⟩
end Go.Proofs.Ytnhkiblakclcoaa
