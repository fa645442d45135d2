/- pixel: what 'both' of a closure that only computes comes to. -/
import Derived.Test.YtnhkiblakclcoaaA
import Derived.Test.YtnhkiblakclcoaaReg
namespace Go.Proofs.Ytnhkiblakclcoaa
open Go.RowKit
attribute [local go_sem] Oper.semAt_some
attribute [local go_sem] Nat.add_assoc wide_fn wide_depth

abbrev col (r g b a : Int) : Value := .agg #[.int .u8 r, .int .u8 g, .int .u8 b, .int .u8 a]
def ok8 (x : Int) : Prop := 0 ≤ x ∧ x ≤ 255

def bothL1 (N : Nat) (f : Nat) (lb : Array Value) (r g b a r' g' b' a' : Int) (k : Nat) (_ : Unit) : List (Nat × Obj) :=
  [(N, .cells #[.int .u8 r, .int .u8 g, .int .u8 b, .int .u8 a] 27), (N + 2, .cells #[.func (.func f) #[] lb] 76),
      (N + 3, .cells #[.int .u8 0, .int .u8 0, .int .u8 0, .int .u8 0] 73), (N + 4, .cells #[.int .u8 0, .int .u8 0, .int .u8 0, .int .u8 0] 73),
      (N + 5, .cells #[.int .i64 (if 0 < k then r' else 0), .int .i64 (if 1 < k then g' else 0), .int .i64 (if 2 < k then b' else 0), .int .i64 (if 3 < k then a' else 0)] 61),
      (N + 6, colObj r' g' b' a')]
def bothL2 (N M D : Nat) (f : Nat) (lb : Array Value) (G : Int → Int → Int) (r g b a r' g' b' a' : Int) (k : Nat) (_ : Unit) : List (Nat × Obj) :=
  [(N + 2, .cells #[.func (.func f) #[] lb] 76), (N + 3, .cells #[.int .u8 0, .int .u8 0, .int .u8 0, .int .u8 0] 73),
        (N + 4, .cells #[.int .u8 (if 0 < k then G r r' else 0), .int .u8 (if 1 < k then G g g' else 0), .int .u8 (if 2 < k then G b b' else 0), .int .u8 (if 3 < k then G a a' else 0)] 73),
        (N + 5, .cells #[.int .i64 r', .int .i64 g', .int .i64 b', .int .i64 a'] 61), (M, colObj r g b a), (D, .deferred (some []))]

set_option maxHeartbeats 4000000 in
theorem both_byte (r g b a r' g' b' a' : Int) (f : Nat) (lb : Array Value) (G : Int → Int → Int) (w : World)
    (hr : ok8 r) (hg : ok8 g) (hb : ok8 b) (ha : ok8 a) (hr' : ok8 r') (hg' : ok8 g') (hb' : ok8 b') (ha' : ok8 a')
    (hent : ∀ args w, (callFunc f args).run Try.prog w = .ok (.enter f args) w)
    (hmk : ∀ W, Below w.heap.size w W → ∀ x y, ok8 x → ok8 y → Calls Try.prog f (#[.int .i64 x, .int .i64 y] ++ lb) W fun e w' => e = .returned (.int .u8 (G x y)) ∧ W = w') :
    Calls Try.prog 38 #[col r g b a, col r' g' b' a', .func (.func f) #[] lb] w fun e w' => e = .returned (.agg #[.int .u8 (G r r'), .int .u8 (G g g'), .int .u8 (G b b'), .int .u8 (G a a')]) ∧ Below w.heap.size w w' := by
  obtain ⟨N, hN⟩ : ∃ N, w.heap.size = N := ⟨_, rfl⟩
  rw [hN] at hmk ⊢
  have Hmk := Lib.hid hmk
  clear hmk
  refine calls_of_marks Try.func38 rfl ?_
  simp only [Try.ntmps38, List.size_toArray, List.length_cons, List.length_nil, Nat.reduceAdd, Nat.reduceSub, Array.replicate_succ, Array.replicate_zero, List.push_toArray, List.append_toArray, List.nil_append, List.cons_append]
  go_wp2_with (go_at_call 29; refine (parts_any _ _ _ _ _).mono ?_; rintro e w' ⟨rfl, rfl⟩)
  refine wp_range (parts_iter r' g' b' a' (N + 6) hr' hg' hb' ha') rfl (enters_of Try.func42 (by kernel_rfl) rfl) (fun _ => rfl)
    (Inv N w (bothL1 N f lb r g b a r' g' b' a') (fun _ _ => True)) (fun _ _ => False)
    (fun k W h => ?keep) (Inv.own (by omega) (by simp; omega) (fun _ _ => by simp [bothL1, CellsAll, Obj.isCells, colObj])) (ownFalse _) ?start ?round ?done (fun _ _ _ _ h _ => h.elim)
  case keep =>
    obtain ⟨_, _, h, _⟩ := h
    simp only [Blocks, bothL1] at h
    exact h.2.2.2.2.2.1
  case start =>
    refine ⟨(), ?_, ?_, trivial⟩
    · repeat' (first | exact Below.refl _ _ | refine Below.alloc ?_ (by simp [hN]; try omega) _)
    · simp [Blocks, bothL1, hp_alloc, hN, colObj, Nat.add_assoc]
  case round =>
    apply Exists.intro
    refine ⟨?assign, ?body⟩
    case assign =>
      intro l x W K hK
      gi_wp2
      exact hK
    case body =>
      intro l k W hk hl hrec hinv
      obtain ⟨_, hbel, hblk, _⟩ := hinv
      obtain ⟨b0, b2, b3, b4, b5, b6, _⟩ := hblk
      clear hrec
      have hdon : ∀ k v, k < 4 → Below N w (W.setCell ⟨N + 5, k, none⟩ v) := fun k v _ => hbel.setCell (p := ⟨N + 5, k, none⟩) (by simp) _
      obtain ⟨c0, c1, c2, c3, cf⟩ := cells4 b5
      obtain rfl | rfl | rfl | rfl : k = 0 ∨ k = 1 ∨ k = 2 ∨ k = 3 := by simp at hk; omega
      all_goals
        have Hd := Lib.hid hdon
        clear hdon
        have HB := Lib.hid (And.intro b0 (And.intro b2 (And.intro b3 (And.intro b4 (And.intro b5 b6)))))
        clear b0 b2 b3 b4 b5 b6
        gi_wp2
        obtain ⟨b0, b2, b3, b4, b5, b6⟩ := HB.out
        refine ⟨(KeepsOthers.setCell _ _ _).from _, (), Hd.out _ _ (by omega), ?_, trivial⟩
        simp [Blocks, bothL1, hp_setCell, b0, b2, b3, b4, b5, b6, Obj.put]
  case done =>
    intro D W hD hinv hDk
    obtain ⟨_, hbel, hblk, _⟩ := hinv
    obtain ⟨b0, b2, b3, b4, b5, b6, _⟩ := hblk
    obtain ⟨c0, c1, c2, c3, cf⟩ := cells4 b0
    simp at b5
    have hsz := hbel.size
    obtain ⟨M, hM⟩ : ∃ M, W.heap.size = M := ⟨_, rfl⟩
    have hDM := lt_of hDk
    rw [hM] at hDM hsz
    rw [hN] at hsz
    simp at hD
    have HB := Lib.hid (And.intro b0 (And.intro b2 (And.intro b3 (And.intro b4 (And.intro b5 (And.intro hDk hbel))))))
    clear b0 b2 b3 b4 b5 b6 hDk hbel
    go_wp2_with (go_at_call 29; refine (parts_any _ _ _ _ _).mono ?_; rintro e w' ⟨rfl, rfl⟩)
    obtain ⟨b0, b2, b3, b4, b5, hDk, hbel⟩ := HB.out
    refine wp_range (parts_iter r g b a M hr hg hb ha) rfl (enters_of Try.func42 (by kernel_rfl) rfl) (fun _ => rfl)
      (Inv N w (bothL2 N M D f lb G r g b a r' g' b' a') (fun _ _ => True)) (fun _ _ => False)
      (fun k W h => ?keep) (Inv.own (by omega) (by simp; omega) (fun _ _ => by simp [bothL2, CellsAll, Obj.isCells, colObj]; omega)) (ownFalse _) ?start ?round ?done (fun _ _ _ _ h _ => h.elim)
    case keep =>
      obtain ⟨_, _, h, _⟩ := h
      simp only [Blocks, bothL2] at h
      exact h.2.2.2.2.1
    case start =>
      refine ⟨(), hbel.alloc (by omega) _, ?_, trivial⟩
      have old : ∀ (o : Obj) (b : Nat), b < M → hp (W.alloc o) b = hp W b := fun o b hb => (hp_alloc W o b).trans (if_neg (by omega))
      have new : ∀ (o : Obj), hp (W.alloc o) M = some o := fun o => (hp_alloc W o M).trans (if_pos hM.symm)
      exact ⟨(old _ _ (by omega)).trans b2, (old _ _ (by omega)).trans b3, (old _ _ (by omega)).trans b4, (old _ _ (by omega)).trans b5, new _, (old _ _ (by omega)).trans hDk, trivial⟩
    case round =>
      apply Exists.intro
      refine ⟨?assign, ?body⟩
      case assign =>
        intro l x W K hK
        gi_wp2
        exact hK
      case body =>
        intro l k W hk hl hrec hinv
        obtain ⟨_, hbel, hblk, _⟩ := hinv
        obtain ⟨b2, b3, b4, b5, b6, b7, _⟩ := hblk
        clear hrec
        have hdon : ∀ k v, Below N w ((W.setCell ⟨N + 4, k, none⟩ v).drew) := fun k v => (hbel.setCell (p := ⟨N + 4, k, none⟩) (by simp) _).drew
        have Hb := Lib.hid hbel.drew
        clear hbel
        obtain ⟨e0, ef⟩ := cells1 b2
        have hmx : Try.prog.follows .mixedOrders = true := by kernel_rfl
        have hk4 : k < 4 := by simpa using hk
        obtain ⟨x, y, z, hx, hb5, hy', hz, ox, oy⟩ : ∃ x y z : Int, [((0 : Int), r), (1, g), (2, b), (3, a)][k] = ((k : Int), x) ∧ [r', g', b', a'].getD k 0 = y ∧ W.cell? ⟨N + 4, k, none⟩ = some (.int .u8 z) ∧ W.cell? ⟨N + 5, k, none⟩ = some (.int .i64 y) ∧ ok8 x ∧ ok8 y := by
          obtain rfl | rfl | rfl | rfl : k = 0 ∨ k = 1 ∨ k = 2 ∨ k = 3 := by omega
          · exact ⟨r, r', _, rfl, rfl, cell_of b4 rfl, cell_of b5 rfl, hr, hr'⟩
          · exact ⟨g, g', _, rfl, rfl, cell_of b4 rfl, cell_of b5 rfl, hg, hg'⟩
          · exact ⟨b, b', _, rfl, rfl, cell_of b4 rfl, cell_of b5 rfl, hb, hb'⟩
          · exact ⟨a, a', _, rfl, rfl, cell_of b4 rfl, cell_of b5 rfl, ha, ha'⟩
        have hk4' : (k : Int) < 4 := by omega
        have Hy := Lib.hid hb5
        have Hy' := Lib.hid hy'
        clear hb5 hy'
        rw [hx]
        have Hd := Lib.hid hdon
        have HB := Lib.hid (And.intro b2 (And.intro b3 (And.intro b4 (And.intro b5 (And.intro b6 b7)))))
        have Hx := Lib.hid hx
        clear b2 b3 b4 b5 b6 b7 hdon hx
        gi_wp2
        refine wpIn_region_det (S := fun W' => W' = W.drew) [.int .i64 k, .func (.func f) #[] lb, .int .i64 x, .int .i64 k, .pointer (some ⟨N + 5, k, none⟩), .int .i64 y, .int .u8 (G x y), .pointer (some ⟨N + 4, k, none⟩)]
            (fun _ => trivial) hmx (by kernel_rfl) rfl ?_ ?_
        · intro A hA
          simp only [bodyAct, dstAt, Act.put, List.length_cons, List.length_nil, Nat.reduceAdd, List.getElem?_toArray, List.getElem?_cons_succ, List.getElem?_cons_zero, Option.bind_some, List.getD_cons_zero, List.getD_cons_succ, List.setIfInBounds_toArray, List.set_cons_zero, List.set_cons_succ] at hA
          subst hA
          refine ⟨?_, ?_, ?_, ?_, ?_, ?_, ?call, ?_, trivial⟩
          all_goals
            refine stepOk_plain rfl (fun a' W' hS hv K hK => ?_)
            simp [evalFacts, opTmps, Op.operands, Call.operands, Act.eval] at hv
            subst hS
            go_simp
          case call =>
            refine CallsIn.mono (CallsIn.inRound l (callsIn_wide.2 (Hmk.out _ Hb.out _ _ ox oy))) ?_
            rintro e w'' ⟨rfl, rfl⟩
            exact hK _ rfl
          all_goals exact hK _ rfl
        · intro A hA W' hW'
          simp only [bodyAct, dstAt, Act.put, List.length_cons, List.length_nil, Nat.reduceAdd, List.getElem?_toArray, List.getElem?_cons_succ, List.getElem?_cons_zero, Option.bind_some, List.getD_cons_zero, List.getD_cons_succ, List.setIfInBounds_toArray, List.set_cons_zero, List.set_cons_succ] at hA
          subst hA
          subst hW'
          simp only [List.length_cons, List.length_nil, Nat.reduceAdd, List.drop_succ_cons, List.drop_zero]
          have c : W.cell? ⟨N + 4, k, none⟩ = some (.int .u8 z) := Hy'.out
          have cf : W.frozen? ⟨N + 4, k, none⟩ = false := free_of HB.out.2.2.1
          gi_wp2
          obtain ⟨b2, b3, b4, b5, b6, b7⟩ := HB.out
          have hx := Hx.out
          refine ⟨((KeepsOthers.setCell W ⟨N + 4, k, none⟩ (.int .u8 (G x y))).trans (KeepsOthers.drew _)).from _, (), Hd.out _ _, ?_, trivial⟩
          have b6' : hp W M = some (colObj r g b a) := b6
          have h7 : hp W D = some (.deferred (some [])) := b7
          clear hz c
          have hb5 := Hy.out
          obtain rfl | rfl | rfl | rfl : k = 0 ∨ k = 1 ∨ k = 2 ∨ k = 3 := by omega
          all_goals
            simp at hx hb5
            obtain ⟨rfl, rfl⟩ := And.intro hx hb5
            simp [Blocks, bothL2, hp_drew, hp_setCell, b2, b3, b4, b5, b6', h7, Obj.put, show M ≠ N + 4 by omega, show D ≠ N + 4 by omega]
    case done =>
      intro D2 W2 hD2 hinv hDk2
      obtain ⟨_, hbel, hblk, _⟩ := hinv
      simp [bothL2, Blocks] at hblk
      obtain ⟨b2, b3, b4, b5, b6, b7⟩ := hblk
      obtain ⟨c0, c1, c2, c3, cf⟩ := cells4 b3
      obtain ⟨d0, d1, d2, d3, df⟩ := cells4 b4
      simp [hM] at hD2
      have HB := Lib.hid (And.intro b3 (And.intro b7 (And.intro hDk2 hbel)))
      clear b2 b3 b4 b5 b6 b7 hDk2 hbel
      go_wp2
      obtain ⟨b3, b7, hDk2, hbel⟩ := HB.out
      have hDk2' : hp W2 D2 = some (.deferred (some [])) := hDk2
      have e1 : D2 ≠ N + 3 := by omega
      have e2 : D ≠ N + 3 := by omega
      have e3 : D ≠ D2 := by omega
      refine bodyM_ret2 (D := D2) (E := D) (v := .agg #[.int .u8 (G r r'), .int .u8 (G g g'), .int .u8 (G b b'), .int .u8 (G a a')]) rfl e3 ?_ ?_ ?_ ⟨rfl, ?_⟩
      · show hp _ _ = _
        simp [hp_setCell, e1, hDk2']
      · show hp _ _ = _
        simp [hp_setCell, e2, b7]
      · have hfin : hp ((((((W2.setCell ⟨N + 3, 0, none⟩ (.int .u8 (G r r'))).setCell ⟨N + 3, 1, none⟩ (.int .u8 (G g g'))).setCell ⟨N + 3, 2, none⟩ (.int .u8 (G b b'))).setCell ⟨N + 3, 3, none⟩ (.int .u8 (G a a'))).putObj D2 (.deferred none)).putObj D (.deferred none)) (N + 3)
            = some (.cells #[.int .u8 (G r r'), .int .u8 (G g g'), .int .u8 (G b b'), .int .u8 (G a a')] 73) := by
          rw [hp_putObj _ _ _ (Ne.symm e2), hp_putObj _ _ _ (Ne.symm e1)]
          simp [hp_setCell, b3, Obj.put]
        obtain ⟨u0, u1, u2, u3, _⟩ := cells4 hfin
        generalize ((((((W2.setCell ⟨N + 3, 0, none⟩ (.int .u8 (G r r'))).setCell ⟨N + 3, 1, none⟩ (.int .u8 (G g g'))).setCell ⟨N + 3, 2, none⟩ (.int .u8 (G b b'))).setCell ⟨N + 3, 3, none⟩ (.int .u8 (G a a'))).putObj D2 (.deferred none)).putObj D (.deferred none)) = W3 at u0 u1 u2 u3 ⊢
        simp [results, Try.results38, go_sem, u0, u1, u2, u3]
      · refine Below.putObj (Below.putObj ?_ (by omega) _) (by omega) _
        exact (((hbel.setCell (p := ⟨N + 3, 0, none⟩) (by simp) _).setCell (p := ⟨N + 3, 1, none⟩) (by simp) _).setCell (p := ⟨N + 3, 2, none⟩) (by simp) _).setCell (p := ⟨N + 3, 3, none⟩) (by simp) _
end Go.Proofs.Ytnhkiblakclcoaa
