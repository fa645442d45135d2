/- pixel: PixelWays. -/
import Derived.Test.YtnhkiblakclcoaaW
import Derived.Test.YtnhkiblakclcoaaRel
namespace Go.Proofs.Ytnhkiblakclcoaa
open Go.RowKit
attribute [local go_sem] Oper.semAt_some
attribute [local go_sem] Nat.add_assoc wide_fn wide_depth

abbrev colCells (c : C4) : Array Value := #[.int .u8 c.r, .int .u8 c.g, .int .u8 c.b, .int .u8 c.a]
/-- The three colours lie in these blocks. -/
def tri (N : Nat) (a b c : C4) (W : World) : Prop :=
  hp W N = some (.cells (colCells a) 27) ∧ hp W (N + 1) = some (.cells (colCells b) 27) ∧ hp W (N + 2) = some (.cells (colCells c) 27)
theorem tri.ext {N : Nat} {a b c : C4} {W W' : World} (h : tri N a b c W) (k : Ext W W') : tri N a b c W' :=
  ⟨(hp_below k (hp_lt h.1)).trans h.1, (hp_below k (hp_lt h.2.1)).trans h.2.1, (hp_below k (hp_lt h.2.2)).trans h.2.2⟩

abbrev cells3C (a b c : C4) : Array Value := #[.int .u8 a.r, .int .u8 a.g, .int .u8 a.b, .int .u8 a.a, .int .u8 b.r, .int .u8 b.g, .int .u8 b.b, .int .u8 b.a, .int .u8 c.r, .int .u8 c.g, .int .u8 c.b, .int .u8 c.a]
abbrev cells4C (a b c d : C4) : Array Value := #[.int .u8 a.r, .int .u8 a.g, .int .u8 a.b, .int .u8 a.a, .int .u8 b.r, .int .u8 b.g, .int .u8 b.b, .int .u8 b.a, .int .u8 c.r, .int .u8 c.g, .int .u8 c.b, .int .u8 c.a, .int .u8 d.r, .int .u8 d.g, .int .u8 d.b, .int .u8 d.a]
theorem cols3 {W : World} {blk : Nat} {a b c : C4} (h : hp W blk = some (.cells (cells3C a b c) 27)) : colsAt W blk 0 [a, b, c] := by
  intro i hi
  match i, hi with
  | 0, _ => exact ⟨cell_of h rfl, cell_of h rfl, cell_of h rfl, cell_of h rfl⟩
  | 1, _ => exact ⟨cell_of h rfl, cell_of h rfl, cell_of h rfl, cell_of h rfl⟩
  | 2, _ => exact ⟨cell_of h rfl, cell_of h rfl, cell_of h rfl, cell_of h rfl⟩
theorem cols4 {W : World} {blk : Nat} {a b c d : C4} (h : hp W blk = some (.cells (cells4C a b c d) 27)) : colsAt W blk 0 [a, b, c, d] := by
  intro i hi
  match i, hi with
  | 0, _ => exact ⟨cell_of h rfl, cell_of h rfl, cell_of h rfl, cell_of h rfl⟩
  | 1, _ => exact ⟨cell_of h rfl, cell_of h rfl, cell_of h rfl, cell_of h rfl⟩
  | 2, _ => exact ⟨cell_of h rfl, cell_of h rfl, cell_of h rfl, cell_of h rfl⟩
  | 3, _ => exact ⟨cell_of h rfl, cell_of h rfl, cell_of h rfl, cell_of h rfl⟩
/-- A slice over the whole of a new block. -/
def slP (t : Nat) (n : Nat) (cs : Array Value) : Phi := fun u W => ∃ blk, u = .slice (some ⟨blk, 0, none⟩) n n ∧ hp W blk = some (.cells cs t)
theorem slP_keeps (t : Nat) (n : Nat) (cs : Array Value) : ∀ u W W', Ext W W' → slP t n cs u W → slP t n cs u W' := by
  rintro u W W' hE ⟨blk, h1, h2⟩
  exact ⟨blk, h1, kept hE h2⟩
theorem dI_sym (x y : Int) : dI y x = dI x y := by unfold dI; omega
theorem dI_tri (x y z : Int) : dI x z ≤ dI x y + dI y z := by unfold dI; omega
theorem dI_zero (x y : Int) : dI x y = 0 ↔ x = y := by unfold dI; omega
theorem dI_nn (x y : Int) : 0 ≤ dI x y := by unfold dI; omega
theorem farC_sym (a b : C4) : farC b a = farC a b := by
  unfold farC farI
  rw [dI_sym b.r a.r, dI_sym b.g a.g, dI_sym b.b a.b, dI_sym b.a a.a]
theorem farC_tri (a b c : C4) : farC a c ≤ farC a b + farC b c := by
  unfold farC farI
  have := dI_tri a.r b.r c.r
  have := dI_tri a.g b.g c.g
  have := dI_tri a.b b.b c.b
  have := dI_tri a.a b.a c.a
  omega
theorem farC_bd (a b : C4) (ha : a.ok) (hb : b.ok) : 0 ≤ farC a b ∧ farC a b ≤ 1020 := by
  obtain ⟨h1, h2⟩ := dI_bd ha.1 hb.1
  obtain ⟨h3, h4⟩ := dI_bd ha.2.1 hb.2.1
  obtain ⟨h5, h6⟩ := dI_bd ha.2.2.1 hb.2.2.1
  obtain ⟨h7, h8⟩ := dI_bd ha.2.2.2 hb.2.2.2
  unfold farC farI
  omega
theorem farC_zero (a b : C4) : (a.r = b.r ∧ a.g = b.g ∧ a.b = b.b ∧ a.a = b.a) ↔ farC a b = 0 := by
  have h1 := dI_nn a.r b.r
  have h2 := dI_nn a.g b.g
  have h3 := dI_nn a.b b.b
  have h4 := dI_nn a.a b.a
  rw [← dI_zero a.r, ← dI_zero a.g, ← dI_zero a.b, ← dI_zero a.a]
  unfold farC farI
  omega

theorem nn_same (a b c : C4) : nearN a [b, c, a, a] 4 = nearN a [b, c, a] 3 := by
  have h0 : farC a a = 0 := (farC_zero a a).1 ⟨rfl, rfl, rfl, rfl⟩
  have hp : 0 ≤ farC a b := by
    have h1 := dI_nn a.r b.r
    have h2 := dI_nn a.g b.g
    have h3 := dI_nn a.b b.b
    have h4 := dI_nn a.a b.a
    unfold farC farI; omega
  have hq : 0 ≤ farC a c := by
    have h1 := dI_nn a.r c.r
    have h2 := dI_nn a.g c.g
    have h3 := dI_nn a.b c.b
    have h4 := dI_nn a.a c.a
    unfold farC farI; omega
  by_cases h : farC a c < farC a b
  · by_cases h2 : 0 < farC a c
    · simp [nearN, h, h2, h0]
    · simp [nearN, h, h2, h0]
  · by_cases h2 : 0 < farC a b
    · simp [nearN, h, h2, h0]
    · simp [nearN, h, h2, h0]

set_option maxHeartbeats 4000000 in
theorem ways_any (a b c : C4) (w : World) (ha : a.ok) (hb : b.ok) (hc : c.ok) :
    Calls Try.prog 5 #[a.v, b.v, c.v] w fun e w' => e = .returned (.bool true) ∧ Below w.heap.size w w' := by
  obtain ⟨N, hN⟩ : ∃ N, w.heap.size = N := ⟨_, rfl⟩
  rw [hN]
  go_enter Try.func5, Try.ntmps5
  go_wp2_with (go_at_call 9; refine (wakes_any _).mono ?_)
  rintro e w1 ⟨rfl, hb1⟩
  have hbel : Below N w w1 := by
    refine Below.trans ?_ (hb1.mono (by simp [hN]; omega))
    repeat' (first | exact Below.refl _ _ | refine Below.alloc ?_ (by simp [hN]; try omega) _)
  have ht : tri N a b c w1 := by
    refine ⟨(hp_below hb1 (by simp [hN]; try omega)).trans ?_, (hp_below hb1 (by simp [hN]; try omega)).trans ?_, (hp_below hb1 (by simp [hN]; try omega)).trans ?_⟩ <;> simp [hp_alloc, hN] <;> (intro hh; omega)
  have HB := Lib.hid (And.intro hbel ht)
  clear hbel ht hb1
  go_wp2
  obtain ⟨hbel, ht⟩ := HB.out
  obtain ⟨M, hM⟩ : ∃ M, w1.heap.size = M := ⟨_, rfl⟩
  have Hfac := Lib.hid (fun W' (hS : Below M w1 W') => ht.ext (show Below w1.heap.size w1 W' by rw [hM]; exact hS))
  clear ht hbel
  obtain ⟨a1, a2, a3, a4⟩ := ha
  obtain ⟨b1, b2, b3, b4⟩ := hb
  obtain ⟨c1, c2, c3, c4⟩ := hc
  refine wp_region_det (S := fun W' => Below M w1 W')
    [a.v, b.v, .int .i64 (farC a b), b.v, c.v, .int .i64 (farC b c), a.v, c.v, .int .i64 (farC a c), .int .i64 (farC a b), .int .i64 (farC b c), .int .i64 (farC a c)]
    (by kernel_rfl) (by kernel_rfl) (Below.refl _ _).drew ?_ ?_
  · intro A hA
    simp only [bodyAct, dstAt, Act.put, List.length_cons, List.length_nil, Nat.reduceAdd, List.getElem?_toArray, List.getElem?_cons_succ, List.getElem?_cons_zero, Option.bind_some, List.getD_cons_zero, List.getD_cons_succ, List.setIfInBounds_toArray, List.set_cons_zero, List.set_cons_succ] at hA
    subst hA
    refine ⟨?_, ?_, ?call1, ?_, ?_, ?call2, ?_, ?_, ?call3, ?_, ?_, ?_, trivial⟩
    all_goals
      refine stepOk_plain rfl (fun A' W' hS hv K hK => ?_)
      simp [evalFacts, opTmps, Op.operands, Call.operands, Act.eval] at hv
      obtain ⟨h0, h1, h2⟩ := Hfac.out W' hS
      obtain ⟨x0, x1, x2, x3, _⟩ := cells4 h0
      obtain ⟨y0, y1, y2, y3, _⟩ := cells4 h1
      obtain ⟨z0, z1, z2, z3, _⟩ := cells4 h2
      have HS := Lib.hid hS
      clear hS h0 h1 h2
      go_simp
    case call1 =>
      refine CallsIn.mono (callsIn_wide.2 (far_any _ _ _ _ _ _ _ _ _ a1 a2 a3 a4 b1 b2 b3 b4)) ?_
      rintro e w'' ⟨rfl, hb2⟩
      exact hK _ (HS.out.trans (hb2.mono (by have := HS.out.size; omega)))
    case call2 =>
      refine CallsIn.mono (callsIn_wide.2 (far_any _ _ _ _ _ _ _ _ _ b1 b2 b3 b4 c1 c2 c3 c4)) ?_
      rintro e w'' ⟨rfl, hb2⟩
      exact hK _ (HS.out.trans (hb2.mono (by have := HS.out.size; omega)))
    case call3 =>
      refine CallsIn.mono (callsIn_wide.2 (far_any _ _ _ _ _ _ _ _ _ a1 a2 a3 a4 c1 c2 c3 c4)) ?_
      rintro e w'' ⟨rfl, hb2⟩
      exact hK _ (HS.out.trans (hb2.mono (by have := HS.out.size; omega)))
    all_goals exact hK _ HS.out
  · intro A hA W' hW'
    simp only [bodyAct, dstAt, Act.put, List.length_cons, List.length_nil, Nat.reduceAdd, List.getElem?_toArray, List.getElem?_cons_succ, List.getElem?_cons_zero, Option.bind_some, List.getD_cons_zero, List.getD_cons_succ, List.setIfInBounds_toArray, List.set_cons_zero, List.set_cons_succ] at hA
    subst hA
    simp only [List.length_cons, List.length_nil, Nat.reduceAdd, List.drop_succ_cons, List.drop_zero, List.drop_nil]
    obtain ⟨h0, h1, h2⟩ := Hfac.out W' hW'
    obtain ⟨x0, x1, x2, x3, _⟩ := cells4 h0
    obtain ⟨y0, y1, y2, y3, _⟩ := cells4 h1
    obtain ⟨z0, z1, z2, z3, _⟩ := cells4 h2
    have hbW : Below N w W' := HB.out.1.trans (hW'.mono (by have := HB.out.1.size; omega))
    have HB := Lib.hid (And.intro hbW (And.intro h0 (And.intro h1 h2)))
    clear h0 h1 h2 Hfac hW' hbW
    obtain ⟨f0, f1⟩ := farC_bd a b ⟨a1, a2, a3, a4⟩ ⟨b1, b2, b3, b4⟩
    obtain ⟨f0', f1'⟩ := farC_bd b c ⟨b1, b2, b3, b4⟩ ⟨c1, c2, c3, c4⟩
    obtain ⟨f0'', f1''⟩ := farC_bd a c ⟨a1, a2, a3, a4⟩ ⟨c1, c2, c3, c4⟩
    have he : ∀ w, (binOp .eql 27 a.v b.v).run Try.prog w = .ok (.bool (decide (farC a b = 0))) w := fun w => by rw [eql_col, decide_eq_decide.2 (farC_zero a b)]
    have htri := farC_tri a b c
    have Hf := Lib.hid (And.intro (show farI a.r a.g a.b a.a b.r b.g b.b b.a = farC a b from rfl) (show farI b.r b.g b.b b.a a.r a.g a.b a.a = farC a b from farC_sym a b))
    obtain ⟨nn, hnn⟩ : ∃ nn, nearN a [b, c, a] 3 = nn := ⟨_, rfl⟩
    have hn4 := nn_same a b c
    rw [hnn] at hn4
    have HN3 := Lib.hid (And.intro hnn hn4)
    clear hnn hn4
    generalize farC a b = f at *
    generalize farC b c = f' at *
    generalize farC a c = f'' at *
    gi_wp2
    go_wp2_with (go_at_call 17; refine (far_any _ _ _ _ _ _ _ _ _ b1 b2 b3 b4 a1 a2 a3 a4).mono ?_)
    rintro e w2 ⟨rfl, hb2⟩
    rw [Hf.out.2]
    obtain ⟨hbW, h0, h1, h2⟩ := HB.out
    replace hbW := below_call hbW (by have := hbW.size; omega) hb2
    replace h0 := kept hb2 h0
    replace h1 := kept hb2 h1
    replace h2 := kept hb2 h2
    clear hb2 HB x0 x1 x2 x3 y0 y1 y2 y3 z0 z1 z2 z3
    obtain ⟨x0, x1, x2, x3, xf⟩ := cells4 h0
    obtain ⟨y0, y1, y2, y3, yf⟩ := cells4 h1
    obtain ⟨z0, z1, z2, z3, zf⟩ := cells4 h2
    have HB := Lib.hid (And.intro hbW (And.intro h0 (And.intro h1 h2)))
    clear hbW h0 h1 h2
    have g1 : ¬ (1020 < f) := by omega
    have g2 : ¬ (f < 0) := by omega
    have g3 : ¬ (f + f' < f'') := by omega
    go_wp2
    obtain ⟨W3, hW3⟩ : ∃ W, w2 = W := ⟨_, rfl⟩
    have Hfac := Lib.hid (fun W' (hS : Ext w2.drew W') => have hS : Ext w2 W' := (Ext.refl w2).drew.trans hS; And.intro (kept hS HB.out.2.1) (And.intro (kept hS HB.out.2.2.1) (kept hS HB.out.2.2.2)))
    clear x0 x1 x2 x3 y0 y1 y2 y3 z0 z1 z2 z3
    clear xf yf zf he
    refine wp_region_rel [isV a.v, isV b.v, isV (.int .i64 f), isV (.bool true), isV (.bool true), isV a.v, isV b.v, isV (.int .i64 f), isV (.int .i64 (f - 1)), isV (.bool false), isV (.bool true), isV (.bool true), isV (.bool true), isV a.v, isV b.v, isV c.v, isV a.v, slP 27 3 (cells3C b c a), isV (.int .i64 nn), isV a.v, isV b.v, isV c.v, isV a.v, isV a.v, slP 27 4 (cells4C b c a a), isV (.int .i64 nn), isV (.bool true), isV (.bool true), isV (.bool true), isV a.v, isV (.int .i64 (-1)), isV (.bool true), isV (.bool true)] (by kernel_rfl) (by kernel_rfl) (by kernel_rfl) ?_ ?_ ?_
    · refine ⟨isV_keeps _, isV_keeps _, isV_keeps _, isV_keeps _, isV_keeps _, isV_keeps _, isV_keeps _, isV_keeps _, isV_keeps _, isV_keeps _, isV_keeps _, isV_keeps _, isV_keeps _, isV_keeps _, isV_keeps _, isV_keeps _, isV_keeps _, slP_keeps _ _ _, isV_keeps _, isV_keeps _, isV_keeps _, isV_keeps _, isV_keeps _, isV_keeps _, slP_keeps _ _ _, isV_keeps _, isV_keeps _, isV_keeps _, isV_keeps _, isV_keeps _, isV_keeps _, isV_keeps _, isV_keeps _, trivial⟩
    · intro V hV
      have s3 : V 3 = isV (.pointer (some ⟨N, 0, none⟩)) := by rw [hV]; rfl
      have s4 : V 4 = isV (.pointer (some ⟨N + 1, 0, none⟩)) := by rw [hV]; rfl
      have s5 : V 5 = isV (.pointer (some ⟨N + 2, 0, none⟩)) := by rw [hV]; rfl
      have s7 : V 7 = isV (.int .i64 f) := by rw [hV]; rfl
      have s49 : V 49 = isV a.v := by rw [hV]; rfl
      have s50 : V 50 = isV b.v := by rw [hV]; rfl
      have s51 : V 51 = isV (.int .i64 f) := by rw [hV]; rfl
      have s52 : V 52 = isV (.bool true) := by rw [hV]; rfl
      have s53 : V 53 = isV (.bool true) := by rw [hV]; rfl
      have s54 : V 54 = isV a.v := by rw [hV]; rfl
      have s55 : V 55 = isV b.v := by rw [hV]; rfl
      have s56 : V 56 = isV (.int .i64 f) := by rw [hV]; rfl
      have s57 : V 57 = isV (.int .i64 (f - 1)) := by rw [hV]; rfl
      have s58 : V 58 = isV (.bool false) := by rw [hV]; rfl
      have s59 : V 59 = isV (.bool true) := by rw [hV]; rfl
      have s60 : V 60 = isV (.bool true) := by rw [hV]; rfl
      have s61 : V 61 = isV (.bool true) := by rw [hV]; rfl
      have s62 : V 62 = isV a.v := by rw [hV]; rfl
      have s63 : V 63 = isV b.v := by rw [hV]; rfl
      have s64 : V 64 = isV c.v := by rw [hV]; rfl
      have s65 : V 65 = isV a.v := by rw [hV]; rfl
      have s66 : V 66 = slP 27 3 (cells3C b c a) := by rw [hV]; rfl
      have s67 : V 67 = isV (.int .i64 nn) := by rw [hV]; rfl
      have s68 : V 68 = isV a.v := by rw [hV]; rfl
      have s69 : V 69 = isV b.v := by rw [hV]; rfl
      have s70 : V 70 = isV c.v := by rw [hV]; rfl
      have s71 : V 71 = isV a.v := by rw [hV]; rfl
      have s72 : V 72 = isV a.v := by rw [hV]; rfl
      have s73 : V 73 = slP 27 4 (cells4C b c a a) := by rw [hV]; rfl
      have s74 : V 74 = isV (.int .i64 nn) := by rw [hV]; rfl
      have s75 : V 75 = isV (.bool true) := by rw [hV]; rfl
      have s76 : V 76 = isV (.bool true) := by rw [hV]; rfl
      have s77 : V 77 = isV (.bool true) := by rw [hV]; rfl
      have s78 : V 78 = isV a.v := by rw [hV]; rfl
      have s79 : V 79 = isV (.int .i64 (-1)) := by rw [hV]; rfl
      have s80 : V 80 = isV (.bool true) := by rw [hV]; rfl
      have s81 : V 81 = isV (.bool true) := by rw [hV]; rfl
      clear hV
      refine ⟨?q49, ?q50, ?q51, ?q52, ?q53, ?q54, ?q55, ?q56, ?q57, ?q58, ?q59, ?q60, ?q61, ?q62, ?q63, ?q64, ?q65, ?q66, ?q67, ?q68, ?q69, ?q70, ?q71, ?q72, ?q73, ?q74, ?q75, ?q76, ?q77, ?q78, ?q79, ?q80, ?q81, trivial⟩
      all_goals
        first | refine stepG_plain rfl (fun A' W' hS hv K hK => ?_) | refine stepG_want rfl (fun _ _ h => h) (fun A' W' hS hv K hK => ?_)
        simp only [factsR, opTmps, Op.operands, Call.operands, List.filterMap_cons, List.filterMap_nil, List.append_toArray, List.cons_append, List.nil_append, Array.toList, Option.toArray_some, Option.toArray_none, List.map_cons, List.map_nil, s3, s4, s5, s7, s49, s50, s51, s52, s53, s54, s55, s56, s57, s58, s59, s60, s61, s62, s63, s64, s65, s66, s67, s68, s69, s70, s71, s72, s73, s74, s75, s76, s77, s78, s79, s80, s81] at hv
        simp [factsR, opTmps, Op.operands, Call.operands, isV, s3, s4, s5, s7, s49, s50, s51, s52, s53, s54, s55, s56, s57, s58, s59, s60, s61, s62, s63, s64, s65, s66, s67, s68, s69, s70, s71, s72, s73, s74, s75, s76, s77, s78, s79, s80, s81, Act.eval] at hv
        clear s3 s4 s5 s7 s49 s50 s51 s52 s53 s54 s55 s56 s57 s58 s59 s60 s61 s62 s63 s64 s65 s66 s67 s68 s69 s70 s71 s72 s73 s74 s75 s76 s77 s78 s79 s80 s81
        obtain ⟨h0, h1, h2⟩ := Hfac.out W' hS
        obtain ⟨x0, x1, x2, x3, xf⟩ := cells4 h0
        obtain ⟨y0, y1, y2, y3, yf⟩ := cells4 h1
        obtain ⟨z0, z1, z2, z3, zf⟩ := cells4 h2
        have HS := Lib.hid hS
        clear hS h0 h1 h2
      case q67 =>
        obtain ⟨hv1, blk, hv2, hcells⟩ := hv
        go_simp
        refine CallsIn.mono (callsIn_wide.2 (nearest_some a blk 0 _ [b, c, a] _ ⟨a1, a2, a3, a4⟩ (by intro d hd; simp at hd; rcases hd with rfl | rfl | rfl <;> exact ⟨by assumption, by assumption, by assumption, by assumption⟩) (hp_lt hcells) (cols3 hcells) (by simp))) ?_
        rintro e w'' ⟨rfl, hb2⟩
        exact hK _ _ hb2 (congrArg (Value.int .i64) HN3.out.1)
      case q74 =>
        obtain ⟨hv1, blk, hv2, hcells⟩ := hv
        go_simp
        refine CallsIn.mono (callsIn_wide.2 (nearest_some a blk 0 _ [b, c, a, a] _ ⟨a1, a2, a3, a4⟩ (by intro d hd; simp at hd; rcases hd with rfl | rfl | rfl <;> exact ⟨by assumption, by assumption, by assumption, by assumption⟩) (hp_lt hcells) (cols4 hcells) (by simp))) ?_
        rintro e w'' ⟨rfl, hb2⟩
        exact hK _ _ hb2 (congrArg (Value.int .i64) HN3.out.2)
      case q79 =>
        go_simp
        refine CallsIn.mono (callsIn_wide.2 (nearest_nil a _)) ?_
        rintro e w'' ⟨rfl, hb2⟩
        exact hK _ _ hb2 rfl
      case q52 =>
        go_simp
        refine CallsIn.mono (callsIn_wide.2 (near_any _ _ _ _ _ _ _ _ _ _ a1 a2 a3 a4 b1 b2 b3 b4)) ?_
        rintro e w'' ⟨rfl, hb2⟩
        refine hK _ _ hb2 ?_
        rw [Hf.out.1]
        simp [isV]
      case q58 =>
        go_simp
        refine CallsIn.mono (callsIn_wide.2 (near_any _ _ _ _ _ _ _ _ _ _ a1 a2 a3 a4 b1 b2 b3 b4)) ?_
        rintro e w'' ⟨rfl, hb2⟩
        refine hK _ _ hb2 ?_
        rw [Hf.out.1, decide_eq_false (show ¬ f ≤ f - 1 by omega)]
        rfl
      case q66 =>
        go_simp
        exact hK _ _ ((Below.refl _ _).alloc (Nat.le_refl _) _) ⟨_, rfl, hp_new _ _⟩
      case q73 =>
        go_simp
        exact hK _ _ ((Below.refl _ _).alloc (Nat.le_refl _) _) ⟨_, rfl, hp_new _ _⟩
      all_goals
        go_simp
        first | exact hK _ _ (Ext.refl _) rfl | exact hK _ _ (Ext.refl _) (congrArg (Value.int .i64) (IntWalk.i64_in _ (by omega)))
    · intro us W' hE hP A hA
      have h81 : us.getD 32 undef = .bool true := allPhi_at hP 32 (by simp)
      simp only [bodyAct, dstAt, Act.put, List.length_cons, List.length_nil, Nat.reduceAdd, List.getElem?_toArray, List.getElem?_cons_succ, List.getElem?_cons_zero, Option.bind_some, List.setIfInBounds_toArray, List.set_cons_zero, List.set_cons_succ, h81] at hA
      subst hA
      simp only [List.length_cons, List.length_nil, Nat.reduceAdd, List.drop_succ_cons, List.drop_zero, List.drop_nil]
      have hbW : Below N w W' := HB.out.1.trans (Below.mono ((Ext.refl w2).drew.trans hE) (by have := HB.out.1.size; omega))
      have HB := Lib.hid hbW
      clear hE hP hbW Hfac
      gi_wp2
      go_wp2
      go_ret
      exact ⟨rfl, HB.out⟩
end Go.Proofs.Ytnhkiblakclcoaa
