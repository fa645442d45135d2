/- pixel: Nearest. -/
import Derived.Test.YtnhkiblakclcoaaF
import Derived.Test.YtnhkiblakclcoaaReg
namespace Go.Proofs.Ytnhkiblakclcoaa
open Go.RowKit
attribute [local go_sem] Oper.semAt_some
attribute [local go_sem] wide_fn wide_depth

/-- The place of the nearest one among the first k. -/
def nearN (c : C4) (l : List C4) : Nat → Int
  | 0 => -1
  | k + 1 => if nearN c l k < 0 ∨ farC c (l.getD k ⟨0, 0, 0, 0⟩) < farC c (l.getD (nearN c l k).toNat ⟨0, 0, 0, 0⟩) then k else nearN c l k
theorem nearN_bd (c : C4) (l : List C4) : ∀ k, -1 ≤ nearN c l k ∧ nearN c l k < k
  | 0 => by simp [nearN]
  | k + 1 => by
    have := nearN_bd c l k
    unfold nearN
    split <;> omega

def nearRel (c : C4) (N b off : Nat) (l : List C4) (w : World) (k : Nat) (wr : World) : Prop :=
  k ≤ l.length ∧ Below N w wr ∧ hp wr N = some (.cells #[.int .u8 c.r, .int .u8 c.g, .int .u8 c.b, .int .u8 c.a] 27)

set_option maxHeartbeats 4000000 in
theorem nearest_some (c : C4) (b off cap : Nat) (l : List C4) (w : World) (hc : c.ok) (hl : ∀ c ∈ l, c.ok) (hb : b < w.heap.size) (hs : colsAt w b off l) (hlen : l.length ≤ 4611686018427387904) :
    Calls Try.prog 19 #[c.v, .slice (some ⟨b, off, none⟩) l.length cap] w fun e w' => e = .returned (.int .i64 (nearN c l l.length)) ∧ Below w.heap.size w w' := by
  obtain ⟨N, hN⟩ : ∃ N, w.heap.size = N := ⟨_, rfl⟩
  rw [hN] at hb ⊢
  obtain ⟨o1, o2, o3, o4⟩ := hc
  go_enter Try.func19, Try.ntmps19
  have hle : (l.length : Int) ≤ 4611686018427387904 := by omega
  go_wp2_with fail
  go_loopw [5, 10] (fun t i wr => ∃ k : Nat, i = .int .i64 k ∧ t = .int .i64 (nearN c l k) ∧ nearRel c N b off l w k wr) (fun _ i _ => l.length - (intOf i).toNat)
  case atStart =>
    refine ⟨0, rfl, rfl, Nat.zero_le _, (Below.refl _ _).alloc (by omega) _, ?_⟩
    simp [hp_alloc, hN]
  case round =>
    obtain ⟨k, rfl, rfl, hk, hbel, h0⟩ := hrel
    obtain ⟨m1, m2⟩ := nearN_bd c l k
    by_cases hlt : k < l.length
    · have hlt' : (k : Int) < (l.length : Int) := by omega
      have hstep : nearN c l (k + 1) = if nearN c l k < 0 ∨ farC c (l.getD k ⟨0, 0, 0, 0⟩) < farC c (l.getD (nearN c l k).toNat ⟨0, 0, 0, 0⟩) then (k : Int) else nearN c l k := rfl
      have hgk : l.getD k ⟨0, 0, 0, 0⟩ = l[k] := by simp [hlt]
      rw [hgk] at hstep
      obtain ⟨d0, d1, d2, d3⟩ := hs.below hbel hb k hlt
      obtain ⟨p1, p2, p3, p4⟩ := hl l[k] (List.getElem_mem hlt)
      obtain ⟨M, hM⟩ : ∃ M, wr.heap.size = M := ⟨_, rfl⟩
      have q0 : N < M := by have := hp_lt h0; omega
      by_cases hneg : nearN c l k < 0
      · have hm : nearN c l k = -1 := by omega
        rw [hm] at hstep ⊢
        simp at hstep
        have Hs := Lib.hid hstep
        have HB := Lib.hid (And.intro hbel h0)
        generalize l[k] = d at *
        clear hstep hm hneg hbel h0 hgk m1 m2
        go_wp2
        refine wp_region_det (S := fun W' => W' = (wr.alloc (.cells #[.int .u8 d.r, .int .u8 d.g, .int .u8 d.b, .int .u8 d.a] 27)).drew)
          [.int .i64 (-1), .bool true, .bool true, undef, undef, undef, undef, undef, undef, undef, undef, undef, undef, .bool true] (by kernel_rfl) (by kernel_rfl) rfl ?_ ?_
        · intro A hA
          simp only [bodyAct, dstAt, Act.put, List.length_cons, List.length_nil, Nat.reduceAdd, List.getElem?_toArray, List.getElem?_cons_succ, List.getElem?_cons_zero, Option.bind_some, List.getD_cons_zero, List.getD_cons_succ, List.setIfInBounds_toArray, List.set_cons_zero, List.set_cons_succ] at hA
          subst hA
          refine ⟨?_, ?_, ?_, stepOk_skip rfl rfl rfl, stepOk_skip rfl rfl rfl, stepOk_skip rfl rfl rfl, stepOk_skip rfl rfl rfl, stepOk_skip rfl rfl rfl, stepOk_skip rfl rfl rfl, stepOk_skip rfl rfl rfl, stepOk_skip rfl rfl rfl, stepOk_skip rfl rfl rfl, stepOk_skip rfl rfl rfl, ?_, trivial⟩
          all_goals
            refine stepOk_plain rfl (fun A' W' hS hv K hK => ?_)
            simp [evalFacts, opTmps, Op.operands, Act.eval] at hv
            subst hS
            go_simp
            exact hK _ rfl
        · intro A hA W' hW'
          simp only [bodyAct, dstAt, Act.put, List.length_cons, List.length_nil, Nat.reduceAdd, List.getElem?_toArray, List.getElem?_cons_succ, List.getElem?_cons_zero, Option.bind_some, List.getD_cons_zero, List.getD_cons_succ, List.setIfInBounds_toArray, List.set_cons_zero, List.set_cons_succ] at hA
          subst hA
          subst hW'
          simp only [List.length_cons, List.length_nil, Nat.reduceAdd, List.drop_succ_cons, List.drop_zero, List.drop_nil]
          gi_wp2
          go_wp2
          obtain ⟨hbel, h0⟩ := HB.out
          go_roundw
          case rel => exact ⟨k + 1, by go_num, by rw [Hs.out], by omega, (hbel.alloc (by omega) _).drew, hp_old _ h0⟩
          case measure => simp [intOf]; omega
      · obtain ⟨j, hj⟩ : ∃ j : Nat, nearN c l k = (j : Int) := ⟨(nearN c l k).toNat, by omega⟩
        have hjk : j < l.length := by omega
        have hgj : l.getD (nearN c l k).toNat ⟨0, 0, 0, 0⟩ = l[j] := by rw [hj]; simp [hjk]
        rw [hgj, hj] at hstep
        rw [hj]
        obtain ⟨e1, e2, e3, e4⟩ := hl l[j] (List.getElem_mem hjk)
        have ef := hs.below hbel hb j hjk
        have hjl : (j : Int) < (l.length : Int) := by omega
        have hj0 : ¬ ((j : Int) < 0) := by omega
        have hstep' : nearN c l (k + 1) = if farC c l[k] < farC c l[j] then (k : Int) else j := by
          rw [hstep]; simp [hj0]
        have Hs := Lib.hid hstep'
        have Hf := Lib.hid ef
        have HB := Lib.hid (And.intro hbel (And.intro h0 hs))
        generalize l[k] = d at *
        generalize l[j] = e at *
        clear hstep hstep' hneg hbel h0 hgk hgj m1 m2 hj ef hs hj0
        have hj0' : (0 : Int) ≤ (j : Int) := by omega
        go_wp2
        obtain ⟨hbel, h0, hs⟩ := HB.out
        obtain ⟨X, hX⟩ : ∃ X : Obj, .cells #[.int .u8 d.r, .int .u8 d.g, .int .u8 d.b, .int .u8 d.a] 27 = X := ⟨_, rfl⟩
        rw [hX]
        replace h0 := hp_old X h0
        have h1 := hp_new wr X
        rw [hM] at h1
        have hbX := hbel.alloc (by omega) X
        have hsz : (wr.alloc X).heap.size = M + 1 := by simp [hM]
        have ef : (wr.alloc X).cell? ⟨b, off + j * 4, none⟩ = some (.int .u8 e.r) ∧ (wr.alloc X).cell? ⟨b, off + j * 4 + 1, none⟩ = some (.int .u8 e.g) ∧
            (wr.alloc X).cell? ⟨b, off + j * 4 + 2, none⟩ = some (.int .u8 e.b) ∧ (wr.alloc X).cell? ⟨b, off + j * 4 + 3, none⟩ = some (.int .u8 e.a) := by
          have hh := Hf.out
          have hbb : b < wr.heap.size := by omega
          have ha := (Below.refl wr.heap.size wr).alloc (Nat.le_refl _) X
          exact ⟨(ha.cell (p := ⟨b, _, none⟩) hbb).trans hh.1, (ha.cell (p := ⟨b, _, none⟩) hbb).trans hh.2.1, (ha.cell (p := ⟨b, _, none⟩) hbb).trans hh.2.2.1, (ha.cell (p := ⟨b, _, none⟩) hbb).trans hh.2.2.2⟩
        generalize wr.alloc X = W3 at *
        subst hX
        have hbM : b < M + 1 := by omega
        have fac : ∀ W', Below (M + 1) W3 W' → (W'.cell? ⟨N, 0, none⟩ = some (.int .u8 c.r) ∧ W'.cell? ⟨N, 1, none⟩ = some (.int .u8 c.g) ∧ W'.cell? ⟨N, 2, none⟩ = some (.int .u8 c.b) ∧ W'.cell? ⟨N, 3, none⟩ = some (.int .u8 c.a)) ∧
            (W'.cell? ⟨M, 0, none⟩ = some (.int .u8 d.r) ∧ W'.cell? ⟨M, 1, none⟩ = some (.int .u8 d.g) ∧ W'.cell? ⟨M, 2, none⟩ = some (.int .u8 d.b) ∧ W'.cell? ⟨M, 3, none⟩ = some (.int .u8 d.a)) ∧
            (W'.cell? ⟨b, off + j * 4, none⟩ = some (.int .u8 e.r) ∧ W'.cell? ⟨b, off + j * 4 + 1, none⟩ = some (.int .u8 e.g) ∧
            W'.cell? ⟨b, off + j * 4 + 2, none⟩ = some (.int .u8 e.b) ∧ W'.cell? ⟨b, off + j * 4 + 3, none⟩ = some (.int .u8 e.a)) := by
          intro W' hS
          obtain ⟨a0, a1, a2, a3, _⟩ := cells4 ((hp_below hS (by omega)).trans h0)
          obtain ⟨b0, b1, b2, b3, _⟩ := cells4 ((hp_below hS (by omega)).trans h1)
          exact ⟨⟨a0, a1, a2, a3⟩, ⟨b0, b1, b2, b3⟩, (hS.cell (p := ⟨b, _, none⟩) hbM).trans ef.1, (hS.cell (p := ⟨b, _, none⟩) hbM).trans ef.2.1, (hS.cell (p := ⟨b, _, none⟩) hbM).trans ef.2.2.1, (hS.cell (p := ⟨b, _, none⟩) hbM).trans ef.2.2.2⟩
        have Hfac := Lib.hid fac
        have HB2 := Lib.hid (And.intro hbX h0)
        clear fac ef h0 h1 hbX HB Hf hs hbel
        refine wp_region_det (S := fun W' => Below (M + 1) W3 W')
          [.int .i64 j, .bool false, .bool false, c.v, d.v, .int .i64 (farC c d), c.v, .slice (some ⟨b, off, none⟩) l.length cap, .int .i64 j, .pointer (some ⟨b, off + j * 4, none⟩), e.v, .int .i64 (farC c e), .bool (decide (farC c d < farC c e)), .bool (decide (farC c d < farC c e))]
          (by kernel_rfl) (by kernel_rfl) (Below.refl _ _).drew ?_ ?_
        · intro A hA
          simp only [bodyAct, dstAt, Act.put, List.length_cons, List.length_nil, Nat.reduceAdd, List.getElem?_toArray, List.getElem?_cons_succ, List.getElem?_cons_zero, Option.bind_some, List.getD_cons_zero, List.getD_cons_succ, List.setIfInBounds_toArray, List.set_cons_zero, List.set_cons_succ] at hA
          subst hA
          refine ⟨?_, ?_, ?_, ?_, ?_, ?call1, ?_, ?_, ?_, ?_, ?_, ?call2, ?_, ?_, trivial⟩
          all_goals
            first | refine stepOk_plain rfl (fun A' W' hS hv K hK => ?_) | refine stepOk_want rfl rfl (fun A' W' hS hv K hK => ?_)
            simp [evalFacts, opTmps, Op.operands, Call.operands, Act.eval] at hv
            obtain ⟨⟨a0, a1, a2, a3⟩, ⟨b0, b1, b2, b3⟩, g0, g1, g2, g3⟩ := Hfac.out W' hS
            have HS := Lib.hid hS
            clear hS
            go_simp
          case call1 =>
            refine CallsIn.mono (callsIn_wide.2 (far_any _ _ _ _ _ _ _ _ _ o1 o2 o3 o4 p1 p2 p3 p4)) ?_
            rintro e w'' ⟨rfl, hb2⟩
            exact hK _ (HS.out.trans (hb2.mono (by have := HS.out.size; omega)))
          case call2 =>
            refine CallsIn.mono (callsIn_wide.2 (far_any _ _ _ _ _ _ _ _ _ o1 o2 o3 o4 e1 e2 e3 e4)) ?_
            rintro e w'' ⟨rfl, hb2⟩
            exact hK _ (HS.out.trans (hb2.mono (by have := HS.out.size; omega)))
          all_goals exact hK _ HS.out
        · intro A hA W' hW'
          simp only [bodyAct, dstAt, Act.put, List.length_cons, List.length_nil, Nat.reduceAdd, List.getElem?_toArray, List.getElem?_cons_succ, List.getElem?_cons_zero, Option.bind_some, List.getD_cons_zero, List.getD_cons_succ, List.setIfInBounds_toArray, List.set_cons_zero, List.set_cons_succ] at hA
          subst hA
          simp only [List.length_cons, List.length_nil, Nat.reduceAdd, List.drop_succ_cons, List.drop_zero, List.drop_nil]
          obtain ⟨hbX, h0⟩ := HB2.out
          replace h0 := (hp_below hW' (by omega)).trans h0
          replace hbX : Below N w W' := hbX.trans (hW'.mono (by omega))
          have HB := Lib.hid (And.intro hbX h0)
          clear hW' hbX h0 HB2
          gi_wp2
          by_cases hcmp : farC c d < farC c e
          · have e1 : nearN c l (k + 1) = k := by rw [Hs.out, if_pos hcmp]
            have E1 := Lib.hid e1
            clear e1
            go_wp2
            obtain ⟨hbel, h0⟩ := HB.out
            go_roundw
            case rel => exact ⟨k + 1, by go_num, by rw [E1.out], by omega, hbel, h0⟩
            case measure => simp [intOf]; omega
          · have e1 : nearN c l (k + 1) = j := by rw [Hs.out, if_neg hcmp]
            have E1 := Lib.hid e1
            clear e1
            go_wp2
            obtain ⟨hbel, h0⟩ := HB.out
            go_roundw
            case rel => exact ⟨k + 1, by go_num, by rw [E1.out], by omega, hbel, h0⟩
            case measure => simp [intOf]; omega
    · have hkl : k = l.length := by omega
      subst hkl
      have HB := Lib.hid hbel
      clear hbel h0
      go_wp2
      go_ret
      exact ⟨rfl, HB.out⟩

set_option maxHeartbeats 400000 in
theorem nearest_nil (c : C4) (w : World) :
    Calls Try.prog 19 #[c.v, .slice none 0 0] w fun e w' => e = .returned (.int .i64 (-1)) ∧ Below w.heap.size w w' := by
  go_enter Try.func19, Try.ntmps19
  go_wp2_with fail
  refine wp_loop_rounds 1 ?_
  rw [rounds_succ]
  go_wp2
  go_ret
  exact ⟨rfl, (Below.refl _ _).alloc (Nat.le_refl _) _⟩
end Go.Proofs.Ytnhkiblakclcoaa
