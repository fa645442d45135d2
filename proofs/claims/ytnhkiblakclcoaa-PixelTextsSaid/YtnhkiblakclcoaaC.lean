/- pixel: Over, Mix. -/
import Derived.Test.YtnhkiblakclcoaaB
import Derived.Test.YtnhkiblakclcoaaReg
namespace Go.Proofs.Ytnhkiblakclcoaa
open Go.RowKit
attribute [local go_sem] Oper.semAt_some
attribute [local go_sem] Nat.add_assoc wide_fn wide_depth

theorem shareI_range {u o p : Int} (hu : ok8 u) (ho : ok8 o) (hp : ok8 p) : ok8 (shareI u o p) := by
  obtain ⟨h1, h2, h3, h4, h5⟩ := shareI_bd u o p hu.1 hu.2 ho.1 ho.2 hp.1 hp.2
  unfold ok8 shareI
  omega

/-- 'Over$1': the closure. -/
theorem over1_any (B : Nat) (p x y : Int) (W : World) (hb : hp W B = some (.cells #[.int .i64 p] 3)) (hp' : ok8 p) (hx : ok8 x) (hy : ok8 y) :
    Calls Try.prog 39 (#[.int .i64 x, .int .i64 y] ++ #[.pointer (some ⟨B, 0, none⟩)]) W fun e w' => e = .returned (.int .u8 (shareI x y p)) ∧ W = w' := by
  obtain ⟨c, cf⟩ := cells1 hb
  have r := shareI_range hx hy hp'
  obtain ⟨r1, r2⟩ := r
  obtain ⟨p1, p2⟩ := hp'
  clear hb
  show Calls Try.prog 39 #[.int .i64 x, .int .i64 y, .pointer (some ⟨B, 0, none⟩)] W _
  go_enter Try.func39, Try.ntmps39
  go_wp2_with (go_at_call 40; refine (share_any _ _ _ _ hx.1 hx.2 hy.1 hy.2 p1 p2).mono ?_; rintro e w' ⟨rfl, rfl⟩)
  go_ret
  exact ⟨rfl, rfl⟩
theorem mix1_any (B : Nat) (p x y : Int) (W : World) (hb : hp W B = some (.cells #[.int .u8 p] 5)) (hp' : ok8 p) (hx : ok8 x) (hy : ok8 y) :
    Calls Try.prog 41 (#[.int .i64 x, .int .i64 y] ++ #[.pointer (some ⟨B, 0, none⟩)]) W fun e w' => e = .returned (.int .u8 (shareI x y p)) ∧ W = w' := by
  obtain ⟨c, cf⟩ := cells1 hb
  have r := shareI_range hx hy hp'
  obtain ⟨r1, r2⟩ := r
  obtain ⟨p1, p2⟩ := hp'
  clear hb
  show Calls Try.prog 41 #[.int .i64 x, .int .i64 y, .pointer (some ⟨B, 0, none⟩)] W _
  go_enter Try.func41, Try.ntmps41
  go_wp2_with (go_at_call 40; refine (share_any _ _ _ _ hx.1 hx.2 hy.1 hy.2 p1 p2).mono ?_; rintro e w' ⟨rfl, rfl⟩)
  go_ret
  exact ⟨rfl, rfl⟩
set_option maxHeartbeats 1000000 in
theorem mix_any (r g b a r' g' b' a' p : Int) (w : World) (hr : ok8 r) (hg : ok8 g) (hb : ok8 b) (ha : ok8 a) (hr' : ok8 r') (hg' : ok8 g') (hb' : ok8 b') (ha' : ok8 a') (hp' : ok8 p) :
    Calls Try.prog 21 #[col r g b a, col r' g' b' a', .int .u8 p] w fun e w' => e = .returned (col (shareI r r' p) (shareI g g' p) (shareI b b' p) (shareI a a' p)) ∧ Below w.heap.size w w' := by
  have hmf : ∀ (fn : Fn) (first cap : Array Value) (w : World), (Instr.makeFunc fn first cap).run Try.prog w = .ok (.func fn first cap) w := fun _ _ _ _ => rfl
  go_enter Try.func21, Try.ntmps21
  obtain ⟨N, hN⟩ : ∃ N, w.heap.size = N := ⟨_, rfl⟩
  rw [hN]
  go_wp2_with fail
  have hmk : ∀ W, Below (N + 4) ((((w.alloc (.cells #[.int .u8 r, .int .u8 g, .int .u8 b, .int .u8 a] 27)).alloc (.cells #[.int .u8 r', .int .u8 g', .int .u8 b', .int .u8 a'] 27)).alloc (.cells #[.int .u8 p] 5)).alloc (.cells #[.int .u8 0, .int .u8 0, .int .u8 0, .int .u8 0] 27)) W →
      ∀ x y, ok8 x → ok8 y → Calls Try.prog 41 (#[.int .i64 x, .int .i64 y] ++ #[.pointer (some ⟨N + 2, 0, none⟩)]) W fun e w' => e = .returned (.int .u8 (shareI x y p)) ∧ W = w' := by
    intro W hW x y hx hy
    refine mix1_any (N + 2) p x y W ?_ hp' hx hy
    rw [hp_below hW (by omega)]
    simp [hp_alloc, hN]
  refine (both_byte r g b a r' g' b' a' 41 _ (fun x y => shareI x y p) _ hr hg hb ha hr' hg' hb' ha' (enters_of Try.func41 (by kernel_rfl) rfl) (by simpa [hN] using hmk)).mono ?_
  rintro e w1 ⟨rfl, hb1⟩
  have hb0 : Below N w w1 := by
    refine Below.trans ?_ (hb1.mono (by simp [hN]; omega))
    repeat' (first | exact Below.refl _ _ | refine Below.alloc ?_ (by simp [hN]; try omega) _)
  have h6 : hp w1 (N + 3) = some (.cells #[.int .u8 0, .int .u8 0, .int .u8 0, .int .u8 0] 27) := by
    rw [hp_below hb1 (by simp [hN])]
    simp [hp_alloc, hN]
  clear hmk hb1
  obtain ⟨c0, c1, c2, c3, cf⟩ := cells4 h6
  have HB := Lib.hid (And.intro hb0 h6)
  clear hb0 h6
  go_wp2_with (go_at_call 37; refine (of_any _ _ _ _ _).mono ?_)
  rintro e w2 ⟨rfl, hb2⟩
  obtain ⟨hb0, h6⟩ := HB.out
  have h6 := kept hb2 h6
  have hb0 := below_call hb0 (by omega) hb2
  clear hb2 c0 c1 c2 c3 cf
  obtain ⟨c0, c1, c2, c3, cf⟩ := cells4 h6
  have HB := Lib.hid (And.intro hb0 h6)
  clear hb0 h6
  go_wp2
  obtain ⟨hb0, h6⟩ := HB.out
  refine bodyPost_ret (v := col (shareI r r' p) (shareI g g' p) (shareI b b' p) (shareI a a' p)) (by simp [results, Try.results21, go_sem, c0, c1, c2, c3, cf]) rfl ⟨rfl, ?_⟩
  exact (((hb0.setCell (p := ⟨N + 3, 0, none⟩) (by simp) _).setCell (p := ⟨N + 3, 1, none⟩) (by simp) _).setCell (p := ⟨N + 3, 2, none⟩) (by simp) _).setCell (p := ⟨N + 3, 3, none⟩) (by simp) _

set_option maxHeartbeats 2000000 in
theorem over_any (r g b a r' g' b' a' : Int) (w : World) (hr : ok8 r) (hg : ok8 g) (hb : ok8 b) (ha : ok8 a) (hr' : ok8 r') (hg' : ok8 g') (hb' : ok8 b') (ha' : ok8 a') :
    Calls Try.prog 20 #[col r g b a, col r' g' b' a'] w fun e w' => e = .returned (col (shareI r r' a') (shareI g g' a') (shareI b b' a') (a' + shareI a 0 a')) ∧ Below w.heap.size w w' := by
  have hmf : ∀ (fn : Fn) (first cap : Array Value) (w : World), (Instr.makeFunc fn first cap).run Try.prog w = .ok (.func fn first cap) w := fun _ _ _ _ => rfl
  obtain ⟨a1, a2⟩ := ha
  obtain ⟨a1', a2'⟩ := ha'
  go_enter Try.func20, Try.ntmps20
  obtain ⟨N, hN⟩ : ∃ N, w.heap.size = N := ⟨_, rfl⟩
  rw [hN]
  go_wp2_with fail
  have hmk : ∀ W, Below (N + 4) ((((w.alloc (.cells #[.int .u8 r, .int .u8 g, .int .u8 b, .int .u8 a] 27)).alloc (.cells #[.int .u8 r', .int .u8 g', .int .u8 b', .int .u8 a'] 27)).alloc (.cells #[.int .u8 0, .int .u8 0, .int .u8 0, .int .u8 0] 27)).alloc (.cells #[.int .i64 a'] 3)) W →
      ∀ x y, ok8 x → ok8 y → Calls Try.prog 39 (#[.int .i64 x, .int .i64 y] ++ #[.pointer (some ⟨N + 3, 0, none⟩)]) W fun e w' => e = .returned (.int .u8 (shareI x y a')) ∧ W = w' := by
    intro W hW x y hx hy
    refine over1_any (N + 3) a' x y W ?_ ⟨a1', a2'⟩ hx hy
    rw [hp_below hW (by omega)]
    simp [hp_alloc, hN]
  refine (both_byte r g b a r' g' b' a' 39 _ (fun x y => shareI x y a') _ hr hg hb ⟨a1, a2⟩ hr' hg' hb' ⟨a1', a2'⟩ (enters_of Try.func39 (by kernel_rfl) rfl) (by simpa [hN] using hmk)).mono ?_
  rintro e w1 ⟨rfl, hb1⟩
  have hb0 : Below N w w1 := by
    refine Below.trans ?_ (hb1.mono (by simp [hN]; omega))
    repeat' (first | exact Below.refl _ _ | refine Below.alloc ?_ (by simp [hN]; try omega) _)
  have k0 : hp w1 N = some (.cells #[.int .u8 r, .int .u8 g, .int .u8 b, .int .u8 a] 27) := by rw [hp_below hb1 (by simp [hN]; omega)]; simp [hp_alloc, hN, Nat.add_assoc]
  have k2 : hp w1 (N + 2) = some (.cells #[.int .u8 0, .int .u8 0, .int .u8 0, .int .u8 0] 27) := by rw [hp_below hb1 (by simp [hN])]; simp [hp_alloc, hN, Nat.add_assoc]
  have k3 : hp w1 (N + 3) = some (.cells #[.int .i64 a'] 3) := by rw [hp_below hb1 (by simp [hN])]; simp [hp_alloc, hN, Nat.add_assoc]
  clear hmk hb1
  go_wp2_with (go_at_call 37; refine (of_any _ _ _ _ _).mono ?_)
  rintro e w2 ⟨rfl, hb2⟩
  replace k0 := kept hb2 k0
  replace k2 := kept hb2 k2
  replace k3 := kept hb2 k3
  replace hb0 := below_call hb0 (by omega) hb2
  clear hb2
  obtain ⟨c0, c1, c2, c3, _⟩ := cells4 k0
  obtain ⟨d0, _⟩ := cells1 k3
  obtain ⟨M, hM⟩ : ∃ M, w2.heap.size = M := ⟨_, rfl⟩
  have hNM : N + 4 ≤ M := by have := hp_lt k3; omega
  have HB := Lib.hid (And.intro hb0 (And.intro k0 (And.intro k2 k3)))
  clear hb0 k0 k2 k3
  go_wp2
  obtain ⟨s1, s2⟩ := shareI_range (u := a) (o := 0) (p := a') ⟨a1, a2⟩ ⟨by omega, by omega⟩ ⟨a1', a2'⟩
  have s3 : a' + shareI a 0 a' ≤ 255 := by
    obtain ⟨h1, h2, h3, h4, h5⟩ := shareI_bd a 0 a' a1 a2 (by omega) (by omega) a1' a2'
    have : 0 ≤ (255 - a) * (255 - a') := Int.mul_nonneg (by omega) (by omega)
    rw [Int.sub_mul] at this
    unfold shareI
    omega
  obtain ⟨hb0, k0, k2, k3⟩ := HB.out
  obtain ⟨X, hX⟩ : ∃ X : Obj, .cells #[.int .u8 (shareI r r' a'), .int .u8 (shareI g g' a'), .int .u8 (shareI b b' a'), .int .u8 (shareI a a' a')] 58 = X := ⟨_, rfl⟩
  rw [hX]
  replace hb0 := hb0.alloc (by omega) X
  replace k0 := hp_old X k0
  replace k2 := hp_old X k2
  replace k3 := hp_old X k3
  have k6 := hp_new w2 X
  rw [hM] at k6
  generalize w2.alloc X = W3 at *
  subst hX
  clear c0 c1 c2 c3 d0 HB
  have wa : IntKind.i64.wrap a = a := IntWalk.i64_in _ (by omega)
  have ws : IntKind.i64.wrap (a' + shareI a 0 a') = a' + shareI a 0 a' := IntWalk.i64_in _ (by omega)
  have s0 : 0 ≤ a' + shareI a 0 a' := by omega
  have ws8 : IntKind.u8.wrap (a' + shareI a 0 a') = a' + shareI a 0 a' := by simp [IntKind.wrap, IntKind.signed, IntKind.bits]; omega
  obtain ⟨c0, c1, c2, c3, cf⟩ := cells4 k0
  obtain ⟨d0, df⟩ := cells1 k3
  obtain ⟨m0, m1, m2, m3, mf⟩ := cells4 k6
  obtain ⟨n0, n1, n2, n3, nf⟩ := cells4 k2
  have HB := Lib.hid (And.intro hb0 (And.intro k2 k6))
  clear hb0 k0 k2 k3 k6
  refine wp_region_det (S := fun W' => W' = W3.drew)
    [.int .i64 a', .pointer (some ⟨N, 3, none⟩), .int .u8 a, .int .i64 a, .int .i64 a', .int .i64 (shareI a 0 a'), .int .i64 (a' + shareI a 0 a'), .int .u8 (a' + shareI a 0 a'), .pointer (some ⟨M, 0, none⟩), .pointer (some ⟨M, 3, none⟩)]
    (by kernel_rfl) (by kernel_rfl) rfl ?_ ?_
  · intro A hA
    simp only [bodyAct, dstAt, Act.put, List.length_cons, List.length_nil, Nat.reduceAdd, List.getElem?_toArray, List.getElem?_cons_succ, List.getElem?_cons_zero, Option.bind_some, List.getD_cons_zero, List.getD_cons_succ, List.setIfInBounds_toArray, List.set_cons_zero, List.set_cons_succ] at hA
    subst hA
    refine ⟨?_, ?_, ?_, ?_, ?_, ?call, ?_, ?_, ?_, ?_, trivial⟩
    all_goals
      refine stepOk_plain rfl (fun A' W' hS hv K hK => ?_)
      simp [evalFacts, opTmps, Op.operands, Call.operands, Act.eval] at hv
      subst hS
      go_simp
    case call =>
      refine CallsIn.mono (callsIn_wide.2 (share_any _ _ _ _ a1 a2 (by omega) (by omega) a1' a2')) ?_
      rintro e w'' ⟨rfl, rfl⟩
      exact hK _ rfl
    all_goals exact hK _ rfl
  · intro A hA W' hW'
    simp only [bodyAct, dstAt, Act.put, List.length_cons, List.length_nil, Nat.reduceAdd, List.getElem?_toArray, List.getElem?_cons_succ, List.getElem?_cons_zero, Option.bind_some, List.getD_cons_zero, List.getD_cons_succ, List.setIfInBounds_toArray, List.set_cons_zero, List.set_cons_succ] at hA
    subst hA
    subst hW'
    simp only [List.length_cons, List.length_nil, Nat.reduceAdd, List.drop_succ_cons, List.drop_zero]
    have q : ¬ N + 2 = M := by omega
    gi_wp2
    go_wp2
    obtain ⟨hb0, k2, k6⟩ := HB.out
    refine bodyPost_ret (v := col (shareI r r' a') (shareI g g' a') (shareI b b' a') (a' + shareI a 0 a')) (by simp [results, Try.results20, go_sem, n0, n1, n2, n3, nf]) rfl ⟨rfl, ?_⟩
    exact (((((hb0.setCell (p := ⟨M, 3, none⟩) (by simp; omega) _).setCell (p := ⟨N + 2, 0, none⟩) (by simp) _).setCell (p := ⟨N + 2, 1, none⟩) (by simp) _).setCell (p := ⟨N + 2, 2, none⟩) (by simp) _).setCell (p := ⟨N + 2, 3, none⟩) (by simp) _).drew
end Go.Proofs.Ytnhkiblakclcoaa
