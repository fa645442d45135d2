/- pixel: Layers, Nearest: rows of colours. -/
import Derived.Test.YtnhkiblakclcoaaC
import Derived.Test.YtnhkiblakclcoaaE
namespace Go.Proofs.Ytnhkiblakclcoaa
open Go.RowKit
attribute [local go_sem] Oper.semAt_some
attribute [local go_sem] wide_fn wide_depth

structure C4 where
  r : Int
  g : Int
  b : Int
  a : Int
abbrev C4.v (c : C4) : Value := col c.r c.g c.b c.a
def C4.ok (c : C4) : Prop := ok8 c.r ∧ ok8 c.g ∧ ok8 c.b ∧ ok8 c.a
def overC (u o : C4) : C4 := ⟨shareI u.r o.r o.a, shareI u.g o.g o.a, shareI u.b o.b o.a, o.a + shareI u.a 0 o.a⟩
def farC (c d : C4) : Int := farI c.r c.g c.b c.a d.r d.g d.b d.a
/-- A row of colours in memory, from cell off of block b on. -/
def colsAt (W : World) (b off : Nat) (l : List C4) : Prop :=
  ∀ (i : Nat) (h : i < l.length), W.cell? ⟨b, off + i * 4, none⟩ = some (.int .u8 l[i].r) ∧ W.cell? ⟨b, off + i * 4 + 1, none⟩ = some (.int .u8 l[i].g) ∧
    W.cell? ⟨b, off + i * 4 + 2, none⟩ = some (.int .u8 l[i].b) ∧ W.cell? ⟨b, off + i * 4 + 3, none⟩ = some (.int .u8 l[i].a)
theorem colsAt.below {W W' : World} {b off : Nat} {l : List C4} {B : Nat} (h : colsAt W b off l) (hb : Below B W W') (hB : b < B) : colsAt W' b off l := by
  intro i hi
  obtain ⟨h0, h1, h2, h3⟩ := h i hi
  exact ⟨(hb.cell (p := ⟨b, _, none⟩) hB).trans h0, (hb.cell (p := ⟨b, _, none⟩) hB).trans h1, (hb.cell (p := ⟨b, _, none⟩) hB).trans h2, (hb.cell (p := ⟨b, _, none⟩) hB).trans h3⟩

theorem over_a {a a' : Int} (ha : ok8 a) (ha' : ok8 a') : ok8 (a' + shareI a 0 a') := by
  obtain ⟨a1, a2⟩ := ha
  obtain ⟨a1', a2'⟩ := ha'
  obtain ⟨h1, h2, h3, h4, h5⟩ := shareI_bd a 0 a' a1 a2 (by omega) (by omega) a1' a2'
  have : 0 ≤ (255 - a) * (255 - a') := Int.mul_nonneg (by omega) (by omega)
  rw [Int.sub_mul] at this
  unfold ok8 shareI
  omega

set_option maxHeartbeats 1000000 in
theorem layers_some (u : C4) (b off cap : Nat) (l : List C4) (w : World) (hu : u.ok) (hl : ∀ c ∈ l, c.ok) (hb : b < w.heap.size) (hs : colsAt w b off l) (hlen : l.length ≤ 4611686018427387904) :
    Calls Try.prog 23 #[u.v, .slice (some ⟨b, off, none⟩) l.length cap] w fun e w' => e = .returned (l.foldl overC u).v ∧ Below w.heap.size w w' := by
  obtain ⟨N, hN⟩ : ∃ N, w.heap.size = N := ⟨_, rfl⟩
  rw [hN] at hb ⊢
  go_enter Try.func23, Try.ntmps23
  have hle : (l.length : Int) ≤ 4611686018427387904 := by omega
  go_wp2_with fail
  go_loopw [6, 9] (fun t i wr => ∃ (k : Nat) (c : C4), k ≤ l.length ∧ i = .int .i64 k ∧ (l.take k).foldl overC u = c ∧ c.ok ∧ Below N w wr ∧ hp wr N = some (.cells #[.int .u8 c.r, .int .u8 c.g, .int .u8 c.b, .int .u8 c.a] 27) ∧ hp wr (N + 1) = some (.cells #[.int .u8 0, .int .u8 0, .int .u8 0, .int .u8 0] 27)) (fun _ i _ => l.length - (intOf i).toNat)
  case atStart =>
    refine ⟨0, u, Nat.zero_le _, rfl, by simp, hu, ((Below.refl _ _).alloc (by omega) _).alloc (by simp; omega) _, ?_, ?_⟩
    · simp [hp_alloc, hN]
    · simp [hp_alloc, hN]
  case round =>
    obtain ⟨k, c, hk, rfl, hc, hok, hbel, h0, h1⟩ := hrel
    obtain ⟨o1, o2, o3, o4⟩ := hok
    by_cases hlt : k < l.length
    · obtain ⟨d0, d1, d2, d3⟩ := hs.below hbel hb k hlt
      obtain ⟨p1, p2, p3, p4⟩ := hl l[k] (List.getElem_mem hlt)
      obtain ⟨M, hM⟩ : ∃ M, wr.heap.size = M := ⟨_, rfl⟩
      have q0 : N < M := by have := hp_lt h0; omega
      have q1 : ¬ N = M := by omega
      have htk : (l.take (k + 1)).foldl overC u = overC c l[k] := by
        rw [List.take_succ_eq_append_getElem hlt, List.foldl_append, hc]; rfl
      have HB := Lib.hid (And.intro hbel (And.intro h0 (And.intro h1 (And.intro htk hs))))
      obtain ⟨c0, c1, c2, c3, cf⟩ := cells4 h0
      clear hbel h0 h1 hc hs htk
      have hlt' : (k : Int) < (l.length : Int) := by omega
      generalize l[k] = d at *
      go_wp2_with (go_at_call 20; refine (over_any _ _ _ _ _ _ _ _ _ o1 o2 o3 o4 p1 p2 p3 p4).mono ?_)
      rintro e w2 ⟨rfl, hb2⟩
      obtain ⟨hbel, h0, h1, htk, hs⟩ := HB.out
      replace h0 := kept hb2 (hp_old _ h0)
      replace h1 := kept hb2 (hp_old _ h1)
      replace hbel := below_call (hbel.alloc (by omega) _) (by omega) hb2
      clear hb2 HB c0 c1 c2 c3 cf d0 d1 d2 d3
      obtain ⟨c0, c1, c2, c3, cf⟩ := cells4 h0
      have HB := Lib.hid (And.intro hbel (And.intro h0 (And.intro h1 (And.intro htk hs))))
      clear hbel h0 h1 htk hs
      go_wp2
      obtain ⟨hbel, h0, h1, htk, hs⟩ := HB.out
      go_roundw
      case rel =>
        refine ⟨k + 1, overC c d, by omega, by go_num, htk, ?_, ?_, ?_, ?_⟩
        · exact ⟨shareI_range o1 p1 p4, shareI_range o2 p2 p4, shareI_range o3 p3 p4, over_a o4 p4⟩
        · exact (((hbel.setCell (p := ⟨N, 0, none⟩) (by simp) _).setCell (p := ⟨N, 1, none⟩) (by simp) _).setCell (p := ⟨N, 2, none⟩) (by simp) _).setCell (p := ⟨N, 3, none⟩) (by simp) _
        · simp [hp_setCell, h0, Obj.put, overC]
        · simp [hp_setCell, h1]
      case measure => simp [intOf]; omega
    · have hkl : k = l.length := by omega
      subst hkl
      rw [List.take_length] at hc
      have Hc := Lib.hid hc
      clear hc
      obtain ⟨c0, c1, c2, c3, cf⟩ := cells4 h0
      obtain ⟨e0, e1, e2, e3, ef⟩ := cells4 h1
      have HB := Lib.hid hbel
      clear hbel h0 h1
      go_wp2
      have hbel := HB.out
      refine bodyPost_ret (v := c.v) (by simp [results, Try.results23, go_sem, e0, e1, e2, e3, ef]) rfl ⟨by rw [Hc.out], ?_⟩
      exact (((hbel.setCell (p := ⟨N + 1, 0, none⟩) (by simp) _).setCell (p := ⟨N + 1, 1, none⟩) (by simp) _).setCell (p := ⟨N + 1, 2, none⟩) (by simp) _).setCell (p := ⟨N + 1, 3, none⟩) (by simp) _

set_option maxHeartbeats 400000 in
theorem layers_nil (u : C4) (w : World) :
    Calls Try.prog 23 #[u.v, .slice none 0 0] w fun e w' => e = .returned u.v ∧ Below w.heap.size w w' := by
  go_enter Try.func23, Try.ntmps23
  go_wp2_with fail
  refine wp_loop_rounds 1 ?_
  rw [rounds_succ]
  go_wp2
  refine bodyPost_ret (v := u.v) (by simp [results, Try.results23, go_sem]) rfl ⟨rfl, ?_⟩
  exact ((Below.refl _ _).alloc (Nat.le_refl _) _).alloc (by simp) _
end Go.Proofs.Ytnhkiblakclcoaa
