/- pixel: contracts of the small functions (share, of, the iterator of parts). -/
import Derived.Test.YtnhkiblakclcoaaLib
import Derived.Test.YtnhkiblakclcoaaChecked
namespace Go.Proofs.Ytnhkiblakclcoaa
open Go.RowKit
attribute [local go_sem] Oper.semAt_some

def shareI (u o p : Int) : Int := (u * (255 - p) + o * p + 127) / 255

theorem shareI_bd (u o p : Int) (hu : 0 ≤ u) (hu' : u ≤ 255) (ho : 0 ≤ o) (ho' : o ≤ 255) (hp : 0 ≤ p) (hp' : p ≤ 255) :
    0 ≤ u * (255 - p) ∧ u * (255 - p) ≤ 65025 ∧ 0 ≤ o * p ∧ o * p ≤ 65025 ∧ u * (255 - p) + o * p ≤ 65025 := by
  have h1 : 0 ≤ u * (255 - p) := Int.mul_nonneg hu (by omega)
  have h2 : 0 ≤ o * p := Int.mul_nonneg ho hp
  have h3 : 0 ≤ (255 - u) * (255 - p) := Int.mul_nonneg (by omega) (by omega)
  have h4 : 0 ≤ (255 - o) * p := Int.mul_nonneg (by omega) hp
  have e3 : (255 - u) * (255 - p) = 255 * (255 - p) - u * (255 - p) := by rw [Int.sub_mul]
  have e4 : (255 - o) * p = 255 * p - o * p := by rw [Int.sub_mul]
  omega

theorem wrap64_id {x : Int} (h : -9223372036854775808 ≤ x) (h' : x ≤ 9223372036854775807) : wrap64 x = x := by
  unfold wrap64; omega

set_option maxHeartbeats 400000 in
theorem share_any (u o p : Int) (w : World) (hu : 0 ≤ u) (hu' : u ≤ 255) (ho : 0 ≤ o) (ho' : o ≤ 255) (hp : 0 ≤ p) (hp' : p ≤ 255) :
    Calls Try.prog 40 #[.int .i64 u, .int .i64 o, .int .i64 p] w fun e w' => e = .returned (.int .i64 (shareI u o p)) ∧ w = w' := by
  go_enter Try.func40, Try.ntmps40
  go_wp2
  go_ret
  refine ⟨?_, rfl⟩
  obtain ⟨h1, h2, h3, h4, h5⟩ := shareI_bd u o p hu hu' ho ho' hp hp'
  refine ret_int ?_
  rw [wrap64_id (x := u * (255 - p)) (by omega) (by omega), wrap64_id (x := o * p) (by omega) (by omega), wrap64_id (x := u * (255 - p) + o * p) (by omega) (by omega),
    wrap64_id (x := u * (255 - p) + o * p + 127) (by omega) (by omega), Int.tdiv_eq_ediv_of_nonneg (by omega)]
  unfold shareI
  exact wrap64_id (by omega) (by omega)

set_option maxHeartbeats 400000 in
theorem of_any (r g b a : Int) (w : World) :
    Calls Try.prog 37 #[.agg #[.int .u8 r, .int .u8 g, .int .u8 b, .int .u8 a]] w fun e w' => e = .returned (.agg #[.int .u8 r, .int .u8 g, .int .u8 b, .int .u8 a]) ∧ Below w.heap.size w w' := by
  go_enter Try.func37, Try.ntmps37
  go_wp2
  refine bodyPost_ret (v := .agg #[.int .u8 r, .int .u8 g, .int .u8 b, .int .u8 a]) (by simp [results, Try.results37, go_sem]) rfl ⟨rfl, ?_⟩
  exact ((Below.refl _ _).alloc (Nat.le_refl _) _).alloc (by simp) _

/-- 'shade.parts': a closure over a box that holds the colour. -/
theorem parts_any (r g b a : Int) (w : World) :
    Calls Try.prog 29 #[.agg #[.int .u8 r, .int .u8 g, .int .u8 b, .int .u8 a]] w fun e w' =>
      e = .returned (.func (.func 42) #[] #[.pointer (some ⟨w.heap.size, 0, none⟩)]) ∧ w' = w.alloc (.cells #[.int .u8 r, .int .u8 g, .int .u8 b, .int .u8 a] 58) := by
  have hmf : ∀ (fn : Fn) (first cap : Array Value) (w : World), (Instr.makeFunc fn first cap).run Try.prog w = .ok (.func fn first cap) w := fun _ _ _ _ => rfl
  go_enter Try.func29, Try.ntmps29
  go_wp2
  go_ret
  exact ⟨rfl, rfl⟩

def colObj (r g b a : Int) : Obj := .cells #[.int .u8 r, .int .u8 g, .int .u8 b, .int .u8 a] 58

set_option maxHeartbeats 2000000 in
theorem parts_iter (r g b a : Int) (B : Nat) (hr : 0 ≤ r ∧ r ≤ 255) (hg : 0 ≤ g ∧ g ≤ 255) (hb : 0 ≤ b ∧ b ≤ 255) (ha : 0 ≤ a ∧ a ≤ 255) :
    Iter Try.prog 42 #[.pointer (some ⟨B, 0, none⟩)] (fun x : Int × Int => #[.int .i64 x.1, .int .i64 x.2]) [(0, r), (1, g), (2, b), (3, a)] (fun W => W.heap[B]? = some (colObj r g b a)) := by
  intro n l J Jx W hK hY h0
  have hbx := hK 0 W h0
  unfold colObj at hbx
  have c0 : W.cell? ⟨B, 0, none⟩ = some (.int .u8 r) := cell_of hbx rfl
  have c1 : W.cell? ⟨B, 1, none⟩ = some (.int .u8 g) := cell_of hbx rfl
  have c2 : W.cell? ⟨B, 2, none⟩ = some (.int .u8 b) := cell_of hbx rfl
  have c3 : W.cell? ⟨B, 3, none⟩ = some (.int .u8 a) := cell_of hbx rfl
  clear hbx
  have i0 : ∀ w, (Instr.index 73 (.agg #[.int .u8 r, .int .u8 g, .int .u8 b, .int .u8 a]) (.int .i64 0)).run Try.prog w = .ok (.int .u8 r) w := fun _ => by kernel_rfl
  have i1 : ∀ w, (Instr.index 73 (.agg #[.int .u8 r, .int .u8 g, .int .u8 b, .int .u8 a]) (.int .i64 1)).run Try.prog w = .ok (.int .u8 g) w := fun _ => by kernel_rfl
  have i2 : ∀ w, (Instr.index 73 (.agg #[.int .u8 r, .int .u8 g, .int .u8 b, .int .u8 a]) (.int .i64 2)).run Try.prog w = .ok (.int .u8 b) w := fun _ => by kernel_rfl
  have i3 : ∀ w, (Instr.index 73 (.agg #[.int .u8 r, .int .u8 g, .int .u8 b, .int .u8 a]) (.int .i64 3)).run Try.prog w = .ok (.int .u8 a) w := fun _ => by kernel_rfl
  refine callsIn_of_wp Try.func42 rfl trivial ?_ rfl
  simp only [Try.ntmps42, List.size_toArray, List.length_cons, List.length_nil, Nat.reduceAdd, Nat.reduceSub, Array.replicate_succ, Array.replicate_zero, List.push_toArray, List.append_toArray, List.nil_append, List.cons_append]
  gi_wp2
  refine wpIn_scope_straight (wpIn_label_seq ?_)
  gi_wp2
  refine wpIn_loop_rounds 5 ?_
  rw [roundsIn_succ]
  obtain ⟨f1, t1, a1, b1, hy1, hR1⟩ := hY 0 (by simp) W h0
  dsimp only [List.getElem_cons_zero] at hy1
  gi_wp2
  refine hR1.mono ?_
  clear hy1 hR1
  rintro e W1 (⟨rfl, hJ1⟩ | ⟨rfl, hx1⟩)
  case inr =>
    gi_wp2
    rw [Exit.noGoto_normal]; exact bodyPost_end (results_none rfl _ _ _) rfl ⟨⟨_, rfl⟩, .inr hx1⟩
  gi_wp2
  rw [roundsIn_succ]
  obtain ⟨f1, t1, a1, b1, hy1, hR1⟩ := hY 1 (by simp) W1 hJ1
  dsimp only [List.getElem_cons_zero, List.getElem_cons_succ] at hy1
  gi_wp2
  refine hR1.mono ?_
  clear hy1 hR1
  rintro e W2 (⟨rfl, hJ2⟩ | ⟨rfl, hx2⟩)
  case inr =>
    gi_wp2
    rw [Exit.noGoto_normal]; exact bodyPost_end (results_none rfl _ _ _) rfl ⟨⟨_, rfl⟩, .inr hx2⟩
  gi_wp2
  rw [roundsIn_succ]
  obtain ⟨f1, t1, a1, b1, hy1, hR1⟩ := hY 2 (by simp) W2 hJ2
  dsimp only [List.getElem_cons_zero, List.getElem_cons_succ] at hy1
  gi_wp2
  refine hR1.mono ?_
  clear hy1 hR1
  rintro e W3 (⟨rfl, hJ3⟩ | ⟨rfl, hx3⟩)
  case inr =>
    gi_wp2
    rw [Exit.noGoto_normal]; exact bodyPost_end (results_none rfl _ _ _) rfl ⟨⟨_, rfl⟩, .inr hx3⟩
  gi_wp2
  rw [roundsIn_succ]
  obtain ⟨f1, t1, a1, b1, hy1, hR1⟩ := hY 3 (by simp) W3 hJ3
  dsimp only [List.getElem_cons_zero, List.getElem_cons_succ] at hy1
  gi_wp2
  refine hR1.mono ?_
  clear hy1 hR1
  rintro e W4 (⟨rfl, hJ4⟩ | ⟨rfl, hx4⟩)
  case inr =>
    gi_wp2
    rw [Exit.noGoto_normal]; exact bodyPost_end (results_none rfl _ _ _) rfl ⟨⟨_, rfl⟩, .inr hx4⟩
  gi_wp2
  rw [roundsIn_succ]
  gi_wp2
  rw [Exit.noGoto_normal]; exact bodyPost_end (results_none rfl _ _ _) rfl ⟨⟨_, rfl⟩, .inl hJ4⟩
end Go.Proofs.Ytnhkiblakclcoaa
