/- Arguments, read: what a type's cells are, and slices of them. Over any program. -/
import Derived.Test.YtbiapeaghbndoaaEq
import Derived.OpenShut
import Derived.ChangeOld
import Derived.ChangeMaps5
import Derived.Deep.Slices
namespace Go.Proofs.Ytbiapeaghbndoaa
open Go Go.RowKit Go.ChangeShapes Go.WideShapes Go.Deep

/-- Cells that are read at this type are those of some x. -/
def Rds (P : Program) (t : TypeId) {α : Type} (f : α → List Value) (ok : α → Prop) : Prop :=
  ∀ (H : Type) (enc : TypeId × Value → H) (w : World) (base : Nat) (spare : Nat → Bool) (held : Bool) (fuel : Nat) (cs : List Value) (x : DataW H × List MemPlace), DataW.trod enc P w base spare held fuel t cs = some x → ∃ a, cs = f a ∧ ok a
section
variable {P : Program} {t : TypeId}
theorem rds_int {k : IntKind} (h : intOf? P t = some k) : Rds P t (fun n : Int => [.int k n]) (fun n => (Lit.int k n).wf = true) := by
  intro H enc w base spare held fuel cs x hx
  obtain ⟨n, h1, _, h2⟩ := DataW.trod_int (und_int h) hx
  exact ⟨n, h1, h2⟩
theorem Rds.map {α β : Type} {f : α → List Value} {ok : α → Prop} (h : Rds P t f ok) (g : α → β) {f' : β → List Value} {ok' : β → Prop} (hf : ∀ a, f a = f' (g a)) (ho : ∀ a, ok a → ok' (g a)) : Rds P t f' ok' := by
  intro H enc w base spare held fuel cs x hx
  obtain ⟨a, h1, h2⟩ := h H enc w base spare held fuel cs x hx
  exact ⟨g a, by rw [h1, hf], ho a h2⟩
theorem cellsOf_sz {n : Nat} (h : szOf P t = some n) : P.cellsOf t = n := by
  unfold szOf at h
  simp [Program.cellsOf, h]
/-- The part of the cells that a field takes. -/
theorem rds_field {i off n : Nat} {ft : TypeId} {α : Type} {f : α → List Value} {ok : α → Prop} (hfl : fldOf P t i = some (ft, off)) (hs : szOf P ft = some n) (h : Rds P ft f ok)
    {H : Type} {enc : TypeId × Value → H} {w : World} {base : Nat} {spare : Nat → Bool} {held : Bool} {fuel : Nat} {cs : List Value} {x : DataW H × List MemPlace} (hx : DataW.trod enc P w base spare held fuel t cs = some x) :
    ∃ a, (cs.drop off).take n = f a ∧ ok a := by
  obtain ⟨fs, hu, fl, hfi, rfl, rfl⟩ := und_fld hfl
  obtain ⟨xs, m, _, _, _, hlen, hg⟩ := DataW.trod_struct hu hx
  have hi := hg i fl hfi
  have hil : i < fs.size := (Array.getElem?_eq_some_iff.1 hfi).1
  rw [cellsOf_sz hs, List.getElem?_eq_getElem (by omega)] at hi
  exact h _ enc w base spare held m _ _ hi
theorem rds_len {n i : Nat} {ft : TypeId} {off : Nat} (hfl : fldOf P t i = some (ft, off)) (hs : szOf P t = some n)
    {H : Type} {enc : TypeId × Value → H} {w : World} {base : Nat} {spare : Nat → Bool} {held : Bool} {fuel : Nat} {cs : List Value} {x : DataW H × List MemPlace} (hx : DataW.trod enc P w base spare held fuel t cs = some x) : cs.length = n := by
  obtain ⟨fs, hu, fl, hfi, rfl, rfl⟩ := und_fld hfl
  obtain ⟨xs, m, _, _, hl, _, _⟩ := DataW.trod_struct hu hx
  rw [hl, cellsOf_sz hs]
theorem rds4 {t0 t1 t2 t3 : TypeId} {s0 s1 s2 s3 : Nat} {α β γ δ : Type} {f0 : α → List Value} {f1 : β → List Value} {f2 : γ → List Value} {f3 : δ → List Value} {o0 : α → Prop} {o1 : β → Prop} {o2 : γ → Prop} {o3 : δ → Prop} (h0 : fldOf P t 0 = some (t0, 0)) (h1 : fldOf P t 1 = some (t1, s0)) (h2 : fldOf P t 2 = some (t2, s0 + s1)) (h3 : fldOf P t 3 = some (t3, s0 + s1 + s2)) (z0 : szOf P t0 = some s0) (z1 : szOf P t1 = some s1) (z2 : szOf P t2 = some s2) (z3 : szOf P t3 = some s3)
    (z : szOf P t = some (s0 + s1 + s2 + s3)) (r0 : Rds P t0 f0 o0) (r1 : Rds P t1 f1 o1) (r2 : Rds P t2 f2 o2) (r3 : Rds P t3 f3 o3) : Rds P t (fun p : α × β × γ × δ => f0 p.1 ++ (f1 p.2.1 ++ (f2 p.2.2.1 ++ f3 p.2.2.2))) (fun p => o0 p.1 ∧ o1 p.2.1 ∧ o2 p.2.2.1 ∧ o3 p.2.2.2) := by
  intro H enc w base spare held fuel cs x hx
  obtain ⟨a, ha, oa⟩ := rds_field h0 z0 r0 hx
  obtain ⟨b, hb, ob⟩ := rds_field h1 z1 r1 hx
  obtain ⟨c, hc, oc⟩ := rds_field h2 z2 r2 hx
  obtain ⟨d, hd, od⟩ := rds_field h3 z3 r3 hx
  have hl := rds_len h0 z hx
  refine ⟨(a, b, c, d), ?_, oa, ob, oc, od⟩
  show cs = f0 a ++ (f1 b ++ (f2 c ++ f3 d))
  rw [← ha, ← hb, ← hc, ← hd, List.drop_zero]
  rw [List.take_of_length_le (l := cs.drop (s0 + s1 + s2)) (by rw [List.length_drop]; omega), ← List.drop_drop (i := s2), List.take_append_drop, ← List.drop_drop, List.take_append_drop, List.take_append_drop]
/-- One for each of the first n. -/
theorem list_of {α : Type} {p : Nat → α → Prop} : ∀ (n : Nat), (∀ i, i < n → ∃ x, p i x) → ∃ l : List α, l.length = n ∧ ∀ i x, l[i]? = some x → p i x
  | 0, _ => ⟨[], rfl, fun i x h => by simp at h⟩
  | n + 1, h => by
    obtain ⟨l, hl, hp⟩ := list_of n (fun i hi => h i (by omega))
    obtain ⟨x, hx⟩ := h n (by omega)
    refine ⟨l ++ [x], by simp [hl], fun i y hy => ?_⟩
    by_cases hi : i < n
    · rw [List.getElem?_append_left (by omega)] at hy; exact hp i y hy
    · rw [List.getElem?_append_right (by omega)] at hy
      have : i - l.length = 0 := by
        have := (List.getElem?_eq_some_iff.1 hy).1
        simpa using this
      rw [this] at hy
      simp at hy
      subst hy
      rw [show i = n by omega]
      exact hx
/-- An array of n. -/
theorem rds_arr {n s : Nat} {e : TypeId} {α : Type} {f : α → List Value} {ok : α → Prop} (ha : arrOf P t = some (n, e)) (hs : szOf P e = some s) (hz : szOf P t = some (n * s)) (hf : ∀ x, (f x).length = s) (h : Rds P e f ok) : Rds P t (fun l : List α => l.flatMap f) (fun l => l.length = n ∧ ∀ x ∈ l, ok x) := by
  intro H enc w base spare held fuel cs x hx
  obtain ⟨xs, m, _, _, hl, hlen, hg⟩ := DataW.trod_array (und_arr ha) hx
  rw [cellsOf_sz hz] at hl
  rw [cellsOf_sz hs] at hg
  obtain ⟨l, h1, h2⟩ := list_of (p := fun i a => (cs.drop (i * s)).take s = f a ∧ ok a) n (fun i hi => by
    have := hg i hi
    rw [List.getElem?_eq_getElem (by omega)] at this
    exact h _ enc w base spare held m _ _ this)
  refine ⟨l, ?_, h1, fun x hx => by obtain ⟨i, hi⟩ := List.getElem?_of_mem hx; exact (h2 i x hi).2⟩
  have key : ∀ (k : Nat), k ≤ n → cs.take (k * s) = (l.take k).flatMap f := by
    intro k
    induction k with
    | zero => intro _; simp
    | succ k ih =>
      intro hk
      have hkl : l[k]? = some (l[k]'(by omega)) := List.getElem?_eq_getElem (by omega)
      rw [List.take_add_one, hkl, List.flatMap_append, ← ih (by omega), Nat.add_mul, Nat.one_mul, List.take_add, (h2 k _ hkl).1]
      simp
  have := key n (Nat.le_refl n)
  rwa [List.take_of_length_le (by omega), List.take_of_length_le (by omega)] at this
end
section
variable {P : Program} {w : World} {r : Reach} {b0 : Nat} {t : TypeId} {v : Value} {H : Type} {enc : TypeId × Value → H} {base : Nat} {spare : Nat → Bool} {held : Bool} {d : DataW H} {ps : List MemPlace}
end
theorem wf_i64 {n : Int} (h : (Lit.int .i64 n).wf = true) : -9223372036854775808 ≤ n ∧ n ≤ 9223372036854775807 := by
  simp [Lit.wf, IntKind.min, IntKind.max, IntKind.signed, IntKind.bits] at h; omega
end Go.Proofs.Ytbiapeaghbndoaa
