/- canvas: pixels of tiles in rows, read and written. -/
import Derived.Test.YtbiapeaghbndoaaDot
import Derived.Test.YtbiapeaghbndoaaRowB
namespace Go.Proofs.Ytbiapeaghbndoaa
open Go Go.RowKit
theorem Row.inner {α β : Type} {s r : Nat} {f : α → List Value} {h : β → List Value} {cs : Array Value} {off : Nat} {l : List α} (hr : Row s f cs off l) {i : Nat} {x : α} (hx : l[i]? = some x) {m : List β} (hm : f x = m.flatMap h) (hf : (f x).length = s) (hh : ∀ y, (h y).length = r) : Row r h cs (off + i * s) m := by
  obtain ⟨h1, h2⟩ := hr i x hx
  intro j y hy
  have hj := (List.getElem?_eq_some_iff.1 hy).1
  have hl : m.length * r = s := by rw [← hf, hm, flat_len hh]
  have hle : j * r + r ≤ s := by
    have := Nat.mul_le_mul_right r (show j + 1 ≤ m.length from hj)
    rw [Nat.add_mul, Nat.one_mul] at this; omega
  refine ⟨by omega, ?_⟩
  have e1 : cs.extract (off + i * s + j * r) (off + i * s + j * r + r) = (cs.extract (off + i * s) (off + i * s + s)).extract (j * r) (j * r + r) := by
    rw [Array.extract_extract]
    congr 1
    omega
  rw [e1, h2, hm]
  have := (row_of_take (cs := (m.flatMap h).toArray) (l := m) hh (by show (m.flatMap h).take _ = _; rw [List.take_of_length_le (by rw [flat_len hh]; exact Nat.le_refl _)])) j y hy
  rw [Nat.zero_add] at this
  exact this.2
section
variable {P : Program} {w : World} {ρ : Operand → Value} {d : Option Tmp} {ty : TypeId} {ps : String} {af : Array Edge} {g : Option (Nat × Bool)} {x : Operand}
theorem r_loadPix {t b of i j : Nat} {cs : Array Value} {T : TypeId} {fz : Nat × Nat} {l : List T64} {u : T64} (ha : aggOf P t = some true) (hs : szOf P t = some 4) (hx : ρ x = .pointer (some ⟨b, of + i * 256 + j * 4, none⟩)) (hb : hp w b = some (.cells cs T fz)) (hr : Row 256 T64.cells cs of l) (hu : l[i]? = some u) (hj : j < 64) :
    (execOp ρ (mk d (.load t x) ty ps af g)).run P w = .ok (.value (.agg (get u.l j).cells.toArray)) w :=
  r_loadRow ha hs hx hb (hr.inner hu rfl (T64.cells_len u) C4.cells_len) (get_some u.h hj)
/-- One of a pixel's four parts. -/
theorem r_loadPartOwn {t B i j q n cap base : Nat} {e : TypeId} {l : List T64} {u : T64} {v : Value} (ha : aggOf P t = some false) (hx : ρ x = .pointer (some ⟨B, 0 + i * 256 + j * 4 + q, none⟩)) (hr : w.ownsRow base e 256 (.slice (some ⟨B, 0, none⟩) n cap) n (l.flatMap T64.cells)) (hn : n = l.length) (hu : l[i]? = some u) (hj : j < 64) (hv : (get u.l j).cells[q]? = some v) :
    (execOp ρ (mk d (.load t x) ty ps af g)).run P w = .ok (.value v) w := by
  subst hn
  obtain ⟨cur, h1, h2⟩ := row_at hr
  exact r_loadRowJ q ha hx h1 ((row_of_take T64.cells_len h2).inner hu rfl (T64.cells_len u) C4.cells_len) (get_some u.h hj) hv
end
theorem flat_split {l : List C4} {j : Nat} (hj : j < l.length) (c : C4) : l.flatMap C4.cells = (l.take j).flatMap C4.cells ++ l[j].cells ++ (l.drop (j + 1)).flatMap C4.cells ∧ (l.set j c).flatMap C4.cells = (l.take j).flatMap C4.cells ++ c.cells ++ (l.drop (j + 1)).flatMap C4.cells := by
  refine ⟨?_, ?_⟩
  · conv => lhs; rw [← List.take_append_drop j l, List.drop_eq_getElem_cons hj]
    rw [List.flatMap_append, List.flatMap_cons, List.append_assoc]
  · rw [List.set_eq_take_append_cons_drop, if_pos hj, List.flatMap_append, List.flatMap_cons, List.append_assoc]
/-- One of a pixel's four parts, written. -/
theorem wr_cell {l : List T64} {i j q : Nat} {u : T64} {pre suf : List Value} {v v' : Value} {c : C4} (hu : l[i]? = some u) (hj : j < 64) (h1 : (get u.l j).cells = pre ++ [v] ++ suf) (h2 : c.cells = pre ++ [v'] ++ suf) (hq : pre.length = q) (post : List Value) :
    wrC (l.flatMap T64.cells ++ post).toArray (0 + i * 256 + j * 4 + q) [v'] = ((l.set i (u.set j c)).flatMap T64.cells ++ post).toArray := by
  have hj2 : j < u.l.length := by rw [u.h]; exact hj
  obtain ⟨h3, h4⟩ := flat_split hj2 c
  have e : u.l[j] = get u.l j := by
    have := get_some u.h hj
    rw [List.getElem?_eq_getElem hj2] at this
    exact Option.some.inj this
  rw [e, h1] at h3
  rw [h2] at h4
  refine wr_part (f := T64.cells) (u := u) (u' := u.set j c) (pre := (u.l.take j).flatMap C4.cells ++ pre) (mid := [v]) (suf := suf ++ (u.l.drop (j + 1)).flatMap C4.cells) (vs := [v']) T64.cells_len hu ?_ ?_ rfl _ ?_ post
  · show u.l.flatMap C4.cells = _
    rw [h3]; simp
  · show (u.l.set j c).flatMap C4.cells = _
    rw [h4]; simp
  · rw [List.length_append, flat_len C4.cells_len, List.length_take, Nat.min_eq_left (Nat.le_of_lt hj2)]; omega
end Go.Proofs.Ytbiapeaghbndoaa
