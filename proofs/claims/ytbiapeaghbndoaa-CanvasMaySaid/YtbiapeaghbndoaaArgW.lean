/- Arguments that are slices of what lies in memory (slices of slices ..), read. Over any program. -/
import Derived.Test.YtbiapeaghbndoaaArg
import Derived.Test.YtbiapeaghbndoaaOwns
namespace Go.Proofs.Ytbiapeaghbndoaa
open Go Go.RowKit Go.ChangeShapes Go.WideShapes Go.Deep
/-- Cells that are read at this type, in this memory, are those of some x. -/
def RdsAt (P : Program) (w : World) (t : TypeId) {α : Type} (f : α → List Value) (ok : α → Prop) : Prop :=
  ∀ (H : Type) (enc : TypeId × Value → H) (base : Nat) (spare : Nat → Bool) (held : Bool) (fuel : Nat) (cs : List Value) (x : DataW H × List MemPlace), DataW.trod enc P w base spare held fuel t cs = some x → ∃ a, cs = f a ∧ ok a
theorem Rds.at {P : Program} {t : TypeId} {α : Type} {f : α → List Value} {ok : α → Prop} (h : Rds P t f ok) (w : World) : RdsAt P w t f ok := fun H enc base spare held fuel cs x hx => h H enc w base spare held fuel cs x hx
theorem RdsAt.mapIf {P : Program} {w : World} {t : TypeId} {α β : Type} {f : α → List Value} {ok : α → Prop} (h : RdsAt P w t f ok) (g : α → β) {f' : β → List Value} {ok' : β → Prop} (hf : ∀ a, ok a → f a = f' (g a)) (ho : ∀ a, ok a → ok' (g a)) : RdsAt P w t f' ok' := by
  intro H enc base spare held fuel cs x hx
  obtain ⟨a, h1, h2⟩ := h H enc base spare held fuel cs x hx
  exact ⟨g a, by rw [h1, hf a h2], ho a h2⟩
/-- A slice that came in. -/
theorem read_sliceW {P : Program} {t e : TypeId} {s : Nat} {α : Type} {f : α → List Value} {ok : α → Prop} (ht : sliOf P t = some e) (hs : szOf P e = some s) (hf : ∀ x, (f x).length = s) (hsp : 0 < s) {w : World} (h : RdsAt P w e f ok)
    {H : Type} {enc : TypeId × Value → H} {base : Nat} {spare : Nat → Bool} {held : Bool} {fuel : Nat} {cs : List Value} {x : DataW H × List MemPlace} (hx : DataW.trod enc P w base spare held fuel t cs = some x) :
    ∃ (l : List α) (a : Option Addr) (cap : Nat), cs = [.slice a l.length cap] ∧ SliceAt w a cap s f l ∧ (∀ x ∈ l, ok x) ∧ cap ≤ Go.maxLen := by
  rcases open_slice (und_sli ht) hx with ⟨rfl, _⟩ | ⟨a, len, cap, m, n, D, Pl, rfl, hb, hl, hm, hmm, _, hi⟩
  · exact ⟨[], none, 0, rfl, sliceNil w, (fun x hx => by cases hx), by unfold Go.maxLen; omega⟩
  · have hlm : len ≤ m := by rw [hmm]; split <;> omega
    rw [cellsOf_sz hs] at hi
    by_cases h0 : len = 0
    · subst h0
      exact ⟨[], some a, cap, rfl, ⟨by simp, (fun e => by cases e), .inl rfl⟩, (fun x hx => by cases hx), hm⟩
    · obtain ⟨l, h1, h2⟩ := list_of (p := fun i y => (∀ j, j < s → w.cell? ((a.add (i * s)).add j) = (f y)[j]?) ∧ ok y) len (fun i hil => by
        obtain ⟨cs', hc, ht'⟩ := hi i (by omega)
        obtain ⟨y, hy, oy⟩ := h _ enc base spare held n _ _ ht'
        obtain ⟨_, _, hcell⟩ := World.cells?_some hc
        exact ⟨y, fun j hj => by rw [hcell j hj, hy], oy⟩)
      have hl0 : l[0]? = some (l[0]'(by omega)) := List.getElem?_eq_getElem (by omega)
      have hc0 := (h2 0 _ hl0).1 0 hsp
      rw [List.getElem?_eq_getElem (by rw [hf]; exact hsp)] at hc0
      simp only [Nat.zero_mul, Addr.add, if_true] at hc0
      obtain ⟨b, off, sp⟩ := a
      unfold World.cell? at hc0
      split at hc0
      · rename_i c T fz hheap
        split at hc0
        · cases hc0
        · rename_i hspot
          have hsp0 : sp = none := by simpa using hspot
          subst hsp0
          subst h1
          refine ⟨l, some ⟨b, off, none⟩, cap, rfl, ⟨hl, (fun e => by cases e), .inr ⟨b, off, c, T, fz, rfl, hheap, ?_⟩⟩, fun x hx => by obtain ⟨i, hi⟩ := List.getElem?_of_mem hx; exact (h2 i x hi).2, hm⟩
          intro i y hy
          have hcells : ∀ j, j < s → c[off + i * s + j]? = (f y)[j]? := fun j hj => by
            have := (h2 i y hy).1 j hj
            rw [addr_add, addr_add] at this
            simpa [World.cell?, hheap] using this
          have hsz : off + i * s + s ≤ c.size := by
            have := hcells (s - 1) (by omega)
            rw [List.getElem?_eq_getElem (by rw [hf]; omega)] at this
            have := (Array.getElem?_eq_some_iff.1 this).1
            omega
          refine ⟨hsz, ?_⟩
          apply Array.ext_getElem?
          intro j
          rw [Array.getElem?_extract]
          by_cases hj : j < s
          · rw [if_pos (by omega), hcells j hj]; simp
          · rw [if_neg (by omega)]
            rw [Array.getElem?_eq_none]
            simp [hf]; omega
      · cases hc0
theorem rds_slice {P : Program} {w : World} {t e : TypeId} {s : Nat} {α : Type} {f : α → List Value} {ok : α → Prop} (ht : sliOf P t = some e) (hs : szOf P e = some s) (hf : ∀ x, (f x).length = s) (hsp : 0 < s) (h : RdsAt P w e f ok) :
    RdsAt P w t (RowG.cells (α := α)) (fun r => r.ok s f w ∧ (∀ x ∈ r.l, ok x) ∧ r.cap ≤ Go.maxLen) := by
  intro H enc base spare held fuel cs x hx
  obtain ⟨l, a, cap, h1, h2, h3, h4⟩ := read_sliceW ht hs hf hsp h hx
  exact ⟨⟨a, cap, l⟩, h1, h2, h3, h4⟩
section
variable {P : Program} {w : World} {r : Reach} {b0 : Nat} {t : TypeId} {v : Value} {H : Type} {enc : TypeId × Value → H} {base : Nat} {spare : Nat → Bool} {held : Bool} {d : DataW H} {ps : List MemPlace}
theorem param_sliceW {e : TypeId} {s : Nat} {α : Type} {f : α → List Value} {ok : α → Prop} (ht : sliOf P t = some e) (hs : szOf P e = some s) (hf : ∀ x, (f x).length = s) (hsp : 0 < s) (hr : RdsAt P w e f ok) (hv : Value.okWide P w r b0 t v) (h : DataW.Trod enc P w base spare held t v d ps) :
    ∃ (l : List α) (a : Option Addr) (cap : Nat), v = .slice a l.length cap ∧ SliceAt w a cap s f l ∧ (∀ x ∈ l, ok x) ∧ cap ≤ Go.maxLen := by
  obtain ⟨fuel, hf'⟩ := h
  obtain ⟨l, a, cap, h1, h2, h3, h4⟩ := read_sliceW ht hs hf hsp hr hf'
  refine ⟨l, a, cap, ?_, h2, h3, h4⟩
  unfold Value.okWide at hv
  rw [und_sli ht] at hv
  cases v with
  | agg cs => simp [Cell.okWide, und_sli ht, Cell.ok] at hv
  | _ => simp [Value.cells] at h1 <;> simp [h1]
/-- A parameter of cells. -/
theorem param_aggW {α : Type} {f : α → List Value} {ok : α → Prop} (ha : aggOf P t = some true) (hr : RdsAt P w t f ok) (hv : Value.okWide P w r b0 t v) (h : DataW.Trod enc P w base spare held t v d ps) : ∃ x, v = .agg (f x).toArray ∧ ok x := by
  obtain ⟨fuel, hf⟩ := h
  obtain ⟨x, hx, ox⟩ := hr _ enc base spare held fuel _ _ hf
  simp only [aggOf, Option.map_eq_some_iff] at ha
  obtain ⟨dd, hd, he⟩ := ha
  have : ∃ cs, v = .agg cs := by
    unfold Value.okWide at hv
    rw [hd] at hv
    cases dd <;> first | (cases he; done) | (obtain ⟨cs, h1, _⟩ := hv; exact ⟨cs, h1⟩)
  obtain ⟨cs, rfl⟩ := this
  exact ⟨x, by rw [← hx]; rfl, ox⟩
end
end Go.Proofs.Ytbiapeaghbndoaa
