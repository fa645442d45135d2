/- Laws of the walk that all parts of this seat share: a range over a function by an index, the way out behind it, blocks and cells. Over any program. -/
import Derived.RangeFuncNested
import Derived.RangeFuncCalls
import Derived.RangeFuncLeaves
import Derived.WalkKit
import Derived.WalkLawsBesides
import Derived.WalkSpells
import Derived.Lib.Hide
import Derived.RangeFuncBound
import Derived.Shelf.Abstract
import Derived.Shelf.RegionOpen
import Derived.OwnWalkIn
import Derived.TacticsInMore
import Derived.LoopNIn
import Derived.LoopIn
import Derived.Deep.RegionHeld3
import Derived.Deep.DrawnRows
import Derived.Deep.DeepFit
import Derived.Deep.LoopGhost
import Derived.Deep.QuietTactic
import Derived.BigQuiet
namespace Go.Proofs.Ytbiapeaghbndoaa
open Go Go.RowKit

/-! ### the way out of a function that has ranged over functions -/
def bodyM (P : Program) (fn : Func) (R : Ending → World → Prop) : Exit → Act → World → Prop := bodyPostM Fence.wide 9 P fn R

theorem calls_of_marks {P : Program} {f : FuncId} {fn : Func} {c : Code} {args : Array Value} {w : World} {R : Ending → World → Prop}
    (hf : P.funcs[f]? = some fn) (hb : fn.body = some c)
    (h : c.wp P (bodyM P fn R) { tmps := args ++ Array.replicate (fn.ntmps - args.size) undef, defers := [] } w) : Calls P f args w R :=
  callsIn_wide.1 (callsIn_of_wp_marks (F := Fence.wide) (n := 9) hf hb trivial (wpIn_wide.2 h) rfl)

theorem bodyM_ret0 {P : Program} {fn : Func} {R : Ending → World → Prop} {a : Act} {w : World} {v : Value}
    (hd : a.defers = []) (hr : (results fn a.tmps).run P w = .ok v w) (hR : R (.returned v) w) : bodyM P fn R .ret a w := by
  show LeavesInM _ _ _ _ _ _ _ _ _
  rw [hd]
  exact ⟨v, hr, hR⟩

theorem bodyM_ret1 {P : Program} {fn : Func} {R : Ending → World → Prop} {a : Act} {w : World} {v : Value} {D : Nat}
    (hd : a.defers = [{ target := .collected D, args := #[] }]) (hk : w.heap[D]? = some (.deferred (some [])))
    (hr : (results fn a.tmps).run P (w.putObj D (.deferred none)) = .ok v (w.putObj D (.deferred none))) (hR : R (.returned v) (w.putObj D (.deferred none))) : bodyM P fn R .ret a w := by
  show LeavesInM _ _ _ _ _ _ _ _ _
  rw [hd]
  exact ⟨by simp, .inl ⟨_, _, rfl, run_takeDeferred hk, ⟨v, hr, hR⟩⟩⟩

theorem stepR_scope {P : Program} {b : Frame} {a : Act} {k : List Item} {cs : List Frame} {w : World} {c : Code} :
    step P (lone (b.atR a (.code (.scope c) :: k)) cs w) = .next (lone (b.atR a (.code c :: .inScope c :: k)) cs w) :=
  step_lone_go (by simp [stepG, stepG.exec, Frame.atR])
theorem stepR_inScope {P : Program} {b : Frame} {a : Act} {k : List Item} {cs : List Frame} {w : World} {c : Code} :
    step P (lone (b.atR a (.inScope c :: k)) cs w) = .next (lone (b.atR a k) cs w) :=
  step_lone_go (by simp [stepG, stepG.exec, Frame.atR])

theorem wpIn_scope_straight {F : Fence} {n : Nat} {P : Program} {Q : Exit → Act → World → Prop} {a : Act} {w : World} {c : Code} (h : c.wpIn F n P (Exit.noGoto Q) a w) :
    (Code.scope c).wpIn F n P Q a w := by
  intro b k cs hro hb hr
  have h0 : (lone (b.atR a (.code (.scope c) :: k)) cs w).fenced P F := fenced_calm hb hr rfl
  obtain ⟨e, a₁, w₁, hq, harr⟩ := h b (.inScope c :: k) cs hro hb hr
  cases e with
  | normal => exact ⟨.normal, a₁, w₁, hq, .head h0 stepR_scope (StepsIn.trans harr (.one (fenced_calm hb hr rfl) stepR_inScope))⟩
  | exit id =>
    have hx : exitTo id (.inScope c :: k) = exitTo id k := by simp [exitTo]
    exact ⟨.exit id, a₁, w₁, hq, fun k' hk => .head h0 stepR_scope (harr.1 k' (by rw [hx]; exact hk)),
      fun hr' hk => let ⟨k₁, h1, h2⟩ := harr.2 hr' (by rw [hx]; exact hk); ⟨k₁, h1, .head h0 stepR_scope h2⟩⟩
  | goto l => exact hq.elim
  | ret => exact ⟨_, a₁, w₁, hq, .of_steps (.one h0 stepR_scope) harr⟩
  | panic ch => exact ⟨_, a₁, w₁, hq, .of_steps (.one h0 stepR_scope) harr⟩
  | outgrown => exact ⟨_, a₁, w₁, hq, .of_steps (.one h0 stepR_scope) harr⟩

theorem wpIn_label_seq {F : Fence} {n : Nat} {P : Program} {Q : Exit → Act → World → Prop} {a : Act} {w : World} {l : Nat} {y : Code} (h : y.wpIn F n P Q a w) :
    (Code.seq (.label l) y).wpIn F n P Q a w := wpIn_seq (wpIn_label h)
/-! ### blocks -/
/-- Block number b. -/
def hp (W : World) (b : Nat) : Option Obj := W.heap[b]?
/-- Each of the blocks lies as it is said. -/
def Blocks (W : World) : List (Nat × Obj) → Prop
  | [] => True
  | p :: l => hp W p.1 = some p.2 ∧ Blocks W l
/-- Each is one of cells, or lies ahead of B. -/
def CellsAll (B : Nat) : List (Nat × Obj) → Prop
  | [] => True
  | p :: l => (p.2.isCells = true ∨ p.1 < B) ∧ CellsAll B l

theorem Blocks.kept {W W' : World} {B : Nat} {row : Option Nat} {l : List (Nat × Obj)} (h : Blocks W l) (hc : CellsAll B l) (hg : W.grownBy W' row)
    (hr : ∀ r, row = some r → B ≤ r ∧ ∃ o : Obj, W.heap[r]? = some o ∧ o.isCells = false) : Blocks W' l := by
  induction l with
  | nil => trivial
  | cons p l ih =>
    refine ⟨?_, ih h.2 hc.2⟩
    rcases hc.1 with h1 | h1
    · exact (grownBy_keeps_cells hg (fun r e => (hr r e).2) h.1 h1).trans h.1
    · exact (hg.block p.1 (Array.getElem?_eq_some_iff.1 h.1).1 (fun e => by have := (hr p.1 e.symm).1; omega)).trans h.1

theorem Below.putObj {B : Nat} {A W : World} (h : Below B A W) {D : Nat} (hD : B ≤ D) (o : Obj) : Below B A (W.putObj D o) :=
  h.trans ⟨rfl, rfl, rfl, by simp, fun k hk => World.putObj_heap_other (by omega)⟩

theorem heap_setCell_same {W : World} {b i : Nat} {v : Value} {c : Array Value} {t : TypeId} {f : Nat × Nat} (h : W.heap[b]? = some (.cells c t f)) :
    (W.setCell ⟨b, i, none⟩ v).heap[b]? = some (.cells (c.setIfInBounds i v) t f) := by
  obtain ⟨hlt, hk⟩ := Array.getElem?_eq_some_iff.1 h
  show (W.heap.modify b _)[b]? = _
  rw [Array.getElem?_eq_getElem (by rw [Array.size_modify]; exact hlt), Array.getElem_modify_self, hk]
  rfl
theorem cell_of {W : World} {b i : Nat} {v : Value} {c : Array Value} {t : TypeId} {f : Nat × Nat} (h : W.heap[b]? = some (.cells c t f)) (hi : c[i]? = some v) : W.cell? ⟨b, i, none⟩ = some v := by
  simp [World.cell?, h, hi]
theorem free_of {W : World} {b i : Nat} {c : Array Value} {t : TypeId} (h : W.heap[b]? = some (.cells c t (0, 0))) : W.frozen? ⟨b, i, none⟩ = false := by
  simp [World.frozen?, h]
def Obj.put (i : Nat) (v : Value) : Obj → Obj
  | .cells c t f => .cells (c.setIfInBounds i v) t f
  | o => o
theorem heap_setCell_if (W : World) (b i : Nat) (v : Value) (k : Nat) : (W.setCell ⟨b, i, none⟩ v).heap[k]? = if k = b then (W.heap[b]?).map (Obj.put i v) else W.heap[k]? := by
  show (W.heap.modify b _)[k]? = _
  rw [Array.getElem?_modify]
  by_cases h : k = b
  · subst h
    simp only [if_true]
    congr 1
  · rw [if_neg h, if_neg (fun e => h e.symm)]
theorem hp_setCell (W : World) (b i : Nat) (v : Value) (k : Nat) : hp (W.setCell ⟨b, i, none⟩ v) k = if k = b then (hp W b).map (Obj.put i v) else hp W k := heap_setCell_if W b i v k
theorem hp_putObj (W : World) (l : Nat) (o : Obj) {k : Nat} (h : k ≠ l) : hp (W.putObj l o) k = hp W k := World.putObj_heap_other h
theorem hp_below {B : Nat} {W W' : World} (h : Below B W W') {b : Nat} (hb : b < B) : hp W' b = hp W b := h.block b hb
theorem hp_lt {W : World} {b : Nat} {o : Obj} (h : hp W b = some o) : b < W.heap.size := (Array.getElem?_eq_some_iff.1 h).1
theorem hp_new (W : World) (o : Obj) : hp (W.alloc o) W.heap.size = some o := World.alloc_heap_new W o
theorem kept {W W' : World} (h : Below W.heap.size W W') {b : Nat} {o : Obj} (ho : hp W b = some o) : hp W' b = some o := (hp_below h (hp_lt ho)).trans ho
theorem below_call {N : Nat} {w w1 w2 : World} (h : Below N w w1) (hN : N ≤ w.heap.size) (h2 : Below w1.heap.size w1 w2) : Below N w w2 := h.trans (h2.mono (Nat.le_trans hN h.size))
/-- An invariant of the usual form: below n₀ nothing has turned; these blocks of cells lie so; and whatever speaks of no world. -/
def Inv {ζ : Type} (n₀ : Nat) (w₀ : World) (L : Nat → ζ → List (Nat × Obj)) (R : Nat → ζ → Prop) (k : Nat) (W : World) : Prop :=
  ∃ z : ζ, Below n₀ w₀ W ∧ Blocks W (L k z) ∧ R k z

theorem Inv.own {ζ : Type} {n₀ B : Nat} {w₀ : World} {L : Nat → ζ → List (Nat × Obj)} {R : Nat → ζ → Prop} (hn : n₀ ≤ w₀.heap.size) (hB : n₀ ≤ B) (hc : ∀ k z, CellsAll B (L k z)) :
    OwnFrom B (Inv n₀ w₀ L R) := by
  rintro k W W' row ⟨z, hb, hl, hr⟩ hg hrow
  refine ⟨z, hb.grown hg (Nat.le_trans hn hb.size) (fun r e => Nat.le_trans hB (hrow r e).1), hl.kept (hc k z) hg hrow, hr⟩

end Go.Proofs.Ytbiapeaghbndoaa
