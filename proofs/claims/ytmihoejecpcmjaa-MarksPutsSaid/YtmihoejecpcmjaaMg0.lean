/- Texts of this seat, merged: part 0. -/
import Derived.RangeFuncNested
import Derived.RangeFuncCalls
import Derived.RangeFuncLeaves
import Derived.WalkKit
import Derived.WalkLawsBesides
import Derived.WalkSpells
import Derived.Lib.Hide
import Derived.RangeFuncBound
import Derived.Shelf.Abstract
import Derived.Shelf.RegionOpen
import Derived.OwnWalkIn
import Derived.TacticsInMore
import Derived.LoopNIn
import Derived.LoopIn
import Derived.Deep.RegionHeld3
import Derived.Deep.DrawnRows
import Derived.Deep.DeepFit
import Derived.Deep.LoopGhost
import Derived.Deep.QuietTactic
import Derived.BigQuiet
import Derived.OrdersIn
import Derived.Maps.AppendAt
import Derived.Laws.OwnMore
import Derived.OpenShut
import Derived.ChangeOld
import Derived.ChangeMaps5
import Derived.Deep.Slices
import Derived.LaidEqlPtr
import Derived.Test.YtmihoejecpcmjaaChecked
/- Laws of the walk that all parts of this seat share: a range over a function by an index, the way out behind it, blocks and cells. Over any program. -/
namespace Go.Proofs.Ytmihoejecpcmjaa
open Go Go.RowKit

/-! ### the way out of a function that has ranged over functions -/
def bodyM (P : Program) (fn : Func) (R : Ending → World → Prop) : Exit → Act → World → Prop := bodyPostM Fence.wide 9 P fn R

theorem calls_of_marks {P : Program} {f : FuncId} {fn : Func} {c : Code} {args : Array Value} {w : World} {R : Ending → World → Prop}
    (hf : P.funcs[f]? = some fn) (hb : fn.body = some c)
    (h : c.wp P (bodyM P fn R) { tmps := args ++ Array.replicate (fn.ntmps - args.size) undef, defers := [] } w) : Calls P f args w R :=
  callsIn_wide.1 (callsIn_of_wp_marks (F := Fence.wide) (n := 9) hf hb trivial (wpIn_wide.2 h) rfl)

theorem bodyM_ret0 {P : Program} {fn : Func} {R : Ending → World → Prop} {a : Act} {w : World} {v : Value}
    (hd : a.defers = []) (hr : (results fn a.tmps).run P w = .ok v w) (hR : R (.returned v) w) : bodyM P fn R .ret a w := by
  show LeavesInM _ _ _ _ _ _ _ _ _
  rw [hd]
  exact ⟨v, hr, hR⟩

theorem bodyM_ret1 {P : Program} {fn : Func} {R : Ending → World → Prop} {a : Act} {w : World} {v : Value} {D : Nat}
    (hd : a.defers = [{ target := .collected D, args := #[] }]) (hk : w.heap[D]? = some (.deferred (some [])))
    (hr : (results fn a.tmps).run P (w.putObj D (.deferred none)) = .ok v (w.putObj D (.deferred none))) (hR : R (.returned v) (w.putObj D (.deferred none))) : bodyM P fn R .ret a w := by
  show LeavesInM _ _ _ _ _ _ _ _ _
  rw [hd]
  exact ⟨by simp, .inl ⟨_, _, rfl, run_takeDeferred hk, ⟨v, hr, hR⟩⟩⟩

theorem stepR_scope {P : Program} {b : Frame} {a : Act} {k : List Item} {cs : List Frame} {w : World} {c : Code} :
    step P (lone (b.atR a (.code (.scope c) :: k)) cs w) = .next (lone (b.atR a (.code c :: .inScope c :: k)) cs w) :=
  step_lone_go (by simp [stepG, stepG.exec, Frame.atR])
theorem stepR_inScope {P : Program} {b : Frame} {a : Act} {k : List Item} {cs : List Frame} {w : World} {c : Code} :
    step P (lone (b.atR a (.inScope c :: k)) cs w) = .next (lone (b.atR a k) cs w) :=
  step_lone_go (by simp [stepG, stepG.exec, Frame.atR])

theorem wpIn_scope_straight {F : Fence} {n : Nat} {P : Program} {Q : Exit → Act → World → Prop} {a : Act} {w : World} {c : Code} (h : c.wpIn F n P (Exit.noGoto Q) a w) :
    (Code.scope c).wpIn F n P Q a w := by
  intro b k cs hro hb hr
  have h0 : (lone (b.atR a (.code (.scope c) :: k)) cs w).fenced P F := fenced_calm hb hr rfl
  obtain ⟨e, a₁, w₁, hq, harr⟩ := h b (.inScope c :: k) cs hro hb hr
  cases e with
  | normal => exact ⟨.normal, a₁, w₁, hq, .head h0 stepR_scope (StepsIn.trans harr (.one (fenced_calm hb hr rfl) stepR_inScope))⟩
  | exit id =>
    have hx : exitTo id (.inScope c :: k) = exitTo id k := by simp [exitTo]
    exact ⟨.exit id, a₁, w₁, hq, fun k' hk => .head h0 stepR_scope (harr.1 k' (by rw [hx]; exact hk)),
      fun hr' hk => let ⟨k₁, h1, h2⟩ := harr.2 hr' (by rw [hx]; exact hk); ⟨k₁, h1, .head h0 stepR_scope h2⟩⟩
  | goto l => exact hq.elim
  | ret => exact ⟨_, a₁, w₁, hq, .of_steps (.one h0 stepR_scope) harr⟩
  | panic ch => exact ⟨_, a₁, w₁, hq, .of_steps (.one h0 stepR_scope) harr⟩
  | outgrown => exact ⟨_, a₁, w₁, hq, .of_steps (.one h0 stepR_scope) harr⟩

theorem wpIn_label_seq {F : Fence} {n : Nat} {P : Program} {Q : Exit → Act → World → Prop} {a : Act} {w : World} {l : Nat} {y : Code} (h : y.wpIn F n P Q a w) :
    (Code.seq (.label l) y).wpIn F n P Q a w := wpIn_seq (wpIn_label h)
/-! ### blocks -/
/-- Block number b. -/
def hp (W : World) (b : Nat) : Option Obj := W.heap[b]?
/-- Each of the blocks lies as it is said. -/
def Blocks (W : World) : List (Nat × Obj) → Prop
  | [] => True
  | p :: l => hp W p.1 = some p.2 ∧ Blocks W l
/-- Each is one of cells, or lies ahead of B. -/
def CellsAll (B : Nat) : List (Nat × Obj) → Prop
  | [] => True
  | p :: l => (p.2.isCells = true ∨ p.1 < B) ∧ CellsAll B l

theorem Blocks.kept {W W' : World} {B : Nat} {row : Option Nat} {l : List (Nat × Obj)} (h : Blocks W l) (hc : CellsAll B l) (hg : W.grownBy W' row)
    (hr : ∀ r, row = some r → B ≤ r ∧ ∃ o : Obj, W.heap[r]? = some o ∧ o.isCells = false) : Blocks W' l := by
  induction l with
  | nil => trivial
  | cons p l ih =>
    refine ⟨?_, ih h.2 hc.2⟩
    rcases hc.1 with h1 | h1
    · exact (grownBy_keeps_cells hg (fun r e => (hr r e).2) h.1 h1).trans h.1
    · exact (hg.block p.1 (Array.getElem?_eq_some_iff.1 h.1).1 (fun e => by have := (hr p.1 e.symm).1; omega)).trans h.1

theorem Below.keeps {W W' : World} (h : Below W.heap.size W W') : KeepsOthers W W' :=
  ⟨h.size, fun k o hk _ => (h.block k (Array.getElem?_eq_some_iff.1 hk).1).trans hk⟩
theorem Below.putObj {B : Nat} {A W : World} (h : Below B A W) {D : Nat} (hD : B ≤ D) (o : Obj) : Below B A (W.putObj D o) :=
  h.trans ⟨rfl, rfl, rfl, by simp, fun k hk => World.putObj_heap_other (by omega)⟩

theorem heap_alloc_old {W : World} {b : Nat} {o o' : Obj} (h : W.heap[b]? = some o) : (W.alloc o').heap[b]? = some o :=
  (Below.heap_alloc W o' b (Array.getElem?_eq_some_iff.1 h).1).trans h
theorem heap_setCell_same {W : World} {b i : Nat} {v : Value} {c : Array Value} {t : TypeId} {f : Nat × Nat} (h : W.heap[b]? = some (.cells c t f)) :
    (W.setCell ⟨b, i, none⟩ v).heap[b]? = some (.cells (c.setIfInBounds i v) t f) := by
  obtain ⟨hlt, hk⟩ := Array.getElem?_eq_some_iff.1 h
  show (W.heap.modify b _)[b]? = _
  rw [Array.getElem?_eq_getElem (by rw [Array.size_modify]; exact hlt), Array.getElem_modify_self, hk]
  rfl
theorem cell_of {W : World} {b i : Nat} {v : Value} {c : Array Value} {t : TypeId} {f : Nat × Nat} (h : W.heap[b]? = some (.cells c t f)) (hi : c[i]? = some v) : W.cell? ⟨b, i, none⟩ = some v := by
  simp [World.cell?, h, hi]
theorem free_of {W : World} {b i : Nat} {c : Array Value} {t : TypeId} (h : W.heap[b]? = some (.cells c t (0, 0))) : W.frozen? ⟨b, i, none⟩ = false := by
  simp [World.frozen?, h]
def Obj.put (i : Nat) (v : Value) : Obj → Obj
  | .cells c t f => .cells (c.setIfInBounds i v) t f
  | o => o
theorem heap_setCell_if (W : World) (b i : Nat) (v : Value) (k : Nat) : (W.setCell ⟨b, i, none⟩ v).heap[k]? = if k = b then (W.heap[b]?).map (Obj.put i v) else W.heap[k]? := by
  show (W.heap.modify b _)[k]? = _
  rw [Array.getElem?_modify]
  by_cases h : k = b
  · subst h
    simp only [if_true]
    congr 1
  · rw [if_neg h, if_neg (fun e => h e.symm)]
theorem hp_setCell (W : World) (b i : Nat) (v : Value) (k : Nat) : hp (W.setCell ⟨b, i, none⟩ v) k = if k = b then (hp W b).map (Obj.put i v) else hp W k := heap_setCell_if W b i v k
theorem hp_putObj (W : World) (l : Nat) (o : Obj) {k : Nat} (h : k ≠ l) : hp (W.putObj l o) k = hp W k := World.putObj_heap_other h
theorem hp_below {B : Nat} {W W' : World} (h : Below B W W') {b : Nat} (hb : b < B) : hp W' b = hp W b := h.block b hb
theorem hp_lt {W : World} {b : Nat} {o : Obj} (h : hp W b = some o) : b < W.heap.size := (Array.getElem?_eq_some_iff.1 h).1
theorem hp_new (W : World) (o : Obj) : hp (W.alloc o) W.heap.size = some o := World.alloc_heap_new W o
theorem kept {W W' : World} (h : Below W.heap.size W W') {b : Nat} {o : Obj} (ho : hp W b = some o) : hp W' b = some o := (hp_below h (hp_lt ho)).trans ho
theorem below_call {N : Nat} {w w1 w2 : World} (h : Below N w w1) (hN : N ≤ w.heap.size) (h2 : Below w1.heap.size w1 w2) : Below N w w2 := h.trans (h2.mono (Nat.le_trans hN h.size))
/-- An invariant of the usual form: below n₀ nothing has turned; these blocks of cells lie so; and whatever speaks of no world. -/
def Inv {ζ : Type} (n₀ : Nat) (w₀ : World) (L : Nat → ζ → List (Nat × Obj)) (R : Nat → ζ → Prop) (k : Nat) (W : World) : Prop :=
  ∃ z : ζ, Below n₀ w₀ W ∧ Blocks W (L k z) ∧ R k z

theorem Inv.own {ζ : Type} {n₀ B : Nat} {w₀ : World} {L : Nat → ζ → List (Nat × Obj)} {R : Nat → ζ → Prop} (hn : n₀ ≤ w₀.heap.size) (hB : n₀ ≤ B) (hc : ∀ k z, CellsAll B (L k z)) :
    OwnFrom B (Inv n₀ w₀ L R) := by
  rintro k W W' row ⟨z, hb, hl, hr⟩ hg hrow
  refine ⟨z, hb.grown hg (Nat.le_trans hn hb.size) (fun r e => Nat.le_trans hB (hrow r e).1), hl.kept (hc k z) hg hrow, hr⟩

end Go.Proofs.Ytmihoejecpcmjaa
/- A judgement for walks that speaks of what is known of a frame and of memory, and of no world: its rules for code. Over any program. -/
namespace Go.Proofs.Ytmihoejecpcmjaa
open Go Go.RowKit

/-! ### what is known -/
/-- The first entry of that number. -/
def lk {α : Type} : List (Nat × α) → Nat → Option α
  | [], _ => none
  | (t, v) :: K, u => match Nat.beq t u with
    | true => some v
    | false => lk K u

/-- What is known of a frame. -/
structure FrOk (N : Nat) (D : List Deferred) (K : List (Nat × Value)) (a : Act) : Prop where
  size : a.tmps.size = N
  defers : a.defers = D
  knows : ∀ t v, lk K t = some v → a.tmps.getD t undef = v

/-- A thing in memory that is one's own: a block, a slice that owns its row (or is nil), or whatever else lies in some blocks. -/
inductive Res where
  | blk (b : Nat) (o : Obj)
  | row (v : Value) (e : TypeId) (size n : Nat) (xs : List Value)
  | abs (F : Nat → Prop) (H : World → Prop)
/-- The blocks in which it lies. -/
def Res.foot : Res → Nat → Prop
  | .blk b _, c => some b = some c
  | .row v _ _ _ _, c => v.ownBlock = some c
  | .abs F _, c => F c
def Res.ok (base : Nat) (w : World) : Res → Prop
  | .blk b o => base ≤ b ∧ hp w b = some o
  | .row v e size n xs => w.ownsRow base e size v n xs
  | .abs F H => H w ∧ (∀ b, F b → base ≤ b ∧ b < w.heap.size) ∧ ∀ w1 w2, H w1 → (∀ b, F b → hp w2 b = hp w1 b) → H w2
theorem Res.low {base : Nat} {w : World} {r : Res} (h : r.ok base w) {b : Nat} (hb : r.foot b) : base ≤ b ∧ b < w.heap.size := by
  cases r with
  | blk c o => cases hb; exact ⟨h.1, hp_lt h.2⟩
  | row v e size n xs =>
    rcases h.2 with ⟨rfl, _⟩ | ⟨g, cap, cur, rfl, h1, h2, _⟩
    · cases hb
    · cases hb; exact ⟨h1, hp_lt h2⟩
  | abs F H => exact h.2.1 b hb
theorem hp_some {w : World} {b : Nat} (h : b < w.heap.size) : ∃ o, hp w b = some o := ⟨w.heap[b], Array.getElem?_eq_getElem h⟩
theorem Res.keep {base : Nat} {w w' : World} {r : Res} (h : r.ok base w) (hb : ∀ b, r.foot b → hp w' b = hp w b) : r.ok base w' := by
  cases r with
  | blk c o => exact ⟨h.1, (hb c rfl).trans h.2⟩
  | row v e size n xs =>
    refine ⟨h.1, ?_⟩
    rcases h.2 with ⟨rfl, hn⟩ | ⟨g, cap, cur, rfl, h1, h2, h3⟩
    · exact .inl ⟨rfl, hn⟩
    · exact .inr ⟨g, cap, cur, rfl, h1, (hb g rfl).trans h2, h3⟩
  | abs F H =>
    refine ⟨h.2.2 w w' h.1 hb, fun b hF => ⟨(h.2.1 b hF).1, ?_⟩, h.2.2⟩
    obtain ⟨o, ho⟩ := hp_some (h.2.1 b hF).2
    exact hp_lt ((hb b hF).trans ho)
theorem Res.lift {base base' : Nat} {w : World} {r : Res} (h : r.ok base w) (hb : base' ≤ base) : r.ok base' w := by
  cases r with
  | blk b o => exact ⟨Nat.le_trans hb h.1, h.2⟩
  | row v e size n xs =>
    refine ⟨h.1, ?_⟩
    rcases h.2 with h1 | ⟨g, cap, cur, h1, h2, h3⟩
    · exact .inl h1
    · exact .inr ⟨g, cap, cur, h1, Nat.le_trans hb h2, h3⟩
  | abs F H => exact ⟨h.1, fun b hF => ⟨Nat.le_trans hb (h.2.1 b hF).1, (h.2.1 b hF).2⟩, h.2.2⟩
abbrev Heap := List (Nat × Res)
/-- What is known of memory: what was there at w₀ is as it was; and these things, each of them in another block, none of them there at w₀. -/
structure MemOk (w₀ : World) (L : Heap) (w : World) : Prop where
  ext : Below w₀.heap.size w₀ w
  own : ∀ i r, lk L i = some r → r.ok w₀.heap.size w
  sep : ∀ i j r s, lk L i = some r → lk L j = some s → i ≠ j → ∀ b, r.foot b → ¬ s.foot b

theorem MemOk.at {w₀ w : World} {L : Heap} (h : MemOk w₀ L w) (i : Nat) {b : Nat} {o : Obj} (hl : lk L i = some (.blk b o)) : hp w b = some o := (h.own i _ hl).2
theorem MemOk.row {w₀ w : World} {L : Heap} (h : MemOk w₀ L w) (i : Nat) {v : Value} {e : TypeId} {size n : Nat} {xs : List Value} (hl : lk L i = some (.row v e size n xs)) : w.ownsRow w₀.heap.size e size v n xs := h.own i _ hl
theorem MemOk.old {w₀ w : World} {L : Heap} (h : MemOk w₀ L w) {b : Nat} {o : Obj} (hb : hp w₀ b = some o) : hp w b = some o := kept h.ext hb
theorem MemOk.nil (w : World) : MemOk w [] w := ⟨Below.refl _ _, (fun _ _ h => by cases h), (fun _ _ _ _ h => by cases h)⟩
theorem MemOk.drew {w₀ w : World} {L : Heap} (h : MemOk w₀ L w) : MemOk w₀ L w.drew := ⟨h.ext.drew, fun i r hl => Res.keep (h.own i r hl) fun _ _ => rfl, h.sep⟩

/-- Each entry of the second list is known by the first. -/
def SubK {α : Type} (K : List (Nat × α)) : List (Nat × α) → Prop
  | [] => True
  | (t, v) :: r => lk K t = some v ∧ SubK K r
theorem SubK.get {α : Type} {K : List (Nat × α)} : ∀ {K' : List (Nat × α)}, SubK K K' → ∀ t v, lk K' t = some v → lk K t = some v
  | [], _, t, v, h => by cases h
  | (u, x) :: r, hs, t, v, h => by
    unfold lk at h
    cases hb : Nat.beq u t with
    | true =>
      rw [hb] at h
      cases h
      have := Nat.eq_of_beq_eq_true hb
      subst this
      exact hs.1
    | false =>
      rw [hb] at h
      exact SubK.get hs.2 t v h
theorem FrOk.sub {N : Nat} {D : List Deferred} {K K' : List (Nat × Value)} {a : Act} (h : FrOk N D K a) (hs : SubK K K') : FrOk N D K' a :=
  ⟨h.size, h.defers, fun t v ht => h.knows t v (hs.get t v ht)⟩
theorem MemOk.sub {w₀ w : World} {L L' : Heap} (h : MemOk w₀ L w) (hs : SubK L L') : MemOk w₀ L' w :=
  ⟨h.ext, fun i r hl => h.own i r (hs.get i _ hl), fun i j r s hi hj => h.sep i j r s (hs.get i _ hi) (hs.get j _ hj)⟩

theorem lk_cons_same {α : Type} (K : List (Nat × α)) (t : Nat) (v : α) : lk ((t, v) :: K) t = some v := by
  unfold lk
  rw [show Nat.beq t t = true from Nat.beq_refl t]
theorem lk_cons_other {α : Type} (K : List (Nat × α)) {t u : Nat} (v : α) (h : t ≠ u) : lk ((t, v) :: K) u = lk K u := by
  show (match Nat.beq t u with | true => some v | false => lk K u) = _
  cases hb : Nat.beq t u with
  | true => exact absurd (Nat.eq_of_beq_eq_true hb) h
  | false => rfl

theorem FrOk.put {N : Nat} {D : List Deferred} {K : List (Nat × Value)} {a : Act} (h : FrOk N D K a) {d : Nat} (v : Value) (hd : Nat.blt d N = true) : FrOk N D ((d, v) :: K) (a.put (some d) v) := by
  have hd' : d < a.tmps.size := by rw [h.size]; exact (Nat.blt_eq ▸ hd)
  refine ⟨by simp [Act.put, h.size], h.defers, fun t u ht => ?_⟩
  by_cases e : d = t
  · subst e
    rw [lk_cons_same] at ht
    cases ht
    simp [Act.put, Array.getD_eq_getD_getElem?, hd']
  · rw [lk_cons_other _ _ e] at ht
    rw [← h.knows t u ht]
    simp [Act.put, Array.getD_eq_getD_getElem?, Array.getElem?_setIfInBounds, e]

/-! ### operands -/
/-- What an operand is known to be. -/
def ev (K : List (Nat × Value)) : Operand → Option Value
  | .tmp t => lk K t
  | .const v => some v
  | .global g => some (.pointer (some ⟨g, 0, none⟩))
  | .func f => some (.func (.func f) #[] #[])
/-- A reading of operands that agrees with what is known. -/
def Rd (K : List (Nat × Value)) (ρ : Operand → Value) : Prop := ∀ x v, ev K x = some v → ρ x = v
theorem FrOk.rd {N : Nat} {D : List Deferred} {K : List (Nat × Value)} {a : Act} (h : FrOk N D K a) : Rd K a.eval := by
  intro x v hx
  cases x with
  | tmp t => exact h.knows t v hx
  | const u => cases hx; rfl
  | global g => cases hx; rfl
  | func f => cases hx; rfl

/-! ### the judgement -/
abbrev FW (ro : Option Nat) : Fence := { Fence.wide with round := ro }
abbrev Post := Exit → Act → World → Prop
/-- Where a walk goes on: the program, the frame's size, the deferred calls, the round, the world at the start. -/
structure Cx where
  P : Program
  w₀ : World
  N : Nat
  D : List Deferred
  ro : Option Nat
def T (C : Cx) (c : Code) (Q : Post) (K : List (Nat × Value)) (L : Heap) : Prop := ∀ a w, FrOk C.N C.D K a → MemOk C.w₀ L w → c.wpIn (FW C.ro) 0 C.P Q a w
def TL (C : Cx) (ops : Array Oper) (os : List Oper) (Q : Post) (K : List (Nat × Value)) (L : Heap) : Prop := ∀ a w, FrOk C.N C.D K a → MemOk C.w₀ L w → wpListIn (FW C.ro) 0 C.P ops Q os a w
/-- What comes behind, in a sequence. -/
abbrev Seq (C : Cx) (y : Code) (Q : Post) : Post := Exit.then (y.wpIn (FW C.ro) 0 C.P Q) Q
/-- The frame and memory are as one of a family says. -/
def At (C : Cx) {ι : Type} (p : ι → Prop) (K : ι → List (Nat × Value)) (L : ι → Heap) (a : Act) (w : World) : Prop := ∃ i, p i ∧ FrOk C.N C.D (K i) a ∧ MemOk C.w₀ (L i) w

section
variable {C : Cx} {Q : Post} {K : List (Nat × Value)} {L : Heap}

theorem T_sub {c : Code} (K' : List (Nat × Value)) (L' : Heap) (hK : SubK K K') (hL : SubK L L') (h : T C c Q K' L') : T C c Q K L := fun a w hf hm => h a w (hf.sub hK) (hm.sub hL)
theorem T_seq {x y : Code} (h : T C x (Seq C y Q) K L) : T C (.seq x y) Q K L := fun a w hf hm => wpIn_seq (h a w hf hm)
theorem T_region {id : Nat} {l : List Oper} (h : TL C l.toArray l Q K L) : T C (.region id l.toArray false) Q K L := fun a w hf hm => wpIn_region_lit (h a w hf hm)
theorem TL_seq {ops : Array Oper} {y : Code} (h : T C y Q K L) : TL C ops [] (Seq C y Q) K L := fun a w hf hm => h a w hf hm
theorem TL_end {ops : Array Oper} (h : ∀ a w, FrOk C.N C.D K a → MemOk C.w₀ L w → Q .normal a w) : TL C ops [] Q K L := fun a w hf hm => h a w hf hm
theorem T_skip (h : ∀ a w, FrOk C.N C.D K a → MemOk C.w₀ L w → Q .normal a w) : T C .skip Q K L := fun a w hf hm => wpIn_skip (h a w hf hm)
theorem T_exit {id : Nat} (h : ∀ a w, FrOk C.N C.D K a → MemOk C.w₀ L w → Q (.exit id) a w) : T C (.exit id) Q K L := fun a w hf hm => wpIn_exit (h a w hf hm)
theorem T_ret (h : ∀ a w, FrOk C.N C.D K a → MemOk C.w₀ L w → Q .ret a w) : T C .ret Q K L := fun a w hf hm => wpIn_ret (h a w hf hm)
theorem T_block {id : Nat} {c : Code} (h : T C c (Exit.inBlock id Q) K L) : T C (.block id c) Q K L := fun a w hf hm => wpIn_block (h a w hf hm)
theorem T_cond {c : Operand} {x y : Code} {t : Bool} (hc : ev K c = some (.bool t)) (ht : t = true → T C x Q K L) (hf : t = false → T C y Q K L) : T C (.cond c x y) Q K L :=
  fun a w hfr hm => wpIn_cond_split (hfr.rd _ _ hc) (fun e => ht e a w hfr hm) (fun e => hf e a w hfr hm)
theorem T_cond_t {c : Operand} {x y : Code} (hc : ev K c = some (.bool true)) (h : T C x Q K L) : T C (.cond c x y) Q K L := T_cond hc (fun _ => h) (fun e => by cases e)
theorem T_cond_f {c : Operand} {x y : Code} (hc : ev K c = some (.bool false)) (h : T C y Q K L) : T C (.cond c x y) Q K L := T_cond hc (fun e => by cases e) (fun _ => h)
/-- Ways meet again: each of them ends in one of a family. -/
theorem T_join {ι : Type} (p : ι → Prop) (KJ : ι → List (Nat × Value)) (LJ : ι → Heap) {x y : Code} (h : T C x (Exit.then (At C p KJ LJ) Q) K L) (hy : ∀ i, p i → T C y Q (KJ i) (LJ i)) : T C (.seq x y) Q K L := by
  intro a w hf hm
  refine wpIn_seq (wpIn_mono (h a w hf hm) ?_)
  intro e a' w' hq
  cases e with
  | normal => obtain ⟨i, hp, h1, h2⟩ := hq; exact hy i hp a' w' h1 h2
  | exit id => exact hq
  | goto l => exact hq
  | ret => exact hq
  | panic ch => exact hq
  | outgrown => exact hq
theorem At_intro {ι : Type} {p : ι → Prop} {KJ : ι → List (Nat × Value)} {LJ : ι → Heap} {a : Act} {w : World} (i : ι) (hp : p i) (hf : FrOk C.N C.D K a) (hm : MemOk C.w₀ L w) (hK : SubK K (KJ i)) (hL : SubK L (LJ i)) :
    At C p KJ LJ a w := ⟨i, hp, hf.sub hK, hm.sub hL⟩
theorem TL_at {ops : Array Oper} {ι : Type} {p : ι → Prop} {KJ : ι → List (Nat × Value)} {LJ : ι → Heap} (i : ι) (hp : p i) (hK : SubK K (KJ i)) (hL : SubK L (LJ i)) : TL C ops [] (Exit.then (At C p KJ LJ) Q) K L :=
  TL_end fun _ _ hf hm => At_intro i hp hf hm hK hL
/-- A loop: a family that holds at each round's head, and a number that each round lowers. -/
theorem T_loop {ι : Type} (p : ι → Prop) (KI : ι → List (Nat × Value)) (LI : ι → Heap) (μ : ι → Nat) (i₀ : ι) (hp : p i₀) (hK : SubK K (KI i₀)) (hL : SubK L (LI i₀)) {c : Code}
    (hround : ∀ i, p i → T C c (Exit.then (At C (fun j => p j ∧ μ j < μ i) KI LI) Q) (KI i) (LI i)) : T C (.loop c) Q K L := by
  intro a w hf hm
  have key : ∀ m i, p i → μ i ≤ m → ∀ a w, FrOk C.N C.D (KI i) a → MemOk C.w₀ (LI i) w → Code.roundsIn (FW C.ro) 0 C.P c Q (m + 1) a w := by
    intro m
    induction m with
    | zero =>
      intro i hi hle a w hf hm
      refine wpIn_mono (hround i hi a w hf hm) ?_
      intro e a' w' hq
      cases e with
      | normal => obtain ⟨j, ⟨_, hlt⟩, _⟩ := hq; omega
      | exit id => exact hq
      | goto l => exact hq
      | ret => exact hq
      | panic ch => exact hq
      | outgrown => exact hq
    | succ m ih =>
      intro i hi hle a w hf hm
      refine wpIn_mono (hround i hi a w hf hm) ?_
      intro e a' w' hq
      cases e with
      | normal => obtain ⟨j, ⟨hj, hlt⟩, h1, h2⟩ := hq; exact ih j hj (by omega) a' w' h1 h2
      | exit id => exact hq
      | goto l => exact hq
      | ret => exact hq
      | panic ch => exact hq
      | outgrown => exact hq
  exact wpIn_loop_rounds _ (key (μ i₀) i₀ hp (Nat.le_refl _) a w (hf.sub hK) (hm.sub hL))
end

/-! ### ways out, through what lies around -/
/-- Left in this way, it is well. -/
def POk (C : Cx) (Q : Post) (e : Exit) (K : List (Nat × Value)) (L : Heap) : Prop := ∀ a w, FrOk C.N C.D K a → MemOk C.w₀ L w → Q e a w
section
variable {C : Cx} {Q : Post} {K : List (Nat × Value)} {L : Heap}
theorem TL_nil {ops : Array Oper} (h : POk C Q .normal K L) : TL C ops [] Q K L := h
theorem T_skip' (h : POk C Q .normal K L) : T C .skip Q K L := T_skip h
theorem T_exit' {id : Nat} (h : POk C Q (.exit id) K L) : T C (.exit id) Q K L := T_exit h
theorem T_ret' (h : POk C Q .ret K L) : T C .ret Q K L := T_ret h
theorem p_seq {y : Code} (h : T C y Q K L) : POk C (Seq C y Q) .normal K L := h
theorem p_then_x {next : Act → World → Prop} {id : Nat} (h : POk C Q (.exit id) K L) : POk C (Exit.then next Q) (.exit id) K L := h
theorem p_then_r {next : Act → World → Prop} (h : POk C Q .ret K L) : POk C (Exit.then next Q) .ret K L := h
theorem p_blk_n {id : Nat} (h : POk C Q .normal K L) : POk C (Exit.inBlock id Q) .normal K L := h
theorem p_blk_r {id : Nat} (h : POk C Q .ret K L) : POk C (Exit.inBlock id Q) .ret K L := h
theorem p_blk_x {id : Nat} (h : POk C Q .normal K L) : POk C (Exit.inBlock id Q) (.exit id) K L := fun a w hf hm => by
  show (if id = id then _ else _)
  rw [if_pos rfl]; exact h a w hf hm
theorem p_blk_o {id id' : Nat} (hne : Nat.beq id' id = false) (h : POk C Q (.exit id') K L) : POk C (Exit.inBlock id Q) (.exit id') K L := fun a w hf hm => by
  show (if id' = id then _ else _)
  rw [if_neg (fun e => by subst e; rw [Nat.beq_refl] at hne; cases hne)]; exact h a w hf hm
theorem p_at {ι : Type} {p : ι → Prop} {KJ : ι → List (Nat × Value)} {LJ : ι → Heap} (i : ι) (hp : p i) (hK : SubK K (KJ i)) (hL : SubK L (LJ i)) : POk C (Exit.then (At C p KJ LJ) Q) .normal K L :=
  fun _ _ hf hm => At_intro i hp hf hm hK hL
theorem p_sub {e : Exit} (K' : List (Nat × Value)) (L' : Heap) (hK : SubK K K') (hL : SubK L L') (h : POk C Q e K' L') : POk C Q e K L := fun a w hf hm => h a w (hf.sub hK) (hm.sub hL)
end

/-! ### entering and leaving a function -/
theorem lk_args {N : Nat} {args : Array Value} (h : args.size ≤ N) (K : List (Nat × Value)) (hK : ∀ t v, lk K t = some v → args[t]? = some v) :
    FrOk N [] K { tmps := args ++ Array.replicate (N - args.size) undef, defers := [] } := by
  refine ⟨by simp; omega, rfl, fun t v ht => ?_⟩
  have := hK t v ht
  have hlt : t < args.size := (Array.getElem?_eq_some_iff.1 this).1
  rw [Array.getD_eq_getD_getElem?, Array.getElem?_append_left hlt, this]
  rfl
/-- The arguments by their numbers. -/
def argsK : Nat → List Value → List (Nat × Value)
  | _, [] => []
  | k, v :: l => (k, v) :: argsK (k + 1) l
theorem argsK_lk : ∀ (l : List Value) (k t : Nat) (v : Value), lk (argsK k l) t = some v → k ≤ t ∧ l[t - k]? = some v
  | [], _, _, _, h => by cases h
  | x :: l, k, t, v, h => by
    by_cases e : k = t
    · subst e
      rw [show argsK k (x :: l) = (k, x) :: argsK (k + 1) l from rfl, lk_cons_same] at h
      cases h
      simp
    · rw [show argsK k (x :: l) = (k, x) :: argsK (k + 1) l from rfl, lk_cons_other _ _ e] at h
      obtain ⟨h1, h2⟩ := argsK_lk l (k + 1) t v h
      refine ⟨by omega, ?_⟩
      rw [show t - k = (t - (k + 1)) + 1 by omega, List.getElem?_cons_succ]
      exact h2
/-- A function's contract out of its body. -/
theorem calls_of_T {P : Program} {f : FuncId} {fn : Func} {c : Code} {l : List Value} {w : World} {R : Ending → World → Prop} (N : Nat) (hf : P.funcs[f]? = some fn) (hN : fn.ntmps = N) (hn : Nat.ble l.length N = true) (hb : fn.body = some c)
    (h : T ⟨P, w, N, [], none⟩ c (bodyM P fn R) (argsK 0 l) []) : Calls P f l.toArray w R := by
  subst hN
  replace hn := Nat.le_of_ble_eq_true hn
  refine calls_of_marks hf hb (wpIn_wide.1 (h _ w ?_ (MemOk.nil w)))
  refine lk_args (by simpa using hn) _ (fun t v ht => ?_)
  obtain ⟨_, h2⟩ := argsK_lk l 0 t v ht
  simpa using h2
/-- Leaving: what the results come to, and what is to be shown. -/
theorem ret_of {C : Cx} {fn : Func} {R : Ending → World → Prop} {K : List (Nat × Value)} {L : Heap} (hD : C.D = []) (v : Value)
    (hr : ∀ tmps w, (∀ t u, lk K t = some u → tmps.getD t undef = u) → MemOk C.w₀ L w → (results fn tmps).run C.P w = .ok v w) (hR : ∀ w, MemOk C.w₀ L w → R (.returned v) w) : POk C (bodyM C.P fn R) .ret K L :=
  fun a w hf hm => bodyM_ret0 (hf.defers.trans hD) (hr _ _ hf.knows hm) (hR w hm)
end Go.Proofs.Ytmihoejecpcmjaa
/- What single operations come to, where their operands are known: a law each. Over any program. -/
namespace Go.Proofs.Ytmihoejecpcmjaa
open Go Go.RowKit

/-! ### types -/
def szOf (P : Program) (t : TypeId) : Option Nat := (P.info? t).map (·.size)
def byOf (P : Program) (t : TypeId) : Option Nat := (P.info? t).map (·.bytes)
def zeroOf (P : Program) (t : TypeId) : Option Value := (P.info? t).bind (·.zero)
def aggOf (P : Program) (t : TypeId) : Option Bool := (P.underlying t).map fun | .struct _ => true | .array _ _ => true | _ => false
/-- The element's type, and how many, of an array. -/
def arrOf (P : Program) (t : TypeId) : Option (Nat × TypeId) := (P.underlying t).bind fun | .array n e => some (n, e) | _ => none
def sliOf (P : Program) (t : TypeId) : Option TypeId := (P.underlying t).bind fun | .slice e => some e | _ => none
/-- A field's type, and where it lies. -/
def fldOf (P : Program) (t : TypeId) (i : Nat) : Option (TypeId × Nat) := (P.underlying t).bind fun | .struct fs => (fs[i]?).map fun f => (f.type, f.offset) | _ => none
def intOf? (P : Program) (t : TypeId) : Option IntKind := (P.underlying t).bind fun | .int k => some k | _ => none
section types
variable {P : Program} {w : World} {t : TypeId}
theorem run_sizeOf {n : Nat} (h : szOf P t = some n) : (sizeOf t).run P w = .ok n w := by
  simp only [szOf, Option.map_eq_some_iff] at h
  obtain ⟨i, hi, rfl⟩ := h
  simp [sizeOf, typeInfo, program, Sem.bind, Sem.run, bind, pure, hi]
theorem run_isAgg {b : Bool} (h : aggOf P t = some b) : (isAgg t).run P w = .ok b w := by
  simp only [aggOf, Option.map_eq_some_iff] at h
  obtain ⟨i, hi, rfl⟩ := h
  simp only [isAgg, underlying, program, bind, Sem.bind, Sem.run, hi]
  cases i <;> rfl
theorem und_arr {n : Nat} {e : TypeId} (h : arrOf P t = some (n, e)) : P.underlying t = some (.array n e) := by
  simp only [arrOf, Option.bind_eq_some_iff] at h
  obtain ⟨i, hi, h⟩ := h
  cases i <;> simp at h
  obtain ⟨rfl, rfl⟩ := h
  exact hi
theorem und_sli {e : TypeId} (h : sliOf P t = some e) : P.underlying t = some (.slice e) := by
  simp only [sliOf, Option.bind_eq_some_iff] at h
  obtain ⟨i, hi, h⟩ := h
  cases i <;> simp at h
  subst h
  exact hi
theorem und_int {k : IntKind} (h : intOf? P t = some k) : P.underlying t = some (.int k) := by
  simp only [intOf?, Option.bind_eq_some_iff] at h
  obtain ⟨i, hi, h⟩ := h
  cases i <;> simp at h
  subst h
  exact hi
theorem und_fld {i : Nat} {ft : TypeId} {off : Nat} (h : fldOf P t i = some (ft, off)) : ∃ fs : Array Field, P.underlying t = some (.struct fs) ∧ ∃ f, fs[i]? = some f ∧ f.type = ft ∧ f.offset = off := by
  simp only [fldOf, Option.bind_eq_some_iff] at h
  obtain ⟨d, hd, h⟩ := h
  cases d with
  | struct fs =>
    simp only [Option.map_eq_some_iff] at h
    obtain ⟨f, hf, h⟩ := h
    cases h
    exact ⟨fs, hd, f, hf, rfl, rfl⟩
  | _ => simp at h
theorem run_underlying {d : TypeDesc} (h : P.underlying t = some d) {α : Type} (k : TypeDesc → Sem α) : (underlying t >>= k).run P w = (k d).run P w := by
  simp only [underlying, program, bind, Sem.bind, Sem.run, h]
  rfl
theorem run_bind_ok {α β : Type} {s : Sem α} {k : α → Sem β} {a : α} {w w' : World} (h : s.run P w = .ok a w') : (s >>= k).run P w = (k a).run P w' := by
  show (Sem.bind s k).run P w = _
  induction s generalizing w with
  | pure x => simp [Sem.run] at h; obtain ⟨rfl, rfl⟩ := h; rfl
  | load m ad kk ih =>
    simp only [Sem.run, Sem.bind] at h ⊢
    split at h
    · exact ih _ h
    · split at h
      · exact ih _ h
      · cases h
  | store m ad v kk ih =>
    cases v <;> simp only [Sem.run, Sem.bind] at h ⊢ <;> first
      | (cases h; done)
      | (split at h
         · split at h
           · cases h
           · rename_i h1 h2; simp only [h2]; exact ih h
         · split at h
           · exact ih h
           · cases h)
  | new o kk ih => exact ih _ h
  | shape r kk ih => exact ih _ h
  | freeze a n kk ih => exact ih h
  | frozen a kk ih => exact ih _ h
  | getObj r kk ih =>
    simp only [Sem.run, Sem.bind] at h ⊢
    split at h
    · cases h
    · exact ih _ h
    · cases h
  | setObj r o kk ih =>
    simp only [Sem.run, Sem.bind] at h ⊢
    split at h
    · cases h
    · exact ih h
    · cases h
  | choose q kk ih =>
    simp only [Sem.run, Sem.bind] at h ⊢
    split at h
    · rename_i h1; simp only [h1, if_true]; exact ih _ h
    · rename_i h1; simp only [h1]; exact ih _ h
  | sys c kk ih => exact ih _ h
  | program kk ih => exact ih _ h
  | mark m kk ih => exact ih h
  | halt hh => simp [Sem.run] at h
end types

theorem addr_add (b off i : Nat) : (⟨b, off, none⟩ : Addr).add i = ⟨b, off + i, none⟩ := by
  unfold Addr.add
  by_cases h : i = 0
  · subst h; simp
  · simp [h]
/-! ### operations that leave memory as it is -/
section quiet
variable {P : Program} {w : World} {ρ : Operand → Value} {d : Option Tmp} {ty : TypeId} {ps : String} {af : Array Edge} {g : Option (Nat × Bool)} {x y : Operand}
abbrev mk (d : Option Tmp) (op : Op) (ty : TypeId) (ps : String) (af : Array Edge) (g : Option (Nat × Bool)) : Oper := { dst := d, op := op, type := ty, pos := ps, after := af, guard := g }
theorem run_v {s : Sem Value} {v : Value} {w' : World} (h : s.run P w = .ok v w') : (do pure (Next.value (← s)) : Sem Next).run P w = .ok (.value v) w' := by
  rw [run_bind_ok h]; rfl
theorem r_move {v : Value} (h : ρ x = v) : (execOp ρ (mk d (.move x) ty ps af g)).run P w = .ok (.value v) w := by subst h; rfl
theorem r_assign {v : Value} (h : ρ x = v) : (execOp ρ (mk d (.assign x) ty ps af g)).run P w = .ok (.value v) w := by subst h; rfl
theorem r_pick {c : Operand} {b : Bool} {u v : Value} (hc : ρ c = .bool b) (hx : ρ x = u) (hy : ρ y = v) : (execOp ρ (mk d (.pick c x y) ty ps af g)).run P w = .ok (.value (if b then u else v)) w := by
  subst hx hy
  show (do pure (Next.value (if ← asBool (ρ c) then ρ x else ρ y)) : Sem Next).run P w = _
  rw [hc]
  cases b <;> rfl
theorem r_pick_t {c : Operand} {u : Value} (hc : ρ c = .bool true) (hx : ρ x = u) : (execOp ρ (mk d (.pick c x y) ty ps af g)).run P w = .ok (.value u) w := r_pick hc hx rfl
theorem r_pick_f {c : Operand} {v : Value} (hc : ρ c = .bool false) (hy : ρ y = v) : (execOp ρ (mk d (.pick c x y) ty ps af g)).run P w = .ok (.value v) w := r_pick hc rfl hy
theorem r_not {t : TypeId} {b : Bool} (h : ρ x = .bool b) : (execOp ρ (mk d (.unOp .not t x) ty ps af g)).run P w = .ok (.value (.bool !b)) w := by
  refine run_v ?_
  rw [h]; rfl
theorem r_bin {op : BinOp} {t t' : TypeId} {a b : Value} {v : Value} (hop : op ≠ .eql ∧ op ≠ .neq ∨ (∃ k n, a = .int k n) ∨ (∃ s, a = .string s) ∨ (∃ s, a = .bool s)) (hx : ρ x = a) (hy : ρ y = b) (h : (binOp op t a b).run P w = .ok v w) :
    (execOp ρ (mk d (.binOp op t x y t') ty ps af g)).run P w = .ok (.value v) w := by
  refine run_v ?_
  show (do eqGuard op t x y (ρ x) (ρ y); binOp op t (ρ x) (ρ y) : Sem Value).run P w = _
  rw [hx, hy]
  have he : (eqGuard op t x y a b).run P w = .ok () w := by
    unfold eqGuard
    rcases hop with ⟨h1, h2⟩ | ⟨k, n, rfl⟩ | ⟨s, rfl⟩ | ⟨s, rfl⟩
    · cases op <;> first | rfl | exact absurd rfl h1 | exact absurd rfl h2
    all_goals cases op <;> rfl
  rw [run_bind_ok he]
  exact h
theorem r_arith {op : BinOp} {t t' : TypeId} {k : IntKind} {a b : Int} {v : Value} (hx : ρ x = .int k a) (hy : ρ y = .int k b) (h : (binOp op t (.int k a) (.int k b)).run P w = .ok v w) :
    (execOp ρ (mk d (.binOp op t x y t') ty ps af g)).run P w = .ok (.value v) w := r_bin (.inr (.inl ⟨_, _, rfl⟩)) hx hy h
theorem r_add {t t' : TypeId} {k : IntKind} {a b : Int} (hx : ρ x = .int k a) (hy : ρ y = .int k b) : (execOp ρ (mk d (.binOp .add t x y t') ty ps af g)).run P w = .ok (.value (.int k (k.wrap (a + b)))) w :=
  r_arith hx hy (by simp only [binOp, Op.intArith, ne_eq, not_true_eq_false, if_false]; rfl)
theorem r_sub {t t' : TypeId} {k : IntKind} {a b : Int} (hx : ρ x = .int k a) (hy : ρ y = .int k b) : (execOp ρ (mk d (.binOp .sub t x y t') ty ps af g)).run P w = .ok (.value (.int k (k.wrap (a - b)))) w :=
  r_arith hx hy (by simp only [binOp, Op.intArith, ne_eq, not_true_eq_false, if_false]; rfl)
theorem r_mul {t t' : TypeId} {k : IntKind} {a b : Int} (hx : ρ x = .int k a) (hy : ρ y = .int k b) : (execOp ρ (mk d (.binOp .mul t x y t') ty ps af g)).run P w = .ok (.value (.int k (k.wrap (a * b)))) w :=
  r_arith hx hy (by simp only [binOp, Op.intArith, ne_eq, not_true_eq_false, if_false]; rfl)
theorem r_quo {t t' : TypeId} {k : IntKind} {a b : Int} (hx : ρ x = .int k a) (hy : ρ y = .int k b) (hb : b ≠ 0) : (execOp ρ (mk d (.binOp .quo t x y t') ty ps af g)).run P w = .ok (.value (.int k (k.wrap (a.tdiv b)))) w :=
  r_arith hx hy (by simp only [binOp, Op.intDiv, hb, ne_eq, not_true_eq_false, if_false]; rfl)
theorem r_rem {t t' : TypeId} {k : IntKind} {a b : Int} (hx : ρ x = .int k a) (hy : ρ y = .int k b) (hb : b ≠ 0) : (execOp ρ (mk d (.binOp .rem t x y t') ty ps af g)).run P w = .ok (.value (.int k (a.tmod b))) w :=
  r_arith hx hy (by simp only [binOp, Op.intDiv, hb, ne_eq, not_true_eq_false, if_false]; rfl)
theorem r_lss {t t' : TypeId} {k : IntKind} {a b : Int} (hx : ρ x = .int k a) (hy : ρ y = .int k b) : (execOp ρ (mk d (.binOp .lss t x y t') ty ps af g)).run P w = .ok (.value (.bool (decide (a < b)))) w :=
  r_arith hx hy (by simp only [binOp, Op.intCmp, ne_eq, not_true_eq_false, if_false]; rfl)
theorem r_leq {t t' : TypeId} {k : IntKind} {a b : Int} (hx : ρ x = .int k a) (hy : ρ y = .int k b) : (execOp ρ (mk d (.binOp .leq t x y t') ty ps af g)).run P w = .ok (.value (.bool (decide (a ≤ b)))) w :=
  r_arith hx hy (by simp only [binOp, Op.intCmp, ne_eq, not_true_eq_false, if_false]; rfl)
theorem r_gtr {t t' : TypeId} {k : IntKind} {a b : Int} (hx : ρ x = .int k a) (hy : ρ y = .int k b) : (execOp ρ (mk d (.binOp .gtr t x y t') ty ps af g)).run P w = .ok (.value (.bool (decide (b < a)))) w :=
  r_arith hx hy (by simp only [binOp, Op.intCmp, ne_eq, not_true_eq_false, if_false]; rfl)
theorem r_geq {t t' : TypeId} {k : IntKind} {a b : Int} (hx : ρ x = .int k a) (hy : ρ y = .int k b) : (execOp ρ (mk d (.binOp .geq t x y t') ty ps af g)).run P w = .ok (.value (.bool (decide (b ≤ a)))) w :=
  r_arith hx hy (by simp only [binOp, Op.intCmp, ne_eq, not_true_eq_false, if_false]; rfl)
theorem r_eql {t t' : TypeId} {k : IntKind} {a b : Int} (hx : ρ x = .int k a) (hy : ρ y = .int k b) : (execOp ρ (mk d (.binOp .eql t x y t') ty ps af g)).run P w = .ok (.value (.bool (decide (a = b)))) w :=
  r_arith hx hy (by simp only [binOp, Op.intCmp, ne_eq, not_true_eq_false, if_false]; rfl)
theorem r_neq {t t' : TypeId} {k : IntKind} {a b : Int} (hx : ρ x = .int k a) (hy : ρ y = .int k b) : (execOp ρ (mk d (.binOp .neq t x y t') ty ps af g)).run P w = .ok (.value (.bool (!decide (a = b)))) w :=
  r_arith hx hy (by simp only [binOp, Op.intCmp, ne_eq, not_true_eq_false, if_false]; rfl)
theorem wrap64 {n : Int} (h0 : -9223372036854775808 ≤ n) (h1 : n ≤ 9223372036854775807) : IntKind.i64.wrap n = n := IntWalk.i64_in _ (by omega)
/-- The value, spelled otherwise. -/
theorem r_as {o : Oper} {v v' : Value} (h : (execOp ρ o).run P w = .ok (.value v) w) (e : v = v') : (execOp ρ o).run P w = .ok (.value v') w := e ▸ h
theorem int_as {k : IntKind} {a b : Int} (h : a = b) : Value.int k a = .int k b := by rw [h]
theorem bool_as {a b : Bool} (h : a = b) : Value.bool a = .bool b := by rw [h]
theorem r_conv {s t : TypeId} {k k' : IntKind} {n : Int} (hs : (P.underlying s).isSome = true) (ht : intOf? P t = some k) (hx : ρ x = .int k' n) : (execOp ρ (mk d (.convert s t x) ty ps af g)).run P w = .ok (.value (.int k (k.wrap n))) w := by
  refine run_v ?_
  rw [hx]
  obtain ⟨u, hu⟩ := Option.isSome_iff_exists.1 hs
  unfold convert
  rw [run_underlying hu, run_underlying (und_int ht)]
  rfl
theorem r_extract {i : Nat} {vs : Array Value} {v : Value} (hx : ρ x = .tuple vs) (hv : vs[i]? = some v) : (execOp ρ (mk d (.extract x i) ty ps af g)).run P w = .ok (.value v) w := by
  refine run_v ?_
  rw [hx]
  simp only [Instr.extract, hv]
  rfl
theorem r_makeFunc {fn : Fn} {fs cs : Array Operand} {vs us : Array Value} (hf : fs.map ρ = vs) (hc : cs.map ρ = us) : (execOp ρ (mk d (.makeFunc fn fs cs) ty ps af g)).run P w = .ok (.value (.func fn vs us)) w := by
  subst hf hc
  rfl
theorem run_builtin {b : Builtin} {os : Array Operand} {ats : Array TypeId} :
    (execOp ρ (mk d (.call { callee := .builtin b, args := os, argTypes := ats }) ty ps af g)).run P w = (builtin b ats ty (os.map fun | .const _ => true | _ => false) (os.map ρ)).run P w := rfl
theorem r_len {t : TypeId} {e : TypeId} {a : Option Addr} {n c : Nat} (ht : sliOf P t = some e) (hx : ρ x = .slice a n c) : (execOp ρ (mk d (.call { callee := .builtin .len, args := #[x], argTypes := #[t] }) ty ps af g)).run P w = .ok (.value (.int .i64 n)) w := by
  rw [run_builtin]
  simp only [List.map_toArray, List.map_cons, List.map_nil, hx]
  refine run_v ?_
  simp only [Builtin.len_, List.getElem?_toArray, List.getElem?_cons_zero]
  rw [run_underlying (und_sli ht)]
  rfl
theorem r_cap {t : TypeId} {e : TypeId} {a : Option Addr} {n c : Nat} (ht : sliOf P t = some e) (hx : ρ x = .slice a n c) : (execOp ρ (mk d (.call { callee := .builtin .cap, args := #[x], argTypes := #[t] }) ty ps af g)).run P w = .ok (.value (.int .i64 c)) w := by
  rw [run_builtin]
  simp only [List.map_toArray, List.map_cons, List.map_nil, hx]
  refine run_v ?_
  simp only [Builtin.cap_, List.getElem?_toArray, List.getElem?_cons_zero]
  rw [run_underlying (und_sli ht)]
  rfl
theorem r_min {k : IntKind} {ats : Array TypeId} {a b : Int} (hx : ρ x = .int k a) (hy : ρ y = .int k b) : (execOp ρ (mk d (.call { callee := .builtin .min, args := #[x, y], argTypes := ats }) ty ps af g)).run P w = .ok (.value (.int k (if b < a then b else a))) w := by
  rw [run_builtin]
  simp only [List.map_toArray, List.map_cons, List.map_nil, hx, hy]
  rfl
theorem r_indexAddrA {t e : TypeId} {len sz i : Nat} {k : IntKind} {b off : Nat} (ht : arrOf P t = some (len, e)) (hs : szOf P e = some sz) (hx : ρ x = .pointer (some ⟨b, off, none⟩)) (hy : ρ y = .int k i) (hi : i < len) :
    (execOp ρ (mk d (.indexAddr t x y) ty ps af g)).run P w = .ok (.value (.pointer (some ⟨b, off + i * sz, none⟩))) w := by
  refine run_v ?_
  rw [hx, hy]
  unfold Instr.indexAt
  rw [run_bind_ok (a := (k, (i : Int))) (w' := w) rfl]
  dsimp only
  rw [run_underlying (und_arr ht)]
  dsimp only
  rw [run_bind_ok (a := ⟨b, off, none⟩) (w' := w) rfl, run_bind_ok (a := (some ⟨b, off, none⟩, len, e)) (w' := w) rfl]
  dsimp only
  rw [run_underlying (und_arr ht)]
  have hlt : 0 ≤ (i : Int) ∧ (i : Int) < len := ⟨by omega, by omega⟩
  simp only [if_pos hlt]
  rw [run_bind_ok (run_sizeOf hs)]
  simp only [addr_add]
  rfl
theorem r_indexAddrS {t e : TypeId} {len cap sz i : Nat} {k : IntKind} {b off : Nat} (ht : sliOf P t = some e) (hs : szOf P e = some sz) (hx : ρ x = .slice (some ⟨b, off, none⟩) len cap) (hy : ρ y = .int k i) (hi : i < len) :
    (execOp ρ (mk d (.indexAddr t x y) ty ps af g)).run P w = .ok (.value (.pointer (some ⟨b, off + i * sz, none⟩))) w := by
  refine run_v ?_
  rw [hx, hy]
  unfold Instr.indexAt
  rw [run_bind_ok (a := (k, (i : Int))) (w' := w) rfl]
  dsimp only
  rw [run_underlying (und_sli ht)]
  dsimp only
  rw [run_bind_ok (a := (some ⟨b, off, none⟩, len, e)) (w' := w) rfl]
  dsimp only
  rw [run_underlying (und_sli ht)]
  have hlt : 0 ≤ (i : Int) ∧ (i : Int) < len := ⟨by omega, by omega⟩
  simp only [if_pos hlt]
  rw [run_bind_ok (run_sizeOf hs)]
  simp only [addr_add]
  rfl
theorem r_fieldAddr {t ft : TypeId} {i fo sz : Nat} {b off : Nat} (ht : fldOf P t i = some (ft, fo)) (hs : szOf P ft = some (sz + 1)) (hx : ρ x = .pointer (some ⟨b, off, none⟩)) :
    (execOp ρ (mk d (.fieldAddr t x i) ty ps af g)).run P w = .ok (.value (.pointer (some ⟨b, off + fo, none⟩))) w := by
  refine run_v ?_
  rw [hx]
  obtain ⟨fs, hu, f, hf, rfl, rfl⟩ := und_fld ht
  unfold Instr.fieldAt
  rw [run_underlying hu]
  simp only [hf]
  rw [run_bind_ok (a := ⟨b, off, none⟩) (w' := w) rfl]
  unfold fieldPlace
  simp only [bind_assoc]
  rw [run_bind_ok (run_sizeOf hs)]
  simp only [addr_add]
  rfl
theorem run_part_agg {t : TypeId} {cs : Array Value} {off n : Nat} (ha : aggOf P t = some true) (hs : szOf P t = some n) : (part t cs off).run P w = .ok (.agg (cs.extract off (off + n))) w := by
  unfold part
  rw [run_bind_ok (run_isAgg ha)]
  simp only [if_true]
  rw [run_bind_ok (run_sizeOf hs)]
  rfl
theorem run_part_one {t : TypeId} {cs : Array Value} {off : Nat} {v : Value} (ha : aggOf P t = some false) (hv : cs[off]? = some v) : (part t cs off).run P w = .ok v w := by
  unfold part
  rw [run_bind_ok (run_isAgg ha)]
  simp only [hv]
  rfl
/-! ### reading memory -/
theorem run_load_cell {b off : Nat} {cs : Array Value} {T : TypeId} {f : Nat × Nat} {v : Value} (hb : hp w b = some (.cells cs T f)) (hv : cs[off]? = some v) : (load ⟨b, off, none⟩).run P w = .ok v w := by
  have hc : w.cell? ⟨b, off, none⟩ = some v := cell_of hb hv
  simp only [load, Sem.run, hc]
theorem run_loadCellsFrom {b off : Nat} {cs : Array Value} {T : TypeId} {f : Nat × Nat} (hb : hp w b = some (.cells cs T f)) : ∀ (n i : Nat) (acc : Array Value), off + i + n ≤ cs.size →
    (loadCellsFrom ⟨b, off, none⟩ i n acc).run P w = .ok (acc ++ cs.extract (off + i) (off + i + n)) w
  | 0, i, acc, _ => by
    rw [show cs.extract (off + i) (off + i + 0) = #[] by simp; omega, Array.append_empty]; rfl
  | n + 1, i, acc, h => by
    unfold loadCellsFrom
    have hlt : off + i < cs.size := by omega
    rw [run_bind_ok (a := cs[off + i]) (w' := w)]
    · rw [run_loadCellsFrom hb n (i + 1) _ (by omega)]
      congr 1
      apply Array.ext'
      simp only [Array.toList_append, Array.toList_push, Array.toList_extract, List.append_assoc, List.singleton_append]
      congr 1
      simp only [List.extract_eq_take_drop]
      rw [show off + i + (n + 1) - (off + i) = n + 1 by omega, show off + (i + 1) + n - (off + (i + 1)) = n by omega,
        List.drop_eq_getElem_cons (l := cs.toList) (i := off + i) (by simpa using hlt), List.take_succ_cons]
      rfl
    · rw [addr_add]; exact run_load_cell hb (Array.getElem?_eq_getElem hlt)
theorem r_load {t : TypeId} {b off : Nat} {cs : Array Value} {T : TypeId} {f : Nat × Nat} {v : Value} (ha : aggOf P t = some false) (hx : ρ x = .pointer (some ⟨b, off, none⟩)) (hb : hp w b = some (.cells cs T f)) (hv : cs[off]? = some v) :
    (execOp ρ (mk d (.load t x) ty ps af g)).run P w = .ok (.value v) w := by
  refine run_v ?_
  rw [hx]
  unfold Instr.loadAt
  rw [run_bind_ok (a := ⟨b, off, none⟩) (w' := w) rfl]
  unfold loadVar
  rw [run_bind_ok (run_isAgg ha)]
  exact run_load_cell hb hv
theorem run_loadVar_agg {t : TypeId} {b off n : Nat} {cs : Array Value} {T : TypeId} {f : Nat × Nat} {vs : Array Value} (ha : aggOf P t = some true) (hs : szOf P t = some n) (hb : hp w b = some (.cells cs T f))
    (hn : off + n ≤ cs.size) (hv : cs.extract off (off + n) = vs) : (loadVar t ⟨b, off, none⟩).run P w = .ok (.agg vs) w := by
  unfold loadVar
  rw [run_bind_ok (run_isAgg ha)]
  simp only [if_true]
  rw [run_bind_ok (run_sizeOf hs)]
  unfold loadCells
  have := run_loadCellsFrom (P := P) (off := off) hb n 0 #[] (by omega)
  simp only [Nat.add_zero] at this
  rw [run_bind_ok this, hv, Array.empty_append]
  rfl
theorem run_loadVar_one {t : TypeId} {b off : Nat} {cs : Array Value} {T : TypeId} {f : Nat × Nat} {v : Value} (ha : aggOf P t = some false) (hb : hp w b = some (.cells cs T f)) (hv : cs[off]? = some v) :
    (loadVar t ⟨b, off, none⟩).run P w = .ok v w := by
  unfold loadVar
  rw [run_bind_ok (run_isAgg ha)]
  exact run_load_cell hb hv
theorem r_loadA {t : TypeId} {b off n : Nat} {cs : Array Value} {T : TypeId} {f : Nat × Nat} {vs : Array Value} (ha : aggOf P t = some true) (hs : szOf P t = some n) (hx : ρ x = .pointer (some ⟨b, off, none⟩)) (hb : hp w b = some (.cells cs T f))
    (hn : Nat.ble (off + n) cs.size = true) (hv : cs.extract off (off + n) = vs) : (execOp ρ (mk d (.load t x) ty ps af g)).run P w = .ok (.value (.agg vs)) w := by
  refine run_v ?_
  rw [hx]
  unfold Instr.loadAt
  rw [run_bind_ok (a := ⟨b, off, none⟩) (w' := w) rfl]
  exact run_loadVar_agg ha hs hb (Nat.le_of_ble_eq_true hn) hv
/-- A whole variable of its own. -/
theorem r_loadW {t : TypeId} {b n : Nat} {cs : Array Value} {T : TypeId} {f : Nat × Nat} (ha : aggOf P t = some true) (hs : szOf P t = some n) (hx : ρ x = .pointer (some ⟨b, 0, none⟩)) (hb : hp w b = some (.cells cs T f)) (hn : cs.size = n) :
    (execOp ρ (mk d (.load t x) ty ps af g)).run P w = .ok (.value (.agg cs)) w :=
  r_loadA ha hs hx hb (by rw [hn, Nat.zero_add]; exact Nat.ble_self_eq_true n) (by subst hn; simp)
end quiet

/-! ### operations that make or write memory -/
section loud
variable {P : Program} {w : World} {ρ : Operand → Value} {d : Option Tmp} {ty : TypeId} {ps : String} {af : Array Edge} {g : Option (Nat × Bool)} {x y : Operand}
theorem r_box {t : TypeId} {v : Value} {cs : Array Value} (hx : ρ x = v) (hc : v.cells = cs) : (execOp ρ (mk d (.box t x) ty ps af g)).run P w = .ok (.value (.pointer (some ⟨w.heap.size, 0, none⟩))) (w.alloc (.cells cs t)) := by
  subst hx hc
  rfl
theorem r_alloc {t : TypeId} {v : Value} {cs : Array Value} (hz : zeroOf P t = some v) (hc : v.cells = cs) : (execOp ρ (mk d (.alloc t) ty ps af g)).run P w = .ok (.value (.pointer (some ⟨w.heap.size, 0, none⟩))) (w.alloc (.cells cs t)) := by
  refine run_v ?_
  unfold Instr.alloc
  have : (zeroValue t).run P w = .ok v w := by
    simp only [zeroOf, Option.bind_eq_some_iff] at hz
    obtain ⟨i, hi, hz⟩ := hz
    simp [zeroValue, typeInfo, program, Sem.bind, Sem.run, bind, hi, hz, pure]
  rw [run_bind_ok this]
  subst hc
  rfl
/-- Cells written, one behind the other. -/
def wrC (cs : Array Value) (off : Nat) : List Value → Array Value
  | [] => cs
  | v :: r => wrC (cs.setIfInBounds off v) (off + 1) r
def isOne : Value → Bool
  | .agg _ => false
  | .tuple _ => false
  | _ => true
/-- Block b holds o; all else is as it was. -/
structure Upd (w : World) (b : Nat) (o : Obj) (w' : World) : Prop where
  os : w'.os = w.os
  tape : w'.tape = w.tape
  output : w'.output = w.output
  size : w'.heap.size = w.heap.size
  this : hp w' b = some o
  other : ∀ k, k ≠ b → hp w' k = hp w k
theorem Upd.trans {w w' w'' : World} {b : Nat} {o o' : Obj} (h : Upd w b o w') (k : Upd w' b o' w'') : Upd w b o' w'' :=
  ⟨k.os.trans h.os, k.tape.trans h.tape, k.output.trans h.output, k.size.trans h.size, k.this, fun i hi => (k.other i hi).trans (h.other i hi)⟩
theorem Upd.setCell {w : World} {b off : Nat} {cs : Array Value} {T : TypeId} {f : Nat × Nat} (h : hp w b = some (.cells cs T f)) (v : Value) : Upd w b (.cells (cs.setIfInBounds off v) T f) (w.setCell ⟨b, off, none⟩ v) :=
  ⟨rfl, rfl, rfl, by simp [World.setCell], heap_setCell_same h, fun k hk => by rw [hp_setCell, if_neg hk]⟩
theorem run_storeCells {b off : Nat} {T : TypeId} : ∀ (vs : List Value) (i : Nat) (w : World) (cs : Array Value), hp w b = some (.cells cs T (0, 0)) → off + i + vs.length ≤ cs.size → vs.all isOne = true →
    ∃ w', (storeCells ⟨b, off, none⟩ vs i).run P w = .ok () w' ∧ Upd w b (.cells (wrC cs (off + i) vs) T (0, 0)) w'
  | [], i, w, cs, hb, _, _ => ⟨w, rfl, ⟨rfl, rfl, rfl, rfl, hb, fun _ _ => rfl⟩⟩
  | v :: vs, i, w, cs, hb, hn, ho => by
    simp only [List.all_cons, Bool.and_eq_true] at ho
    simp only [List.length_cons] at hn
    have hlt : off + i < cs.size := by omega
    have h1 := Upd.setCell (off := off + i) hb v
    obtain ⟨w', hr, hu⟩ := run_storeCells (off := off) vs (i + 1) (w.setCell ⟨b, off + i, none⟩ v) _ h1.this (by simp; omega) ho.2
    refine ⟨w', ?_, h1.trans hu⟩
    unfold storeCells
    rw [run_bind_ok (a := ()) (w' := w.setCell ⟨b, off + i, none⟩ v)]
    · exact hr
    · have hc : w.cell? ⟨b, off + i, none⟩ = some cs[off + i] := cell_of hb (by simp [hlt])
      have hf : w.frozen? ⟨b, off + i, none⟩ = false := free_of hb
      have ho := ho.1
      cases v <;> first
        | (simp [isOne] at ho; done)
        | simp [store, addr_add, Sem.run, hc, hf]
theorem run_storeVar {t : TypeId} {b off n : Nat} {cs : Array Value} {T : TypeId} {v : Value} (hs : szOf P t = some n) (hb : hp w b = some (.cells cs T (0, 0))) (hv : v.cells.size = n) (hn : off + n ≤ cs.size) (ho : v.cells.toList.all isOne = true) :
    ∃ w', (storeVar t ⟨b, off, none⟩ v).run P w = .ok () w' ∧ Upd w b (.cells (wrC cs off v.cells.toList) T (0, 0)) w' := by
  obtain ⟨w', hr, hu⟩ := run_storeCells (P := P) (b := b) (off := off) v.cells.toList 0 w cs hb (by simp; omega) ho
  refine ⟨w', ?_, hu⟩
  unfold storeVar
  rw [run_bind_ok (run_sizeOf hs)]
  simp [hv]
  exact hr
theorem r_store {t : TypeId} {b off n : Nat} {cs cs' : Array Value} {T : TypeId} {v : Value} (hs : szOf P t = some n) (hx : ρ x = .pointer (some ⟨b, off, none⟩)) (hy : ρ y = v) (hb : hp w b = some (.cells cs T (0, 0))) (hv : v.cells.size = n)
    (hn : Nat.ble (off + n) cs.size = true) (ho : v.cells.toList.all isOne = true) (hc : wrC cs off v.cells.toList = cs') :
    ∃ w', (execOp ρ (mk d (.store t x y) ty ps af g)).run P w = .ok .skip w' ∧ Upd w b (.cells cs' T (0, 0)) w' := by
  subst hc
  obtain ⟨w', hr, hu⟩ := run_storeVar hs hb hv (Nat.le_of_ble_eq_true hn) ho
  refine ⟨w', ?_, hu⟩
  show (do Instr.storeAt t (ρ x) (ρ y); pure Next.skip : Sem Next).run P w = _
  rw [hx, hy, run_bind_ok (a := ()) (w' := w')]
  · rfl
  · unfold Instr.storeAt
    rw [run_bind_ok (a := ⟨b, off, none⟩) (w' := w) rfl]
    exact hr
end loud
end Go.Proofs.Ytmihoejecpcmjaa
/- The judgement's rules for operations of a region that goes in the text's order. Over any program. -/
namespace Go.Proofs.Ytmihoejecpcmjaa
open Go Go.RowKit

def isDefer : Op → Bool
  | .defer _ => true
  | _ => false
theorem semAt_nd {ro : Option Nat} {ρ : Operand → Value} {o : Oper} (h : isDefer o.op = false) : o.semAt ro ρ = execOp ρ o :=
  Oper.semAt_eq ro ρ o (fun c e => by rw [e] at h; cases h)

section
variable {ro : Option Nat} {P : Program} {o : Oper} {a : Act} {w : World} {next : Act → World → Prop} {Q : Post}
theorem step_val {v : Value} {w' : World} (hn : isDefer o.op = false) (hr : (execOp a.eval o).run P w = .ok (.value v) w') (h : next (a.put o.dst v) w') : o.wpIn (FW ro) 0 P a w next Q := by
  refine ⟨fun _ _ => trivial, ?_⟩
  rw [semAt_nd hn, hr]
  exact h
theorem step_skip {w' : World} (hn : isDefer o.op = false) (hr : (execOp a.eval o).run P w = .ok .skip w') (h : next (a.put o.dst undef) w') : o.wpIn (FW ro) 0 P a w next Q := by
  refine ⟨fun _ _ => trivial, ?_⟩
  rw [semAt_nd hn, hr]
  exact h
theorem step_enter {f : FuncId} {args : Array Value} {R : Ending → World → Prop} {w' : World} (hn : isDefer o.op = false) (hr : (execOp a.eval o).run P w = .ok (.enter f args) w') (hc : Calls P f args w' R)
    (h : ∀ e w'', R e w'' → match e with
      | .returned v => next (a.put o.dst v) w''
      | .panicked chain => Q (.panic chain) a w''
      | .outgrown => LetsOut Q) : o.wpIn (FW ro) 0 P a w next Q := by
  refine ⟨fun _ _ => trivial, ?_⟩
  rw [semAt_nd hn, hr]
  refine ⟨fun hd => (by cases hd), ?_⟩
  have : CallsIn (FW ro) (0 - 1) P f args w' R := callsIn_wide (n := 0 - 1).2 hc
  refine CallsIn.mono this ?_
  intro e w'' hR
  have := h e w'' hR
  cases e <;> exact this
end

/-- The operation comes up by its guard (b), or does not. -/
def Want (ops : Array Oper) (K : List (Nat × Value)) (o : Oper) (b : Bool) : Prop :=
  match o.guard with
  | none => b = true
  | some (j, want) => ∃ d, (ops[j]?).bind (·.dst) = some d ∧ ((b = true ∧ lk K d = some (.bool want)) ∨ (b = false ∧ lk K d = some (.bool !want)) ∨ (b = false ∧ lk K d = some undef))
theorem Want.is {ops : Array Oper} {K : List (Nat × Value)} {o : Oper} {b : Bool} (h : Want ops K o b) {N : Nat} {D : List Deferred} {a : Act} (hf : FrOk N D K a) : Region.wanted o (yielded ops a.tmps) = b := by
  unfold Want at h
  unfold Region.wanted
  split at h
  · rename_i hg; rw [hg]; exact h.symm
  · rename_i j want hg
    obtain ⟨d, hd, h⟩ := h
    rw [hg]
    have key : ∀ c : Bool, lk K d = some (.bool c) → yielded ops a.tmps j = some c := fun c hc => by
      have hk := hf.knows d _ hc
      unfold yielded
      simp only [hd, Option.bind_some]
      rw [Array.getD_eq_getD_getElem?] at hk
      cases ht : a.tmps[d]? with
      | none => rw [ht] at hk; cases hk
      | some u => rw [ht] at hk; cases hk; rfl
    rcases h with ⟨rfl, h⟩ | ⟨rfl, h⟩ | ⟨rfl, h⟩
    · simp [key _ h]
    · simp only [key _ h]
      cases want <;> rfl
    · have hk := hf.knows d _ h
      have : yielded ops a.tmps j = none := by
        unfold yielded
        simp only [hd, Option.bind_some]
        rw [Array.getD_eq_getD_getElem?] at hk
        cases ht : a.tmps[d]? with
        | none => rfl
        | some u => rw [ht] at hk; cases hk; rfl
      simp only [this]
      cases want <;> rfl
theorem want_y {ops : Array Oper} {K : List (Nat × Value)} {o : Oper} {j : Nat} {want : Bool} (d : Nat) (hg : o.guard = some (j, want)) (hd : (ops[j]?).bind (·.dst) = some d) (hk : lk K d = some (.bool want)) : Want ops K o true := by
  unfold Want; rw [hg]; exact ⟨d, hd, .inl ⟨rfl, hk⟩⟩
theorem want_n {ops : Array Oper} {K : List (Nat × Value)} {o : Oper} {j : Nat} {want : Bool} (d : Nat) (hg : o.guard = some (j, want)) (hd : (ops[j]?).bind (·.dst) = some d) (hk : lk K d = some (.bool !want)) : Want ops K o false := by
  unfold Want; rw [hg]; exact ⟨d, hd, .inr (.inl ⟨rfl, hk⟩)⟩

theorem MemOk.below {w₀ w w' : World} {L : Heap} (h : MemOk w₀ L w) (hb : Below w.heap.size w w') : MemOk w₀ L w' :=
  ⟨below_call h.ext (Nat.le_refl _) hb, fun i r hl => Res.keep (h.own i r hl) fun b hf => hb.block b (Res.low (h.own i r hl) hf).2, h.sep⟩
/-- A thing behind another one that it takes the place of: what lies elsewhere stays. -/
theorem MemOk.set {w₀ w w' : World} {L : Heap} (h : MemOk w₀ L w) (i : Nat) (r' : Res) (hext : Below w₀.heap.size w₀ w') (hr : r'.ok w₀.heap.size w')
    (hother : ∀ j r, lk L j = some r → j ≠ i → ∀ b, r.foot b → hp w' b = hp w b ∧ ¬ r'.foot b) : MemOk w₀ ((i, r') :: L) w' := by
  refine ⟨hext, fun j r hl => ?_, fun j l r s hj hl hne => ?_⟩
  · by_cases e : i = j
    · subst e; rw [lk_cons_same] at hl; cases hl; exact hr
    · rw [lk_cons_other _ _ e] at hl
      exact Res.keep (h.own j r hl) fun b hb => (hother j r hl (Ne.symm e) b hb).1
  · by_cases e1 : i = j
    · subst e1
      rw [lk_cons_same] at hj
      cases hj
      rw [lk_cons_other _ _ hne] at hl
      exact fun b hb hs => (hother l s hl (Ne.symm hne) b hs).2 hb
    · rw [lk_cons_other _ _ e1] at hj
      by_cases e2 : i = l
      · subst e2
        rw [lk_cons_same] at hl
        cases hl
        exact fun b hb => (hother j r hj (Ne.symm e1) b hb).2
      · rw [lk_cons_other _ _ e2] at hl
        exact h.sep j l r s hj hl hne
theorem MemOk.new {w₀ w w' : World} {L : Heap} (h : MemOk w₀ L w) (hb : Below w.heap.size w w') (i : Nat) {b : Nat} {o : Obj} (h1 : w.heap.size ≤ b) (h2 : hp w' b = some o) : MemOk w₀ ((i, .blk b o) :: L) w' := by
  refine h.set i (.blk b o) (below_call h.ext (Nat.le_refl _) hb) ⟨Nat.le_trans h.ext.size h1, h2⟩ (fun j r hl _ c hc => ⟨hb.block c (Res.low (h.own j r hl) hc).2, fun e => ?_⟩)
  cases e
  have := (Res.low (h.own j r hl) hc).2
  omega
theorem MemOk.upd {w₀ w w' : World} {L : Heap} (h : MemOk w₀ L w) {i b : Nat} {o o' : Obj} (hi : lk L i = some (.blk b o)) (hu : Upd w b o' w') : MemOk w₀ ((i, .blk b o') :: L) w' := by
  have hb := (h.own i _ hi).1
  refine h.set i (.blk b o') ⟨hu.os.trans h.ext.os, hu.tape.trans h.ext.tape, hu.output.trans h.ext.output, by rw [hu.size]; exact h.ext.size, fun k hk => (hu.other k (by omega)).trans (h.ext.block k hk)⟩ ⟨hb, hu.this⟩ ?_
  intro j r hl hne c hc
  have hcb : c ≠ b := fun e => h.sep j i r _ hl hi hne c hc (by rw [e]; rfl)
  exact ⟨hu.other c hcb, fun e => by cases e; exact hcb rfl⟩
/-- A row that was appended to. -/
theorem MemOk.grow {w₀ w w' : World} {L : Heap} (h : MemOk w₀ L w) {i : Nat} {v v' : Value} {e : TypeId} {size n n' : Nat} {xs xs' : List Value} (hi : lk L i = some (.row v e size n xs) ∨ lk L i = none ∧ v.ownBlock = none)
    (hg : w.grownBy w' v.ownBlock) (hown : w'.ownsRow w₀.heap.size e size v' n' xs') (hat : v'.ownBlock = v.ownBlock ∨ v'.ownBlock = some w.heap.size) : MemOk w₀ ((i, .row v' e size n' xs') :: L) w' := by
  have hbase : ∀ k, v.ownBlock = some k → w₀.heap.size ≤ k := fun k hk => by
    rcases hi with hi | ⟨_, hn⟩
    · exact (Res.low (h.own i _ hi) hk).1
    · rw [hn] at hk; cases hk
  refine h.set i (.row v' e size n' xs') (h.ext.grown hg h.ext.size hbase) hown ?_
  intro j r hl hne c hc
  have hlt := (Res.low (h.own j r hl) hc).2
  have hcv : v.ownBlock ≠ some c := fun ev => by
    rcases hi with hi | ⟨_, hn⟩
    · exact h.sep j i r _ hl hi hne c hc ev
    · rw [hn] at ev; cases ev
  refine ⟨hg.block c hlt (fun ev => hcv ev.symm), fun ev => ?_⟩
  rcases hat with h1 | h1
  · exact hcv (h1.symm.trans ev)
  · have ev : v'.ownBlock = some c := ev
    rw [h1] at ev
    cases ev
    omega
/-- A row that is no nil is a block. -/
theorem MemOk.open {w₀ w : World} {L : Heap} (h : MemOk w₀ L w) {i : Nat} {e : TypeId} {size n cap g : Nat} {xs : List Value} (hi : lk L i = some (.row (.slice (some ⟨g, 0, none⟩) n cap) e size n xs)) :
    ∃ cur, MemOk w₀ ((i, .blk g (.cells cur e (0, 0))) :: L) w ∧ n ≤ cap ∧ cur.size = cap * size ∧ cur.toList.take (n * size) = xs := by
  rcases (h.own i _ hi).2 with ⟨h1, _⟩ | ⟨g', cap', cur, h1, h2, h3, h4, h5, h6, h7⟩
  · cases h1
  · cases h1
    refine ⟨cur, h.set i _ h.ext ⟨h2, h3⟩ (fun j r hl hne c hc => ⟨rfl, fun ev => ?_⟩), h4, h6, h7⟩
    cases ev
    exact h.sep j i r _ hl hi hne g hc rfl
theorem alloc_below (w : World) (o : Obj) : Below w.heap.size w (w.alloc o) := (Below.refl _ _).alloc (Nat.le_refl _) o

section
variable {C : Cx} {ops : Array Oper} {os : List Oper} {Q : Post} {K : List (Nat × Value)} {L : Heap} {o : Oper}

/-- An operation that leaves memory as it is. -/
theorem TL_q {d : Nat} (v : Value) (hr : ∀ ρ w, Rd K ρ → MemOk C.w₀ L w → (execOp ρ o).run C.P w = .ok (.value v) w) (hd : o.dst = some d) (hN : Nat.blt d C.N = true) (hn : isDefer o.op = false) (hw : Want ops K o true)
    (h : TL C ops os Q ((d, v) :: K) L) : TL C ops (o :: os) Q K L := by
  intro a w hf hm
  unfold wpListIn
  rw [hw.is hf, if_pos rfl]
  refine step_val hn (hr _ _ hf.rd hm) ?_
  rw [hd]
  exact h _ _ (hf.put v hN) hm
/-- An operation whose guard says no. -/
theorem TL_no {d : Nat} (hd : o.dst = some d) (hN : Nat.blt d C.N = true) (hw : Want ops K o false) (h : TL C ops os Q ((d, undef) :: K) L) : TL C ops (o :: os) Q K L := by
  intro a w hf hm
  unfold wpListIn
  rw [hw.is hf, if_neg (by simp)]
  refine ⟨fun _ _ => trivial, ?_⟩
  rw [hd]
  exact h _ _ (hf.put undef hN) hm
/-- A new block. -/
theorem TL_new {d : Nat} (i : Nat) (obj : Obj) (vf : Nat → Value) (hr : ∀ ρ w, Rd K ρ → MemOk C.w₀ L w → (execOp ρ o).run C.P w = .ok (.value (vf w.heap.size)) (w.alloc obj)) (hd : o.dst = some d) (hN : Nat.blt d C.N = true) (hn : isDefer o.op = false) (hw : Want ops K o true)
    (h : ∀ B, TL C ops os Q ((d, vf B) :: K) ((i, .blk B obj) :: L)) : TL C ops (o :: os) Q K L := by
  intro a w hf hm
  unfold wpListIn
  rw [hw.is hf, if_pos rfl]
  refine step_val hn (hr _ _ hf.rd hm) ?_
  rw [hd]
  exact h _ _ _ (hf.put _ hN) (hm.new (alloc_below w obj) i (Nat.le_refl _) (hp_new w obj))
/-- A store into a block of one's own. -/
theorem TL_store (i : Nat) {b : Nat} {ob : Obj} (obj : Obj) (hi : lk L i = some (.blk b ob)) (hr : ∀ ρ w, Rd K ρ → MemOk C.w₀ L w → ∃ w', (execOp ρ o).run C.P w = .ok .skip w' ∧ Upd w b obj w') (hd : o.dst = none) (hn : isDefer o.op = false) (hw : Want ops K o true)
    (h : TL C ops os Q K ((i, .blk b obj) :: L)) : TL C ops (o :: os) Q K L := by
  intro a w hf hm
  unfold wpListIn
  rw [hw.is hf, if_pos rfl]
  obtain ⟨w', hrun, hu⟩ := hr _ _ hf.rd hm
  refine step_skip hn hrun ?_
  rw [hd]
  exact h _ _ hf (hm.upd hi hu)
/-- A call of a function that answers, and leaves what there was as it was. -/
theorem TL_call {d f : Nat} {args : Array Value} (v : Value) (hr : ∀ ρ w, Rd K ρ → MemOk C.w₀ L w → (execOp ρ o).run C.P w = .ok (.enter f args) w)
    (hc : ∀ w, MemOk C.w₀ L w → Calls C.P f args w fun e w' => e = .returned v ∧ Below w.heap.size w w')
    (hd : o.dst = some d) (hN : Nat.blt d C.N = true) (hn : isDefer o.op = false) (hw : Want ops K o true)
    (h : TL C ops os Q ((d, v) :: K) L) : TL C ops (o :: os) Q K L := by
  intro a w hf hm
  unfold wpListIn
  rw [hw.is hf, if_pos rfl]
  refine step_enter hn (hr _ _ hf.rd hm) (hc w hm) ?_
  rintro e w' ⟨rfl, hb⟩
  show wpListIn _ _ _ _ _ _ _ _
  rw [hd]
  exact h _ _ (hf.put v hN) (hm.below hb)
/-- A call whose answer is one of many, and may lie in a new block. -/
theorem TL_callX {ι : Type} {d f : Nat} {args : Array Value} (R : ι → Ending → World → World → Prop) (v : ι → Value) (LN : ι → Heap) (hr : ∀ ρ w, Rd K ρ → MemOk C.w₀ L w → (execOp ρ o).run C.P w = .ok (.enter f args) w)
    (hc : ∀ w, MemOk C.w₀ L w → Calls C.P f args w fun e w' => ∃ x, R x e w w')
    (hR : ∀ x e w w', MemOk C.w₀ L w → R x e w w' → e = .returned (v x) ∧ MemOk C.w₀ (LN x) w')
    (hd : o.dst = some d) (hN : Nat.blt d C.N = true) (hn : isDefer o.op = false) (hw : Want ops K o true)
    (h : ∀ x, (∃ e w w', R x e w w') → TL C ops os Q ((d, v x) :: K) (LN x)) : TL C ops (o :: os) Q K L := by
  intro a w hf hm
  unfold wpListIn
  rw [hw.is hf, if_pos rfl]
  refine step_enter hn (hr _ _ hf.rd hm) (hc w hm) ?_
  rintro e w' ⟨x, hx⟩
  obtain ⟨rfl, hm'⟩ := hR x e w w' hm hx
  show wpListIn _ _ _ _ _ _ _ _
  rw [hd]
  exact h x ⟨_, _, _, hx⟩ _ _ (hf.put _ hN) hm'
end
section
variable {P : Program} {w : World} {ρ : Operand → Value} {d : Option Tmp} {ty : TypeId} {ps : String} {af : Array Edge} {g : Option (Nat × Bool)}
theorem r_call {f : Nat} {fop : Operand} {opl : List Operand} {first cap : Array Value} {args : List Value} {ats : Array TypeId} {all : Array Value} (hE : Enters P f) (hf : ρ fop = .func (.func f) first cap) (ha : opl.map ρ = args) (hall : first ++ args.toArray ++ cap = all) :
    (execOp ρ (mk d (.call { callee := .value fop, args := opl.toArray, argTypes := ats }) ty ps af g)).run P w = .ok (.enter f all) w := by
  subst ha hall
  show (do let d ← resolve ρ _ ty; invoke d.target d.args : Sem Next).run P w = _
  simp only [resolve, hf]
  rw [run_bind_ok (a := { target := .fn (.func f) cap, args := first ++ (opl.map ρ).toArray }) (w' := w)]
  · exact hE _ w
  · simp only [Deferred.ofValue, List.map_toArray]
    rfl
end
end Go.Proofs.Ytmihoejecpcmjaa
/- A region that draws its order, each of whose operations (but the last few, which stand in a forced order) comes to one value in every world of which S holds, and keeps S: whatever order is drawn, the slots hold these values behind it. Over any program. -/
namespace Go.Proofs.Ytmihoejecpcmjaa
open Go Go.RowKit

section
variable {F : Fence} {n : Nat} {P : Program} {Q : Exit → Act → World → Prop}

def dstAt (ops : Array Oper) (j : Nat) : Option Tmp := (ops[j]?).bind (·.dst)
/-- These are over, and i too. -/
def upd (D : Nat → Bool) (i : Nat) : Nat → Bool := fun j => if j = i then true else D j
def closed (ops : Array Oper) (listed : Array Bool) : Prop :=
  ∀ (i : Nat) (o : Oper), ops[i]? = some o → listed.getD i false = true → ∀ e ∈ o.after, Region.binds .any e = true → listed.getD e.on false = true
theorem ready_mem {ops : Array Oper} {listed : Array Bool} {i : Nat} (h : i ∈ Region.ready .any ops listed) :
    i < ops.size ∧ listed.getD i true = false ∧ ∃ o, ops[i]? = some o ∧ ∀ e ∈ o.after, Region.binds .any e = true → listed.getD e.on false = true := by
  simp only [Region.ready, List.mem_filter, List.mem_range, Bool.and_eq_true] at h
  obtain ⟨h1, h2, h3⟩ := h
  refine ⟨h1, by simpa using h2, ?_⟩
  have ho : ops[i]? = some ops[i] := Array.getElem?_eq_getElem h1
  refine ⟨ops[i], ho, fun e he hb => ?_⟩
  rw [ho] at h3
  simp only [Option.map_some, Option.getD_some, Array.all_eq_true] at h3
  obtain ⟨k, hk, hke⟩ := Array.getElem_of_mem he
  have := h3 k hk
  rw [hke] at this
  simpa [hb] using this

theorem mem_ready {ops : Array Oper} {listed : Array Bool} {i : Nat} (h1 : i < ops.size) (h2 : listed.getD i true = false) {o : Oper} (ho : ops[i]? = some o)
    (h : ∀ e ∈ o.after, Region.binds .any e = true → listed.getD e.on false = true) : i ∈ Region.ready .any ops listed := by
  simp only [Region.ready, List.mem_filter, List.mem_range, Bool.and_eq_true]
  refine ⟨h1, by simpa using h2, ?_⟩
  rw [ho]
  simp only [Option.map_some, Option.getD_some, Array.all_eq_true]
  intro k hk
  by_cases hb : Region.binds .any o.after[k] = true
  · simp [h _ (Array.getElem_mem hk) hb]
  · simp [hb]

theorem getD_set (l : Array Bool) (i j : Nat) (b d : Bool) (hi : i < l.size) : (l.setIfInBounds i b).getD j d = if j = i then b else l.getD j d := by
  simp only [Array.getD_eq_getD_getElem?, Array.getElem?_setIfInBounds]
  by_cases h : j = i
  · subst h; simp [hi]
  · rw [if_neg (fun e => h e.symm), if_neg h]

theorem put_tmps_size (a : Act) (d : Option Tmp) (v : Value) : (a.put d v).tmps.size = a.tmps.size := by cases d <;> simp [Act.put]
theorem put_defers (a : Act) (d : Option Tmp) (v : Value) : (a.put d v).defers = a.defers := by cases d <;> rfl

end
end Go.Proofs.Ytmihoejecpcmjaa
/- The judgement's rule for a region that draws its order: its loud operations one behind the other (or in few orders), its quiet ones floating among them. Over any program. -/
namespace Go.Proofs.Ytmihoejecpcmjaa
open Go Go.RowKit

/-! ### what is looked at of the region itself, once, by the kernel -/
/-- All that this operation waits for, by masks of those ahead. -/
def waits (Ms : List Nat) (o : Oper) : Nat := o.after.toList.foldl (fun s e => if Region.binds .any e then s ||| (2 ^ e.on) ||| Ms.getD e.on 0 else s) 0
def sub (x y : Nat) : Bool := x &&& y == x
def allUpto (n : Nat) (f : Nat → Bool) : Bool := (List.range n).all f
theorem allUpto_at {n : Nat} {f : Nat → Bool} (h : allUpto n f = true) {i : Nat} (hi : i < n) : f i = true := List.all_eq_true.1 h i (List.mem_range.2 hi)
def opAt (ops : Array Oper) (i : Nat) (f : Oper → Bool) : Bool := match ops[i]? with | some o => f o | none => false
/-- The table's row fits operation i: each slot that it looks at comes from that operation, or from none. -/
def rowOk (ops : Array Oper) (Ms : List Nat) (i : Nat) (row : List (Nat × Option Nat)) : Bool :=
  row.all fun (t, s) => match s with
    | some j => dstAt ops j == some t && (Ms.getD i 0).testBit j
    | none => allUpto ops.size fun j => dstAt ops j != some t || j == i || (Ms.getD j 0).testBit i
def statOk (ops : Array Oper) (Ms : List Nat) (S : List (List (Nat × Option Nat))) (N : Nat) : Bool :=
  allUpto ops.size fun i => opAt ops i fun o =>
    sub (Ms.getD i 0) (waits Ms o) && (o.after.all fun e => !Region.binds .any e || e.on < i) &&
    (match o.dst with | none => true | some t => Nat.blt t N && allUpto ops.size fun j => j == i || dstAt ops j != some t) &&
    rowOk ops Ms i (S.getD i []) &&
    (match o.guard with | none => true | some (j, _) => (Ms.getD i 0).testBit j && (dstAt ops j).isSome)
/-- What is known of the slots that operation i looks at. -/
def kOf (K0 V : List (Nat × Value)) : List (Nat × Option Nat) → List (Nat × Value)
  | [] => []
  | (t, s) :: r => match (match s with | some j => lk V j | none => lk K0 t) with
    | some v => (t, v) :: kOf K0 V r
    | none => kOf K0 V r
def WantV (V : List (Nat × Value)) (o : Oper) (b : Bool) : Prop :=
  match o.guard with
  | none => b = true
  | some (j, want) => (b = true ∧ lk V j = some (.bool want)) ∨ (b = false ∧ lk V j = some (.bool !want)) ∨ (b = false ∧ lk V j = some undef)

structure RgOk (C : Cx) (ops : Array Oper) (loud lo : Nat) (K0 V : List (Nat × Value)) (listed : Array Bool) (a : Act) : Prop where
  size : listed.size = ops.size
  shut : closed ops listed
  loud : ∀ i, i < ops.size → loud.testBit i = true → listed.getD i false = lo.testBit i
  asize : a.tmps.size = C.N
  defers : a.defers = C.D
  old : ∀ t v, lk K0 t = some v → (∀ j, listed.getD j false = true → dstAt ops j ≠ some t) → a.tmps.getD t undef = v
  new : ∀ j t v, listed.getD j false = true → dstAt ops j = some t → lk V j = some v → a.tmps.getD t undef = v
structure Rg where
  ops : Array Oper
  Ms : List Nat
  S : List (List (Nat × Option Nat))
  loud : Nat
def left (ops : Array Oper) (listed : Array Bool) : Nat := ((List.range ops.size).filter fun i => !listed.getD i true).length
def G (C : Cx) (R : Rg) (Q : Post) (K0 : List (Nat × Value)) (lo : Nat) (V : List (Nat × Value)) (L : Heap) : Prop :=
  statOk R.ops R.Ms R.S C.N = true → ∀ listed a w, RgOk C R.ops R.loud lo K0 V listed a → MemOk C.w₀ L w → wpAnyIn (FW C.ro) 0 C.P .any R.ops Q (left R.ops listed) listed a w

section
variable {C : Cx} {R : Rg} {Q : Post} {K0 V : List (Nat × Value)} {lo : Nat} {L : Heap}

theorem sub_bit {x y : Nat} (h : sub x y = true) {j : Nat} (hj : x.testBit j = true) : y.testBit j = true := by
  have : x &&& y = x := by simpa [sub] using h
  rw [← this, Nat.testBit_and] at hj
  simp at hj
  exact hj.2
theorem waits_bit {Ms : List Nat} : ∀ (l : List Edge) (s j : Nat), (l.foldl (fun s e => if Region.binds .any e then s ||| (2 ^ e.on) ||| Ms.getD e.on 0 else s) s).testBit j = true →
    s.testBit j = true ∨ ∃ e ∈ l, Region.binds .any e = true ∧ (e.on = j ∨ (Ms.getD e.on 0).testBit j = true)
  | [], s, j, h => .inl h
  | e :: l, s, j, h => by
    rw [List.foldl_cons] at h
    rcases waits_bit l _ j h with h1 | ⟨e', he', h2⟩
    · by_cases hb : Region.binds .any e = true
      · rw [if_pos hb, Nat.testBit_or, Nat.testBit_or] at h1
        simp only [Bool.or_eq_true] at h1
        rcases h1 with (h1 | h1) | h1
        · exact .inl h1
        · refine .inr ⟨e, by simp, hb, .inl ?_⟩
          rw [Nat.testBit_two_pow] at h1
          simpa using h1
        · exact .inr ⟨e, by simp, hb, .inr h1⟩
      · rw [if_neg hb] at h1; exact .inl h1
    · exact .inr ⟨e', by simp [he'], h2⟩

structure Stat (ops : Array Oper) (Ms : List Nat) (S : List (List (Nat × Option Nat))) (N i : Nat) (o : Oper) : Prop where
  mask : sub (Ms.getD i 0) (waits Ms o) = true
  low : ∀ e ∈ o.after, Region.binds .any e = true → e.on < i
  dst : ∀ t, o.dst = some t → Nat.blt t N = true ∧ ∀ j, j < ops.size → j ≠ i → dstAt ops j ≠ some t
  row : rowOk ops Ms i (S.getD i []) = true
  guard : ∀ j want, o.guard = some (j, want) → (Ms.getD i 0).testBit j = true ∧ (dstAt ops j).isSome = true
theorem stat_at {ops : Array Oper} {Ms : List Nat} {S : List (List (Nat × Option Nat))} {N : Nat} (h : statOk ops Ms S N = true) {i : Nat} {o : Oper} (ho : ops[i]? = some o) : Stat ops Ms S N i o := by
  have hi : i < ops.size := (Array.getElem?_eq_some_iff.1 ho).1
  have h := allUpto_at h hi
  unfold opAt at h
  rw [ho] at h
  simp only [Bool.and_eq_true] at h
  obtain ⟨⟨⟨⟨h1, h2⟩, h3⟩, h4⟩, h5⟩ := h
  refine ⟨h1, ?_, ?_, h4, ?_⟩
  · intro e he hb
    rw [Array.all_eq_true] at h2
    obtain ⟨q, hq, hqe⟩ := Array.getElem_of_mem he
    have := h2 q hq
    rw [hqe, hb] at this
    simpa using this
  · intro t ht
    rw [ht] at h3
    simp only [Bool.and_eq_true] at h3
    refine ⟨h3.1, fun j hj hne => ?_⟩
    have := allUpto_at h3.2 hj
    simp only [Bool.or_eq_true, beq_iff_eq, bne_iff_ne] at this
    exact this.resolve_left hne
  · intro j want hg
    rw [hg] at h5
    simpa using h5
theorem mask_listed {ops : Array Oper} {Ms : List Nat} {S : List (List (Nat × Option Nat))} {N : Nat} (h : statOk ops Ms S N = true) {listed : Array Bool} (hcl : closed ops listed) : ∀ (i : Nat) (o : Oper), ops[i]? = some o →
    (∀ e ∈ o.after, Region.binds .any e = true → listed.getD e.on false = true) → ∀ j, (Ms.getD i 0).testBit j = true → listed.getD j false = true := by
  intro i
  induction i using Nat.strongRecOn with
  | _ i ih =>
    intro o ho hr j hj
    have hs := stat_at h ho
    rcases waits_bit _ 0 j (sub_bit hs.mask hj) with h0 | ⟨e, he, hb, h1⟩
    · simp at h0
    · have he : e ∈ o.after := by simpa using he
      have hle := hr e he hb
      rcases h1 with rfl | h1
      · exact hle
      · have hlt := hs.low e he hb
        have hi : i < ops.size := (Array.getElem?_eq_some_iff.1 ho).1
        have hoe : ops[e.on]? = some (ops[e.on]'(by omega)) := Array.getElem?_eq_getElem (by omega)
        exact ih e.on hlt _ hoe (hcl e.on _ hoe hle) j h1
theorem left_set {ops : Array Oper} {listed : Array Bool} (hs : listed.size = ops.size) {i : Nat} (hi : i < ops.size) (h2 : listed.getD i true = false) : left ops listed = left ops (listed.setIfInBounds i true) + 1 := by
  unfold left
  have hnd : ((List.range ops.size).filter fun i => !listed.getD i true).Nodup := List.nodup_range.filter _
  have hmem : i ∈ (List.range ops.size).filter fun i => !listed.getD i true := List.mem_filter.2 ⟨List.mem_range.2 hi, by simp [h2]⟩
  have e1 : ((List.range ops.size).filter fun j => !(listed.setIfInBounds i true).getD j true) = ((List.range ops.size).filter fun i => !listed.getD i true).erase i := by
    rw [hnd.erase_eq_filter, List.filter_filter]
    apply List.filter_congr
    intro j _
    rw [getD_set _ _ _ _ _ (by omega)]
    by_cases hji : j = i
    · subst hji; simp
    · simp [hji]
  rw [e1, List.length_erase_of_mem hmem]
  have := List.length_pos_of_mem hmem
  omega
theorem kOf_lk : ∀ {row : List (Nat × Option Nat)} {t : Nat} {v : Value}, lk (kOf K0 V row) t = some v → ∃ s, (t, s) ∈ row ∧ (match s with | some j => lk V j | none => lk K0 t) = some v
  | [], _, _, h => by cases h
  | (u, s) :: r, t, v, h => by
    unfold kOf at h
    split at h
    · rename_i x hx
      by_cases e : u = t
      · subst e
        rw [lk_cons_same] at h
        cases h
        exact ⟨s, by simp, hx⟩
      · rw [lk_cons_other _ _ e] at h
        obtain ⟨s', h1, h2⟩ := kOf_lk h
        exact ⟨s', by simp [h1], h2⟩
    · obtain ⟨s', h1, h2⟩ := kOf_lk h
      exact ⟨s', by simp [h1], h2⟩
theorem getD_ft {listed : Array Bool} {i : Nat} (h : i < listed.size) : listed.getD i false = listed.getD i true := by
  simp [Array.getD_eq_getD_getElem?, Array.getElem?_eq_getElem h]
theorem shut_set {ops : Array Oper} {listed : Array Bool} (hcl : closed ops listed) (hs : listed.size = ops.size) {i : Nat} {o : Oper} (hi : ops[i]? = some o) (hr : ∀ e ∈ o.after, Region.binds .any e = true → listed.getD e.on false = true) :
    closed ops (listed.setIfInBounds i true) := by
  have hlt : i < ops.size := (Array.getElem?_eq_some_iff.1 hi).1
  intro q oq hoq hlq e hme hb
  have hup : ∀ x, listed.getD x false = true → (listed.setIfInBounds i true).getD x false = true := fun x hx => by
    rw [getD_set _ _ _ _ _ (by omega)]
    by_cases hxi : x = i
    · rw [if_pos hxi]
    · rw [if_neg hxi]; exact hx
  rw [getD_set _ _ _ _ _ (by omega)] at hlq
  by_cases hqi : q = i
  · subst hqi
    rw [hi] at hoq; cases hoq
    exact hup _ (hr e hme hb)
  · rw [if_neg hqi] at hlq
    exact hup _ (hcl q oq hoq hlq e hme hb)

/-- What operation i reads is what is known of its slots. -/
theorem RgOk.rd {listed : Array Bool} {a : Act} (hst : statOk R.ops R.Ms R.S C.N = true) (h : RgOk C R.ops R.loud lo K0 V listed a) {i : Nat} {o : Oper} (ho : R.ops[i]? = some o) (h2 : listed.getD i true = false)
    (hr : ∀ e ∈ o.after, Region.binds .any e = true → listed.getD e.on false = true) : Rd (kOf K0 V (R.S.getD i [])) a.eval := by
  intro x v hx
  cases x with
  | const u => cases hx; rfl
  | global g => cases hx; rfl
  | func f => cases hx; rfl
  | tmp t =>
    obtain ⟨s, hm, hs⟩ := kOf_lk hx
    have hst' := stat_at hst ho
    have hrow := List.all_eq_true.1 hst'.row _ hm
    have hi : i < R.ops.size := (Array.getElem?_eq_some_iff.1 ho).1
    cases s with
    | some j =>
      simp only [Bool.and_eq_true, beq_iff_eq] at hrow
      exact h.new j t v (mask_listed hst h.shut i o ho hr j hrow.2) hrow.1 hs
    | none =>
      refine h.old t v hs (fun j hj hd => ?_)
      have hjs : j < R.ops.size := by
        have : j < listed.size := by
          rcases Nat.lt_or_ge j listed.size with hlt | hge
          · exact hlt
          · rw [Array.getD_eq_getD_getElem?, Array.getElem?_eq_none hge] at hj; cases hj
        have := h.size; omega
      have := allUpto_at hrow hjs
      simp only [Bool.or_eq_true, bne_iff_ne, beq_iff_eq] at this
      rcases this with (h1 | h1) | h1
      · exact h1 hd
      · subst h1
        rw [getD_ft (by rw [h.size]; exact hi), h2] at hj; cases hj
      · have hoj : R.ops[j]? = some R.ops[j] := Array.getElem?_eq_getElem hjs
        have := mask_listed hst h.shut j _ hoj (h.shut j _ hoj hj) i h1
        rw [getD_ft (by rw [h.size]; exact hi), h2] at this; cases this

/-- Behind operation i. -/
theorem RgOk.put {listed : Array Bool} {a : Act} (hst : statOk R.ops R.Ms R.S C.N = true) (h : RgOk C R.ops R.loud lo K0 V listed a) {i : Nat} {o : Oper} (ho : R.ops[i]? = some o)
    (hr : ∀ e ∈ o.after, Region.binds .any e = true → listed.getD e.on false = true) (v : Value) (lo' : Nat) (V' : List (Nat × Value))
    (hlo : ∀ j, j < R.ops.size → R.loud.testBit j = true → lo'.testBit j = (if j = i then true else lo.testBit j)) (hV : lk V' i = some v ∨ o.dst = none) (hV' : ∀ j u, listed.getD j false = true → j ≠ i → lk V' j = some u → lk V j = some u) :
    RgOk C R.ops R.loud lo' K0 V' (listed.setIfInBounds i true) (a.put o.dst v) := by
  have hi : i < R.ops.size := (Array.getElem?_eq_some_iff.1 ho).1
  have hod : dstAt R.ops i = o.dst := by simp [dstAt, ho]
  have hs := stat_at hst ho
  have hget : ∀ j, (listed.setIfInBounds i true).getD j false = if j = i then true else listed.getD j false := fun j => getD_set _ _ _ _ _ (by rw [h.size]; exact hi)
  refine ⟨by simpa using h.size, shut_set h.shut h.size ho hr, ?_, by rw [put_tmps_size]; exact h.asize, by rw [put_defers]; exact h.defers, ?_, ?_⟩
  · intro j hj hl
    rw [hget, hlo j hj hl]
    by_cases hji : j = i
    · simp [hji]
    · rw [if_neg hji, if_neg hji]; exact h.loud j hj hl
  · intro t u ht hno
    have h1 : o.dst ≠ some t := by have := hno i (by rw [hget]; simp); rwa [hod] at this
    have h2 := h.old t u ht (fun j hj => hno j (by rw [hget]; by_cases hji : j = i <;> simp [hji, hj]))
    rw [← h2]
    cases hd : o.dst with
    | none => rfl
    | some d =>
      have hne : d ≠ t := fun e => h1 (by rw [hd, e])
      simp [Act.put, Array.getD_eq_getD_getElem?, Array.getElem?_setIfInBounds, hne]
  · intro j t u hj hd hu
    rw [hget] at hj
    by_cases hji : j = i
    · subst hji
      rw [hod] at hd
      rcases hV with hV | hV
      · rw [hV] at hu
        cases hu
        have hb := (hs.dst t hd).1
        rw [Nat.blt_eq] at hb
        rw [hd]
        simp [Act.put, Array.getD_eq_getD_getElem?, h.asize, hb]
      · rw [hV] at hd; cases hd
    · rw [if_neg hji] at hj
      have h2 := h.new j t u hj hd (hV' j u hj hji hu)
      rw [← h2]
      cases hd' : o.dst with
      | none => rfl
      | some d =>
        have hjs : j < R.ops.size := by
          unfold dstAt at hd
          rcases Nat.lt_or_ge j R.ops.size with hlt | hge
          · exact hlt
          · rw [Array.getElem?_eq_none hge] at hd; cases hd
        have hne : d ≠ t := fun e => (hs.dst d hd').2 j hjs hji (by rw [e]; exact hd)
        simp [Act.put, Array.getD_eq_getD_getElem?, Array.getElem?_setIfInBounds, hne]
end
end Go.Proofs.Ytmihoejecpcmjaa
/- The rule for a region that draws its order, stage by stage. Over any program. -/
namespace Go.Proofs.Ytmihoejecpcmjaa
open Go Go.RowKit

def coverOk (R : Rg) (lo : Nat) (qs cands : List Nat) : Bool :=
  (allUpto R.ops.size fun i =>
    if R.loud.testBit i then lo.testBit i || cands.contains i || cands.any fun c => (R.Ms.getD i 0).testBit c
    else qs.contains i || ((R.loud &&& (R.Ms.getD i 0)) &&& lo != (R.loud &&& (R.Ms.getD i 0))) || (allUpto R.ops.size fun l => !(R.loud.testBit l && lo.testBit l && (R.Ms.getD l 0).testBit i)) == false) &&
  (cands.all fun c => R.loud.testBit c && !lo.testBit c) && (qs.all fun i => !R.loud.testBit i)
/-- A quiet operation, at this stage. -/
def QOb (C : Cx) (R : Rg) (K0 V : List (Nat × Value)) (L : Heap) (i : Nat) : Prop :=
  ∃ o v, R.ops[i]? = some o ∧ (lk V i = some v ∨ o.dst = none) ∧
    ((WantV V o true ∧ isDefer o.op = false ∧ ∀ ρ w, Rd (kOf K0 V (R.S.getD i [])) ρ → MemOk C.w₀ L w → (execOp ρ o).run C.P w = .ok (.value v) w) ∨ (WantV V o false ∧ v = undef))
/-- Nothing new is said but of what waited for c. -/
def ExtV (R : Rg) (c : Nat) (V V' : List (Nat × Value)) : Prop := ∀ j u, lk V' j = some u → lk V j = some u ∨ j = c ∨ (R.Ms.getD j 0).testBit c = true
/-- A loud operation, at this stage. -/
def LOb (C : Cx) (R : Rg) (Q : Post) (K0 : List (Nat × Value)) (lo : Nat) (V : List (Nat × Value)) (L : Heap) (c : Nat) : Prop :=
  ∃ o, R.ops[c]? = some o ∧ WantV V o true ∧ ∀ (a : Act) (w : World) (next : Act → World → Prop), Rd (kOf K0 V (R.S.getD c [])) a.eval → MemOk C.w₀ L w → a.defers = C.D →
    (∀ v V' L' w', (lk V' c = some v ∨ o.dst = none) → ExtV R c V V' → MemOk C.w₀ L' w' → G C R Q K0 (lo ||| 2 ^ c) V' L' → next (a.put o.dst v) w') → o.wpIn (FW C.ro) 0 C.P a w next Q
def EndOk (R : Rg) (K0 V : List (Nat × Value)) : List (Nat × Value) → Prop
  | [] => True
  | (t, v) :: r => ((∃ j, dstAt R.ops j = some t ∧ lk V j = some v) ∨ ((allUpto R.ops.size fun j => dstAt R.ops j != some t) = true ∧ lk K0 t = some v)) ∧ EndOk R K0 V r

section
variable {C : Cx} {R : Rg} {Q : Post} {K0 V : List (Nat × Value)} {lo : Nat} {L : Heap}

theorem EndOk.get {listed : Array Bool} {a : Act} (h : RgOk C R.ops R.loud lo K0 V listed a) (hall : ∀ j, j < R.ops.size → listed.getD j false = true) : ∀ {K' : List (Nat × Value)}, EndOk R K0 V K' → ∀ t v, lk K' t = some v → a.tmps.getD t undef = v
  | [], _, t, v, hk => by cases hk
  | (u, x) :: r, he, t, v, hk => by
    by_cases e : u = t
    · subst e
      rw [lk_cons_same] at hk
      cases hk
      rcases he.1 with ⟨j, hd, hv⟩ | ⟨hno, hv⟩
      · have hj : j < R.ops.size := by
          unfold dstAt at hd
          rcases Nat.lt_or_ge j R.ops.size with hlt | hge
          · exact hlt
          · rw [Array.getElem?_eq_none hge] at hd; cases hd
        exact h.new j u x (hall j hj) hd hv
      · refine h.old u x hv (fun j hj hd => ?_)
        have hjs : j < R.ops.size := by
          unfold dstAt at hd
          rcases Nat.lt_or_ge j R.ops.size with hlt | hge
          · exact hlt
          · rw [Array.getElem?_eq_none hge] at hd; cases hd
        have := allUpto_at hno hjs
        simp only [bne_iff_ne] at this
        exact this hd
    · rw [lk_cons_other _ _ e] at hk
      exact EndOk.get h hall he.2 t v hk
theorem EndOk.fr {listed : Array Bool} {a : Act} (h : RgOk C R.ops R.loud lo K0 V listed a) (hall : ∀ j, j < R.ops.size → listed.getD j false = true) {K' : List (Nat × Value)} (he : EndOk R K0 V K') : FrOk C.N C.D K' a :=
  ⟨h.asize, h.defers, EndOk.get h hall he⟩

theorem no_ready {ops : Array Oper} {Ms : List Nat} {S : List (List (Nat × Option Nat))} {N : Nat} (hst : statOk ops Ms S N = true) {listed : Array Bool} (hs : listed.size = ops.size) (hr : Region.ready .any ops listed = []) :
    ∀ j, j < ops.size → listed.getD j false = true := by
  intro j
  induction j using Nat.strongRecOn with
  | _ j ih =>
    intro hj
    cases hh : listed.getD j true with
    | true => rw [getD_ft (by omega)]; exact hh
    | false =>
      have ho : ops[j]? = some ops[j] := Array.getElem?_eq_getElem hj
      have : j ∈ Region.ready .any ops listed := mem_ready hj hh ho (fun e hme hb => by
        have := (stat_at hst ho).low e hme hb
        exact ih e.on this (by omega))
      rw [hr] at this; cases this

theorem wanted_of {listed : Array Bool} {a : Act} (hst : statOk R.ops R.Ms R.S C.N = true) (h : RgOk C R.ops R.loud lo K0 V listed a) {i : Nat} {o : Oper} (ho : R.ops[i]? = some o)
    (hr : ∀ e ∈ o.after, Region.binds .any e = true → listed.getD e.on false = true) {b : Bool} (hw : WantV V o b) : Region.wanted o (yielded R.ops a.tmps) = b := by
  unfold WantV at hw
  unfold Region.wanted
  split at hw
  · rename_i hg; rw [hg]; exact hw.symm
  · rename_i j want hg
    rw [hg]
    obtain ⟨hm, hd⟩ := (stat_at hst ho).guard j want hg
    obtain ⟨d, hd⟩ := Option.isSome_iff_exists.1 hd
    have hl := mask_listed hst h.shut i o ho hr j hm
    have key : ∀ c : Bool, lk V j = some (.bool c) → yielded R.ops a.tmps j = some c := fun c hc => by
      have hk := h.new j d _ hl hd hc
      unfold yielded
      have hd' : (R.ops[j]?).bind (·.dst) = some d := hd
      simp only [hd', Option.bind_some]
      rw [Array.getD_eq_getD_getElem?] at hk
      cases ht : a.tmps[d]? with
      | none => rw [ht] at hk; cases hk
      | some u => rw [ht] at hk; cases hk; rfl
    rcases hw with ⟨rfl, hw⟩ | ⟨rfl, hw⟩ | ⟨rfl, hw⟩
    · simp [key _ hw]
    · simp only [key _ hw]
      cases want <;> rfl
    · have hk := h.new j d _ hl hd hw
      have : yielded R.ops a.tmps j = none := by
        unfold yielded
        have hd' : (R.ops[j]?).bind (·.dst) = some d := hd
        simp only [hd', Option.bind_some]
        rw [Array.getD_eq_getD_getElem?] at hk
        cases ht : a.tmps[d]? with
        | none => rfl
        | some u => rw [ht] at hk; cases hk; rfl
      simp only [this]
      cases want <;> rfl

theorem bit_or {lo c j : Nat} : (lo ||| 2 ^ c).testBit j = (if j = c then true else lo.testBit j) := by
  rw [Nat.testBit_or, Nat.testBit_two_pow]
  by_cases h : j = c
  · subst h; simp
  · simp [h, Ne.symm h]

theorem G_any (qs cands : List Nat) (hcov : coverOk R lo qs cands = true) (hq : ∀ i ∈ qs, QOb C R K0 V L i) (hl : ∀ c ∈ cands, LOb C R Q K0 lo V L c)
    (hend : ∀ listed a w, RgOk C R.ops R.loud lo K0 V listed a → (∀ j, j < R.ops.size → listed.getD j false = true) → MemOk C.w₀ L w → Q .normal a w) : G C R Q K0 lo V L := by
  intro hst
  have hcov' := hcov
  simp only [coverOk, Bool.and_eq_true] at hcov'
  obtain ⟨⟨hc1, hc2⟩, hc3⟩ := hcov'
  have key : ∀ k listed a w, left R.ops listed = k → RgOk C R.ops R.loud lo K0 V listed a → MemOk C.w₀ L w → wpAnyIn (FW C.ro) 0 C.P .any R.ops Q k listed a w := by
    intro k
    induction k with
    | zero =>
      intro listed a w hk h hm
      have h0 : ∀ j, j < R.ops.size → listed.getD j true = true := fun j hj => by
        have := List.filter_eq_nil_iff.1 (List.eq_nil_of_length_eq_zero hk) j (List.mem_range.2 hj)
        simpa using this
      have hnil : Region.ready .any R.ops listed = [] := by
        cases hr : Region.ready .any R.ops listed with
        | nil => rfl
        | cons x xs =>
          obtain ⟨h1, h2, _⟩ := ready_mem (by rw [hr]; simp : x ∈ Region.ready .any R.ops listed)
          rw [h0 x h1] at h2; cases h2
      exact ⟨hnil, hend listed a w h (no_ready hst h.size hnil) hm⟩
    | succ k ih =>
      intro listed a w hk h hm
      refine ⟨fun hnil => hend listed a w h (no_ready hst h.size hnil) hm, ?_⟩
      intro i hi
      obtain ⟨h1, h2, o, hoi, hr⟩ := ready_mem hi
      have hleft := left_set h.size h1 h2
      have hrd := h.rd hst hoi h2 hr
      have hci := allUpto_at hc1 h1
      unfold wpOpIn
      rw [hoi]
      simp only []
      have hlf : listed.getD i false = false := by rw [getD_ft (by rw [h.size]; exact h1)]; exact h2
      by_cases hloud : R.loud.testBit i = true
      · rw [if_pos hloud] at hci
        have hlo : lo.testBit i = false := by rw [← h.loud i h1 hloud]; exact hlf
        have hin : i ∈ cands := by
          simp only [hlo, Bool.false_or, Bool.or_eq_true, List.contains_iff_mem, List.any_eq_true] at hci
          rcases hci with hci | ⟨c, hc, hb⟩
          · exact hci
          · have hcl := mask_listed hst h.shut i o hoi hr c hb
            have hcc := List.all_eq_true.1 hc2 c hc
            simp only [Bool.and_eq_true, Bool.not_eq_true'] at hcc
            have hcs : c < R.ops.size := by
              have : c < listed.size := by
                rcases Nat.lt_or_ge c listed.size with hlt | hge
                · exact hlt
                · rw [Array.getD_eq_getD_getElem?, Array.getElem?_eq_none hge] at hcl; cases hcl
              have := h.size; omega
            rw [h.loud c hcs hcc.1, hcc.2] at hcl; cases hcl
        obtain ⟨o', ho', hw, hstep⟩ := hl i hin
        rw [hoi] at ho'; cases ho'
        rw [wanted_of hst h hoi hr hw, if_pos rfl]
        refine hstep a w _ hrd hm h.defers ?_
        intro v V' L' w' hV hext hm' hG
        have hput := h.put hst hoi hr v (lo ||| 2 ^ i) V' (fun j _ _ => bit_or) hV (fun j u hj hji hu => by
          rcases hext j u hu with h3 | h3 | h3
          · exact h3
          · exact absurd h3 hji
          · have hjs : j < R.ops.size := by
              have : j < listed.size := by
                rcases Nat.lt_or_ge j listed.size with hlt | hge
                · exact hlt
                · rw [Array.getD_eq_getD_getElem?, Array.getElem?_eq_none hge] at hj; cases hj
              have := h.size; omega
            have hoj : R.ops[j]? = some R.ops[j] := Array.getElem?_eq_getElem hjs
            have := mask_listed hst h.shut j _ hoj (h.shut j _ hoj hj) i h3
            rw [hlf] at this; cases this)
        have := hG hst _ _ _ hput hm'
        rwa [show left R.ops (listed.setIfInBounds i true) = k by omega] at this
      · rw [if_neg hloud] at hci
        have hin : i ∈ qs := by
          simp only [Bool.or_eq_true, List.contains_iff_mem] at hci
          rcases hci with (hci | hci) | hci
          · exact hci
          · exfalso
            have hne : ¬ ((R.loud &&& (R.Ms.getD i 0)) &&& lo = (R.loud &&& (R.Ms.getD i 0))) := by simpa using hci
            apply hne
            apply Nat.eq_of_testBit_eq
            intro j
            simp only [Nat.testBit_and]
            cases hlj : R.loud.testBit j with
            | false => simp
            | true =>
              cases hmj : (R.Ms.getD i 0).testBit j with
              | false => simp
              | true =>
                have hcl := mask_listed hst h.shut i o hoi hr j hmj
                have hjs : j < R.ops.size := by
                  have : j < listed.size := by
                    rcases Nat.lt_or_ge j listed.size with hlt | hge
                    · exact hlt
                    · rw [Array.getD_eq_getD_getElem?, Array.getElem?_eq_none hge] at hcl; cases hcl
                  have := h.size; omega
                rw [h.loud j hjs hlj] at hcl
                simp [hcl]
          · exfalso
            have hex : ¬ ((allUpto R.ops.size fun l => !(R.loud.testBit l && lo.testBit l && (R.Ms.getD l 0).testBit i)) = true) := by
              intro ht; rw [ht] at hci; cases hci
            apply hex
            refine List.all_eq_true.2 (fun l hlr => ?_)
            have hls := List.mem_range.1 hlr
            cases h3 : R.loud.testBit l with
            | false => simp
            | true =>
              cases h4 : lo.testBit l with
              | false => simp
              | true =>
                cases h5 : (R.Ms.getD l 0).testBit i with
                | false => simp
                | true =>
                  have hll : listed.getD l false = true := by rw [h.loud l hls h3]; exact h4
                  have hol : R.ops[l]? = some R.ops[l] := Array.getElem?_eq_getElem hls
                  have := mask_listed hst h.shut l _ hol (h.shut l _ hol hll) i h5
                  rw [hlf] at this; cases this
        obtain ⟨o', v, ho', hV, hrun⟩ := hq i hin
        rw [hoi] at ho'; cases ho'
        have hput : RgOk C R.ops R.loud lo K0 V (listed.setIfInBounds i true) (a.put o.dst v) := h.put hst hoi hr v lo V (fun j _ hlj => by
          by_cases hji : j = i
          · subst hji; exact absurd hlj hloud
          · rw [if_neg hji]) hV (fun j u _ _ hu => hu)
        have hnext := ih (listed.setIfInBounds i true) (a.put o.dst v) w (by omega) hput hm
        rcases hrun with ⟨hw, hn, hrun⟩ | ⟨hw, rfl⟩
        · rw [wanted_of hst h hoi hr hw, if_pos rfl]
          exact step_val hn (hrun _ _ hrd hm) hnext
        · rw [wanted_of hst h hoi hr hw, if_neg (by simp)]
          exact ⟨fun _ _ => trivial, hnext⟩
  exact fun listed a w h hm => key _ listed a w rfl h hm

/-- A stage at which something loud is still to come. -/
theorem G_step (qs : List Nat) (c : Nat) (cands : List Nat) (hcov : coverOk R lo qs (c :: cands) = true) (hq : ∀ i ∈ qs, QOb C R K0 V L i) (hl : ∀ i ∈ c :: cands, LOb C R Q K0 lo V L i) : G C R Q K0 lo V L := by
  refine G_any qs (c :: cands) hcov hq hl ?_
  intro listed a w h hall hm
  exfalso
  simp only [coverOk, Bool.and_eq_true] at hcov
  have hcc := List.all_eq_true.1 hcov.1.2 c (by simp)
  simp only [Bool.and_eq_true, Bool.not_eq_true'] at hcc
  obtain ⟨o, ho, _⟩ := hl c (by simp)
  have hcs : c < R.ops.size := (Array.getElem?_eq_some_iff.1 ho).1
  have := h.loud c hcs hcc.1
  rw [hall c hcs, hcc.2] at this
  cases this
/-- The last stage, and what comes behind. -/
theorem G_last {y : Code} {Q' : Post} (qs : List Nat) (K' : List (Nat × Value)) (hcov : coverOk R lo qs [] = true) (hq : ∀ i ∈ qs, QOb C R K0 V L i) (he : EndOk R K0 V K') (h : T C y Q' K' L) : G C R (Seq C y Q') K0 lo V L := by
  refine G_any qs [] hcov hq (fun _ hc => by cases hc) ?_
  intro listed a w hr hall hm
  exact h a w (he.fr hr hall) hm
theorem G_lastQ (qs : List Nat) (K' : List (Nat × Value)) (hcov : coverOk R lo qs [] = true) (hq : ∀ i ∈ qs, QOb C R K0 V L i) (he : EndOk R K0 V K') (h : ∀ a w, FrOk C.N C.D K' a → MemOk C.w₀ L w → Q .normal a w) : G C R Q K0 lo V L := by
  refine G_any qs [] hcov hq (fun _ hc => by cases hc) ?_
  intro listed a w hr hall hm
  exact h a w (he.fr hr hall) hm
theorem T_draw {id : Nat} {ops : Array Oper} (Ms : List Nat) (S : List (List (Nat × Option Nat))) (loud : Nat) (V : List (Nat × Value)) (hmx : C.P.follows .mixedOrders = true) (hst : statOk ops Ms S C.N = true) (h : G C ⟨ops, Ms, S, loud⟩ Q K0 0 V L) : T C (.region id ops true) Q K0 L := by
  intro a w hf hm
  refine wpIn_region_any hmx ?_
  have hl : ∀ j, (Array.replicate ops.size false).getD j false = false := fun j => by
    simp [Array.getD_eq_getD_getElem?, Array.getElem?_replicate]
    split <;> rfl
  have := h hst (Array.replicate ops.size false) a w.drew ⟨by simp, ?_, ?_, hf.size, hf.defers, fun t v ht _ => hf.knows t v ht, fun j t v hj => by rw [hl] at hj; cases hj⟩ hm.drew
  · have e : left ops (Array.replicate ops.size false) = ops.size := by
      unfold left
      have : ((List.range ops.size).filter fun i => !(Array.replicate ops.size false).getD i true) = List.range ops.size := by
        apply List.filter_eq_self.2
        intro i hi
        have := List.mem_range.1 hi
        simp [Array.getD_eq_getD_getElem?, this]
      rw [this, List.length_range]
    rw [e] at this
    exact this
  · intro q _ _ hh
    rw [hl] at hh; cases hh
  · intro i _ _
    rw [hl]; simp

/-! ### the loud operations -/
theorem extV (c : Nat) (v : Value) (news : List (Nat × Value)) (h : ((news.map (·.1)).all fun j => (R.Ms.getD j 0).testBit c) = true) : ExtV R c V (news ++ (c, v) :: V) := by
  intro j u hu
  induction news with
  | nil =>
    rw [List.nil_append] at hu
    by_cases e : c = j
    · exact .inr (.inl e.symm)
    · rw [lk_cons_other _ _ e] at hu; exact .inl hu
  | cons p news ih =>
    simp only [List.map_cons, List.all_cons, Bool.and_eq_true] at h
    rw [List.cons_append] at hu
    by_cases e : p.1 = j
    · subst e; exact .inr (.inr h.1)
    · rw [show p = (p.1, p.2) from rfl, lk_cons_other _ _ e] at hu
      exact ih h.2 hu
theorem lk_app (news : List (Nat × Value)) (c : Nat) (v : Value) (h : (news.map (·.1)).contains c = false) : lk (news ++ (c, v) :: V) c = some v := by
  induction news with
  | nil => exact lk_cons_same _ _ _
  | cons p news ih =>
    simp only [List.map_cons, List.contains_cons, Bool.or_eq_false_iff, beq_eq_false_iff_ne] at h
    rw [List.cons_append, show p = (p.1, p.2) from rfl, lk_cons_other _ _ (Ne.symm h.1)]
    exact ih h.2
def newsOk (R : Rg) (c : Nat) (news : List (Nat × Value)) : Bool := ((news.map (·.1)).all fun j => (R.Ms.getD j 0).testBit c) && !(news.map (·.1)).contains c
theorem LOb_new {c d : Nat} {o : Oper} (i : Nat) (obj : Obj) (vf : Nat → Value) (news : Nat → List (Nat × Value)) (ho : R.ops[c]? = some o) (hw : WantV V o true) (hd : o.dst = some d) (hn : isDefer o.op = false)
    (hr : ∀ ρ w, Rd (kOf K0 V (R.S.getD c [])) ρ → MemOk C.w₀ L w → (execOp ρ o).run C.P w = .ok (.value (vf w.heap.size)) (w.alloc obj)) (hnew : ∀ B, newsOk R c (news B) = true)
    (h : ∀ B, G C R Q K0 (lo ||| 2 ^ c) (news B ++ (c, vf B) :: V) ((i, .blk B obj) :: L)) : LOb C R Q K0 lo V L c := by
  refine ⟨o, ho, hw, fun a w next hrd hm _ hnext => ?_⟩
  refine step_val hn (hr _ _ hrd hm) ?_
  have hnw := hnew w.heap.size
  simp only [newsOk, Bool.and_eq_true, Bool.not_eq_true'] at hnw
  exact hnext _ _ _ _ (.inl (lk_app _ _ _ hnw.2)) (extV _ _ _ hnw.1) (hm.new (alloc_below w obj) i (Nat.le_refl _) (hp_new w obj)) (h _)
theorem LOb_store {c : Nat} {o : Oper} (i : Nat) {b : Nat} {ob : Obj} (obj : Obj) (news : List (Nat × Value)) (ho : R.ops[c]? = some o) (hw : WantV V o true) (hd : o.dst = none) (hn : isDefer o.op = false) (hi : lk L i = some (.blk b ob))
    (hr : ∀ ρ w, Rd (kOf K0 V (R.S.getD c [])) ρ → MemOk C.w₀ L w → ∃ w', (execOp ρ o).run C.P w = .ok .skip w' ∧ Upd w b obj w') (hnew : newsOk R c news = true)
    (h : G C R Q K0 (lo ||| 2 ^ c) (news ++ (c, undef) :: V) ((i, .blk b obj) :: L)) : LOb C R Q K0 lo V L c := by
  refine ⟨o, ho, hw, fun a w next hrd hm _ hnext => ?_⟩
  obtain ⟨w', hrun, hu⟩ := hr _ _ hrd hm
  refine step_skip hn hrun ?_
  simp only [newsOk, Bool.and_eq_true, Bool.not_eq_true'] at hnew
  exact hnext _ _ _ _ (.inr hd) (extV _ _ _ hnew.1) (hm.upd hi hu) h
theorem LOb_call {c d f : Nat} {o : Oper} {args : Array Value} (v : Value) (news : List (Nat × Value)) (ho : R.ops[c]? = some o) (hw : WantV V o true) (hd : o.dst = some d) (hn : isDefer o.op = false)
    (hr : ∀ ρ w, Rd (kOf K0 V (R.S.getD c [])) ρ → MemOk C.w₀ L w → (execOp ρ o).run C.P w = .ok (.enter f args) w)
    (hc : ∀ w, MemOk C.w₀ L w → Calls C.P f args w fun e w' => e = .returned v ∧ Below w.heap.size w w') (hnew : newsOk R c news = true)
    (h : G C R Q K0 (lo ||| 2 ^ c) (news ++ (c, v) :: V) L) : LOb C R Q K0 lo V L c := by
  refine ⟨o, ho, hw, fun a w next hrd hm _ hnext => ?_⟩
  refine step_enter hn (hr _ _ hrd hm) (hc w hm) ?_
  rintro e w' ⟨rfl, hb⟩
  simp only [newsOk, Bool.and_eq_true, Bool.not_eq_true'] at hnew
  exact hnext _ _ _ _ (.inl (lk_app _ _ _ hnew.2)) (extV _ _ _ hnew.1) (hm.below hb) h
theorem LOb_callX {ι : Type} {c d f : Nat} {o : Oper} {args : Array Value} (Rr : ι → Ending → World → World → Prop) (v : ι → Value) (LN : ι → Heap) (news : ι → List (Nat × Value)) (ho : R.ops[c]? = some o) (hw : WantV V o true) (hd : o.dst = some d) (hn : isDefer o.op = false)
    (hr : ∀ ρ w, Rd (kOf K0 V (R.S.getD c [])) ρ → MemOk C.w₀ L w → (execOp ρ o).run C.P w = .ok (.enter f args) w)
    (hc : ∀ w, MemOk C.w₀ L w → Calls C.P f args w fun e w' => ∃ x, Rr x e w w') (hR : ∀ x e w w', MemOk C.w₀ L w → Rr x e w w' → e = .returned (v x) ∧ MemOk C.w₀ (LN x) w') (hnew : ∀ x, newsOk R c (news x) = true)
    (h : ∀ x, (∃ e w w', Rr x e w w') → G C R Q K0 (lo ||| 2 ^ c) (news x ++ (c, v x) :: V) (LN x)) : LOb C R Q K0 lo V L c := by
  refine ⟨o, ho, hw, fun a w next hrd hm _ hnext => ?_⟩
  refine step_enter hn (hr _ _ hrd hm) (hc w hm) ?_
  rintro e w' ⟨x, hx⟩
  obtain ⟨rfl, hm'⟩ := hR x e w w' hm hx
  have hnw := hnew x
  simp only [newsOk, Bool.and_eq_true, Bool.not_eq_true'] at hnw
  exact hnext _ _ _ _ (.inl (lk_app _ _ _ hnw.2)) (extV _ _ _ hnw.1) hm' (h x ⟨_, _, _, hx⟩)
end
end Go.Proofs.Ytmihoejecpcmjaa
/- What a function hands over: its results, out of slots and of variables. Over any program. -/
namespace Go.Proofs.Ytmihoejecpcmjaa
open Go Go.RowKit
section
variable {P : Program} {w : World} {tmps : Array Value} {fn : Func}
def resF (tmps : Array Value) (r : ResultVar) : Sem Value := match r with | .tmp t => pure (tmps.getD t undef) | .cell a t => do loadVar t (← asAddr (tmps.getD a undef))
/-- A result is there. -/
def ResAt (P : Program) (w : World) (tmps : Array Value) (r : ResultVar) (v : Value) : Prop := (resF tmps r).run P w = .ok v w
theorem results_eq : results fn tmps = (do let vs ← fn.results.mapM (resF tmps); pure (if h : vs.size = 1 then vs[0] else .tuple vs)) := by
  unfold results
  congr 1
theorem res_tmp {t : Tmp} {v : Value} (h : tmps.getD t undef = v) : ResAt P w tmps (.tmp t) v := by subst h; rfl
theorem res_cell {a : Tmp} {t : TypeId} {v : Value} {ad : Addr} (h : tmps.getD a undef = .pointer (some ad)) (hl : (loadVar t ad).run P w = .ok v w) : ResAt P w tmps (.cell a t) v := by
  show (do loadVar t (← asAddr (tmps.getD a undef)) : Sem Value).run P w = _
  rw [h, run_bind_ok (a := ad) (w' := w) rfl]
  exact hl
theorem res1 {r : ResultVar} {v : Value} (h : fn.results = #[r]) (h1 : ResAt P w tmps r v) : (results fn tmps).run P w = .ok v w := by
  unfold ResAt at h1
  rw [results_eq, h]
  simp [h1]
theorem res2 {r s : ResultVar} {v u : Value} (h : fn.results = #[r, s]) (h1 : ResAt P w tmps r v) (h2 : ResAt P w tmps s u) : (results fn tmps).run P w = .ok (.tuple #[v, u]) w := by
  unfold ResAt at h1 h2
  rw [results_eq, h]
  simp [h1, h2]
theorem res3 {r s q : ResultVar} {v u x : Value} (h : fn.results = #[r, s, q]) (h1 : ResAt P w tmps r v) (h2 : ResAt P w tmps s u) (h3 : ResAt P w tmps q x) : (results fn tmps).run P w = .ok (.tuple #[v, u, x]) w := by
  unfold ResAt at h1 h2 h3
  rw [results_eq, h]
  simp [h1, h2, h3]
end

/-! ### small steps of printed proofs -/
section
variable {α : Type} {K r : List (Nat × α)} {t : Nat} {v : α}
theorem bnot_t {b : Bool} (h : (!b) = true) : b = false := by cases b <;> simp_all
theorem bnot_f {b : Bool} (h : (!b) = false) : b = true := by cases b <;> simp_all
theorem sub_nil : SubK K [] := trivial
theorem sub_cons (h : lk K t = some v) (hr : SubK K r) : SubK K ((t, v) :: r) := ⟨h, hr⟩
end
def AllM (p : Nat → Prop) : List Nat → Prop
  | [] => True
  | i :: r => p i ∧ AllM p r
theorem all_nil {p : Nat → Prop} : AllM p [] := trivial
theorem all_cons {p : Nat → Prop} {i : Nat} {r : List Nat} (h : p i) (hr : AllM p r) : AllM p (i :: r) := ⟨h, hr⟩
theorem allM {p : Nat → Prop} : ∀ {l : List Nat}, AllM p l → ∀ i ∈ l, p i
  | [], _, i, h => by cases h
  | j :: l, h, i, hi => by
    rcases List.mem_cons.1 hi with rfl | hi
    · exact h.1
    · exact allM h.2 i hi
section
variable {R : Rg} {K0 V r : List (Nat × Value)} {t : Nat} {v : Value}
theorem end_nil : EndOk R K0 V [] := trivial
theorem end_new (j : Nat) (hd : dstAt R.ops j = some t) (hv : lk V j = some v) (hr : EndOk R K0 V r) : EndOk R K0 V ((t, v) :: r) := ⟨.inl ⟨j, hd, hv⟩, hr⟩
theorem end_old (hn : (allUpto R.ops.size fun j => dstAt R.ops j != some t) = true) (hv : lk K0 t = some v) (hr : EndOk R K0 V r) : EndOk R K0 V ((t, v) :: r) := ⟨.inr ⟨hn, hv⟩, hr⟩
variable {C : Cx} {L : Heap}
theorem q_run {i : Nat} {o : Oper} (v : Value) (ho : R.ops[i]? = some o) (hV : lk V i = some v) (hw : WantV V o true) (hn : isDefer o.op = false) (hr : ∀ ρ w, Rd (kOf K0 V (R.S.getD i [])) ρ → MemOk C.w₀ L w → (execOp ρ o).run C.P w = .ok (.value v) w) : QOb C R K0 V L i :=
  ⟨o, v, ho, .inl hV, .inl ⟨hw, hn, hr⟩⟩
theorem q_no {i : Nat} {o : Oper} (ho : R.ops[i]? = some o) (hV : lk V i = some undef) (hw : WantV V o false) : QOb C R K0 V L i := ⟨o, undef, ho, .inl hV, .inr ⟨hw, rfl⟩⟩
theorem wv_n {o : Oper} (hg : o.guard = none) : WantV V o true := by unfold WantV; rw [hg]
theorem wv_y {o : Oper} {j : Nat} {b : Bool} (hg : o.guard = some (j, b)) (h : lk V j = some (.bool b)) : WantV V o true := by unfold WantV; rw [hg]; exact .inl ⟨rfl, h⟩
theorem wv_u {o : Oper} {j : Nat} {b : Bool} (hg : o.guard = some (j, b)) (h : lk V j = some undef) : WantV V o false := by unfold WantV; rw [hg]; exact .inr (.inr ⟨rfl, h⟩)
theorem wv_no {o : Oper} {j : Nat} {b : Bool} (hg : o.guard = some (j, b)) (h : lk V j = some (.bool !b)) : WantV V o false := by unfold WantV; rw [hg]; exact .inr (.inl ⟨rfl, h⟩)
theorem w_n {ops : Array Oper} {K : List (Nat × Value)} {o : Oper} (hg : o.guard = none) : Want ops K o true := by unfold Want; rw [hg]
end
section
variable {P : Program} {w : World} {ρ : Operand → Value} {d : Option Tmp} {ty : TypeId} {ps : String} {af : Array Edge} {g : Option (Nat × Bool)} {x y : Operand}
theorem r_build {t : TypeId} {pl : List (Nat × Operand)} {vs : List (Nat × Value)} {v : Value} (h : (Instr.build t vs.toArray).run P w = .ok v w) (hp : pl.map (fun p => (p.1, ρ p.2)) = vs) :
    (execOp ρ (mk d (.build t pl.toArray) ty ps af g)).run P w = .ok (.value v) w := by
  refine run_v ?_
  subst hp
  simpa using h
def notNil : Value → Bool
  | .pointer (some _) => true
  | .func (.func _) _ _ => true
  | _ => false
theorem r_nilCheck {v : Value} (hx : ρ x = v) (hv : notNil v = true) : (execOp ρ (mk d (.nilCheck x) ty ps af g)).run P w = .ok (.value v) w := by
  simp only [execOp, hx]
  unfold notNil at hv
  split at hv
  · rfl
  · rfl
  · cases hv
end
theorem quo_i64 {a b : Int} (ha : 0 ≤ a) (ha' : a ≤ 9223372036854775807) (hb : 0 < b) : IntKind.i64.wrap (a.tdiv b) = a / b := by
  have h1 : a.tdiv b = a / b := Int.tdiv_eq_ediv_of_nonneg ha
  have h2 : a / b ≤ a := Int.ediv_le_self b ha
  have h3 : 0 ≤ a / b := Int.ediv_nonneg ha (by omega)
  rw [h1, wrap64 (by omega) (by omega)]
theorem cons2 {α : Type} {a a' : α} {l l' : List α} (h : a = a') (k : l = l') : a :: l = a' :: l' := by rw [h, k]
theorem pair2 {β : Type} {i : Nat} {a a' : β} (h : a = a') : (i, a) = (i, a') := by rw [h]
theorem map_arr {α β : Type} {f : α → β} {l : List α} {r : List β} (h : l.map f = r) : l.toArray.map f = r.toArray := by subst h; simp
end Go.Proofs.Ytmihoejecpcmjaa
/- Slices: how they read, and append. Over any program. -/
namespace Go.Proofs.Ytmihoejecpcmjaa
open Go Go.RowKit

/-! ### rows of elements in an array of cells -/
/-- From cell off on lie the elements of l, of s cells each. -/
def Row {α : Type} (s : Nat) (f : α → List Value) (cs : Array Value) (off : Nat) (l : List α) : Prop :=
  ∀ i x, l[i]? = some x → off + i * s + s ≤ cs.size ∧ cs.extract (off + i * s) (off + i * s + s) = (f x).toArray
section
variable {α : Type} {s : Nat} {f : α → List Value} {cs : Array Value} {off : Nat} {l : List α}
theorem Row.cell (h : Row s f cs off l) {i : Nat} {x : α} (hx : l[i]? = some x) (j : Nat) {v : Value} (hv : (f x)[j]? = some v) : cs[off + i * s + j]? = some v := by
  obtain ⟨h1, h2⟩ := h i x hx
  have h3 : (cs.extract (off + i * s) (off + i * s + s))[j]? = some v := by rw [h2]; simpa using hv
  rw [Array.getElem?_extract] at h3
  split at h3
  · exact h3
  · cases h3
theorem Row.cell0 (h : Row s f cs off l) {i : Nat} {x : α} (hx : l[i]? = some x) {v : Value} (hv : (f x)[0]? = some v) : cs[off + i * s]? = some v := h.cell hx 0 hv
theorem Row.agg (h : Row s f cs off l) {i : Nat} {x : α} (hx : l[i]? = some x) : Nat.ble (off + i * s + s) cs.size = true ∧ cs.extract (off + i * s) (off + i * s + s) = (f x).toArray :=
  ⟨by rw [Nat.ble_eq]; exact (h i x hx).1, (h i x hx).2⟩
theorem Row.nil : Row s f cs off [] := fun i x hx => by simp at hx
theorem Row.sub (h : Row s f cs off l) (lo n : Nat) : Row s f cs (off + lo * s) ((l.drop lo).take n) := by
  intro i x hx
  rw [List.getElem?_take] at hx
  split at hx
  · rw [List.getElem?_drop] at hx
    have := h (lo + i) x hx
    rw [Nat.add_mul, ← Nat.add_assoc] at this
    exact this
  · cases hx
theorem Row.take (h : Row s f cs off l) (n : Nat) : Row s f cs off (l.take n) := by
  intro i x hx
  rw [List.getElem?_take] at hx
  split at hx
  · exact h i x hx
  · cases hx
theorem Row.tail {x : α} (h : Row s f cs off (x :: l)) : Row s f cs (off + s) l := by
  intro i y hy
  have := h (i + 1) y (by simpa using hy)
  rw [Nat.add_mul, Nat.one_mul] at this
  rw [show off + s + i * s = off + (i * s + s) by omega]
  exact this
/-- Cell by cell. -/
theorem Row.flat (hf : ∀ x, (f x).length = s) : ∀ {l : List α} {off : Nat}, Row s f cs off l → ∀ j u, (l.flatMap f)[j]? = some u → cs[off + j]? = some u
  | [], _, _, j, u, hu => by simp at hu
  | x :: l, off, h, j, u, hu => by
    rw [List.flatMap_cons] at hu
    by_cases hj : j < s
    · rw [List.getElem?_append_left (by rw [hf]; exact hj)] at hu
      have := h.cell (i := 0) (x := x) (by simp) j hu
      simpa using this
    · rw [List.getElem?_append_right (by rw [hf]; omega), hf] at hu
      have := Row.flat hf h.tail (j - s) u hu
      rwa [show off + s + (j - s) = off + j by omega] at this
theorem flat_length (hf : ∀ x, (f x).length = s) : ∀ (l : List α), (l.flatMap f).length = l.length * s
  | [] => by simp
  | x :: l => by rw [List.flatMap_cons, List.length_append, hf, flat_length hf l, List.length_cons, Nat.add_mul]; omega
theorem flat_drop (hf : ∀ x, (f x).length = s) : ∀ (l : List α) (i : Nat), (l.flatMap f).drop (i * s) = (l.drop i).flatMap f
  | [], i => by simp
  | x :: l, 0 => by simp
  | x :: l, i + 1 => by
    rw [List.flatMap_cons, List.drop_succ_cons, ← flat_drop hf l i, Nat.add_mul, Nat.one_mul, Nat.add_comm, ← List.drop_drop]
    congr 1
    rw [List.drop_left' (hf x)]
theorem row_of_take (hf : ∀ x, (f x).length = s) (h : cs.toList.take (l.length * s) = l.flatMap f) : Row s f cs 0 l := by
  intro i x hx
  have hi : i < l.length := (List.getElem?_eq_some_iff.1 hx).1
  have hlen := congrArg List.length h
  rw [flat_length hf, List.length_take] at hlen
  have hsz : cs.toList.length = cs.size := Array.length_toList
  have h1 : i * s + s ≤ l.length * s := by rw [← Nat.succ_mul]; exact Nat.mul_le_mul_right _ hi
  refine ⟨by omega, ?_⟩
  apply Array.ext'
  rw [Array.toList_extract, List.extract_eq_take_drop, Nat.zero_add, show i * s + s - i * s = s by omega]
  have h2 : (l.flatMap f).drop (i * s) = f x ++ (l.drop (i + 1)).flatMap f := by
    rw [flat_drop hf, List.drop_eq_getElem_cons hi, List.flatMap_cons]
    congr 2
    rw [List.getElem?_eq_getElem hi] at hx
    exact Option.some.inj hx
  rw [← h, List.drop_take] at h2
  have h3 := congrArg (List.take s) h2
  rw [List.take_take, List.take_left' (hf x), Nat.min_eq_left (by omega)] at h3
  simpa using h3
end

/-! ### slices -/
/-- The slice at a, of l.length elements and this capacity, reads as the list l. -/
def SliceAt {α : Type} (w : World) (a : Option Addr) (cap : Nat) (s : Nat) (f : α → List Value) (l : List α) : Prop :=
  l.length ≤ cap ∧ (a = none → cap = 0) ∧ (l = [] ∨ ∃ b off cs T fz, a = some ⟨b, off, none⟩ ∧ hp w b = some (.cells cs T fz) ∧ Row s f cs off l)
section
variable {α : Type} {s : Nat} {f : α → List Value} {l : List α} {w w' : World} {a : Option Addr} {cap : Nat}
theorem SliceAt.keep (h : SliceAt w a cap s f l) (hb : Below w.heap.size w w') : SliceAt w' a cap s f l := by
  refine ⟨h.1, h.2.1, ?_⟩
  rcases h.2.2 with h | ⟨b, off, cs, T, fz, h1, h2, h3⟩
  · exact .inl h
  · exact .inr ⟨b, off, cs, T, fz, h1, kept hb h2, h3⟩
theorem sliceNil (w : World) : SliceAt w none 0 s f ([] : List α) := ⟨Nat.le_refl _, fun _ => rfl, .inl rfl⟩
/-- Where an element is, there the slice lies. -/
theorem SliceAt.open (h : SliceAt w a cap s f l) {i : Nat} (hi : i < l.length) : ∃ b off cs T fz, a = some ⟨b, off, none⟩ ∧ hp w b = some (.cells cs T fz) ∧ Row s f cs off l := by
  rcases h.2.2 with rfl | h
  · simp at hi
  · exact h
theorem SliceAt.of_row {base n : Nat} {e : TypeId} {v : Value} {xs : List Value} (hf : ∀ x, (f x).length = s) (h : w.ownsRow base e s v n xs) (hn : n = l.length) (hx : xs = l.flatMap f) : ∃ a cap, v = .slice a l.length cap ∧ SliceAt w a cap s f l := by
  subst hn hx
  rcases h.2 with ⟨h1, h2⟩ | ⟨g, cap, cur, h1, h2, h3, h4, h5, h6, h7⟩
  · exact ⟨none, 0, by rw [h1, h2], by omega, fun _ => rfl, .inl (List.eq_nil_of_length_eq_zero h2)⟩
  · exact ⟨_, cap, h1, h4, (fun e => by cases e), .inr ⟨g, 0, cur, e, (0, 0), rfl, h3, row_of_take hf h7⟩⟩
theorem SliceAt.own {base n : Nat} {e : TypeId} {xs : List Value} (hf : ∀ x, (f x).length = s) (h : w.ownsRow base e s (.slice a n cap) n xs) (hn : n = l.length) (hx : xs = l.flatMap f) : SliceAt w a cap s f l := by
  obtain ⟨a', cap', h1, h2⟩ := SliceAt.of_row hf h hn hx
  cases h1
  exact h2
theorem row_form {base n : Nat} {e : TypeId} {s : Nat} {v : Value} {xs : List Value} (h : w.ownsRow base e s v n xs) : ∃ a cap, v = .slice a n cap := by
  rcases h.2 with ⟨h1, h2⟩ | ⟨g, cap, cur, h1, _⟩
  · exact ⟨none, 0, by rw [h1, h2]⟩
  · exact ⟨_, cap, h1⟩
theorem SliceAt.part (h : SliceAt w a cap s f l) {lo hi m : Nat} (h1 : lo ≤ hi) (h2 : hi ≤ l.length) (h3 : hi ≤ m) (h4 : m ≤ cap) : SliceAt w (if m = lo then a else a.map (·.add (lo * s))) (m - lo) s f ((l.drop lo).take (hi - lo)) := by
  have hlen : ((l.drop lo).take (hi - lo)).length = hi - lo := by rw [List.length_take, List.length_drop]; omega
  refine ⟨by omega, fun hn => ?_, ?_⟩
  · by_cases e : m = lo
    · omega
    · rw [if_neg e] at hn
      have := h.2.1 (by cases a with | none => rfl | some _ => cases hn)
      omega
  · by_cases e : hi = lo
    · left
      exact List.eq_nil_of_length_eq_zero (by omega)
    · obtain ⟨b, off, cs, T, fz, ha, hb, hr⟩ := h.open (i := lo) (by omega)
      right
      rw [if_neg (by omega), ha]
      exact ⟨b, off + lo * s, cs, T, fz, by simp only [Option.map_some, addr_add], hb, hr.sub lo _⟩
end
theorem slo_zero (m s n : Nat) (a : Option Addr) : (Value.slice (if m = 0 then a else a.map (·.add (0 * s))) (n - 0) (m - 0)) = .slice a n m := by
  have : (a.map (·.add (0 * s))) = a := by cases a <;> simp [Addr.add]
  rw [this]
  simp
theorem SliceAt.front {α : Type} {s : Nat} {f : α → List Value} {l : List α} {w : World} {a : Option Addr} {cap n m : Nat} (h : SliceAt w a cap s f l) (h1 : n ≤ l.length) (h2 : n ≤ m) (h3 : m ≤ cap) : SliceAt w a m s f (l.take n) := by
  have := h.part (lo := 0) (Nat.zero_le n) h1 h2 h3
  rw [Nat.sub_zero, Nat.sub_zero, List.drop_zero] at this
  have e : (a.map (·.add (0 * s))) = a := by cases a <;> simp [Addr.add]
  rwa [e, ite_self] at this
theorem minI (n k : Nat) : (if (k : Int) < (n : Int) then (k : Int) else (n : Int)) = ((min n k : Nat) : Int) := by
  split <;> omega
/-- What is appended: these cells, of m elements. -/
def Src (w : World) (v : Value) (s m : Nat) (news : List Value) : Prop :=
  (v = .slice none 0 0 ∧ m = 0 ∧ news = []) ∨ (∃ x cap, v = .slice (some x) 0 cap ∧ m = 0 ∧ news = []) ∨ ∃ b off cap, v = .slice (some ⟨b, off, none⟩) m cap ∧ news.length = m * s ∧ ∀ j u, news[j]? = some u → w.cell? ⟨b, off + j, none⟩ = some u
theorem src_of {α : Type} {s : Nat} {f : α → List Value} {l : List α} {w : World} {a : Option Addr} {cap : Nat} (hf : ∀ x, (f x).length = s) (h : SliceAt w a cap s f l) : Src w (.slice a l.length cap) s l.length (l.flatMap f) := by
  rcases h.2.2 with rfl | ⟨b, off, cs, T, fz, h1, h2, h3⟩
  · cases a with
    | none => exact .inl ⟨by rw [h.2.1 rfl]; rfl, rfl, rfl⟩
    | some x => exact .inr (.inl ⟨x, cap, rfl, rfl, rfl⟩)
  · exact .inr (.inr ⟨b, off, cap, by rw [h1], flat_length hf l, fun j u hu => cell_of h2 (h3.flat hf j u hu)⟩)
theorem src_blk {s m b cap : Nat} {w : World} {news : List Value} {T : TypeId} {fz : Nat × Nat} (h : hp w b = some (.cells news.toArray T fz)) (hl : news.length = m * s) : Src w (.slice (some ⟨b, 0, none⟩) m cap) s m news :=
  .inr <| .inr ⟨b, 0, cap, rfl, hl, fun j u hu => cell_of h (by simpa using hu)⟩
section
variable {P : Program} {w : World}
theorem run_appendX {w₀ : World} {L : Heap} (hm : MemOk w₀ L w) {t ty e : TypeId} {s by' n m : Nat} {z v v2 : Value} {xs news : List Value} (i : Nat) (ht : sliOf P t = some e) (hs : szOf P e = some s) (hby : byOf P e = some by') (hz : zeroOf P e = some z) (hzs : z.cells.size = s) (hsp : Nat.blt 0 s = true)
    (hdst : lk L i = some (.row v e s n xs) ∨ lk L i = none ∧ v = .slice none 0 0 ∧ n = 0 ∧ xs = []) (hsrc : Src w v2 s m news) (hone : ∀ u ∈ news, u.oneCell' = true) (h63 : n + m ≤ 4611686018427387904) (hb : (n + m) * by' ≤ 140737488355328) :
    ∃ a cap w', (Builtin.append_ #[t, t] ty #[v, v2]).run P w = .ok (.slice a (n + m) cap) w' ∧ MemOk w₀ ((i, .row (.slice a (n + m) cap) e s (n + m) (xs ++ news)) :: L) w' := by
  suffices hs : ∃ v' w', (Builtin.append_ #[t, t] ty #[v, v2]).run P w = .ok v' w' ∧ MemOk w₀ ((i, .row v' e s (n + m) (xs ++ news)) :: L) w' by
    obtain ⟨v', w', h1, h2⟩ := hs
    obtain ⟨a, cap, rfl⟩ := row_form (h2.row i (lk_cons_same _ _ _))
    exact ⟨a, cap, w', h1, h2⟩
  obtain ⟨ti, hi, hsz⟩ := Option.map_eq_some_iff.1 hs
  obtain ⟨ti', hi', hbz⟩ := Option.map_eq_some_iff.1 hby
  rw [hi] at hi'; cases hi'
  have hzz : ti.zero = some z := by simpa [zeroOf, hi] using hz
  have hsp' : 0 < s := by rw [Nat.blt_eq] at hsp; exact hsp
  have hown : w.ownsRow w₀.heap.size e s v n xs := by
    rcases hdst with h | ⟨_, rfl, rfl, rfl⟩
    · exact hm.row i h
    · exact World.ownsRow_nil _ _ _ _
  have hi2 : lk L i = some (.row v e s n xs) ∨ lk L i = none ∧ v.ownBlock = none := by
    rcases hdst with h | ⟨h, rfl, _, _⟩
    · exact .inl h
    · exact .inr ⟨h, rfl⟩
  rcases hsrc with ⟨rfl, rfl, rfl⟩ | ⟨x, cap, rfl, rfl, rfl⟩ | ⟨b, off, cap, rfl, hl, hcell⟩
  · have hr := run_append_owned_none (P := P) w w₀.heap.size t ty e ti s (und_sli ht) hi v n xs hown
    refine ⟨v, w, hr, hm.grow hi2 ⟨rfl, rfl, rfl, Nat.le_refl _, fun _ _ _ => rfl⟩ (by simpa using hown) (.inl rfl)⟩
  · obtain ⟨v', w', hr, hown', hg, _, hat⟩ := run_append_own_at (P := P) w w₀.heap.size t ty e ti z s by' (und_sli ht) hi hzz hsz hbz hzs hsp' v n xs hown x 0 cap [] (by simp)
      (fun j u hu => by simp at hu) (fun u hu => by cases hu) (by unfold Go.maxLen; omega) hb hm.ext.size
    exact ⟨v', w', hr, hm.grow hi2 hg hown' hat⟩
  · obtain ⟨v', w', hr, hown', hg, _, hat⟩ := run_append_own_at (P := P) w w₀.heap.size t ty e ti z s by' (und_sli ht) hi hzz hsz hbz hzs hsp' v n xs hown ⟨b, off, none⟩ m cap news hl
      (fun j u hu => by rw [addr_add]; exact hcell j u hu) hone (by unfold Go.maxLen; omega) hb hm.ext.size
    exact ⟨v', w', hr, hm.grow hi2 hg hown' hat⟩
end
section
variable {C : Cx} {ops : Array Oper} {os : List Oper} {Q : Post} {K : List (Nat × Value)} {L : Heap}
/-- append, onto a row of one's own (or nil). -/
theorem TL_append {d : Nat} {x y : Operand} {ats : Array TypeId} {ty : TypeId} {ps : String} {af : Array Edge} {g : Option (Nat × Bool)} {t e : TypeId} {s by' n m : Nat} {z v v2 : Value} {xs news : List Value} (i : Nat) (hx : ev K x = some v) (hy : ev K y = some v2) (hat : ats = #[t, t])
    (ht : sliOf C.P t = some e) (hs : szOf C.P e = some s) (hby : byOf C.P e = some by') (hz : zeroOf C.P e = some z) (hzs : z.cells.size = s) (hsp : Nat.blt 0 s = true)
    (hdst : lk L i = some (.row v e s n xs) ∨ lk L i = none ∧ v = .slice none 0 0 ∧ n = 0 ∧ xs = []) (hsrc : ∀ w, MemOk C.w₀ L w → Src w v2 s m news) (hone : ∀ u ∈ news, u.oneCell' = true) (h63 : n + m ≤ 4611686018427387904) (hb : (n + m) * by' ≤ 140737488355328)
    (hN : Nat.blt d C.N = true) (hw : Want ops K (mk (some d) (.call { callee := .builtin .append, args := #[x, y], argTypes := ats }) ty ps af g) true)
    (h : ∀ a cap, TL C ops os Q ((d, .slice a (n + m) cap) :: K) ((i, .row (.slice a (n + m) cap) e s (n + m) (xs ++ news)) :: L)) : TL C ops (mk (some d) (.call { callee := .builtin .append, args := #[x, y], argTypes := ats }) ty ps af g :: os) Q K L := by
  intro a w hf hm
  subst hat
  unfold wpListIn
  rw [hw.is hf, if_pos rfl]
  obtain ⟨a', cap', w', hr, hm'⟩ := run_appendX (P := C.P) (ty := ty) hm i ht hs hby hz hzs hsp hdst (hsrc w hm) hone h63 hb
  refine step_val (v := .slice a' (n + m) cap') (w' := w') rfl ?_ (h a' cap' _ _ (hf.put _ hN) hm')
  rw [run_builtin]
  simp only [List.map_toArray, List.map_cons, List.map_nil, hf.rd _ _ hx, hf.rd _ _ hy]
  exact run_v hr
end
section
variable {C : Cx} {R : Rg} {Q : Post} {K0 V : List (Nat × Value)} {lo : Nat} {L : Heap}
theorem LOb_append {c d : Nat} {x y : Operand} {ats : Array TypeId} {ty : TypeId} {ps : String} {af : Array Edge} {g : Option (Nat × Bool)} {t e : TypeId} {s by' n m : Nat} {z v v2 : Value} {xs news : List Value} (i : Nat) (nws : Option Addr → Nat → List (Nat × Value))
    (ho : R.ops[c]? = some (mk (some d) (.call { callee := .builtin .append, args := #[x, y], argTypes := ats }) ty ps af g)) (hw : WantV V (mk (some d) (.call { callee := .builtin .append, args := #[x, y], argTypes := ats }) ty ps af g) true)
    (hx : ev (kOf K0 V (R.S.getD c [])) x = some v) (hy : ev (kOf K0 V (R.S.getD c [])) y = some v2) (hat : ats = #[t, t])
    (ht : sliOf C.P t = some e) (hs : szOf C.P e = some s) (hby : byOf C.P e = some by') (hz : zeroOf C.P e = some z) (hzs : z.cells.size = s) (hsp : Nat.blt 0 s = true)
    (hdst : lk L i = some (.row v e s n xs) ∨ lk L i = none ∧ v = .slice none 0 0 ∧ n = 0 ∧ xs = []) (hsrc : ∀ w, MemOk C.w₀ L w → Src w v2 s m news) (hone : ∀ u ∈ news, u.oneCell' = true) (h63 : n + m ≤ 4611686018427387904) (hb : (n + m) * by' ≤ 140737488355328)
    (hnew : ∀ a cap, newsOk R c (nws a cap) = true) (h : ∀ a cap, G C R Q K0 (lo ||| 2 ^ c) (nws a cap ++ (c, .slice a (n + m) cap) :: V) ((i, .row (.slice a (n + m) cap) e s (n + m) (xs ++ news)) :: L)) : LOb C R Q K0 lo V L c := by
  subst hat
  refine ⟨_, ho, hw, fun a w next hrd hm _ hnext => ?_⟩
  obtain ⟨a', cap', w', hr, hm'⟩ := run_appendX (P := C.P) (ty := ty) hm i ht hs hby hz hzs hsp hdst (hsrc w hm) hone h63 hb
  refine step_val (v := .slice a' (n + m) cap') (w' := w') rfl ?_ ?_
  · rw [run_builtin]
    simp only [List.map_toArray, List.map_cons, List.map_nil, hrd _ _ hx, hrd _ _ hy]
    exact run_v hr
  · have hnw := hnew a' cap'
    simp only [newsOk, Bool.and_eq_true, Bool.not_eq_true'] at hnw
    exact hnext _ _ _ _ (.inl (lk_app _ _ _ hnw.2)) (extV _ _ _ hnw.1) hm' (h a' cap')
end

/-! ### reading elements, and parts of slices -/
section
variable {P : Program} {w : World} {ρ : Operand → Value} {d : Option Tmp} {ty : TypeId} {ps : String} {af : Array Edge} {g : Option (Nat × Bool)} {x y : Operand}
theorem r_loadRow {α : Type} {s : Nat} {f : α → List Value} {l : List α} {t : TypeId} {b off i : Nat} {cs : Array Value} {T : TypeId} {fz : Nat × Nat} {u : α} (ha : aggOf P t = some true) (hs : szOf P t = some s) (hx : ρ x = .pointer (some ⟨b, off + i * s, none⟩)) (hb : hp w b = some (.cells cs T fz))
    (hr : Row s f cs off l) (hu : l[i]? = some u) : (execOp ρ (mk d (.load t x) ty ps af g)).run P w = .ok (.value (.agg (f u).toArray)) w :=
  r_loadA ha hs hx hb (hr.agg hu).1 (hr.agg hu).2
theorem r_loadRow1 {α : Type} {f : α → List Value} {l : List α} {t : TypeId} {b off i s : Nat} {cs : Array Value} {T : TypeId} {fz : Nat × Nat} {u : α} {v : Value} (ha : aggOf P t = some false) (hx : ρ x = .pointer (some ⟨b, off + i * s, none⟩)) (hb : hp w b = some (.cells cs T fz))
    (hr : Row s f cs off l) (hu : l[i]? = some u) (hv : (f u)[0]? = some v) : (execOp ρ (mk d (.load t x) ty ps af g)).run P w = .ok (.value v) w :=
  r_load ha hx hb (hr.cell0 hu hv)
theorem r_loadRowJ {α : Type} {f : α → List Value} {l : List α} {t : TypeId} {b off i s : Nat} {cs : Array Value} {T : TypeId} {fz : Nat × Nat} {u : α} {v : Value} (j : Nat) (ha : aggOf P t = some false) (hx : ρ x = .pointer (some ⟨b, off + i * s + j, none⟩)) (hb : hp w b = some (.cells cs T fz))
    (hr : Row s f cs off l) (hu : l[i]? = some u) (hv : (f u)[j]? = some v) : (execOp ρ (mk d (.load t x) ty ps af g)).run P w = .ok (.value v) w :=
  r_load ha hx hb (hr.cell hu j hv)
theorem run_sliceBound {k : IntKind} {i y : Nat} {c : BoundsCode} (h : i ≤ y) : (Instr.sliceBound (.int k i) y c).run P w = .ok i w := by
  unfold Instr.sliceBound
  rw [run_bind_ok (a := (k, (i : Int))) (w' := w) rfl]
  simp only [if_pos (show 0 ≤ (i : Int) ∧ (i : Int) ≤ y from ⟨by omega, by omega⟩), Int.toNat_natCast]
  rfl
/-- s[lo:hi:mx], each of them there or not: what the bounds come to. -/
def Bd (ρ : Operand → Value) (o : Option Operand) (n dflt : Nat) : Prop := match o with | none => n = dflt | some x => ∃ k, ρ x = .int k n
theorem bd_none (ρ : Operand → Value) (n : Nat) : Bd ρ none n n := rfl
theorem bd_some {k : IntKind} {n d : Nat} (h : ρ x = .int k n) : Bd ρ (some x) n d := ⟨k, h⟩
theorem run_sliceBounds {isS : Bool} {len cap l h m : Nat} {lo hi mx : Option Operand} (hm : Bd ρ mx m cap) (hh : Bd ρ hi h len) (hl : Bd ρ lo l 0) (hmh : mx.isSome = true → hi.isSome = true) (h1 : l ≤ h) (h2 : h ≤ m) (h3 : m ≤ cap) :
    (Instr.sliceBounds isS len cap (lo.map ρ) (hi.map ρ) (mx.map ρ)).run P w = .ok (l, h, m) w := by
  unfold Instr.sliceBounds
  have b0 : ∀ {n : Nat} {β : Type} (k : Nat → Sem β), ((pure n : Sem Nat) >>= k).run P w = (k n).run P w := fun _ => rfl
  have b1 : ∀ {n y : Nat} {c : BoundsCode} {kk : IntKind} {β : Type} (k : Nat → Sem β), n ≤ y → (Instr.sliceBound (.int kk n) y c >>= k).run P w = (k n).run P w := fun k hn => run_bind_ok (run_sliceBound hn)
  cases mx with
  | none =>
    cases hm
    cases hi with
    | none =>
      cases hh
      cases lo with
      | none => cases hl; rfl
      | some x => obtain ⟨kk, hx⟩ := hl; dsimp only [Option.map_none, Option.map_some]; rw [hx, b0, b0, b1 _ h1]; rfl
    | some y =>
      obtain ⟨ky, hy⟩ := hh
      cases lo with
      | none => cases hl; dsimp only [Option.map_none, Option.map_some]; rw [hy, b0, b1 _ h2]; rfl
      | some x => obtain ⟨kk, hx⟩ := hl; dsimp only [Option.map_none, Option.map_some]; rw [hx, hy, b0, b1 _ h2, b1 _ h1]; rfl
  | some q =>
    obtain ⟨kq, hq⟩ := hm
    cases hi with
    | none => exact absurd (hmh rfl) (by simp)
    | some y =>
      obtain ⟨ky, hy⟩ := hh
      cases lo with
      | none => cases hl; dsimp only [Option.map_none, Option.map_some]; rw [hq, hy, b1 _ h3, b1 _ h2]; rfl
      | some x => obtain ⟨kk, hx⟩ := hl; dsimp only [Option.map_none, Option.map_some]; rw [hx, hq, hy, b1 _ h3, b1 _ h2, b1 _ h1]; rfl
theorem r_sliceS {t e : TypeId} {sz len cap l h m b off : Nat} {lo hi mx : Option Operand} (ht : sliOf P t = some e) (hs : szOf P e = some sz) (hx : ρ x = .slice (some ⟨b, off, none⟩) len cap) (hm : Bd ρ mx m cap) (hh : Bd ρ hi h len) (hl : Bd ρ lo l 0) (hmh : mx.isSome = true → hi.isSome = true) (h1 : l ≤ h) (h2 : h ≤ m) (h3 : m ≤ cap) :
    (execOp ρ (mk d (.slice t x lo hi mx) ty ps af g)).run P w = .ok (.value (.slice (some ⟨b, if m = l then off else off + l * sz, none⟩) (h - l) (m - l))) w := by
  refine run_v ?_
  rw [hx]
  unfold Instr.sliceAt
  rw [run_underlying (und_sli ht)]
  unfold Instr.slice
  rw [run_underlying (und_sli ht)]
  dsimp only
  rw [run_bind_ok (run_sliceBounds hm hh hl hmh h1 h2 h3)]
  dsimp only
  rw [run_bind_ok (run_sizeOf hs)]
  by_cases e : m = l
  · simp only [if_pos e, Option.map_some]; rfl
  · simp only [if_neg e, Option.map_some, addr_add]
    rfl
theorem r_sliceO {t e : TypeId} {sz len cap l h m : Nat} {a : Option Addr} {lo hi mx : Option Operand} (ht : sliOf P t = some e) (hs : szOf P e = some sz) (hx : ρ x = .slice a len cap) (hm : Bd ρ mx m cap) (hh : Bd ρ hi h len) (hl : Bd ρ lo l 0) (hmh : mx.isSome = true → hi.isSome = true) (h1 : l ≤ h) (h2 : h ≤ m) (h3 : m ≤ cap) :
    (execOp ρ (mk d (.slice t x lo hi mx) ty ps af g)).run P w = .ok (.value (.slice (if m = l then a else a.map (·.add (l * sz))) (h - l) (m - l))) w := by
  refine run_v ?_
  rw [hx]
  unfold Instr.sliceAt
  rw [run_underlying (und_sli ht)]
  unfold Instr.slice
  rw [run_underlying (und_sli ht)]
  dsimp only
  rw [run_bind_ok (run_sliceBounds hm hh hl hmh h1 h2 h3)]
  dsimp only
  rw [run_bind_ok (run_sizeOf hs)]
  rfl
/-- A slice made of its elements. -/
theorem r_buildSlice {t e : TypeId} {n : Nat} {pl : List (Nat × Operand)} {vs : List (Nat × Value)} {cs : Array Value} (h : (Instr.buildSlice t n vs.toArray).run P w = .ok (.slice (some ⟨w.heap.size, 0, none⟩) n n) (w.alloc (.cells cs e))) (hp : pl.map (fun p => (p.1, ρ p.2)) = vs) :
    (execOp ρ (mk d (.buildSlice t n pl.toArray) ty ps af g)).run P w = .ok (.value (.slice (some ⟨w.heap.size, 0, none⟩) n n)) (w.alloc (.cells cs e)) := by
  refine run_v ?_
  subst hp
  simpa using h
theorem r_neqB {t t' : TypeId} {a b : Bool} (hu : P.underlying t = some .bool) (hx : ρ x = .bool a) (hy : ρ y = .bool b) : (execOp ρ (mk d (.binOp .neq t x y t') ty ps af g)).run P w = .ok (.value (.bool (!(a == b)))) w := by
  refine r_bin (.inr (.inr (.inr ⟨_, rfl⟩))) hx hy ?_
  show (do pure (.bool (!(← Op.equal t (.bool a) (.bool b)))) : Sem Value).run P w = _
  rw [run_bind_ok (a := (a == b)) (w' := w)]
  · rfl
  · unfold Op.equal Op.maxDepth Op.equalIn
    rw [run_underlying hu]
    rfl
end
end Go.Proofs.Ytmihoejecpcmjaa
/- Calls whose answers lie in new memory; loops of a known number of rounds. Over any program. -/
namespace Go.Proofs.Ytmihoejecpcmjaa
open Go Go.RowKit

/-- These things are new in w'. -/
structure NewOk (w w' : World) (N : Heap) : Prop where
  own : ∀ i r, lk N i = some r → r.ok w.heap.size w'
  sep : ∀ i j r s, lk N i = some r → lk N j = some s → i ≠ j → ∀ b, r.foot b → ¬ s.foot b
theorem newOk1 {w w' : World} {r : Res} (i : Nat) (h : r.ok w.heap.size w') : NewOk w w' [(i, r)] := by
  refine ⟨fun j s hj => ?_, fun j k r1 s hj hk hne => ?_⟩
  · by_cases e : i = j
    · subst e; rw [lk_cons_same] at hj; cases hj; exact h
    · rw [lk_cons_other _ _ e] at hj; cases hj
  · by_cases e : i = j
    · subst e
      rw [lk_cons_other _ _ hne] at hk
      cases hk
    · rw [lk_cons_other _ _ e] at hj; cases hj
theorem newOk2 {w w' : World} {r s : Res} (i j : Nat) (h : r.ok w.heap.size w') (k : s.ok w.heap.size w') (hs : ∀ b, r.foot b → ¬ s.foot b) : NewOk w w' [(i, r), (j, s)] := by
  refine ⟨fun l q hl => ?_, fun l m r1 s1 hl hm hne => ?_⟩
  · by_cases e : i = l
    · subst e; rw [lk_cons_same] at hl; cases hl; exact h
    · rw [lk_cons_other _ _ e] at hl
      by_cases e2 : j = l
      · subst e2; rw [lk_cons_same] at hl; cases hl; exact k
      · rw [lk_cons_other _ _ e2] at hl; cases hl
  · by_cases e : i = l
    · subst e
      rw [lk_cons_same] at hl; cases hl
      rw [lk_cons_other _ _ hne] at hm
      by_cases e2 : j = m
      · subst e2; rw [lk_cons_same] at hm; cases hm; exact hs
      · rw [lk_cons_other _ _ e2] at hm; cases hm
    · rw [lk_cons_other _ _ e] at hl
      by_cases e2 : j = l
      · subst e2
        rw [lk_cons_same] at hl; cases hl
        by_cases e3 : i = m
        · subst e3; rw [lk_cons_same] at hm; cases hm; exact fun b hb hc => hs b hc hb
        · rw [lk_cons_other _ _ e3, lk_cons_other _ _ hne] at hm; cases hm
      · rw [lk_cons_other _ _ e2] at hl; cases hl
theorem lk_append {α : Type} : ∀ (N L : List (Nat × α)) (i : Nat), lk (N ++ L) i = match lk N i with | some r => some r | none => lk L i
  | [], L, i => rfl
  | (j, r) :: N, L, i => by
    by_cases e : j = i
    · subst e; rw [List.cons_append, lk_cons_same, lk_cons_same]
    · rw [List.cons_append, lk_cons_other _ _ e, lk_cons_other _ _ e, lk_append N L i]
theorem MemOk.news {w₀ w w' : World} {L N : Heap} (h : MemOk w₀ L w) (hb : Below w.heap.size w w') (hn : NewOk w w' N) : MemOk w₀ (N ++ L) w' := by
  have k := h.below hb
  have low : ∀ {r : Res} {b : Nat}, r.ok w.heap.size w' → r.foot b → w.heap.size ≤ b := fun hr hf => (Res.low hr hf).1
  have lift : ∀ {r : Res}, r.ok w.heap.size w' → r.ok w₀.heap.size w' := fun {r} hr => Res.lift hr h.ext.size
  refine ⟨k.ext, fun i r hi => ?_, fun i j r s hi hj hne b hf => ?_⟩
  · rw [lk_append] at hi
    cases hN : lk N i with
    | some q => rw [hN] at hi; cases hi; exact lift (hn.own i _ hN)
    | none => rw [hN] at hi; exact k.own i r hi
  · rw [lk_append] at hi hj
    cases hN : lk N i with
    | some q =>
      rw [hN] at hi; cases hi
      cases hM : lk N j with
      | some p => rw [hM] at hj; cases hj; exact hn.sep i j _ _ hN hM hne b hf
      | none =>
        rw [hM] at hj
        intro hs
        have h1 := low (hn.own i _ hN) hf
        have h2 := (Res.low (h.own j s hj) hs).2
        omega
    | none =>
      rw [hN] at hi
      cases hM : lk N j with
      | some p =>
        rw [hM] at hj; cases hj
        intro hs
        have h1 := low (hn.own j _ hM) hs
        have h2 := (Res.low (h.own i r hi) hf).2
        omega
      | none => rw [hM] at hj; exact h.sep i j r s hi hj hne b hf
/-- A block that a slice's value names is its row. -/
theorem MemOk.toRow {w₀ w : World} {L : Heap} (h : MemOk w₀ L w) (i : Nat) {b n cap s : Nat} {cs : Array Value} {e : TypeId} (hi : lk L i = some (.blk b (.cells cs e (0, 0)))) (hn : Nat.ble n cap = true) (hc : cap ≤ 4611686018427387904) (hs : cs.size = cap * s) (xs : List Value) (hx : cs.toList.take (n * s) = xs) :
    MemOk w₀ ((i, .row (.slice (some ⟨b, 0, none⟩) n cap) e s n xs) :: L) w := by
  have hb := h.own i _ hi
  have hn' := Nat.le_of_ble_eq_true hn
  refine h.set i _ h.ext ⟨?_, .inr ⟨b, cap, cs, rfl, hb.1, hb.2, hn', by unfold Go.maxLen; omega, hs, hx⟩⟩ (fun j r hl hne c hc' => ⟨rfl, fun ev => ?_⟩)
  · rw [← hx, List.length_take, Array.length_toList, hs, Nat.min_eq_left (Nat.mul_le_mul_right _ hn')]
  · cases ev
    exact h.sep j i r _ hl hi hne b hc' rfl
/-- nil owns its row. -/
theorem MemOk.nilRow {w₀ w : World} {L : Heap} (h : MemOk w₀ L w) (i : Nat) (e : TypeId) (s : Nat) : MemOk w₀ ((i, .row (.slice none 0 0) e s 0 []) :: L) w :=
  h.set i _ h.ext (World.ownsRow_nil _ _ _ _) (fun _ _ _ _ _ _ => ⟨rfl, fun e => by cases e⟩)
/-- A function answers one of a family, with new things in memory; all that was there is as it was. -/
def Ans {ι : Type} (p : ι → Prop) (v : ι → Value) (N : ι → Heap) (w : World) (e : Ending) (w' : World) : Prop := ∃ x, p x ∧ e = .returned (v x) ∧ Below w.heap.size w w' ∧ NewOk w w' (N x)
section
variable {C : Cx} {ops : Array Oper} {os : List Oper} {Q : Post} {K : List (Nat × Value)} {L : Heap} {o : Oper}
theorem TL_callN {ι : Type} {d f : Nat} {args : Array Value} (p : ι → Prop) (v : ι → Value) (N : ι → Heap) (hr : ∀ ρ w, Rd K ρ → MemOk C.w₀ L w → (execOp ρ o).run C.P w = .ok (.enter f args) w)
    (hc : ∀ w, MemOk C.w₀ L w → Calls C.P f args w (Ans p v N w))
    (hd : o.dst = some d) (hN : Nat.blt d C.N = true) (hn : isDefer o.op = false) (hw : Want ops K o true)
    (h : ∀ x, p x → TL C ops os Q ((d, v x) :: K) (N x ++ L)) : TL C ops (o :: os) Q K L := by
  intro a w hf hm
  unfold wpListIn
  rw [hw.is hf, if_pos rfl]
  refine step_enter hn (hr _ _ hf.rd hm) (hc w hm) ?_
  rintro e w' ⟨x, hx, rfl, hb, hnew⟩
  show wpListIn _ _ _ _ _ _ _ _
  rw [hd]
  exact h x hx _ _ (hf.put _ hN) (hm.news hb hnew)
end
section
variable {C : Cx} {R : Rg} {Q : Post} {K0 V : List (Nat × Value)} {lo : Nat} {L : Heap}
theorem LOb_callN {ι : Type} {c d f : Nat} {o : Oper} {args : Array Value} (p : ι → Prop) (v : ι → Value) (N : ι → Heap) (news : ι → List (Nat × Value)) (ho : R.ops[c]? = some o) (hw : WantV V o true) (hd : o.dst = some d) (hn : isDefer o.op = false)
    (hr : ∀ ρ w, Rd (kOf K0 V (R.S.getD c [])) ρ → MemOk C.w₀ L w → (execOp ρ o).run C.P w = .ok (.enter f args) w)
    (hc : ∀ w, MemOk C.w₀ L w → Calls C.P f args w (Ans p v N w)) (hnew : ∀ x, newsOk R c (news x) = true)
    (h : ∀ x, p x → G C R Q K0 (lo ||| 2 ^ c) (news x ++ (c, v x) :: V) (N x ++ L)) : LOb C R Q K0 lo V L c := by
  refine ⟨o, ho, hw, fun a w next hrd hm _ hnext => ?_⟩
  refine step_enter hn (hr _ _ hrd hm) (hc w hm) ?_
  rintro e w' ⟨x, hx, rfl, hb, hnw⟩
  have hnw2 := hnew x
  simp only [newsOk, Bool.and_eq_true, Bool.not_eq_true'] at hnw2
  exact hnext _ _ _ _ (.inl (lk_app _ _ _ hnw2.2)) (extV _ _ _ hnw2.1) (hm.news hb hnw) (h x hx)
end

/-! ### memory, told otherwise -/
section
variable {C : Cx} {Q : Post} {K : List (Nat × Value)} {L : Heap}
theorem T_mem {c : Code} (L' : Heap) (hL : ∀ w, MemOk C.w₀ L w → MemOk C.w₀ L' w) (h : T C c Q K L') : T C c Q K L := fun a w hf hm => h a w hf (hL w hm)
theorem TL_mem {ops : Array Oper} {os : List Oper} (L' : Heap) (hL : ∀ w, MemOk C.w₀ L w → MemOk C.w₀ L' w) (h : TL C ops os Q K L') : TL C ops os Q K L := fun a w hf hm => h a w hf (hL w hm)
theorem G_mem {R : Rg} {V : List (Nat × Value)} {lo : Nat} (L' : Heap) (hL : ∀ w, MemOk C.w₀ L w → MemOk C.w₀ L' w) (h : G C R Q K lo V L') : G C R Q K lo V L := fun hst listed a w hr hm => h hst listed a w hr (hL w hm)
end
/-! ### a row of one's own, read -/
theorem row_at {w : World} {base : Nat} {e : TypeId} {s n cap g : Nat} {xs : List Value} (h : w.ownsRow base e s (.slice (some ⟨g, 0, none⟩) n cap) n xs) : ∃ cur, hp w g = some (.cells cur e (0, 0)) ∧ cur.toList.take (n * s) = xs := by
  rcases h.2 with ⟨h1, _⟩ | ⟨g', cap', cur, h1, h2, h3, h4, h5, h6, h7⟩
  · cases h1
  · cases h1; exact ⟨cur, h3, h7⟩
section
variable {C : Cx} {Q : Post} {K : List (Nat × Value)} {L : Heap}
theorem T_row {c : Code} (i : Nat) {a : Option Addr} {n cap s : Nat} {e : TypeId} {xs : List Value} (hi : lk L i = some (.row (.slice a n cap) e s n xs)) (hn : 0 < n) (h : ∀ g, a = some ⟨g, 0, none⟩ → T C c Q K L) : T C c Q K L := by
  intro ac w hf hm
  rcases (hm.row i hi).2 with ⟨h1, h2⟩ | ⟨g, cap', cur, h1, _⟩
  · omega
  · cases h1; exact h g rfl ac w hf hm
theorem row_le {w : World} {base n s cap : Nat} {e : TypeId} {a : Option Addr} {xs : List Value} (h : w.ownsRow base e s (.slice a n cap) n xs) : n ≤ cap := by
  rcases h.2 with ⟨h1, h2⟩ | ⟨g', cap', cur, h1, h2, h3, h4, h5, h6, h7⟩
  · cases h1; omega
  · cases h1; exact h4
theorem T_rowcap {c : Code} (i : Nat) {a : Option Addr} {n cap s : Nat} {e : TypeId} {xs : List Value} (hi : lk L i = some (.row (.slice a n cap) e s n xs)) (h : n ≤ cap → T C c Q K L) : T C c Q K L := fun ac w hf hm =>
  h (row_le (hm.row i hi)) ac w hf hm
variable {P : Program} {w : World} {ρ : Operand → Value} {d : Option Tmp} {ty : TypeId} {ps : String} {af : Array Edge} {gd : Option (Nat × Bool)} {x : Operand}
theorem r_loadOwn {α : Type} {s : Nat} {f : α → List Value} {l : List α} {t e : TypeId} {g i cap base n : Nat} {u : α} {xs : List Value} (ha : aggOf P t = some true) (hs : szOf P t = some s) (hx : ρ x = .pointer (some ⟨g, 0 + i * s, none⟩)) (hr : w.ownsRow base e s (.slice (some ⟨g, 0, none⟩) n cap) n xs)
    (hn : n = l.length) (hxs : xs = l.flatMap f) (hf : ∀ x, (f x).length = s) (hu : l[i]? = some u) : (execOp ρ (mk d (.load t x) ty ps af gd)).run P w = .ok (.value (.agg (f u).toArray)) w := by
  subst hn hxs
  obtain ⟨cur, h1, h2⟩ := row_at hr
  exact r_loadRow ha hs hx h1 (row_of_take hf h2) hu
theorem r_loadOwn1 {α : Type} {s : Nat} {f : α → List Value} {l : List α} {t e : TypeId} {g i cap base n : Nat} {u : α} {xs : List Value} {v : Value} (ha : aggOf P t = some false) (hx : ρ x = .pointer (some ⟨g, 0 + i * s, none⟩)) (hr : w.ownsRow base e s (.slice (some ⟨g, 0, none⟩) n cap) n xs)
    (hn : n = l.length) (hxs : xs = l.flatMap f) (hf : ∀ x, (f x).length = s) (hu : l[i]? = some u) (hv : (f u)[0]? = some v) : (execOp ρ (mk d (.load t x) ty ps af gd)).run P w = .ok (.value v) w := by
  subst hn hxs
  obtain ⟨cur, h1, h2⟩ := row_at hr
  exact r_loadRow1 ha hx h1 (row_of_take hf h2) hu hv
end
/-! ### a loop that is walked round by round -/
def TR (C : Cx) (m : Nat) (c : Code) (Q : Post) (K : List (Nat × Value)) (L : Heap) : Prop := ∀ a w, FrOk C.N C.D K a → MemOk C.w₀ L w → Code.roundsIn (FW C.ro) 0 C.P c Q m a w
abbrev Rest (C : Cx) (m : Nat) (c : Code) (Q : Post) : Post := Exit.then (Code.roundsIn (FW C.ro) 0 C.P c Q m) Q
section
variable {C : Cx} {Q : Post} {K : List (Nat × Value)} {L : Heap} {c : Code}
theorem T_rounds (m : Nat) (h : TR C m c Q K L) : T C (.loop c) Q K L := fun a w hf hm => wpIn_loop_rounds m (h a w hf hm)
theorem TR_succ {m : Nat} (h : T C c (Rest C m c Q) K L) : TR C (m + 1) c Q K L := fun a w hf hm => h a w hf hm
theorem p_round {m : Nat} (h : TR C m c Q K L) : POk C (Rest C m c Q) .normal K L := fun a w hf hm => h a w hf hm
end
end Go.Proofs.Ytmihoejecpcmjaa
/- Comparing: slices and pointers with nil, and what is made of plain cells. Over any program. -/
namespace Go.Proofs.Ytmihoejecpcmjaa
open Go Go.RowKit
section
variable {P : Program} {w : World} {ρ : Operand → Value} {d : Option Tmp} {ty : TypeId} {ps : String} {af : Array Edge} {g : Option (Nat × Bool)} {x y : Operand}
theorem run_eqv {op : BinOp} {t t' : TypeId} {a b : Value} {r : Bool} (hg : (eqGuard op t x y a b).run P w = .ok () w) (hx : ρ x = a) (hy : ρ y = b) (h : (binOp op t a b).run P w = .ok (.bool r) w) :
    (execOp ρ (mk d (.binOp op t x y t') ty ps af g)).run P w = .ok (.value (.bool r)) w := by
  refine run_v ?_
  show (do eqGuard op t x y (ρ x) (ρ y); binOp op t (ρ x) (ρ y) : Sem Value).run P w = _
  rw [hx, hy, run_bind_ok hg]
  exact h
theorem run_eql {t : TypeId} {a b : Value} {r : Bool} (h : (Op.equal t a b).run P w = .ok r w) : (do pure (.bool (← Op.equal t a b)) : Sem Value).run P w = .ok (.bool r) w := by rw [run_bind_ok h]; rfl
theorem run_neq {t : TypeId} {a b : Value} {r : Bool} (h : (Op.equal t a b).run P w = .ok r w) : (do pure (.bool (!(← Op.equal t a b))) : Sem Value).run P w = .ok (.bool !r) w := by rw [run_bind_ok h]; rfl
theorem run_eqS {t e : TypeId} {a : Option Addr} {n c : Nat} (ht : sliOf P t = some e) : (Op.equal t (.slice a n c) (.slice none 0 0)).run P w = .ok a.isNone w := by
  unfold Op.equal Op.maxDepth Op.equalIn
  rw [run_underlying (und_sli ht)]
  cases a <;> rfl
theorem r_eqlSn {t t' e : TypeId} {a : Option Addr} {n c : Nat} (ht : sliOf P t = some e) (hx : ρ x = .slice a n c) (hy : ρ y = .slice none 0 0) : (execOp ρ (mk d (.binOp .eql t x y t') ty ps af g)).run P w = .ok (.value (.bool a.isNone)) w :=
  run_eqv (a := .slice a n c) (b := .slice none 0 0) rfl hx hy (run_eql (run_eqS ht))
/-- What is made of cells. -/
theorem guardA {op : BinOp} {t : TypeId} {xs ys : Array Value} (hg : P.eqGuardType P.depth t = false) : (eqGuard op t x y (.agg xs) (.agg ys)).run P w = .ok () w := by
  unfold eqGuard
  cases op <;> first | rfl | (simp only [Bool.not_true, Bool.false_eq_true, if_false]; rw [run_bind_ok (a := ()) (w' := w) rfl, run_bind_ok (a := P) (w' := w) rfl]; simp only [hg]; rfl) | skip
  all_goals
    simp [program, hg, bind, Sem.bind, Sem.run, pure]
theorem r_eqlA {t t' : TypeId} {xs ys : Array Value} {r : Bool} (hg : P.eqGuardType P.depth t = false) (hx : ρ x = .agg xs) (hy : ρ y = .agg ys) (h : (Op.equal t (.agg xs) (.agg ys)).run P w = .ok r w) :
    (execOp ρ (mk d (.binOp .eql t x y t') ty ps af g)).run P w = .ok (.value (.bool r)) w := run_eqv (guardA hg) hx hy (run_eql h)
theorem r_neqA {t t' : TypeId} {xs ys : Array Value} {r : Bool} (hg : P.eqGuardType P.depth t = false) (hx : ρ x = .agg xs) (hy : ρ y = .agg ys) (h : (Op.equal t (.agg xs) (.agg ys)).run P w = .ok r w) :
    (execOp ρ (mk d (.binOp .neq t x y t') ty ps af g)).run P w = .ok (.value (.bool !r)) w := run_eqv (guardA hg) hx hy (run_neq h)
end

/-! ### what is made of integers alone -/
/-- A loop that stops at the first 'no'. -/
theorem run_forAll {P : Program} {w : World} {α : Type} (f : α → Sem (ForInStep (Option Bool × Unit))) (p : α → Bool) : ∀ (l : List α), (∀ a ∈ l, (f a).run P w = .ok (if p a then .yield (none, ()) else .done (some false, ())) w) →
    (forIn l ((none, ()) : Option Bool × Unit) (fun a _ => f a)).run P w = .ok (if l.all p then (none, ()) else (some false, ())) w
  | [], _ => rfl
  | a :: l, h => by
    rw [List.forIn_cons, run_bind_ok (h a (by simp))]
    cases hp : p a with
    | true =>
      simp only [if_true, List.all_cons, hp, Bool.true_and]
      exact run_forAll f p l (fun b hb => h b (by simp [hb]))
    | false => simp [List.all_cons, hp, pure, Sem.run]
section
variable {P : Program} {w : World}
theorem run_eqStruct {d : Nat} {t : TypeId} {fs : Array Field} {xs ys : Array Value} (p : Field → Bool) (hu : P.underlying t = some (.struct fs)) (hs : P.stoodInHeld t = false)
    (hf : ∀ f ∈ fs.toList, f.name ≠ "_" ∧ ∃ u v, (part f.type xs f.offset).run P w = .ok u w ∧ (part f.type ys f.offset).run P w = .ok v w ∧ (Op.equalIn d f.type u v).run P w = .ok (p f) w) :
    (Op.equalIn (d + 1) t (.agg xs) (.agg ys)).run P w = .ok (fs.toList.all p) w := by
  unfold Op.equalIn
  rw [run_underlying hu]
  dsimp only
  rw [run_bind_ok (a := P) (w' := w) rfl]
  simp only [hs, Bool.false_eq_true, if_false]
  rw [← Array.forIn_toList]
  rw [run_bind_ok (run_forAll _ p fs.toList ?_)]
  · cases fs.toList.all p <;> rfl
  · intro f hfm
    obtain ⟨hn, u, v, h1, h2, h3⟩ := hf f hfm
    simp only [ne_eq, hn, not_false_eq_true, if_true]
    rw [run_bind_ok h1, run_bind_ok h2, run_bind_ok h3]
    cases p f <;> rfl
theorem run_eqArr {d n s : Nat} {t e : TypeId} {xs ys : Array Value} (p : Nat → Bool) (hu : arrOf P t = some (n, e)) (hs : szOf P e = some s)
    (hf : ∀ i, i < n → ∃ u v, (part e xs (i * s)).run P w = .ok u w ∧ (part e ys (i * s)).run P w = .ok v w ∧ (Op.equalIn d e u v).run P w = .ok (p i) w) :
    (Op.equalIn (d + 1) t (.agg xs) (.agg ys)).run P w = .ok ((List.range n).all p) w := by
  unfold Op.equalIn
  rw [run_underlying (und_arr hu)]
  dsimp only
  rw [run_bind_ok (run_sizeOf hs)]
  rw [Std.Legacy.Range.forIn_eq_forIn_range']
  have e1 : List.range' (Std.Legacy.Range.mk 0 n 1 Nat.zero_lt_one).start (Std.Legacy.Range.mk 0 n 1 Nat.zero_lt_one).size (Std.Legacy.Range.mk 0 n 1 Nat.zero_lt_one).step = List.range n := by
    simp [Std.Legacy.Range.size, List.range_eq_range']
  rw [e1, run_bind_ok (run_forAll _ p (List.range n) ?_)]
  · cases (List.range n).all p <;> rfl
  · intro i hi
    obtain ⟨u, v, h1, h2, h3⟩ := hf i (List.mem_range.1 hi)
    rw [run_bind_ok h1, run_bind_ok h2, run_bind_ok h3]
    cases p i <;> rfl
/-- A struct of integers: where they lie, and their kinds. -/
def intStr (P : Program) (t : TypeId) : Option (List (Nat × IntKind)) :=
  if P.stoodInHeld t then none else
  match P.underlying t with
  | some (.struct fs) => fs.toList.foldr (fun f acc => match acc, intOf? P f.type with | some l, some k => if f.name == "_" then none else some ((f.offset, k) :: l) | _, _ => none) (some [])
  | _ => none
def intAt (cs : Array Value) (o : Nat) : Int := match cs[o]? with | some (.int _ n) => n | _ => 0
def fitI (cs : Array Value) : List (Nat × IntKind) → Bool
  | [] => true
  | (o, k) :: r => (match cs[o]? with | some (.int k' _) => decide (k' = k) | _ => false) && fitI cs r
def eqI (xs ys : Array Value) : List (Nat × IntKind) → Bool
  | [] => true
  | (o, _) :: r => decide (intAt xs o = intAt ys o) && eqI xs ys r
theorem eqI_self (xs : Array Value) : ∀ (l : List (Nat × IntKind)), eqI xs xs l = true
  | [] => rfl
  | (o, k) :: r => by simp [eqI, eqI_self xs r]
theorem fit_at {cs : Array Value} : ∀ {l : List (Nat × IntKind)}, fitI cs l = true → ∀ o k, (o, k) ∈ l → cs[o]? = some (.int k (intAt cs o))
  | [], _, _, _, h => by cases h
  | (o', k') :: r, h, o, k, hm => by
    simp only [fitI, Bool.and_eq_true] at h
    rcases List.mem_cons.1 hm with e | hm
    · cases e
      have h1 := h.1
      unfold intAt
      split at h1
      · rename_i k2 n hc
        have : k2 = k' := by simpa using h1
        subst this
        simp only [hc]
      · cases h1
    · exact fit_at h.2 o k hm
theorem intStr_spec {t : TypeId} {l : List (Nat × IntKind)} (h : intStr P t = some l) : P.stoodInHeld t = false ∧ ∃ fs : Array Field, P.underlying t = some (.struct fs) ∧
    (∀ xs ys : Array Value, eqI xs ys l = fs.toList.all fun f => decide (intAt xs f.offset = intAt ys f.offset)) ∧ ∀ f ∈ fs.toList, f.name ≠ "_" ∧ ∃ k, intOf? P f.type = some k ∧ (f.offset, k) ∈ l := by
  unfold intStr at h
  split at h
  · cases h
  · rename_i hs
    refine ⟨by simpa using hs, ?_⟩
    split at h
    · rename_i fs hfs
      refine ⟨fs, hfs, ?_⟩
      generalize fs.toList = fl at h
      clear hfs
      induction fl generalizing l with
      | nil => cases h; exact ⟨fun _ _ => rfl, fun f hf => by cases hf⟩
      | cons f fl ih =>
        rw [List.foldr_cons] at h
        split at h
        · rename_i l' k hl' hk
          split at h
          · cases h
          · rename_i hn
            cases h
            obtain ⟨h1, h2⟩ := ih hl'
            refine ⟨fun xs ys => by simp only [eqI, List.all_cons, h1], fun f' hf' => ?_⟩
            rcases List.mem_cons.1 hf' with e | hf'
            · subst e
              exact ⟨by simpa using hn, k, hk, by simp⟩
            · obtain ⟨h3, k', h4, h5⟩ := h2 f' hf'
              exact ⟨h3, k', h4, by simp [h5]⟩
        · cases h
    · cases h
theorem run_eqIntS {d : Nat} {t : TypeId} {l : List (Nat × IntKind)} {xs ys : Array Value} (h : intStr P t = some l) (hx : fitI xs l = true) (hy : fitI ys l = true) : (Op.equalIn (d + 2) t (.agg xs) (.agg ys)).run P w = .ok (eqI xs ys l) w := by
  obtain ⟨hs, fs, hu, he, hf⟩ := intStr_spec h
  rw [he]
  refine run_eqStruct (fun f => decide (intAt xs f.offset = intAt ys f.offset)) hu hs ?_
  intro f hfm
  obtain ⟨hn, k, hk, hm⟩ := hf f hfm
  have ha : aggOf P f.type = some false := by simp only [aggOf, und_int hk, Option.map_some]
  refine ⟨hn, _, _, run_part_one ha (fit_at hx _ _ hm), run_part_one ha (fit_at hy _ _ hm), ?_⟩
  unfold Op.equalIn
  rw [run_underlying (und_int hk)]
  simp only [if_true]
  rfl
theorem run_equalI {t : TypeId} {l : List (Nat × IntKind)} {xs ys : Array Value} (h : intStr P t = some l) (hx : fitI xs l = true) (hy : fitI ys l = true) : (Op.equal t (.agg xs) (.agg ys)).run P w = .ok (eqI xs ys l) w := run_eqIntS h hx hy
end
end Go.Proofs.Ytmihoejecpcmjaa
/- Arguments, read: what a type's cells are, and slices of them. Over any program. -/
namespace Go.Proofs.Ytmihoejecpcmjaa
open Go Go.RowKit Go.ChangeShapes Go.WideShapes Go.Deep

/-- Cells that are read at this type are those of some x. -/
def Rds (P : Program) (t : TypeId) {α : Type} (f : α → List Value) (ok : α → Prop) : Prop :=
  ∀ (H : Type) (enc : TypeId × Value → H) (w : World) (base : Nat) (spare : Nat → Bool) (held : Bool) (fuel : Nat) (cs : List Value) (x : DataW H × List MemPlace), DataW.trod enc P w base spare held fuel t cs = some x → ∃ a, cs = f a ∧ ok a
section
variable {P : Program} {t : TypeId}
theorem rds_int {k : IntKind} (h : intOf? P t = some k) : Rds P t (fun n : Int => [.int k n]) (fun n => (Lit.int k n).wf = true) := by
  intro H enc w base spare held fuel cs x hx
  obtain ⟨n, h1, _, h2⟩ := DataW.trod_int (und_int h) hx
  exact ⟨n, h1, h2⟩
theorem Rds.map {α β : Type} {f : α → List Value} {ok : α → Prop} (h : Rds P t f ok) (g : α → β) {f' : β → List Value} {ok' : β → Prop} (hf : ∀ a, f a = f' (g a)) (ho : ∀ a, ok a → ok' (g a)) : Rds P t f' ok' := by
  intro H enc w base spare held fuel cs x hx
  obtain ⟨a, h1, h2⟩ := h H enc w base spare held fuel cs x hx
  exact ⟨g a, by rw [h1, hf], ho a h2⟩
theorem cellsOf_sz {n : Nat} (h : szOf P t = some n) : P.cellsOf t = n := by
  unfold szOf at h
  simp [Program.cellsOf, h]
/-- The part of the cells that a field takes. -/
theorem rds_field {i off n : Nat} {ft : TypeId} {α : Type} {f : α → List Value} {ok : α → Prop} (hfl : fldOf P t i = some (ft, off)) (hs : szOf P ft = some n) (h : Rds P ft f ok)
    {H : Type} {enc : TypeId × Value → H} {w : World} {base : Nat} {spare : Nat → Bool} {held : Bool} {fuel : Nat} {cs : List Value} {x : DataW H × List MemPlace} (hx : DataW.trod enc P w base spare held fuel t cs = some x) :
    ∃ a, (cs.drop off).take n = f a ∧ ok a := by
  obtain ⟨fs, hu, fl, hfi, rfl, rfl⟩ := und_fld hfl
  obtain ⟨xs, m, _, _, _, hlen, hg⟩ := DataW.trod_struct hu hx
  have hi := hg i fl hfi
  have hil : i < fs.size := (Array.getElem?_eq_some_iff.1 hfi).1
  rw [cellsOf_sz hs, List.getElem?_eq_getElem (by omega)] at hi
  exact h _ enc w base spare held m _ _ hi
theorem rds_len {n i : Nat} {ft : TypeId} {off : Nat} (hfl : fldOf P t i = some (ft, off)) (hs : szOf P t = some n)
    {H : Type} {enc : TypeId × Value → H} {w : World} {base : Nat} {spare : Nat → Bool} {held : Bool} {fuel : Nat} {cs : List Value} {x : DataW H × List MemPlace} (hx : DataW.trod enc P w base spare held fuel t cs = some x) : cs.length = n := by
  obtain ⟨fs, hu, fl, hfi, rfl, rfl⟩ := und_fld hfl
  obtain ⟨xs, m, _, _, hl, _, _⟩ := DataW.trod_struct hu hx
  rw [hl, cellsOf_sz hs]
theorem rds3 {t0 t1 t2 : TypeId} {s0 s1 s2 : Nat} {α β γ : Type} {f0 : α → List Value} {f1 : β → List Value} {f2 : γ → List Value} {o0 : α → Prop} {o1 : β → Prop} {o2 : γ → Prop} (h0 : fldOf P t 0 = some (t0, 0)) (h1 : fldOf P t 1 = some (t1, s0)) (h2 : fldOf P t 2 = some (t2, s0 + s1)) (z0 : szOf P t0 = some s0) (z1 : szOf P t1 = some s1) (z2 : szOf P t2 = some s2)
    (z : szOf P t = some (s0 + s1 + s2)) (r0 : Rds P t0 f0 o0) (r1 : Rds P t1 f1 o1) (r2 : Rds P t2 f2 o2) : Rds P t (fun p : α × β × γ => f0 p.1 ++ (f1 p.2.1 ++ f2 p.2.2)) (fun p => o0 p.1 ∧ o1 p.2.1 ∧ o2 p.2.2) := by
  intro H enc w base spare held fuel cs x hx
  obtain ⟨a, ha, oa⟩ := rds_field h0 z0 r0 hx
  obtain ⟨b, hb, ob⟩ := rds_field h1 z1 r1 hx
  obtain ⟨c, hc, oc⟩ := rds_field h2 z2 r2 hx
  have hl := rds_len h0 z hx
  refine ⟨(a, b, c), ?_, oa, ob, oc⟩
  show cs = f0 a ++ (f1 b ++ f2 c)
  rw [← ha, ← hb, ← hc, List.drop_zero]
  rw [List.take_of_length_le (l := cs.drop (s0 + s1)) (by rw [List.length_drop]; omega), ← List.drop_drop, List.take_append_drop, List.take_append_drop]
/-- One for each of the first n. -/
theorem list_of {α : Type} {p : Nat → α → Prop} : ∀ (n : Nat), (∀ i, i < n → ∃ x, p i x) → ∃ l : List α, l.length = n ∧ ∀ i x, l[i]? = some x → p i x
  | 0, _ => ⟨[], rfl, fun i x h => by simp at h⟩
  | n + 1, h => by
    obtain ⟨l, hl, hp⟩ := list_of n (fun i hi => h i (by omega))
    obtain ⟨x, hx⟩ := h n (by omega)
    refine ⟨l ++ [x], by simp [hl], fun i y hy => ?_⟩
    by_cases hi : i < n
    · rw [List.getElem?_append_left (by omega)] at hy; exact hp i y hy
    · rw [List.getElem?_append_right (by omega)] at hy
      have : i - l.length = 0 := by
        have := (List.getElem?_eq_some_iff.1 hy).1
        simpa using this
      rw [this] at hy
      simp at hy
      subst hy
      rw [show i = n by omega]
      exact hx
end
section
variable {P : Program} {w : World} {r : Reach} {b0 : Nat} {t : TypeId} {v : Value} {H : Type} {enc : TypeId × Value → H} {base : Nat} {spare : Nat → Bool} {held : Bool} {d : DataW H} {ps : List MemPlace}
end
end Go.Proofs.Ytmihoejecpcmjaa
/- Calls that write memory of one's own; a range over a function. Over any program. -/
namespace Go.Proofs.Ytmihoejecpcmjaa
open Go Go.RowKit

theorem MemOk.putObj {w₀ w : World} {L : Heap} (h : MemOk w₀ L w) {i b : Nat} {o : Obj} (o' : Obj) (hi : lk L i = some (.blk b o)) : MemOk w₀ ((i, .blk b o') :: L) (w.putObj b o') :=
  h.upd hi ⟨rfl, rfl, rfl, by simp, World.putObj_heap_same (hp_lt (h.own i _ hi).2), fun k hk => hp_putObj _ _ _ hk⟩

/-- A function answers one of a family, and leaves memory in one of a family. -/
def HAns (w₀ : World) {ι : Type} (p : ι → Prop) (v : ι → Value) (LJ : ι → Heap) (e : Ending) (w' : World) : Prop := ∃ x, p x ∧ e = .returned (v x) ∧ MemOk w₀ (LJ x) w'
/-- A function's contract, told by what is known of memory. -/
theorem ht_of_T {P : Program} {f : FuncId} {fn : Func} {c : Code} {l : List Value} {w₀ : World} {L : Heap} {R : Ending → World → Prop} (N : Nat) (hf : P.funcs[f]? = some fn) (hN : fn.ntmps = N) (hn : Nat.ble l.length N = true) (hb : fn.body = some c)
    (h : T ⟨P, w₀, N, [], none⟩ c (bodyM P fn R) (argsK 0 l) L) : ∀ w, MemOk w₀ L w → Calls P f l.toArray w R := by
  intro w hm
  subst hN
  replace hn := Nat.le_of_ble_eq_true hn
  refine calls_of_marks hf hb (wpIn_wide.1 (h _ w ?_ hm))
  refine lk_args (by simpa using hn) _ (fun t v ht => ?_)
  obtain ⟨_, h2⟩ := argsK_lk l 0 t v ht
  simpa using h2
section
variable {C : Cx} {ops : Array Oper} {os : List Oper} {Q : Post} {K : List (Nat × Value)} {L : Heap} {o : Oper}
theorem TL_callH {ι : Type} {d f : Nat} {args : Array Value} (p : ι → Prop) (v : ι → Value) (LJ : ι → Heap) (hr : ∀ ρ w, Rd K ρ → MemOk C.w₀ L w → (execOp ρ o).run C.P w = .ok (.enter f args) w)
    (hc : ∀ w, MemOk C.w₀ L w → Calls C.P f args w (HAns C.w₀ p v LJ))
    (hd : o.dst = some d) (hN : Nat.blt d C.N = true) (hn : isDefer o.op = false) (hw : Want ops K o true)
    (h : ∀ x, p x → TL C ops os Q ((d, v x) :: K) (LJ x)) : TL C ops (o :: os) Q K L := by
  intro a w hf hm
  unfold wpListIn
  rw [hw.is hf, if_pos rfl]
  refine step_enter hn (hr _ _ hf.rd hm) (hc w hm) ?_
  rintro e w' ⟨x, hx, rfl, hm'⟩
  show wpListIn _ _ _ _ _ _ _ _
  rw [hd]
  exact h x hx _ _ (hf.put _ hN) hm'
end
section
variable {C : Cx} {R : Rg} {Q : Post} {K0 V : List (Nat × Value)} {lo : Nat} {L : Heap}
theorem LOb_callH {ι : Type} {c d f : Nat} {o : Oper} {args : Array Value} (p : ι → Prop) (v : ι → Value) (LJ : ι → Heap) (news : ι → List (Nat × Value)) (ho : R.ops[c]? = some o) (hw : WantV V o true) (hd : o.dst = some d) (hn : isDefer o.op = false)
    (hr : ∀ ρ w, Rd (kOf K0 V (R.S.getD c [])) ρ → MemOk C.w₀ L w → (execOp ρ o).run C.P w = .ok (.enter f args) w)
    (hc : ∀ w, MemOk C.w₀ L w → Calls C.P f args w (HAns C.w₀ p v LJ)) (hnew : ∀ x, newsOk R c (news x) = true)
    (h : ∀ x, p x → G C R Q K0 (lo ||| 2 ^ c) (news x ++ (c, v x) :: V) (LJ x)) : LOb C R Q K0 lo V L c := by
  refine ⟨o, ho, hw, fun a w next hrd hm _ hnext => ?_⟩
  refine step_enter hn (hr _ _ hrd hm) (hc w hm) ?_
  rintro e w' ⟨x, hx, rfl, hm'⟩
  have hnw2 := hnew x
  simp only [newsOk, Bool.and_eq_true, Bool.not_eq_true'] at hnw2
  exact hnext _ _ _ _ (.inl (lk_app _ _ _ hnw2.2)) (extV _ _ _ hnw2.1) hm' (h x hx)
end

/-! ### a range over a function -/
/-- The frame of a round: what was handed over lies in its slots. -/
def zipK : List Tmp → List Value → List (Nat × Value) → List (Nat × Value)
  | t :: ts, v :: vs, K => zipK ts vs ((t, v) :: K)
  | _, _, K => K
theorem FrOk.zip {N : Nat} {D : List Deferred} : ∀ (ts : List Tmp) (vs : List Value) {K : List (Nat × Value)} {tmps : Array Value}, (∀ t ∈ ts, Nat.blt t N = true) → FrOk N D K { tmps := tmps, defers := D } →
    FrOk N D (zipK ts vs K) { tmps := (ts.zip vs).foldl (fun t (p, v) => t.setIfInBounds p v) tmps, defers := D }
  | [], vs, K, tmps, _, h => by cases vs <;> simpa [zipK] using h
  | t :: ts, [], K, tmps, _, h => by simpa [zipK] using h
  | t :: ts, v :: vs, K, tmps, ht, h => by
    have := h.put (d := t) v (ht t (by simp))
    exact FrOk.zip ts vs (fun u hu => ht u (by simp [hu])) this
/-- How a round is left. -/
def RoundQ (w₀ : World) (idD idl D l : Nat) (rec : Loop) {ι : Type} (p : ι → Prop) (LI : ι → Heap) (pX : Code → ι → Prop) (LX : ι → Heap) : Post := fun e _ W =>
  let one (q : ι → Prop) (LL : ι → Heap) : Prop := ∃ i, q i ∧ MemOk w₀ ((idD, .blk D (.deferred (some []))) :: (idl, .blk l (.loop { rec with state := .busy })) :: LL i) W
  match e with
  | .normal => one p LI
  | .ret => one (pX .ret) LX
  | .exit id => one (pX (.exit id)) LX
  | .goto t => one (pX (.goto t)) LX
  | .panic _ => False
  | .outgrown => False
theorem ids_ne {L : Heap} {i j : Nat} {r s : Res} (h : i ≠ j) : lk ((i, r) :: (j, s) :: L) j = some s := by
  rw [lk_cons_other _ _ h, lk_cons_same]
/-- What is known by another list, is. -/
theorem MemOk.of {w₀ w : World} {L L' : Heap} (h : MemOk w₀ L w) (key : ∀ k q, lk L' k = some q → lk L k = some q) : MemOk w₀ L' w :=
  ⟨h.ext, fun k q hk => h.own k q (key k q hk), fun k m q q' hk hm => h.sep k m q q' (key k q hk) (key m q' hm)⟩
/-- Two entries ahead of a list, the second told anew. -/
theorem MemOk.second {w₀ w : World} {L : Heap} {i j : Nat} {r s s' : Res} (hne : i ≠ j) (h : MemOk w₀ ((j, s') :: (i, r) :: (j, s) :: L) w) : MemOk w₀ ((i, r) :: (j, s') :: L) w := by
  have key : ∀ k q, lk ((i, r) :: (j, s') :: L) k = some q → lk ((j, s') :: (i, r) :: (j, s) :: L) k = some q := by
    intro k q hk
    by_cases e1 : j = k
    · subst e1
      rw [ids_ne hne] at hk
      rw [lk_cons_same]; exact hk
    · rw [lk_cons_other _ _ e1]
      by_cases e2 : i = k
      · subst e2; rw [lk_cons_same] at hk ⊢; exact hk
      · rw [lk_cons_other _ _ e2, lk_cons_other _ _ e1] at hk
        rw [lk_cons_other _ _ e2, lk_cons_other _ _ e1]; exact hk
  exact ⟨h.ext, fun k q hk => h.own k q (key k q hk), fun k m q q' hk hm => h.sep k m q q' (key k q hk) (key m q' hm)⟩
theorem MemOk.drop2 {w₀ w : World} {L : Heap} {i j : Nat} {r s : Res} (hj : lk L j = none) (h : MemOk w₀ ((i, r) :: (j, s) :: L) w) : MemOk w₀ ((i, r) :: L) w := by
  have key : ∀ k q, lk ((i, r) :: L) k = some q → lk ((i, r) :: (j, s) :: L) k = some q := by
    intro k q hk
    by_cases e2 : i = k
    · subst e2; rw [lk_cons_same] at hk ⊢; exact hk
    · rw [lk_cons_other _ _ e2] at hk ⊢
      by_cases e1 : j = k
      · subst e1; rw [hj] at hk; cases hk
      · rw [lk_cons_other _ _ e1]; exact hk
  exact ⟨h.ext, fun k q hk => h.own k q (key k q hk), fun k m q q' hk hm => h.sep k m q q' (key k q hk) (key m q' hm)⟩
theorem MemOk.tail {w₀ w : World} {L : Heap} {i : Nat} {r : Res} (hi : lk L i = none) (h : MemOk w₀ ((i, r) :: L) w) : MemOk w₀ L w := by
  have key : ∀ k q, lk L k = some q → lk ((i, r) :: L) k = some q := by
    intro k q hk
    by_cases e : i = k
    · subst e; rw [hi] at hk; cases hk
    · rw [lk_cons_other _ _ e]; exact hk
  exact ⟨h.ext, fun k q hk => h.own k q (key k q hk), fun k m q q' hk hm => h.sep k m q q' (key k q hk) (key m q' hm)⟩
abbrev Cx.with (C : Cx) (D : Nat) : Cx := ⟨C.P, C.w₀, C.N, { target := .collected D, args := #[] } :: C.D, C.ro⟩
abbrev Cx.round (C : Cx) (l : Nat) : Cx := ⟨C.P, C.w₀, C.N, [], some l⟩
/-- An iterator: called with a 'yield', it hands over the elements of xs in order, till a round says 'no more'; told by what is known of memory between the rounds. -/
def IterAt (P : Program) (w₀ : World) (gf : Nat) (lb : Array Value) {ι α : Type} (encs : α → List Value) (xs : List α) (p : Nat → ι → Prop) (LJ : Nat → ι → Heap) : Prop :=
  ∀ (l : Nat) (κ : Type) (pX : κ → Prop) (LX : κ → Heap),
    (∀ k x i W, xs[k]? = some x → p k i → MemOk w₀ (LJ k i) W → YieldAt Fence.wide 0 P l (encs x).toArray W fun e W' =>
      (e = .returned (.bool true) ∧ ∃ i', p (k + 1) i' ∧ MemOk w₀ (LJ (k + 1) i') W') ∨ (e = .returned (.bool false) ∧ ∃ j, pX j ∧ MemOk w₀ (LX j) W')) →
    ∀ i W, p 0 i → MemOk w₀ (LJ 0 i) W → Calls P gf (#[.func (.yield l) #[] #[]] ++ lb) W fun e W' =>
      (∃ v, e = .returned v) ∧ ((∃ i', p xs.length i' ∧ MemOk w₀ (LJ xs.length i') W') ∨ ∃ j, pX j ∧ MemOk w₀ (LX j) W')
theorem wide_room (k : Nat) : Fence.wide.room k := fun d h => by cases h
theorem RoundIn.any {m m' : Nat} {P : Program} {l : Nat} {f : FuncId} {tmps : Array Value} {assign body : Code} {w : World} {R : Ending → World → Prop}
    (h : RoundIn Fence.wide m P l f tmps assign body w R) : RoundIn Fence.wide m' P l f tmps assign body w R := ⟨h.1, fun c cs _ => h.2 c cs (wide_room _)⟩
section
variable {C : Cx} {Q : Post} {K : List (Nat × Value)} {L : Heap}
theorem T_scope {c : Code} (h : T C c (Exit.noGoto Q) K L) : T C (.scope c) Q K L := fun a w hf hm => wpIn_scope_straight (h a w hf hm)
theorem T_label {l : Nat} {y : Code} (h : T C y Q K L) : T C (.seq (.label l) y) Q K L := fun a w hf hm => wpIn_label_seq (h a w hf hm)
theorem p_ng_n (h : POk C Q .normal K L) : POk C (Exit.noGoto Q) .normal K L := h
/-- The body's end is a return. -/
theorem p_end {fn : Func} {R : Ending → World → Prop} (h : POk C (bodyM C.P fn R) .ret K L) : POk C (bodyM C.P fn R) .normal K L := h
/-- Leaving behind one range over a function: the list of what was put off there is empty. -/
theorem ret_of1 {fn : Func} {R : Ending → World → Prop} (idD D : Nat) (hD : C.D = [{ target := .collected D, args := #[] }]) (hi : lk L idD = some (.blk D (.deferred (some [])))) (v : Value)
    (hr : ∀ tmps w, (∀ t u, lk K t = some u → tmps.getD t undef = u) → MemOk C.w₀ ((idD, .blk D (.deferred none)) :: L) w → (results fn tmps).run C.P w = .ok v w) (hR : ∀ w, MemOk C.w₀ ((idD, .blk D (.deferred none)) :: L) w → R (.returned v) w) : POk C (bodyM C.P fn R) .ret K L :=
  fun a w hf hm => bodyM_ret1 (hf.defers.trans hD) (hm.at idD hi) (hr _ _ hf.knows (hm.putObj _ hi)) (hR _ (hm.putObj _ hi))
end
theorem T_range {C : Cx} {Q : Post} {K : List (Nat × Value)} {L : Heap} {ι α : Type} {g : Operand} {pl : List Tmp} {assign body : Code} {gf : Nat} {lb : Array Value} {encs : α → List Value} {xs : List α}
    (hro : C.ro = none) (hg : ev K g = some (.func (.func gf) #[] lb)) (eg : Enters C.P gf) (hps : ∀ x, (encs x).length = pl.length) (hpN : (pl.all fun t => Nat.blt t C.N) = true) 
    (idD idl : Nat) (hne : Nat.beq idD idl = false) (p : Nat → ι → Prop) (LI : Nat → ι → Heap) (pX : Code → ι → Prop) (LX : ι → Heap) (K1 : α → List (Nat × Value))
    (hit : ∀ D l rec, IterAt C.P C.w₀ gf lb encs xs p (fun k i => (idD, .blk D (.deferred (some []))) :: (idl, .blk l (.loop rec)) :: LI k i)) (hids : ∀ k i, lk (LI k i) idD = none ∧ lk (LI k i) idl = none) (hidx : ∀ i, lk (LX i) idD = none ∧ lk (LX i) idl = none)
    (i₀ : ι) (h0 : p 0 i₀) (hL : SubK L (LI 0 i₀))
    (hassign : ∀ D l rec k x i, xs[k]? = some x → p k i → T (C.round l) assign (Exit.then (At (C.round l) (fun _ : Unit => True) (fun _ => K1 x) (fun _ => (idD, .blk D (.deferred (some []))) :: (idl, .blk l (.loop rec)) :: LI k i)) (fun _ _ _ => False))
      (zipK pl (encs x) K) ((idD, .blk D (.deferred (some []))) :: (idl, .blk l (.loop rec)) :: LI k i))
    (hround : ∀ D l rec k x i, xs[k]? = some x → p k i → T (C.round l) body (RoundQ C.w₀ idD idl D l rec (p (k + 1)) (LI (k + 1)) pX LX) (K1 x) ((idD, .blk D (.deferred (some []))) :: (idl, .blk l (.loop { rec with state := .busy })) :: LI k i))
    (hdone : ∀ D i, p xs.length i → POk (C.with D) Q .normal K ((idD, .blk D (.deferred (some []))) :: LI xs.length i))
    (hstop : ∀ D c i, pX c i → T (C.with D) c Q K ((idD, .blk D (.deferred (some []))) :: LX i)) : T C (.rangeFunc g pl.toArray assign body) Q K L := by
  obtain ⟨P, w₀, N, CD, ro⟩ := C
  cases hro
  have hne' : idD ≠ idl := fun e => by subst e; rw [Nat.beq_refl] at hne; cases hne
  intro a w hf hm
  show (Code.rangeFunc g pl.toArray assign body).wpIn Fence.wide 0 P _ a w
  refine (wpIn_wide (n := 0)).2 ((wpIn_wide (n := 2)).1 (wpIn_rangeFunc ?_))
  intro fn hfn
  rw [show Fence.wide.round = none from rfl]
  have hg' := hf.rd _ _ hg
  obtain ⟨rec, hrec⟩ : ∃ rec : Loop, rec = { state := .ready, pending := none, fn, tmps := a.tmps, params := pl.toArray, assign, body, defers := w.heap.size } := ⟨_, rfl⟩
  have hm1 : MemOk w₀ ((idl, .blk (w.heap.size + 1) (.loop rec)) :: (idD, .blk w.heap.size (.deferred (some []))) :: LI 0 i₀) ((w.alloc (.deferred (some []))).alloc (.loop rec)) := by
    have h1 := (hm.sub hL).new (alloc_below w (.deferred (some []))) idD (Nat.le_refl _) (hp_new w _)
    have h2 := h1.new (alloc_below (w.alloc (.deferred (some []))) (.loop rec)) idl (Nat.le_refl _) (hp_new _ _)
    rwa [World.size_alloc] at h2
  have hm1 : MemOk w₀ ((idD, .blk w.heap.size (.deferred (some []))) :: (idl, .blk (w.heap.size + 1) (.loop rec)) :: LI 0 i₀) ((w.alloc (.deferred (some []))).alloc (.loop rec)) := by
    refine hm1.of (fun k q hk => ?_)
    by_cases e1 : idD = k
    · subst e1; rw [lk_cons_same] at hk; rw [ids_ne (Ne.symm hne')]; exact hk
    · rw [lk_cons_other _ _ e1] at hk
      by_cases e2 : idl = k
      · subst e2; rw [lk_cons_same] at hk ⊢; exact hk
      · rw [lk_cons_other _ _ e2] at hk; rw [lk_cons_other _ _ e2, lk_cons_other _ _ e1]; exact hk
  obtain ⟨W1, hW1⟩ : ∃ W1, (w.alloc (.deferred (some []))).alloc (.loop rec) = W1 := ⟨_, rfl⟩
  rw [hW1] at hm1
  refine ⟨w.heap.size + 1, [{ target := .collected w.heap.size, args := #[] }], W1, { target := .fn (.func gf) lb, args := #[.func (.yield (w.heap.size + 1)) #[] #[]] }, W1, gf,
    #[.func (.yield (w.heap.size + 1)) #[] #[]] ++ lb, W1, ?_, ?_, ?_, ?_, fun h => by simp [Fence.wide] at h, ?_⟩
  · rw [← hW1, hrec]; exact run_enterLoop_outer _ _ _ _ _
  · simp only [resolve, hg']
    simp [go_sem]
  · intro f' _; trivial
  · simp [invoke, eg _ _]
  · -- what holds at each round's head, and behind a round that left
    refine CallsIn.mono (callsIn_wide.2 (hit w.heap.size (w.heap.size + 1) rec (w.heap.size + 1) (Code × ι) (fun z => pX z.1 z.2)
      (fun z => (idD, .blk w.heap.size (.deferred (some []))) :: (idl, .blk (w.heap.size + 1) (.loop { rec with state := .done, pending := some z.1 })) :: LX z.2) ?_ i₀ W1 h0 hm1)) ?_
    · intro k x i W hx hi hmi
      have hl : W.heap[w.heap.size + 1]? = some (.loop rec) := hmi.at idl (ids_ne hne')
      have hy := run_yield (P := P) (args := (encs x).toArray) hl (by rw [hrec]; simp [hps])
      have hfr : FrOk N [] (zipK pl (encs x) K) { tmps := (pl.zip (encs x)).foldl (fun t (p, v) => t.setIfInBounds p v) a.tmps, defers := [] } :=
        FrOk.zip pl (encs x) (fun t ht => List.all_eq_true.1 hpN t ht) ⟨hf.size, rfl, hf.knows⟩
      have htm : (rec.params.zip (encs x).toArray).foldl (fun tmps (t, a) => tmps.setIfInBounds t a) rec.tmps = (pl.zip (encs x)).foldl (fun t (p, v) => t.setIfInBounds p v) a.tmps := by
        rw [hrec]; simp [List.zip_toArray]
      rw [htm] at hy
      rw [show rec.fn = fn by rw [hrec], show rec.assign = assign by rw [hrec], show rec.body = body by rw [hrec]] at hy
      refine ⟨fn, _, assign, body, hy, roundIn_of_wpIn hfn ?_⟩
      have hA := hassign w.heap.size (w.heap.size + 1) rec k x i hx hi _ W hfr hmi
      refine wpIn_mono hA ?_
      intro e a1 W2 hq
      cases e with
      | normal =>
        obtain ⟨_, _, hf1, hm2⟩ := hq
        have hl2 : W2.heap[w.heap.size + 1]? = some (.loop rec) := hm2.at idl (ids_ne hne')
        refine ⟨_, run_beginRound hl2 (by rw [hrec]), ?_⟩
        have hm3 := (hm2.putObj (.loop { rec with state := .busy }) (ids_ne hne' : lk _ idl = some (.blk (w.heap.size + 1) (.loop rec)))).second hne'
        have hB := hround w.heap.size (w.heap.size + 1) rec k x i hx hi a1 _ hf1 hm3
        refine wpIn_mono hB ?_
        have fin : ∀ (jump : Option Code) (W3 : World) (LL : Heap), MemOk w₀ ((idD, .blk w.heap.size (.deferred (some []))) :: (idl, .blk (w.heap.size + 1) (.loop { rec with state := .busy })) :: LL) W3 →
            (Instr.endRound (w.heap.size + 1) jump).run P W3 = .ok (.bool jump.isNone) (W3.putObj (w.heap.size + 1) (.loop { rec with state := if jump.isNone then .ready else .done, pending := jump })) ∧
            MemOk w₀ ((idD, .blk w.heap.size (.deferred (some []))) :: (idl, .blk (w.heap.size + 1) (.loop { rec with state := if jump.isNone then .ready else .done, pending := jump })) :: LL) (W3.putObj (w.heap.size + 1) (.loop { rec with state := if jump.isNone then .ready else .done, pending := jump })) := fun jump W3 LL h3 => by
          have hl3 : W3.heap[w.heap.size + 1]? = some (.loop { rec with state := .busy }) := h3.at idl (ids_ne hne')
          exact ⟨run_endRound (P := P) (r := { rec with state := .busy }) jump hl3, (h3.putObj _ (ids_ne hne')).second hne'⟩
        have hrd : ({ rec with state := .ready, pending := none } : Loop) = rec := by rw [hrec]
        rintro e a3 W3 hp
        cases e with
        | normal =>
          obtain ⟨i', hi', h3⟩ := hp
          obtain ⟨hr, h4⟩ := fin none W3 _ h3
          exact ⟨_, _, hr, .inl ⟨rfl, i', hi', by simpa [hrd] using h4⟩⟩
        | ret =>
          obtain ⟨i', hi', h3⟩ := hp
          obtain ⟨hr, h4⟩ := fin (some .ret) W3 _ h3
          exact ⟨_, _, hr, .inr ⟨rfl, (.ret, i'), hi', by simpa using h4⟩⟩
        | exit id =>
          obtain ⟨i', hi', h3⟩ := hp
          obtain ⟨hr, h4⟩ := fin (some (.exit id)) W3 _ h3
          exact ⟨_, _, hr, .inr ⟨rfl, (.exit id, i'), hi', by simpa using h4⟩⟩
        | goto t =>
          obtain ⟨i', hi', h3⟩ := hp
          obtain ⟨hr, h4⟩ := fin (some (.goto t)) W3 _ h3
          exact ⟨_, _, hr, .inr ⟨rfl, (.goto t, i'), hi', by simpa using h4⟩⟩
        | panic ch => exact hp.elim
        | outgrown => exact hp.elim
      | exit id => exact hq.elim
      | goto l => exact hq.elim
      | ret => exact hq.elim
      | panic ch => exact hq.elim
      | outgrown => exact hq.elim
    · have hf' : ∀ (D : Nat), FrOk N ({ target := .collected D, args := #[] } :: CD) K { a with defers := [{ target := .collected D, args := #[] }] ++ a.defers } := fun D => ⟨hf.size, by rw [hf.defers]; rfl, hf.knows⟩
      rintro e W2 ⟨⟨v, rfl⟩, (⟨i, hi, h2⟩ | ⟨⟨c, i⟩, hi, h2⟩)⟩
      · have hl2 : W2.heap[w.heap.size + 1]? = some (.loop rec) := h2.at idl (ids_ne hne')
        refine ⟨none, _, by have := run_endLoop (P := P) hl2 (by rw [hrec]; simp); rw [this, hrec], ?_⟩
        exact hdone w.heap.size i hi _ _ (hf' _) (((h2.putObj _ (ids_ne hne')).second hne').drop2 (hids _ i).2)
      · have hl2 : W2.heap[w.heap.size + 1]? = some (.loop { rec with state := .done, pending := some c }) := h2.at idl (ids_ne hne')
        refine ⟨some c, _, by have := run_endLoop (P := P) hl2 (by simp); exact this, ?_⟩
        exact wpIn_wide.2 ((wpIn_wide (n := 0)).1 (hstop w.heap.size c i hi _ _ (hf' _) (((h2.putObj _ (ids_ne hne')).second hne').drop2 (hidx i).2)))
section
variable {C : Cx} {Q : Post} {K : List (Nat × Value)} {L : Heap}
/-- A loop whose memory is told as a whole, by the same words at each round's head. -/
theorem T_loopE {ι : Type} (p : ι → Prop) (KI : ι → List (Nat × Value)) (LI : ι → Heap) (μ : ι → Nat) (i₀ : ι) (hp : p i₀) (hK : SubK K (KI i₀)) (hL : L = LI i₀) {c : Code}
    (hround : ∀ i, p i → T C c (Exit.then (At C (fun j => p j ∧ μ j < μ i) KI LI) Q) (KI i) (LI i)) : T C (.loop c) Q K L := by
  intro a w hf hm
  have key : ∀ m i, p i → μ i ≤ m → ∀ a w, FrOk C.N C.D (KI i) a → MemOk C.w₀ (LI i) w → Code.roundsIn (FW C.ro) 0 C.P c Q (m + 1) a w := by
    intro m
    induction m with
    | zero =>
      intro i hi hle a w hf hm
      refine wpIn_mono (hround i hi a w hf hm) ?_
      intro e a' w' hq
      cases e with
      | normal => obtain ⟨j, ⟨_, hlt⟩, _⟩ := hq; omega
      | exit id => exact hq
      | goto l => exact hq
      | ret => exact hq
      | panic ch => exact hq
      | outgrown => exact hq
    | succ m ih =>
      intro i hi hle a w hf hm
      refine wpIn_mono (hround i hi a w hf hm) ?_
      intro e a' w' hq
      cases e with
      | normal => obtain ⟨j, ⟨hj, hlt⟩, h1, h2⟩ := hq; exact ih j hj (by omega) a' w' h1 h2
      | exit id => exact hq
      | goto l => exact hq
      | ret => exact hq
      | panic ch => exact hq
      | outgrown => exact hq
  exact wpIn_loop_rounds _ (key (μ i₀) i₀ hp (Nat.le_refl _) a w (hf.sub hK) (by rw [← hL]; exact hm))
theorem p_atE {ι : Type} {p : ι → Prop} {KJ : ι → List (Nat × Value)} {LJ : ι → Heap} (i : ι) (hp : p i) (hK : SubK K (KJ i)) (hL : L = LJ i) : POk C (Exit.then (At C p KJ LJ) Q) .normal K L :=
  fun _ _ hf hm => ⟨i, hp, hf.sub hK, by rw [← hL]; exact hm⟩
end
/-- What is known behind a yield. -/
def yL {ι κ : Type} (LT : ι → Heap) (LX : κ → Heap) : ι ⊕ κ → Heap
  | .inl i => LT i
  | .inr j => LX j
def yP {ι κ : Type} (pT : ι → Prop) (pX : κ → Prop) : ι ⊕ κ → Prop
  | .inl i => pT i
  | .inr j => pX j
theorem isL {ι κ : Type} {x : ι ⊕ κ} (h : x.isLeft = true) : ∃ i, x = .inl i := by cases x with | inl i => exact ⟨i, rfl⟩ | inr j => cases h
theorem isR {ι κ : Type} {x : ι ⊕ κ} (h : x.isLeft = false) : ∃ j, x = .inr j := by cases x with | inl i => cases h | inr j => exact ⟨j, rfl⟩
theorem r_yield {P : Program} {w : World} {ρ : Operand → Value} {d : Option Tmp} {ty : TypeId} {ps : String} {af : Array Edge} {g : Option (Nat × Bool)} {l : Nat} {fop : Operand} {opl : List Operand} {args : List Value} {ats : Array TypeId} (hf : ρ fop = .func (.yield l) #[] #[]) (ha : opl.map ρ = args) :
    (execOp ρ { dst := d, op := .call { callee := .value fop, args := opl.toArray, argTypes := ats }, type := ty, pos := ps, after := af, guard := g }).run P w = (Instr.yield l args.toArray).run P w := by
  subst ha
  show (do let d ← resolve ρ _ ty; invoke d.target d.args : Sem Next).run P w = _
  simp only [resolve, hf]
  rw [run_bind_ok (a := { target := .fn (.yield l) #[], args := #[] ++ (opl.map ρ).toArray }) (w' := w)]
  · simp only [Array.empty_append]; rfl
  · simp only [Deferred.ofValue, List.map_toArray]
    rfl
theorem lk_dup {L : Heap} {i : Nat} {r : Res} (hi : lk L i = some r) : ∀ k q, lk ((i, r) :: L) k = some q → lk L k = some q := fun k q hk => by
  by_cases e : i = k
  · subst e; rw [lk_cons_same] at hk; rw [hi]; exact hk
  · rwa [lk_cons_other _ _ e] at hk
theorem lk_fresh {A : Heap} {j : Nat} {b : Res} (hf : lk A j = none) : ∀ k q, lk A k = some q → lk ((j, b) :: A) k = some q := fun k q hk => by
  by_cases e : j = k
  · subst e; rw [hf] at hk; cases hk
  · rwa [lk_cons_other _ _ e]
theorem lk_put {L : Heap} {i j : Nat} {n o b : Res} (hij : Nat.beq j i = false) (hf : lk L j = none) : ∀ k q, lk ((i, n) :: L) k = some q → lk ((i, n) :: (j, b) :: (i, o) :: L) k = some q := fun k q hk => by
  by_cases e : i = k
  · subst e; rwa [lk_cons_same] at hk ⊢
  · rw [lk_cons_other _ _ e] at hk ⊢
    by_cases e2 : j = k
    · subst e2; rw [hf] at hk; cases hk
    · rwa [lk_cons_other _ _ e2, lk_cons_other _ _ e]
theorem p_round_n {C : Cx} {K : List (Nat × Value)} {L : Heap} {idD idl D l : Nat} {rec : Loop} {ι : Type} {p : ι → Prop} {LI : ι → Heap} {pX : Code → ι → Prop} {LX : ι → Heap} (i : ι) (hp : p i)
    (hL : SubK L ((idD, .blk D (.deferred (some []))) :: (idl, .blk l (.loop { rec with state := .busy })) :: LI i)) : POk C (RoundQ C.w₀ idD idl D l rec p LI pX LX) .normal K L := fun _ _ _ hm => ⟨i, hp, hm.sub hL⟩
end Go.Proofs.Ytmihoejecpcmjaa
/- Arrays told by the list of their elements. Over any program. -/
namespace Go.Proofs.Ytmihoejecpcmjaa
open Go Go.RowKit

/-- The cells of the elements, one behind the other. -/
def lst {α : Type} (f : α → List Value) (l : List α) : Array Value := (l.flatMap f).toArray
section
variable {α : Type} {s : Nat} {f : α → List Value} {l : List α}
theorem flat_len (hf : ∀ x, (f x).length = s) : ∀ l : List α, (l.flatMap f).length = l.length * s
  | [] => by simp
  | x :: l => by rw [List.flatMap_cons, List.length_append, hf, flat_len hf l, List.length_cons, Nat.add_mul, Nat.one_mul, Nat.add_comm]
theorem lst_size (hf : ∀ x, (f x).length = s) (l : List α) : (lst f l).size = l.length * s := by
  unfold lst; rw [List.size_toArray]; exact flat_len hf l
theorem row_lst (hf : ∀ x, (f x).length = s) (l : List α) : Row s f (lst f l) 0 l :=
  row_of_take hf (by unfold lst; rw [List.take_of_length_le (by rw [flat_len hf]; exact Nat.le_refl _)])
theorem wrC_list : ∀ (vs xs pre post : List Value), xs.length = vs.length → wrC (pre ++ xs ++ post).toArray pre.length vs = (pre ++ vs ++ post).toArray
  | [], xs, pre, post, h => by
    have : xs = [] := List.eq_nil_of_length_eq_zero h
    subst this; rfl
  | v :: vs, [], pre, post, h => by simp at h
  | v :: vs, x :: xs, pre, post, h => by
    have ih := wrC_list vs xs (pre ++ [v]) post (by simpa using h)
    have e : ((pre ++ x :: xs ++ post).toArray).setIfInBounds pre.length v = (pre ++ [v] ++ xs ++ post).toArray := by
      apply Array.ext'
      simp [List.set_append]
    show wrC (((pre ++ x :: xs ++ post).toArray).setIfInBounds pre.length v) (pre.length + 1) vs = _
    rw [e]
    rw [List.length_append, List.length_singleton] at ih
    rw [ih]
    simp
theorem flat_set (hf : ∀ x, (f x).length = s) {i : Nat} (hi : i < l.length) (x : α) : ∃ pre xs post, l.flatMap f = pre ++ xs ++ post ∧ pre.length = i * s ∧ xs.length = s ∧ (l.set i x).flatMap f = pre ++ f x ++ post := by
  refine ⟨(l.take i).flatMap f, f l[i], (l.drop (i + 1)).flatMap f, ?_, ?_, hf _, ?_⟩
  · have : l = l.take i ++ l[i] :: l.drop (i + 1) := by rw [List.getElem_cons_drop, List.take_append_drop]
    conv => lhs; rw [this]
    rw [List.flatMap_append, List.flatMap_cons, List.append_assoc]
  · rw [flat_len hf, List.length_take, Nat.min_eq_left (Nat.le_of_lt hi)]
  · rw [List.set_eq_take_append_cons_drop, if_pos hi, List.flatMap_append, List.flatMap_cons, List.append_assoc]
theorem wrC_lst (hf : ∀ x, (f x).length = s) {i : Nat} (hi : i < l.length) (x : α) : wrC (lst f l) (i * s) (f x) = lst f (l.set i x) := by
  obtain ⟨pre, xs, post, e1, e2, e3, e4⟩ := flat_set hf hi x
  unfold lst
  rw [e1, e4, ← e2]
  exact wrC_list _ _ _ _ (by rw [e3, hf])
variable {P : Program} {w : World} {ρ : Operand → Value} {d : Option Tmp} {ty : TypeId} {ps : String} {af : Array Edge} {g : Option (Nat × Bool)} {x y : Operand}
theorem r_storeLst {t : TypeId} {b i : Nat} {T : TypeId} {v : Value} {u : α} (hs : szOf P t = some s) (hx : ρ x = .pointer (some ⟨b, 0 + i * s, none⟩)) (hy : ρ y = v) (hb : hp w b = some (.cells (lst f l) T (0, 0))) (hf : ∀ x, (f x).length = s)
    (hi : i < l.length) (hv : v.cells = (f u).toArray) (ho : (f u).all isOne = true) : ∃ w', (execOp ρ (mk d (.store t x y) ty ps af g)).run P w = .ok .skip w' ∧ Upd w b (.cells (lst f (l.set i u)) T (0, 0)) w' := by
  refine r_store hs hx hy hb (by rw [hv, List.size_toArray, hf]) ?_ (by rw [hv]; exact ho) ?_
  · rw [lst_size hf]
    refine Nat.ble_eq_true_of_le ?_
    have := Nat.mul_le_mul_right s (show i + 1 ≤ l.length from hi)
    rw [Nat.add_mul, Nat.one_mul] at this
    omega
  · rw [hv, Nat.zero_add]; exact wrC_lst hf hi u
/-- All of it is written anew. -/
theorem r_storeAll {t : TypeId} {b : Nat} {T : TypeId} {cs cs' : Array Value} {n : Nat} (hs : szOf P t = some n) (hx : ρ x = .pointer (some ⟨b, 0, none⟩)) (hy : ρ y = .agg cs') (hb : hp w b = some (.cells cs T (0, 0))) (h1 : cs.size = n) (h2 : cs'.size = n)
    (ho : cs'.toList.all isOne = true) : ∃ w', (execOp ρ (mk d (.store t x y) ty ps af g)).run P w = .ok .skip w' ∧ Upd w b (.cells cs' T (0, 0)) w' := by
  refine r_store hs hx hy hb h2 (by rw [h1, Nat.zero_add]; exact Nat.ble_self_eq_true n) ho ?_
  have := wrC_list cs'.toList cs.toList [] [] (by simp [h1, h2])
  show wrC cs 0 cs'.toList = cs'
  simpa using this
theorem lst_one (ho : ∀ x, (f x).all isOne = true) (l : List α) : (lst f l).toList.all isOne = true := by
  unfold lst
  rw [List.all_flatMap]
  exact List.all_eq_true.2 fun x _ => ho x
/-- Two of them are compared. -/
theorem run_equalLst {t e : TypeId} {n : Nat} {il : List (Nat × IntKind)} {l m : List α} [DecidableEq α] (ht : arrOf P t = some (n, e)) (hs : szOf P e = some s) (ha : aggOf P e = some true) (hi : intStr P e = some il) (hf : ∀ x, (f x).length = s) (hl : l.length = n) (hm : m.length = n)
    (hfit : ∀ x, fitI (f x).toArray il = true) (heq : ∀ x y, eqI (f x).toArray (f y).toArray il = true → x = y) : (Op.equal t (.agg (lst f l)) (.agg (lst f m))).run P w = .ok (decide (l = m)) w := by
  have key : (Op.equal t (.agg (lst f l)) (.agg (lst f m))).run P w = .ok ((List.range n).all fun i => match l[i]?, m[i]? with | some x, some y => eqI (f x).toArray (f y).toArray il | _, _ => false) w := by
    refine run_eqArr (P := P) (fun i => match l[i]?, m[i]? with | some x, some y => eqI (f x).toArray (f y).toArray il | _, _ => false) ht hs fun i hi' => ?_
    obtain ⟨x, hx⟩ : ∃ x, l[i]? = some x := ⟨_, List.getElem?_eq_getElem (by omega)⟩
    obtain ⟨y, hy⟩ : ∃ x, m[i]? = some x := ⟨_, List.getElem?_eq_getElem (by omega)⟩
    refine ⟨.agg (f x).toArray, .agg (f y).toArray, ?_, ?_, ?_⟩
    · rw [run_part_agg ha hs]
      have := (row_lst hf l i x hx).2
      rw [Nat.zero_add] at this
      rw [this]
    · rw [run_part_agg ha hs]
      have := (row_lst hf m i y hy).2
      rw [Nat.zero_add] at this
      rw [this]
    · rw [hx, hy]
      exact run_eqIntS hi (hfit x) (hfit y)
  rw [key]
  congr 1
  by_cases h : l = m
  · subst h
    rw [decide_eq_true rfl]
    refine List.all_eq_true.2 fun i hi' => ?_
    have hi' := List.mem_range.1 hi'
    obtain ⟨x, hx⟩ : ∃ x, l[i]? = some x := ⟨_, List.getElem?_eq_getElem (by omega)⟩
    rw [hx]
    exact eqI_self _ _
  · rw [decide_eq_false h]
    refine Bool.eq_false_iff.2 fun hall => h ?_
    have hall := List.all_eq_true.1 hall
    refine List.ext_getElem (by omega) fun i h1 h2 => ?_
    have := hall i (List.mem_range.2 (by omega))
    rw [List.getElem?_eq_getElem h1, List.getElem?_eq_getElem h2] at this
    exact heq _ _ this
end
end Go.Proofs.Ytmihoejecpcmjaa
/- A struct that is one part as a whole. Over any program. -/
namespace Go.Proofs.Ytmihoejecpcmjaa
open Go Go.RowKit
theorem fill_fold : ∀ (vs xs pre : List Value), xs.length = vs.length → (vs.zipIdx pre.length).foldl (fun (a : Array Value) (p : Value × Nat) => a.setIfInBounds (0 + p.2) p.1) (pre ++ xs).toArray = (pre ++ vs).toArray
  | [], xs, pre, h => by
    have : xs = [] := List.eq_nil_of_length_eq_zero h
    subst this; rfl
  | v :: vs, [], pre, h => by simp at h
  | v :: vs, x :: xs, pre, h => by
    have ih := fill_fold vs xs (pre ++ [v]) (by simpa using h)
    rw [List.zipIdx_cons, List.foldl_cons]
    have e : ((pre ++ x :: xs).toArray).setIfInBounds (0 + pre.length) v = (pre ++ [v] ++ xs).toArray := by
      apply Array.ext'
      simp [List.set_append]
    rw [e]
    rw [List.length_append, List.length_singleton] at ih
    rw [ih]
    simp
theorem fill_one {z cs : Array Value} {n : Nat} {place : Nat → Option (Nat × Nat)} (hp : place 0 = some (0, n)) (hz : z.size = n) (hc : cs.size = n) : Instr.fill place z [(0, .agg cs)] = some cs := by
  unfold Instr.fill
  rw [hp]
  dsimp only
  have hcs : (Value.agg cs).cells = cs := rfl
  rw [hcs, if_neg (by simp; omega)]
  unfold Instr.fill
  have := fill_fold cs.toList z.toList [] (by simp [hz, hc])
  congr 1
  rw [← Array.foldl_toList, Array.toList_zipIdx]
  simpa using this
end Go.Proofs.Ytmihoejecpcmjaa
/- Pointers, compared. Over any program. -/
namespace Go.Proofs.Ytmihoejecpcmjaa
open Go Go.RowKit
def ptrOf (P : Program) (t : TypeId) : Option TypeId := (P.underlying t).bind fun | .pointer e => some e | _ => none
theorem und_ptr {P : Program} {t e : TypeId} (h : ptrOf P t = some e) : P.underlying t = some (.pointer e) := by
  simp only [ptrOf, Option.bind_eq_some_iff] at h
  obtain ⟨i, hi, h⟩ := h
  cases i <;> simp at h
  subst h
  exact hi
section
variable {P : Program} {w : World} {ρ : Operand → Value} {d : Option Tmp} {ty : TypeId} {ps : String} {af : Array Edge} {g : Option (Nat × Bool)} {x y : Operand}
theorem run_eqPtr {t e : TypeId} {n p q : Nat} {cp cq : Array Value} {tp tq : TypeId} (ht : ptrOf P t = some e) (hs : szOf P e = some n) (hn : n ≠ 0) (hp' : hp w p = some (.cells cp tp (0, 0))) (hq' : hp w q = some (.cells cq tq (0, 0))) :
    (Op.equal t (.pointer (some ⟨p, 0, none⟩)) (.pointer (some ⟨q, 0, none⟩))).run P w = .ok (decide (p = q)) w := by
  obtain ⟨j, hj, hjs⟩ := Option.map_eq_some_iff.1 hs
  subst hjs
  by_cases h : p = q
  · subst h
    rw [decide_eq_true rfl]
    unfold Op.equal Op.maxDepth Op.equalIn
    rw [run_underlying (und_ptr ht)]
    dsimp only
    rw [run_bind_ok (run_sizeOf hs), if_pos hn]
    exact run_sameAddr_same w _
  · rw [decide_eq_false h]
    unfold Op.equal Op.maxDepth Op.equalIn
    rw [run_underlying (und_ptr ht)]
    dsimp only
    rw [run_bind_ok (run_sizeOf hs), if_pos hn]
    exact run_sameAddr_other w (fun e => h (by cases e; rfl)) hp' hq'
theorem r_eqlP {t t' e : TypeId} {n p q : Nat} {cp cq : Array Value} {tp tq : TypeId} (ht : ptrOf P t = some e) (hs : szOf P e = some n) (hn : n ≠ 0) (hx : ρ x = .pointer (some ⟨p, 0, none⟩)) (hy : ρ y = .pointer (some ⟨q, 0, none⟩)) (hp' : hp w p = some (.cells cp tp (0, 0))) (hq' : hp w q = some (.cells cq tq (0, 0))) :
    (execOp ρ (mk d (.binOp .eql t x y t') ty ps af g)).run P w = .ok (.value (.bool (decide (p = q)))) w :=
  run_eqv (a := .pointer (some ⟨p, 0, none⟩)) (b := .pointer (some ⟨q, 0, none⟩)) rfl hx hy (run_eql (run_eqPtr ht hs hn hp' hq'))
theorem run_eqPtrN {t e : TypeId} {a : Option Addr} (ht : ptrOf P t = some e) : (Op.equal t (.pointer a) (.pointer none)).run P w = .ok a.isNone w := by
  unfold Op.equal Op.maxDepth Op.equalIn
  rw [run_underlying (und_ptr ht)]
  cases a <;> rfl
theorem r_eqlPn {t t' e : TypeId} {a : Option Addr} (ht : ptrOf P t = some e) (hx : ρ x = .pointer a) (hy : ρ y = .pointer none) : (execOp ρ (mk d (.binOp .eql t x y t') ty ps af g)).run P w = .ok (.value (.bool a.isNone)) w :=
  run_eqv (a := .pointer a) (b := .pointer none) rfl hx hy (run_eql (run_eqPtrN ht))
theorem r_neqPn {t t' e : TypeId} {a : Option Addr} (ht : ptrOf P t = some e) (hx : ρ x = .pointer a) (hy : ρ y = .pointer none) : (execOp ρ (mk d (.binOp .neq t x y t') ty ps af g)).run P w = .ok (.value (.bool !a.isNone)) w :=
  run_eqv (a := .pointer a) (b := .pointer none) rfl hx hy (run_neq (run_eqPtrN ht))
end
end Go.Proofs.Ytmihoejecpcmjaa
/- Maps told by the list of their entries. Over any program. -/
namespace Go.Proofs.Ytmihoejecpcmjaa
open Go Go.RowKit

def mapOf (P : Program) (t : TypeId) : Option (TypeId × TypeId) := (P.underlying t).bind fun | .map k e => some (k, e) | _ => none
theorem und_map {P : Program} {t k e : TypeId} (h : mapOf P t = some (k, e)) : P.underlying t = some (.map k e) := by
  simp only [mapOf, Option.bind_eq_some_iff] at h
  obtain ⟨i, hi, h⟩ := h
  cases i <;> simp at h
  obtain ⟨rfl, rfl⟩ := h
  exact hi
section
variable {κ μ : Type} {fk : κ → Value} {fv : μ → Value}
/-- The entries, in the order in which they came; none has gone. -/
def ents (fk : κ → Value) (fv : μ → Value) : List (κ × μ) → Nat → List MapEntry
  | [], _ => []
  | (k, v) :: l, n => { key := fk k, val := fv v, born := n } :: ents fk fv l (n + 1)
def mapO (fk : κ → Value) (fv : μ → Value) (l : List (κ × μ)) : Obj := .map (ents fk fv l 0).toArray l.length
theorem ents_at : ∀ (l : List (κ × μ)) (n i : Nat), (ents fk fv l n)[i]? = (l[i]?).map fun z => { key := fk z.1, val := fv z.2, born := n + i }
  | [], _, _ => rfl
  | (k, v) :: l, n, 0 => rfl
  | (k, v) :: l, n, i + 1 => by
    unfold ents
    rw [List.getElem?_cons_succ, List.getElem?_cons_succ, ents_at l (n + 1) i, show n + 1 + i = n + (i + 1) by omega]
theorem ents_app : ∀ (l m : List (κ × μ)) (n : Nat), ents fk fv (l ++ m) n = ents fk fv l n ++ ents fk fv m (n + l.length)
  | [], _, _ => rfl
  | (k, v) :: l, m, n => by
    show _ :: ents fk fv (l ++ m) (n + 1) = _
    rw [ents_app l m (n + 1), List.length_cons, show n + 1 + l.length = n + (l.length + 1) by omega]
    rfl
variable [DecidableEq κ]
/-- Where a key is, and what stands there. -/
def fndM (c : κ) : List (κ × μ) → Nat → Option (Nat × μ)
  | [], _ => none
  | (k, v) :: l, i => if c = k then some (i, v) else fndM c l (i + 1)
def getM (z : μ) (c : κ) : List (κ × μ) → μ
  | [] => z
  | (k, v) :: l => if c = k then v else getM z c l
def hasM (c : κ) : List (κ × μ) → Bool
  | [] => false
  | (k, _) :: l => if c = k then true else hasM c l
def idxM (c : κ) : List (κ × μ) → Nat
  | [] => 0
  | (k, _) :: l => if c = k then 0 else idxM c l + 1
/-- With an entry for it. -/
def entM (z : μ) (c : κ) : List (κ × μ) → List (κ × μ)
  | [] => [(c, z)]
  | (k, v) :: l => if c = k then (k, v) :: l else (k, v) :: entM z c l
def setM : Nat → μ → List (κ × μ) → List (κ × μ)
  | _, _, [] => []
  | 0, u, (k, _) :: l => (k, u) :: l
  | n + 1, u, x :: l => x :: setM n u l
def putM (c : κ) (u : μ) : List (κ × μ) → List (κ × μ)
  | [] => [(c, u)]
  | (k, v) :: l => if c = k then (k, u) :: l else (k, v) :: putM c u l
theorem set_ent (z u : μ) (c : κ) : ∀ l : List (κ × μ), setM (idxM c l) u (entM z c l) = putM c u l
  | [] => rfl
  | (k, v) :: l => by
    unfold idxM entM putM
    by_cases h : c = k
    · rw [if_pos h, if_pos h, if_pos h]; rfl
    · rw [if_neg h, if_neg h, if_neg h]
      show (k, v) :: setM (idxM c l) u (entM z c l) = _
      rw [set_ent z u c l]
theorem fnd_get (z : μ) (c : κ) : ∀ (l : List (κ × μ)) (i : Nat), (match fndM c l i with | some (_, v) => v | none => z) = getM z c l ∧ (fndM c l i).isSome = hasM c l ∧ (∀ j v, fndM c l i = some (j, v) → j = i + idxM c l ∧ idxM c l < l.length ∧ entM z c l = l ∧ l[idxM c l]? = some (c, v)) ∧ (fndM c l i = none → idxM c l = l.length ∧ entM z c l = l ++ [(c, z)])
  | [], i => ⟨rfl, rfl, (fun _ _ h => by cases h), fun _ => ⟨rfl, rfl⟩⟩
  | (k, v) :: l, i => by
    unfold fndM getM hasM idxM entM
    by_cases h : c = k
    · simp only [if_pos h]
      refine ⟨trivial, rfl, ?_, fun e => by cases e⟩
      intro j v' e
      cases e
      exact ⟨by omega, by simp, trivial, by subst h; rfl⟩
    · simp only [if_neg h]
      obtain ⟨h1, h2, h3, h4⟩ := fnd_get z c l (i + 1)
      refine ⟨h1, h2, ?_, ?_⟩
      · intro j v' e
        obtain ⟨a, b, d, f⟩ := h3 j v' e
        exact ⟨by omega, by rw [List.length_cons]; omega, by rw [d], by rw [List.getElem?_cons_succ]; exact f⟩
      · intro e
        obtain ⟨a, b⟩ := h4 e
        exact ⟨by rw [a]; rfl, by rw [b]; rfl⟩

/-- What is asked of the keys' type. -/
structure KeyOk (P : Program) (kt : TypeId) (fk : κ → Value) : Prop where
  und : ∃ d, P.underlying kt = some d ∧ ((∀ x y, Instr.sameNow d (fk x) (fk y) = none) ∨ (∀ x y, Instr.sameNow d (fk x) (fk y) = some (decide (x = y))))
  eq : ∀ x y w, (Op.equal kt (fk x) (fk y)).run P w = .ok (decide (x = y)) w
  chk : ∀ b x w, (Instr.checkKey b 10000 kt (fk x)).run P w = .ok () w
  same : ∀ x, Instr.sameBits 10000 (fk x) (fk x) = true
variable {P : Program} {w : World} {kt : TypeId}
theorem run_findAsking (K : KeyOk P kt fk) (c : κ) : ∀ (l : List (κ × μ)) (n i : Nat), (Instr.findAsking kt (fk c) (ents fk fv l n) i).run P w = .ok ((fndM c l i).map fun z => (z.1, fv z.2)) w
  | [], _, _ => rfl
  | (k, v) :: l, n, i => by
    show ((do if ← Op.equal kt (fk c) (fk k) then pure (some (i, fv v)) else Instr.findAsking kt (fk c) (ents fk fv l (n + 1)) (i + 1)) : Sem (Option (Nat × Value))).run P w = _
    rw [run_bind_ok (K.eq c k w)]
    unfold fndM
    by_cases h : c = k
    · rw [decide_eq_true h, if_pos h]; rfl
    · rw [decide_eq_false h, if_neg h]
      exact run_findAsking K c l (n + 1) (i + 1)
theorem findNow_some {d : TypeDesc} (hd : ∀ x y, Instr.sameNow d (fk x) (fk y) = some (decide (x = y))) (c : κ) : ∀ (l : List (κ × μ)) (n i : Nat), Instr.findNow d (fk c) (ents fk fv l n) i = some ((fndM c l i).map fun z => (z.1, fv z.2))
  | [], _, _ => rfl
  | (k, v) :: l, n, i => by
    unfold ents Instr.findNow fndM
    dsimp only
    rw [hd]
    by_cases h : c = k
    · rw [decide_eq_true h, if_pos h]; rfl
    · rw [decide_eq_false h, if_neg h]
      exact findNow_some hd c l (n + 1) (i + 1)
theorem run_findKey (K : KeyOk P kt fk) (c : κ) (l : List (κ × μ)) : (Instr.findKey kt (fk c) (ents fk fv l 0)).run P w = .ok ((fndM c l 0).map fun z => (z.1, fv z.2)) w := by
  obtain ⟨d, hd, hk⟩ := K.und
  unfold Instr.findKey
  rw [run_underlying hd]
  rcases hk with hk | hk
  · cases l with
    | nil => rfl
    | cons z l =>
      have : Instr.findNow d (fk c) (ents fk fv (z :: l) 0) 0 = none := by
        obtain ⟨k, v⟩ := z
        unfold ents Instr.findNow
        dsimp only
        rw [hk]
      rw [this]
      exact run_findAsking K c _ 0 0
  · rw [findNow_some hk]
    rfl
theorem run_zero {e : TypeId} {z : Value} (hz : zeroOf P e = some z) : (zeroValue e).run P w = .ok z w := by
  simp only [zeroOf, Option.bind_eq_some_iff] at hz
  obtain ⟨i, hi, hz⟩ := hz
  simp [zeroValue, typeInfo, program, Sem.bind, Sem.run, bind, pure, hi, hz]
theorem run_getMap {b n : Nat} {es : Array MapEntry} (h : hp w b = some (.map es n)) : (getObj b).run P w = .ok (.map es n) w := by
  simp only [getObj, Sem.run]
  have : w.heap[b]? = some (.map es n) := h
  rw [this]
theorem run_setMap {b n : Nat} {es : Array MapEntry} (o : Obj) (h : hp w b = some (.map es n)) : (setObj b o).run P w = .ok () (w.putObj b o) := by
  have : w.heap[b]? = some (.map es n) := h
  simp [setObj, Sem.run, this, World.putObj]
variable {ρ : Operand → Value} {d : Option Tmp} {ty : TypeId} {ps : String} {af : Array Edge} {g : Option (Nat × Bool)} {x y v : Operand} {t e : TypeId}
theorem r_makeMap : (execOp ρ (mk d (.makeMap t none) ty ps af g)).run P w = .ok (.value (.map (some w.heap.size))) (w.alloc (.map #[] 0)) := rfl
theorem r_lookup {b : Nat} {c : κ} {z : μ} {l : List (κ × μ)} (K : KeyOk P kt fk) (ht : mapOf P t = some (kt, e)) (hz : zeroOf P e = some (fv z)) (hx : ρ x = .map (some b)) (hy : ρ y = fk c) (hb : hp w b = some (mapO fk fv l)) :
    (execOp ρ (mk d (.lookup t x y false) ty ps af g)).run P w = .ok (.value (fv (getM z c l))) w := by
  refine run_v ?_
  rw [hx, hy]
  unfold Instr.lookup
  rw [run_underlying (und_map ht)]
  dsimp only
  rw [run_bind_ok (run_getMap hb)]
  dsimp only
  rw [run_bind_ok (a := (ents fk fv l 0).toArray) (w' := w) rfl, run_bind_ok (K.chk _ c w)]
  rw [run_bind_ok (run_findKey K c l)]
  obtain ⟨h1, h2, _, _⟩ := fnd_get z c l 0
  cases h : fndM c l 0 with
  | none =>
    rw [h] at h1 h2
    simp only [Option.map_some, Option.map_none] at h1 ⊢
    rw [run_bind_ok (run_zero hz), ← h1]; rfl
  | some q =>
    obtain ⟨i, u⟩ := q
    rw [h] at h1 h2
    simp only [Option.map_some, Option.map_none] at h1 ⊢
    rw [← h1]; rfl
theorem upd_put {b : Nat} {o o' : Obj} (h : hp w b = some o) : Upd w b o' (w.putObj b o') :=
  ⟨rfl, rfl, rfl, by simp, World.putObj_heap_same (hp_lt h), fun k hk => hp_putObj _ _ _ hk⟩
omit [DecidableEq κ] in
omit [DecidableEq κ] in
theorem ents_set : ∀ (l : List (κ × μ)) (n i : Nat) (u : μ) (j : Nat), (ents fk fv (setM i u l) n)[j]? = if i = j then ((ents fk fv l n)[j]?).map (fun e => { e with val := fv u }) else (ents fk fv l n)[j]?
  | [], n, i, u, j => by unfold setM ents; simp
  | (k, v) :: l, n, 0, u, 0 => rfl
  | (k, v) :: l, n, 0, u, j + 1 => by
    rw [if_neg (by omega)]
    unfold setM ents
    rw [List.getElem?_cons_succ, List.getElem?_cons_succ]
  | (k, v) :: l, n, i + 1, u, 0 => by
    rw [if_neg (by omega)]
    rfl
  | (k, v) :: l, n, i + 1, u, j + 1 => by
    unfold setM ents
    rw [List.getElem?_cons_succ, List.getElem?_cons_succ, ents_set l (n + 1) i u j]
    by_cases h : i = j
    · rw [if_pos h, if_pos (by omega)]
    · rw [if_neg h, if_neg (by omega)]
omit [DecidableEq κ] in
theorem setM_len : ∀ (l : List (κ × μ)) (i : Nat) (u : μ), (setM i u l).length = l.length
  | [], _, _ => by unfold setM; rfl
  | (_, _) :: _, 0, _ => rfl
  | x :: l, i + 1, u => by unfold setM; rw [List.length_cons, List.length_cons, setM_len l i u]
omit [DecidableEq κ] in
end
/-! ### an operation that answers, and writes a block of one's own -/
section
variable {C : Cx} {ops : Array Oper} {os : List Oper} {Q : Post} {K : List (Nat × Value)} {L : Heap} {o : Oper}
end
section
variable {C : Cx} {R : Rg} {Q : Post} {K0 V : List (Nat × Value)} {lo : Nat} {L : Heap}
end
end Go.Proofs.Ytmihoejecpcmjaa
/- Facts on the types of this seat's program. Printed by a program of this seat's prover. -/
namespace Go.Proofs.Ytmihoejecpcmjaa
open Go.RowKit
theorem mixed : Try.prog.follows .mixedOrders = true := by kernel_rfl
theorem sz3 : szOf Try.prog 3 = some 1 := by kernel_rfl
theorem by3 : byOf Try.prog 3 = some 8 := by kernel_rfl
theorem ag3 : aggOf Try.prog 3 = some false := by kernel_rfl
theorem un3 : (Try.prog.underlying 3).isSome = true := by kernel_rfl
theorem io3 : intOf? Try.prog 3 = some .i64 := by kernel_rfl
theorem sz4 : szOf Try.prog 4 = some 1 := by kernel_rfl
theorem ag4 : aggOf Try.prog 4 = some false := by kernel_rfl
theorem io5 : intOf? Try.prog 5 = some .u8 := by kernel_rfl
theorem ag22 : aggOf Try.prog 22 = some false := by kernel_rfl
theorem sl22 : sliOf Try.prog 22 = some 32 := by kernel_rfl
theorem sl24 : sliOf Try.prog 24 = some 36 := by kernel_rfl
theorem sz25 : szOf Try.prog 25 = some 1 := by kernel_rfl
theorem ag25 : aggOf Try.prog 25 = some false := by kernel_rfl
theorem sl25 : sliOf Try.prog 25 = some 36 := by kernel_rfl
theorem sz30 : szOf Try.prog 30 = some 1 := by kernel_rfl
theorem ag30 : aggOf Try.prog 30 = some false := by kernel_rfl
theorem io30 : intOf? Try.prog 30 = some .u64 := by kernel_rfl
theorem sz32 : szOf Try.prog 32 = some 3 := by kernel_rfl
theorem by32 : byOf Try.prog 32 = some 24 := by kernel_rfl
theorem ag32 : aggOf Try.prog 32 = some true := by kernel_rfl
theorem fl32_0 : fldOf Try.prog 32 0 = some (30, 0) := by kernel_rfl
theorem fl32_1 : fldOf Try.prog 32 1 = some (3, 1) := by kernel_rfl
theorem fl32_2 : fldOf Try.prog 32 2 = some (30, 2) := by kernel_rfl
theorem ag33 : aggOf Try.prog 33 = some false := by kernel_rfl
theorem sz34 : szOf Try.prog 34 = some 1 := by kernel_rfl
theorem ag34 : aggOf Try.prog 34 = some false := by kernel_rfl
theorem po34 : ptrOf Try.prog 34 = some 85 := by kernel_rfl
theorem sz36 : szOf Try.prog 36 = some 4 := by kernel_rfl
theorem by36 : byOf Try.prog 36 = some 32 := by kernel_rfl
theorem ag36 : aggOf Try.prog 36 = some true := by kernel_rfl
theorem fl36_0 : fldOf Try.prog 36 0 = some (32, 0) := by kernel_rfl
theorem fl36_1 : fldOf Try.prog 36 1 = some (34, 3) := by kernel_rfl
theorem sl43 : sliOf Try.prog 43 = some 3 := by kernel_rfl
theorem ag76 : aggOf Try.prog 76 = some false := by kernel_rfl
theorem fl80_0 : fldOf Try.prog 80 0 = some (25, 0) := by kernel_rfl
theorem sz82 : szOf Try.prog 82 = some 2 := by kernel_rfl
theorem ag82 : aggOf Try.prog 82 = some true := by kernel_rfl
theorem fl82_0 : fldOf Try.prog 82 0 = some (3, 0) := by kernel_rfl
theorem fl82_1 : fldOf Try.prog 82 1 = some (3, 1) := by kernel_rfl
theorem sz83 : szOf Try.prog 83 = some 1 := by kernel_rfl
theorem ag83 : aggOf Try.prog 83 = some false := by kernel_rfl
theorem sl83 : sliOf Try.prog 83 = some 87 := by kernel_rfl
theorem fl85_0 : fldOf Try.prog 85 0 = some (82, 0) := by kernel_rfl
theorem fl85_1 : fldOf Try.prog 85 1 = some (83, 2) := by kernel_rfl
theorem sz87 : szOf Try.prog 87 = some 1 := by kernel_rfl
theorem by87 : byOf Try.prog 87 = some 8 := by kernel_rfl
theorem ag87 : aggOf Try.prog 87 = some false := by kernel_rfl
theorem po87 : ptrOf Try.prog 87 = some 91 := by kernel_rfl
theorem sz89 : szOf Try.prog 89 = some 4 := by kernel_rfl
theorem ag89 : aggOf Try.prog 89 = some true := by kernel_rfl
theorem sz91 : szOf Try.prog 91 = some 256 := by kernel_rfl
theorem ag91 : aggOf Try.prog 91 = some true := by kernel_rfl
theorem ar91 : arrOf Try.prog 91 = some (64, 89) := by kernel_rfl
theorem sz97 : szOf Try.prog 97 = some 6 := by kernel_rfl
theorem ag97 : aggOf Try.prog 97 = some true := by kernel_rfl
theorem fl97_0 : fldOf Try.prog 97 0 = some (3, 0) := by kernel_rfl
theorem fl97_1 : fldOf Try.prog 97 1 = some (3, 1) := by kernel_rfl
theorem fl97_2 : fldOf Try.prog 97 2 = some (89, 2) := by kernel_rfl
theorem sl115 : sliOf Try.prog 115 = some 97 := by kernel_rfl
theorem mp117 : mapOf Try.prog 117 = some (3, 87) := by kernel_rfl
theorem sz119 : szOf Try.prog 119 = some 2 := by kernel_rfl
theorem ag119 : aggOf Try.prog 119 = some true := by kernel_rfl
theorem fl119_0 : fldOf Try.prog 119 0 = some (3, 0) := by kernel_rfl
theorem fl119_1 : fldOf Try.prog 119 1 = some (3, 1) := by kernel_rfl
theorem sl127 : sliOf Try.prog 127 = some 119 := by kernel_rfl
theorem fl130_0 : fldOf Try.prog 130 0 = some (91, 0) := by kernel_rfl
end Go.Proofs.Ytmihoejecpcmjaa
/- tile: colours, tiles, plainly. -/
namespace Go.Proofs.Ytmihoejecpcmjaa
open Go Go.RowKit
structure C4 where
  r : Int
  g : Int
  b : Int
  a : Int
abbrev C4.v (c : C4) : Value := .agg #[.int .u8 c.r, .int .u8 c.g, .int .u8 c.b, .int .u8 c.a]
abbrev C4.cells (c : C4) : List Value := [.int .u8 c.r, .int .u8 c.g, .int .u8 c.b, .int .u8 c.a]
theorem C4.cells_len (c : C4) : c.cells.length = 4 := rfl
theorem C4.cells_one (c : C4) : ∀ u ∈ c.cells, u.oneCell' = true := by simp [C4.cells, Value.oneCell']
theorem C4.cells_all (c : C4) : c.cells.all isOne = true := rfl
theorem c4_ext {x y : C4} (h1 : x.r = y.r) (h2 : x.g = y.g) (h3 : x.b = y.b) (h4 : x.a = y.a) : x = y := by
  cases x; cases y; simp_all
instance : DecidableEq C4 := fun x y => decidable_of_iff (x.r = y.r ∧ x.g = y.g ∧ x.b = y.b ∧ x.a = y.a) ⟨fun ⟨h1, h2, h3, h4⟩ => c4_ext h1 h2 h3 h4, fun e => by subst e; exact ⟨rfl, rfl, rfl, rfl⟩⟩
abbrev zeroC : C4 := ⟨0, 0, 0, 0⟩
abbrev til (l : List C4) : Value := .agg (lst C4.cells l)
def zero64 : List C4 := List.replicate 64 zeroC
theorem zero64_len : zero64.length = 64 := by simp [zero64]
def get (l : List C4) (i : Nat) : C4 := l.getD i zeroC
theorem lt64 {l : List C4} {i : Nat} (hl : l.length = 64) (hi : i < 64) : i < l.length := by omega
theorem tsz {l : List C4} (hl : l.length = 64) : (lst C4.cells l).size = 256 := by rw [lst_size C4.cells_len, hl]
theorem le64 {l : List C4} (hl : l.length = 64) : 0 + 256 ≤ (lst C4.cells l).size := by rw [tsz hl]; decide
theorem ex64 {l : List C4} (hl : l.length = 64) : (lst C4.cells l).extract 0 (0 + 256) = lst C4.cells l := by rw [Nat.zero_add, ← tsz hl]; simp
theorem len_set {l : List C4} {i : Nat} {c : C4} (hl : l.length = 64) : (l.set i c).length = 64 := by rw [List.length_set, hl]
/-- Which points are in a tile. -/
def isP (x y : Int) : Bool := decide (0 ≤ x ∧ x < 8 ∧ 0 ≤ y ∧ y < 8)
theorem isP_nat {x y : Int} (h : isP x y = true) : ∃ px py : Nat, x = px ∧ y = py ∧ px < 8 ∧ py < 8 := by
  have h := of_decide_eq_true h
  exact ⟨x.toNat, y.toNat, by omega, by omega, by omega, by omega⟩
/-- One point is put, if it is one. -/
def putL (m : List C4) (x y : Int) (c : C4) : List C4 := if isP x y then m.set (8 * y + x).toNat c else m
theorem putL_no {m : List C4} {x y : Int} {c : C4} (h : isP x y = false) : putL m x y c = m := by unfold putL; rw [if_neg (by rw [h]; decide)]
theorem putL_at {m : List C4} {px py : Nat} {c : C4} (hx : px < 8) (hy : py < 8) : putL m px py c = m.set (py * 8 + px) c := by
  unfold putL
  rw [if_pos (show isP px py = true from decide_eq_true ⟨by omega, by omega, by omega, by omega⟩), show (8 * (py : Int) + px).toNat = py * 8 + px by omega]
theorem putL_len (m : List C4) (x y : Int) (c : C4) : (putL m x y c).length = m.length := by
  unfold putL; split
  · exact List.length_set
  · rfl
/-- A tile as a whole. -/
structure T64 where
  l : List C4
  h : l.length = 64
theorem t64_ext {x y : T64} (h : x.l = y.l) : x = y := by cases x; cases y; cases h; rfl
instance : DecidableEq T64 := fun x y => decidable_of_iff (x.l = y.l) ⟨t64_ext, fun e => by rw [e]⟩
theorem t64_dec (x y : T64) : decide (x.l = y.l) = decide (x = y) := by
  by_cases h : x = y
  · rw [decide_eq_true h, decide_eq_true (by rw [h])]
  · rw [decide_eq_false h, decide_eq_false (fun e => h (t64_ext e))]
abbrev T64.cells (t : T64) : List Value := t.l.flatMap C4.cells
theorem T64.cells_len (t : T64) : t.cells.length = 256 := by rw [flat_len C4.cells_len, t.h]
theorem T64.cells_all (t : T64) : t.cells.all isOne = true := by
  rw [List.all_flatMap]; exact List.all_eq_true.2 fun x _ => C4.cells_all x
theorem T64.cells_one (t : T64) : ∀ u ∈ t.cells, u.oneCell' = true := by
  intro u hu
  obtain ⟨x, _, hx⟩ := List.mem_flatMap.1 hu
  exact C4.cells_one x u hx
abbrev zeroT : T64 := ⟨zero64, zero64_len⟩
/-- With another colour at a place. -/
def T64.set (t : T64) (i : Nat) (c : C4) : T64 := ⟨t.l.set i c, len_set t.h⟩
theorem eqC (x y : C4) : (decide (x.r = y.r) && (decide (x.g = y.g) && (decide (x.b = y.b) && (decide (x.a = y.a) && true)))) = decide (x = y) := by
  by_cases h : x = y
  · subst h; simp
  · rw [decide_eq_false h]
    refine Bool.eq_false_iff.2 fun e => h ?_
    simp only [Bool.and_true, Bool.and_eq_true, decide_eq_true_eq] at e
    exact c4_ext e.1 e.2.1 e.2.2.1 e.2.2.2
theorem eq_til {l m : List C4} (hl : l.length = 64) (hm : m.length = 64) (w : World) : (Op.equal 91 (til l) (til m)).run Try.prog w = .ok (decide (l = m)) w :=
  run_equalLst (il := [(0, .u8), (1, .u8), (2, .u8), (3, .u8)]) ar91 sz89 ag89 (by kernel_rfl) C4.cells_len hl hm (fun _ => rfl) fun x y h => of_decide_eq_true ((eqC x y).symm.trans h)
theorem eq_t64 (x y : T64) (w : World) : (Op.equal 91 (til x.l) (til y.l)).run Try.prog w = .ok (decide (x = y)) w := by rw [eq_til x.h y.h, t64_dec]
end Go.Proofs.Ytmihoejecpcmjaa
/- canvas: a work of a tile. -/
namespace Go.Proofs.Ytmihoejecpcmjaa
open Go Go.RowKit
theorem build_work {cs : Array Value} (hc : cs.size = 256) (w : World) : (Instr.build 130 #[(0, .agg cs)]).run Try.prog w = .ok (.agg cs) w := by
  have key : Try.prog.built 130 [(0, .agg cs)] = Instr.fill (fun x => (#[(0, 256)] : Array (Nat × Nat))[x]?) (lst C4.cells zero64) [(0, .agg cs)] := by kernel_rfl
  exact run_build w 130 #[(0, .agg cs)] cs (key.trans (fill_one (n := 256) rfl (tsz zero64_len) hc))
end Go.Proofs.Ytmihoejecpcmjaa
