/- Laws of the walk that all parts of this seat share: a range over a function by an index, the way out behind it, blocks and cells. Over any program. -/
import Derived.RangeFuncNested
import Derived.RangeFuncCalls
import Derived.RangeFuncLeaves
import Derived.WalkKit
import Derived.WalkLawsBesides
import Derived.WalkSpells
import Derived.Lib.Hide
import Derived.RangeFuncBound
import Derived.Shelf.Abstract
import Derived.Shelf.RegionOpen
import Derived.OwnWalkIn
import Derived.TacticsInMore
import Derived.LoopNIn
import Derived.LoopIn
import Derived.Deep.RegionHeld3
import Derived.Deep.DrawnRows
import Derived.Deep.DeepFit
import Derived.Deep.LoopGhost
import Derived.Deep.QuietTactic
import Derived.BigQuiet
namespace Go.Proofs.Ytbiapeaghbndoaa
open Go Go.RowKit

theorem ret_int {k : IntKind} {a b : Int} (h : a = b) : Ending.returned (.int k a) = .returned (.int k b) := by rw [h]

/-! ### the way out of a function that has ranged over functions -/
def bodyM (P : Program) (fn : Func) (R : Ending → World → Prop) : Exit → Act → World → Prop := bodyPostM Fence.wide 9 P fn R

theorem calls_of_marks {P : Program} {f : FuncId} {fn : Func} {c : Code} {args : Array Value} {w : World} {R : Ending → World → Prop}
    (hf : P.funcs[f]? = some fn) (hb : fn.body = some c)
    (h : c.wp P (bodyM P fn R) { tmps := args ++ Array.replicate (fn.ntmps - args.size) undef, defers := [] } w) : Calls P f args w R :=
  callsIn_wide.1 (callsIn_of_wp_marks (F := Fence.wide) (n := 9) hf hb trivial (wpIn_wide.2 h) rfl)

theorem bodyM_ret0 {P : Program} {fn : Func} {R : Ending → World → Prop} {a : Act} {w : World} {v : Value}
    (hd : a.defers = []) (hr : (results fn a.tmps).run P w = .ok v w) (hR : R (.returned v) w) : bodyM P fn R .ret a w := by
  show LeavesInM _ _ _ _ _ _ _ _ _
  rw [hd]
  exact ⟨v, hr, hR⟩

theorem bodyM_ret1 {P : Program} {fn : Func} {R : Ending → World → Prop} {a : Act} {w : World} {v : Value} {D : Nat}
    (hd : a.defers = [{ target := .collected D, args := #[] }]) (hk : w.heap[D]? = some (.deferred (some [])))
    (hr : (results fn a.tmps).run P (w.putObj D (.deferred none)) = .ok v (w.putObj D (.deferred none))) (hR : R (.returned v) (w.putObj D (.deferred none))) : bodyM P fn R .ret a w := by
  show LeavesInM _ _ _ _ _ _ _ _ _
  rw [hd]
  exact ⟨by simp, .inl ⟨_, _, rfl, run_takeDeferred hk, ⟨v, hr, hR⟩⟩⟩

theorem bodyM_ret2 {P : Program} {fn : Func} {R : Ending → World → Prop} {a : Act} {w : World} {v : Value} {D E : Nat}
    (hd : a.defers = [{ target := .collected D, args := #[] }, { target := .collected E, args := #[] }]) (hne : E ≠ D)
    (hk : w.heap[D]? = some (.deferred (some []))) (hk' : w.heap[E]? = some (.deferred (some [])))
    (hr : (results fn a.tmps).run P ((w.putObj D (.deferred none)).putObj E (.deferred none)) = .ok v ((w.putObj D (.deferred none)).putObj E (.deferred none)))
    (hR : R (.returned v) ((w.putObj D (.deferred none)).putObj E (.deferred none))) : bodyM P fn R .ret a w := by
  show LeavesInM _ _ _ _ _ _ _ _ _
  rw [hd]
  refine ⟨by simp, .inl ⟨_, _, rfl, run_takeDeferred hk, ⟨by simp, .inl ⟨_, _, rfl, run_takeDeferred ?_, ⟨v, hr, hR⟩⟩⟩⟩⟩
  rw [World.putObj_heap_other hne]; exact hk'

theorem bodyM_normal {P : Program} {fn : Func} {R : Ending → World → Prop} {a : Act} {w : World} (h : bodyM P fn R .ret a w) : bodyM P fn R .normal a w := h

theorem stepR_scope {P : Program} {b : Frame} {a : Act} {k : List Item} {cs : List Frame} {w : World} {c : Code} :
    step P (lone (b.atR a (.code (.scope c) :: k)) cs w) = .next (lone (b.atR a (.code c :: .inScope c :: k)) cs w) :=
  step_lone_go (by simp [stepG, stepG.exec, Frame.atR])
theorem stepR_inScope {P : Program} {b : Frame} {a : Act} {k : List Item} {cs : List Frame} {w : World} {c : Code} :
    step P (lone (b.atR a (.inScope c :: k)) cs w) = .next (lone (b.atR a k) cs w) :=
  step_lone_go (by simp [stepG, stepG.exec, Frame.atR])

theorem wpIn_scope_straight {F : Fence} {n : Nat} {P : Program} {Q : Exit → Act → World → Prop} {a : Act} {w : World} {c : Code} (h : c.wpIn F n P (Exit.noGoto Q) a w) :
    (Code.scope c).wpIn F n P Q a w := by
  intro b k cs hro hb hr
  have h0 : (lone (b.atR a (.code (.scope c) :: k)) cs w).fenced P F := fenced_calm hb hr rfl
  obtain ⟨e, a₁, w₁, hq, harr⟩ := h b (.inScope c :: k) cs hro hb hr
  cases e with
  | normal => exact ⟨.normal, a₁, w₁, hq, .head h0 stepR_scope (StepsIn.trans harr (.one (fenced_calm hb hr rfl) stepR_inScope))⟩
  | exit id =>
    have hx : exitTo id (.inScope c :: k) = exitTo id k := by simp [exitTo]
    exact ⟨.exit id, a₁, w₁, hq, fun k' hk => .head h0 stepR_scope (harr.1 k' (by rw [hx]; exact hk)),
      fun hr' hk => let ⟨k₁, h1, h2⟩ := harr.2 hr' (by rw [hx]; exact hk); ⟨k₁, h1, .head h0 stepR_scope h2⟩⟩
  | goto l => exact hq.elim
  | ret => exact ⟨_, a₁, w₁, hq, .of_steps (.one h0 stepR_scope) harr⟩
  | panic ch => exact ⟨_, a₁, w₁, hq, .of_steps (.one h0 stepR_scope) harr⟩
  | outgrown => exact ⟨_, a₁, w₁, hq, .of_steps (.one h0 stepR_scope) harr⟩

theorem wpIn_label_seq {F : Fence} {n : Nat} {P : Program} {Q : Exit → Act → World → Prop} {a : Act} {w : World} {l : Nat} {y : Code} (h : y.wpIn F n P Q a w) :
    (Code.seq (.label l) y).wpIn F n P Q a w := wpIn_seq (wpIn_label h)
theorem wp_label_seq {P : Program} {Q : Exit → Act → World → Prop} {a : Act} {w : World} {l : Nat} {y : Code} (h : y.wp P Q a w) :
    (Code.seq (.label l) y).wp P Q a w := wp_seq (wp_label h)

theorem wide_fn (f : FuncId) : Fence.wide.fn f = True := rfl
theorem wide_depth : Fence.wide.depth = none := rfl

/-! ### blocks -/
/-- Block number b. -/
def hp (W : World) (b : Nat) : Option Obj := W.heap[b]?
/-- Each of the blocks lies as it is said. -/
def Blocks (W : World) : List (Nat × Obj) → Prop
  | [] => True
  | p :: l => hp W p.1 = some p.2 ∧ Blocks W l
/-- Each is one of cells, or lies ahead of B. -/
def CellsAll (B : Nat) : List (Nat × Obj) → Prop
  | [] => True
  | p :: l => (p.2.isCells = true ∨ p.1 < B) ∧ CellsAll B l

theorem Blocks.kept {W W' : World} {B : Nat} {row : Option Nat} {l : List (Nat × Obj)} (h : Blocks W l) (hc : CellsAll B l) (hg : W.grownBy W' row)
    (hr : ∀ r, row = some r → B ≤ r ∧ ∃ o : Obj, W.heap[r]? = some o ∧ o.isCells = false) : Blocks W' l := by
  induction l with
  | nil => trivial
  | cons p l ih =>
    refine ⟨?_, ih h.2 hc.2⟩
    rcases hc.1 with h1 | h1
    · exact (grownBy_keeps_cells hg (fun r e => (hr r e).2) h.1 h1).trans h.1
    · exact (hg.block p.1 (Array.getElem?_eq_some_iff.1 h.1).1 (fun e => by have := (hr p.1 e.symm).1; omega)).trans h.1

theorem Below.keeps {W W' : World} (h : Below W.heap.size W W') : KeepsOthers W W' :=
  ⟨h.size, fun k o hk _ => (h.block k (Array.getElem?_eq_some_iff.1 hk).1).trans hk⟩
theorem below_heap {B : Nat} {W W' : World} (h : Below B W W') {b : Nat} {o : Obj} (hb : b < B) (ho : W.heap[b]? = some o) : W'.heap[b]? = some o := (h.block b hb).trans ho
theorem below_here {W W' : World} (h : Below W.heap.size W W') {b : Nat} {o : Obj} (ho : W.heap[b]? = some o) : W'.heap[b]? = some o :=
  (h.block b (Array.getElem?_eq_some_iff.1 ho).1).trans ho
theorem Below.putObj {B : Nat} {A W : World} (h : Below B A W) {D : Nat} (hD : B ≤ D) (o : Obj) : Below B A (W.putObj D o) :=
  h.trans ⟨rfl, rfl, rfl, by simp, fun k hk => World.putObj_heap_other (by omega)⟩

theorem heap_alloc_old {W : World} {b : Nat} {o o' : Obj} (h : W.heap[b]? = some o) : (W.alloc o').heap[b]? = some o :=
  (Below.heap_alloc W o' b (Array.getElem?_eq_some_iff.1 h).1).trans h
theorem heap_setCell_other {W : World} {b : Nat} {a : Addr} {v : Value} {o : Obj} (h : W.heap[b]? = some o) (hne : b ≠ a.block) : (W.setCell a v).heap[b]? = some o :=
  (Below.heap_setCell W a v b hne).trans h
theorem heap_setCell_same {W : World} {b i : Nat} {v : Value} {c : Array Value} {t : TypeId} {f : Nat × Nat} (h : W.heap[b]? = some (.cells c t f)) :
    (W.setCell ⟨b, i, none⟩ v).heap[b]? = some (.cells (c.setIfInBounds i v) t f) := by
  obtain ⟨hlt, hk⟩ := Array.getElem?_eq_some_iff.1 h
  show (W.heap.modify b _)[b]? = _
  rw [Array.getElem?_eq_getElem (by rw [Array.size_modify]; exact hlt), Array.getElem_modify_self, hk]
  rfl
theorem cell_of {W : World} {b i : Nat} {v : Value} {c : Array Value} {t : TypeId} {f : Nat × Nat} (h : W.heap[b]? = some (.cells c t f)) (hi : c[i]? = some v) : W.cell? ⟨b, i, none⟩ = some v := by
  simp [World.cell?, h, hi]
theorem free_of {W : World} {b i : Nat} {c : Array Value} {t : TypeId} (h : W.heap[b]? = some (.cells c t (0, 0))) : W.frozen? ⟨b, i, none⟩ = false := by
  simp [World.frozen?, h]
theorem heap_alloc_if (W : World) (o : Obj) (i : Nat) : (W.alloc o).heap[i]? = if i = W.heap.size then some o else W.heap[i]? := by
  show (W.heap.push o)[i]? = _
  rw [Array.getElem?_push]
def Obj.put (i : Nat) (v : Value) : Obj → Obj
  | .cells c t f => .cells (c.setIfInBounds i v) t f
  | o => o
theorem heap_setCell_if (W : World) (b i : Nat) (v : Value) (k : Nat) : (W.setCell ⟨b, i, none⟩ v).heap[k]? = if k = b then (W.heap[b]?).map (Obj.put i v) else W.heap[k]? := by
  show (W.heap.modify b _)[k]? = _
  rw [Array.getElem?_modify]
  by_cases h : k = b
  · subst h
    simp only [if_true]
    congr 1
  · rw [if_neg h, if_neg (fun e => h e.symm)]
theorem hp_alloc (W : World) (o : Obj) (i : Nat) : hp (W.alloc o) i = if i = W.heap.size then some o else hp W i := heap_alloc_if W o i
theorem hp_setCell (W : World) (b i : Nat) (v : Value) (k : Nat) : hp (W.setCell ⟨b, i, none⟩ v) k = if k = b then (hp W b).map (Obj.put i v) else hp W k := heap_setCell_if W b i v k
theorem hp_drew (W : World) (k : Nat) : hp W.drew k = hp W k := rfl
theorem hp_putObj (W : World) (l : Nat) (o : Obj) {k : Nat} (h : k ≠ l) : hp (W.putObj l o) k = hp W k := World.putObj_heap_other h
theorem hp_below {B : Nat} {W W' : World} (h : Below B W W') {b : Nat} (hb : b < B) : hp W' b = hp W b := h.block b hb
theorem hp_lt {W : World} {b : Nat} {o : Obj} (h : hp W b = some o) : b < W.heap.size := (Array.getElem?_eq_some_iff.1 h).1
theorem hp_old {W : World} {b : Nat} {o : Obj} (o' : Obj) (h : hp W b = some o) : hp (W.alloc o') b = some o := heap_alloc_old h
theorem hp_new (W : World) (o : Obj) : hp (W.alloc o) W.heap.size = some o := World.alloc_heap_new W o
theorem kept {W W' : World} (h : Below W.heap.size W W') {b : Nat} {o : Obj} (ho : hp W b = some o) : hp W' b = some o := (hp_below h (hp_lt ho)).trans ho
theorem below_call {N : Nat} {w w1 w2 : World} (h : Below N w w1) (hN : N ≤ w.heap.size) (h2 : Below w1.heap.size w1 w2) : Below N w w2 := h.trans (h2.mono (Nat.le_trans hN h.size))
theorem cells1 {W : World} {b : Nat} {t : TypeId} {v0 : Value} (h : W.heap[b]? = some (.cells #[v0] t (0, 0))) :
    W.cell? ⟨b, 0, none⟩ = some v0 ∧ (∀ i, W.frozen? ⟨b, i, none⟩ = false) := ⟨cell_of h rfl, fun _ => free_of h⟩
theorem cells2 {W : World} {b : Nat} {t : TypeId} {v0 v1 : Value} (h : W.heap[b]? = some (.cells #[v0, v1] t (0, 0))) :
    W.cell? ⟨b, 0, none⟩ = some v0 ∧ W.cell? ⟨b, 1, none⟩ = some v1 ∧ (∀ i, W.frozen? ⟨b, i, none⟩ = false) := ⟨cell_of h rfl, cell_of h rfl, fun _ => free_of h⟩
theorem cells3 {W : World} {b : Nat} {t : TypeId} {v0 v1 v2 : Value} (h : W.heap[b]? = some (.cells #[v0, v1, v2] t (0, 0))) :
    W.cell? ⟨b, 0, none⟩ = some v0 ∧ W.cell? ⟨b, 1, none⟩ = some v1 ∧ W.cell? ⟨b, 2, none⟩ = some v2 ∧ (∀ i, W.frozen? ⟨b, i, none⟩ = false) := ⟨cell_of h rfl, cell_of h rfl, cell_of h rfl, fun _ => free_of h⟩
theorem cells4 {W : World} {b : Nat} {t : TypeId} {v0 v1 v2 v3 : Value} (h : W.heap[b]? = some (.cells #[v0, v1, v2, v3] t (0, 0))) :
    W.cell? ⟨b, 0, none⟩ = some v0 ∧ W.cell? ⟨b, 1, none⟩ = some v1 ∧ W.cell? ⟨b, 2, none⟩ = some v2 ∧ W.cell? ⟨b, 3, none⟩ = some v3 ∧ (∀ i, W.frozen? ⟨b, i, none⟩ = false) := ⟨cell_of h rfl, cell_of h rfl, cell_of h rfl, cell_of h rfl, fun _ => free_of h⟩
theorem lt_of {W : World} {b : Nat} {o : Obj} (h : W.heap[b]? = some o) : b < W.heap.size := (Array.getElem?_eq_some_iff.1 h).1

/-! ### an iterator that reads nothing but what 'Keep' says, and makes no memory; and the range over it -/
/-- Called with a 'yield', it hands over the elements of xs in order, till a round says 'no more'; of the world nothing else turns. -/
def Iter (P : Program) (gf : Nat) (lb : Array Value) {α : Type} (encs : α → Array Value) (xs : List α) (Keep : World → Prop) : Prop :=
  ∀ (n l : Nat) (J : Nat → World → Prop) (Jx : World → Prop) (W : World), (∀ k W, J k W → Keep W) →
    (∀ (k : Nat) (hk : k < xs.length) (W1 : World), J k W1 → YieldAt Fence.wide n P l (encs xs[k]) W1 fun e W' =>
      (e = .returned (.bool true) ∧ J (k + 1) W') ∨ (e = .returned (.bool false) ∧ Jx W')) →
    J 0 W → CallsIn Fence.wide (n + 1) P gf (#[.func (.yield l) #[] #[]] ++ lb) W fun e W' => (∃ v, e = .returned v) ∧ (J xs.length W' ∨ Jx W')

/-- What a round leaves. -/
def roundEnd (B : Nat) (I : Nat → World → Prop) (Ix : Code → World → Prop) (k : Nat) (W : World) : Exit → Act → World → Prop
  | .normal, _, W' => KeepsFrom B W W' ∧ I (k + 1) W'
  | .ret, _, W' => KeepsFrom B W W' ∧ Ix .ret W'
  | .exit id, _, W' => KeepsFrom B W W' ∧ Ix (.exit id) W'
  | .goto t, _, W' => KeepsFrom B W W' ∧ Ix (.goto t) W'
  | .panic _, _, _ => False
  | .outgrown, _, _ => False

theorem wp_range {P : Program} {α : Type} {g : Operand} {ps : Array Tmp} {assign body : Code} {Q : Exit → Act → World → Prop} {a : Act} {w : World}
    {gf : Nat} {lb : Array Value} {encs : α → Array Value} {xs : List α} {Keep : World → Prop} (hit : Iter P gf lb encs xs Keep)
    (hg : a.eval g = .func (.func gf) #[] lb) (eg : ∀ args w, (callFunc gf args).run P w = .ok (.enter gf args) w)
    (hps : ∀ x, (encs x).size = ps.size)
    (I : Nat → World → Prop) (Ix : Code → World → Prop) (hIK : ∀ k W, I k W → Keep W) (hI : OwnFrom w.heap.size I) (hIx : OwnFrom w.heap.size Ix) (h0 : I 0 w)
    (hround : ∃ a₁ : α → Act, (∀ (l : Nat) (x : α) (W : World) (K : Act → World → Prop), K (a₁ x) W →
      assign.wpIn (Fence.wide.inRound l) 0 P (Exit.then K (fun _ _ _ => False)) { tmps := (ps.zip (encs x)).foldl (fun t (p, v) => t.setIfInBounds p v) a.tmps, defers := [] } W) ∧
      ∀ (l k : Nat) (W : World) (hk : k < xs.length), w.heap.size ≤ l → (∃ r, W.heap[l]? = some (.loop r)) → I k W →
      body.wpIn (Fence.wide.inRound l) 0 P (roundEnd w.heap.size I Ix k W) (a₁ xs[k]) W)
    (hdone : ∀ (D : Nat) (W : World), w.heap.size ≤ D → I xs.length W → W.heap[D]? = some (.deferred (some [])) → Q .normal { a with defers := { target := .collected D, args := #[] } :: a.defers } W)
    (hstop : ∀ (D : Nat) (c : Code) (W : World), w.heap.size ≤ D → Ix c W → W.heap[D]? = some (.deferred (some [])) → c.wp P Q { a with defers := { target := .collected D, args := #[] } :: a.defers } W) :
    (Code.rangeFunc g ps assign body).wp P Q a w := by
  obtain ⟨a₁, hassign, hbody⟩ := hround
  refine (wpIn_wide (n := 2)).1 (wpIn_rangeFunc ?_)
  intro fn hfn
  rw [show Fence.wide.round = none from rfl]
  obtain ⟨rec, hrec⟩ : ∃ rec : LoopState → Option Code → Loop, rec = fun st pe => { state := st, pending := pe, fn, tmps := a.tmps, params := ps, assign, body, defers := w.heap.size } := ⟨_, rfl⟩
  obtain ⟨W1, hW1⟩ : ∃ W1, (w.alloc (.deferred (some []))).alloc (.loop (rec .ready none)) = W1 := ⟨_, rfl⟩
  have hL1 : W1.heap[w.heap.size + 1]? = some (.loop (rec .ready none)) := by
    rw [← hW1]; have := World.alloc_heap_new (w.alloc (.deferred (some []))) (.loop (rec .ready none)); rwa [World.size_alloc] at this
  have hK1 : W1.heap[w.heap.size]? = some (.deferred (some [])) := by
    rw [← hW1]; exact (Below.heap_alloc _ _ _ (by simp)).trans (World.alloc_heap_new w _)
  have hI1 : I 0 W1 := by rw [← hW1]; exact hI.alloc _ (hI.alloc _ h0)
  refine ⟨w.heap.size + 1, [{ target := .collected w.heap.size, args := #[] }], W1, { target := .fn (.func gf) lb, args := #[.func (.yield (w.heap.size + 1)) #[] #[]] }, W1, gf,
    #[.func (.yield (w.heap.size + 1)) #[] #[]] ++ lb, W1, ?_, ?_, ?_, ?_, fun h => by simp [Fence.wide] at h, ?_⟩
  · rw [← hW1, hrec]; exact run_enterLoop_outer _ _ _ _ _
  · simp only [resolve, hg]
    simp [go_sem]
  · intro f' _; trivial
  · simp [invoke, go_sem, eg]
  · refine (hit 0 (w.heap.size + 1)
      (fun k W => I k W ∧ W.heap[w.heap.size + 1]? = some (.loop (rec .ready none)) ∧ W.heap[w.heap.size]? = some (.deferred (some [])))
      (fun W => ∃ c, Ix c W ∧ W.heap[w.heap.size + 1]? = some (.loop (rec .done (some c))) ∧ W.heap[w.heap.size]? = some (.deferred (some [])))
      W1 (fun k W h => hIK k W h.1) ?_ ⟨hI1, hL1, hK1⟩).mono ?_
    · rintro k hk W ⟨hi, hl, hkk⟩
      have hlt : w.heap.size + 1 < W.heap.size := (Array.getElem?_eq_some_iff.1 hl).1
      have hy := run_yield (P := P) (args := encs xs[k]) hl (by rw [hrec]; exact hps _)
      rw [hrec] at hy
      refine ⟨fn, _, assign, body, hy, roundIn_of_wpIn hfn (hassign _ xs[k] W _ ?_)⟩
      clear hy
      refine ⟨_, run_beginRound hl (by rw [hrec]), ?_⟩
      have hl2 : (W.putObj (w.heap.size + 1) (.loop { rec .ready none with state := .busy })).heap[w.heap.size + 1]? = some (.loop { rec .ready none with state := .busy }) := World.putObj_heap_same hlt
      have hk2 : (W.putObj (w.heap.size + 1) (.loop { rec .ready none with state := .busy })).heap[w.heap.size]? = some (.deferred (some [])) := (World.putObj_heap_other (by omega)).trans hkk
      refine wpIn_mono (hbody _ k _ hk (by omega) ⟨_, hl2⟩ (hI.putObj _ hi (by omega) hl rfl)) ?_
      have fin : ∀ (jump : Option Code) (W3 : World), KeepsFrom w.heap.size (W.putObj (w.heap.size + 1) (.loop { rec .ready none with state := .busy })) W3 →
          (Instr.endRound (w.heap.size + 1) jump).run P W3 = .ok (.bool jump.isNone) (W3.putObj (w.heap.size + 1) (.loop (rec (if jump.isNone then .ready else .done) jump))) ∧
          W3.heap[w.heap.size + 1]? = some (.loop { rec .ready none with state := .busy }) ∧
          (W3.putObj (w.heap.size + 1) (.loop (rec (if jump.isNone then .ready else .done) jump))).heap[w.heap.size + 1]? = some (.loop (rec (if jump.isNone then .ready else .done) jump)) ∧
          (W3.putObj (w.heap.size + 1) (.loop (rec (if jump.isNone then .ready else .done) jump))).heap[w.heap.size]? = some (.deferred (some [])) := fun jump W3 hk3 => by
        have hl3 := hk3.same _ _ (by omega) hl2 rfl
        have := run_endRound (P := P) jump hl3
        rw [hrec] at this ⊢
        exact ⟨this, by rw [hrec] at hl3; exact hl3, World.putObj_heap_same (Array.getElem?_eq_some_iff.1 hl3).1, (World.putObj_heap_other (by omega)).trans (hk3.same _ _ (Nat.le_refl _) hk2 rfl)⟩
      rintro e a3 W3 hp
      cases e with
      | normal =>
        obtain ⟨hk3, hi3⟩ := hp
        obtain ⟨hr, hl3, hl4, hk4⟩ := fin none W3 hk3
        exact ⟨_, _, hr, .inl ⟨rfl, hI.putObj _ hi3 (by omega) hl3 rfl, hl4, hk4⟩⟩
      | ret =>
        obtain ⟨hk3, hi3⟩ := hp
        obtain ⟨hr, hl3, hl4, hk4⟩ := fin (some .ret) W3 hk3
        exact ⟨_, _, hr, .inr ⟨rfl, .ret, hIx.putObj _ hi3 (by omega) hl3 rfl, hl4, hk4⟩⟩
      | exit id =>
        obtain ⟨hk3, hi3⟩ := hp
        obtain ⟨hr, hl3, hl4, hk4⟩ := fin (some (.exit id)) W3 hk3
        exact ⟨_, _, hr, .inr ⟨rfl, .exit id, hIx.putObj _ hi3 (by omega) hl3 rfl, hl4, hk4⟩⟩
      | goto t =>
        obtain ⟨hk3, hi3⟩ := hp
        obtain ⟨hr, hl3, hl4, hk4⟩ := fin (some (.goto t)) W3 hk3
        exact ⟨_, _, hr, .inr ⟨rfl, .goto t, hIx.putObj _ hi3 (by omega) hl3 rfl, hl4, hk4⟩⟩
      | panic ch => exact hp.elim
      | outgrown => exact hp.elim
    · rintro e W2 ⟨⟨v, rfl⟩, (⟨hi, hl, hk⟩ | ⟨c, hi, hl, hk⟩)⟩
      · exact ⟨none, _, by have := run_endLoop (P := P) hl (by rw [hrec]; simp); rw [hrec] at this; exact this, hdone _ _ (Nat.le_refl _) (hI.putObj _ hi (by omega) hl rfl) ((World.putObj_heap_other (by omega)).trans hk)⟩
      · exact ⟨some c, _, by have := run_endLoop (P := P) hl (by rw [hrec]; simp); rw [hrec] at this; exact this, wpIn_wide.2 (hstop _ c _ (Nat.le_refl _) (hIx.putObj _ hi (by omega) hl rfl) ((World.putObj_heap_other (by omega)).trans hk))⟩

/-- An invariant of the usual form: below n₀ nothing has turned; these blocks of cells lie so; and whatever speaks of no world. -/
def Inv {ζ : Type} (n₀ : Nat) (w₀ : World) (L : Nat → ζ → List (Nat × Obj)) (R : Nat → ζ → Prop) (k : Nat) (W : World) : Prop :=
  ∃ z : ζ, Below n₀ w₀ W ∧ Blocks W (L k z) ∧ R k z

theorem Inv.own {ζ : Type} {n₀ B : Nat} {w₀ : World} {L : Nat → ζ → List (Nat × Obj)} {R : Nat → ζ → Prop} (hn : n₀ ≤ w₀.heap.size) (hB : n₀ ≤ B) (hc : ∀ k z, CellsAll B (L k z)) :
    OwnFrom B (Inv n₀ w₀ L R) := by
  rintro k W W' row ⟨z, hb, hl, hr⟩ hg hrow
  refine ⟨z, hb.grown hg (Nat.le_trans hn hb.size) (fun r e => Nat.le_trans hB (hrow r e).1), hl.kept (hc k z) hg hrow, hr⟩

theorem ownFalse {β : Type} (B : Nat) : OwnFrom B (fun (_ : β) (_ : World) => False) := fun _ _ _ _ h _ _ => h

end Go.Proofs.Ytbiapeaghbndoaa
