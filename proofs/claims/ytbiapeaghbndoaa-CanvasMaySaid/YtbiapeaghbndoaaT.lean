/- A judgement for walks that speaks of what is known of a frame and of memory, and of no world: its rules for code. Over any program. -/
import Derived.Test.YtbiapeaghbndoaaLib
namespace Go.Proofs.Ytbiapeaghbndoaa
open Go Go.RowKit

/-! ### what is known -/
/-- The first entry of that number. -/
def lk {α : Type} : List (Nat × α) → Nat → Option α
  | [], _ => none
  | (t, v) :: K, u => match Nat.beq t u with
    | true => some v
    | false => lk K u

/-- What is known of a frame. -/
structure FrOk (N : Nat) (D : List Deferred) (K : List (Nat × Value)) (a : Act) : Prop where
  size : a.tmps.size = N
  defers : a.defers = D
  knows : ∀ t v, lk K t = some v → a.tmps.getD t undef = v

/-- A thing in memory that is one's own: a block, a slice that owns its row (or is nil), or whatever else lies in some blocks. -/
inductive Res where
  | blk (b : Nat) (o : Obj)
  | row (v : Value) (e : TypeId) (size n : Nat) (xs : List Value)
  | abs (F : Nat → Prop) (H : World → Prop)
/-- The blocks in which it lies. -/
def Res.foot : Res → Nat → Prop
  | .blk b _, c => some b = some c
  | .row v _ _ _ _, c => v.ownBlock = some c
  | .abs F _, c => F c
def Res.ok (base : Nat) (w : World) : Res → Prop
  | .blk b o => base ≤ b ∧ hp w b = some o
  | .row v e size n xs => w.ownsRow base e size v n xs
  | .abs F H => H w ∧ (∀ b, F b → base ≤ b ∧ b < w.heap.size) ∧ ∀ w1 w2, H w1 → (∀ b, F b → hp w2 b = hp w1 b) → H w2
theorem Res.low {base : Nat} {w : World} {r : Res} (h : r.ok base w) {b : Nat} (hb : r.foot b) : base ≤ b ∧ b < w.heap.size := by
  cases r with
  | blk c o => cases hb; exact ⟨h.1, hp_lt h.2⟩
  | row v e size n xs =>
    rcases h.2 with ⟨rfl, _⟩ | ⟨g, cap, cur, rfl, h1, h2, _⟩
    · cases hb
    · cases hb; exact ⟨h1, hp_lt h2⟩
  | abs F H => exact h.2.1 b hb
theorem hp_some {w : World} {b : Nat} (h : b < w.heap.size) : ∃ o, hp w b = some o := ⟨w.heap[b], Array.getElem?_eq_getElem h⟩
theorem Res.keep {base : Nat} {w w' : World} {r : Res} (h : r.ok base w) (hb : ∀ b, r.foot b → hp w' b = hp w b) : r.ok base w' := by
  cases r with
  | blk c o => exact ⟨h.1, (hb c rfl).trans h.2⟩
  | row v e size n xs =>
    refine ⟨h.1, ?_⟩
    rcases h.2 with ⟨rfl, hn⟩ | ⟨g, cap, cur, rfl, h1, h2, h3⟩
    · exact .inl ⟨rfl, hn⟩
    · exact .inr ⟨g, cap, cur, rfl, h1, (hb g rfl).trans h2, h3⟩
  | abs F H =>
    refine ⟨h.2.2 w w' h.1 hb, fun b hF => ⟨(h.2.1 b hF).1, ?_⟩, h.2.2⟩
    obtain ⟨o, ho⟩ := hp_some (h.2.1 b hF).2
    exact hp_lt ((hb b hF).trans ho)
theorem Res.lift {base base' : Nat} {w : World} {r : Res} (h : r.ok base w) (hb : base' ≤ base) : r.ok base' w := by
  cases r with
  | blk b o => exact ⟨Nat.le_trans hb h.1, h.2⟩
  | row v e size n xs =>
    refine ⟨h.1, ?_⟩
    rcases h.2 with h1 | ⟨g, cap, cur, h1, h2, h3⟩
    · exact .inl h1
    · exact .inr ⟨g, cap, cur, h1, Nat.le_trans hb h2, h3⟩
  | abs F H => exact ⟨h.1, fun b hF => ⟨Nat.le_trans hb (h.2.1 b hF).1, (h.2.1 b hF).2⟩, h.2.2⟩
abbrev Heap := List (Nat × Res)
/-- What is known of memory: what was there at w₀ is as it was; and these things, each of them in another block, none of them there at w₀. -/
structure MemOk (w₀ : World) (L : Heap) (w : World) : Prop where
  ext : Below w₀.heap.size w₀ w
  own : ∀ i r, lk L i = some r → r.ok w₀.heap.size w
  sep : ∀ i j r s, lk L i = some r → lk L j = some s → i ≠ j → ∀ b, r.foot b → ¬ s.foot b

theorem MemOk.at {w₀ w : World} {L : Heap} (h : MemOk w₀ L w) (i : Nat) {b : Nat} {o : Obj} (hl : lk L i = some (.blk b o)) : hp w b = some o := (h.own i _ hl).2
theorem MemOk.row {w₀ w : World} {L : Heap} (h : MemOk w₀ L w) (i : Nat) {v : Value} {e : TypeId} {size n : Nat} {xs : List Value} (hl : lk L i = some (.row v e size n xs)) : w.ownsRow w₀.heap.size e size v n xs := h.own i _ hl
theorem MemOk.old {w₀ w : World} {L : Heap} (h : MemOk w₀ L w) {b : Nat} {o : Obj} (hb : hp w₀ b = some o) : hp w b = some o := kept h.ext hb
theorem MemOk.nil (w : World) : MemOk w [] w := ⟨Below.refl _ _, (fun _ _ h => by cases h), (fun _ _ _ _ h => by cases h)⟩
theorem MemOk.drew {w₀ w : World} {L : Heap} (h : MemOk w₀ L w) : MemOk w₀ L w.drew := ⟨h.ext.drew, fun i r hl => Res.keep (h.own i r hl) fun _ _ => rfl, h.sep⟩

/-- Each entry of the second list is known by the first. -/
def SubK {α : Type} (K : List (Nat × α)) : List (Nat × α) → Prop
  | [] => True
  | (t, v) :: r => lk K t = some v ∧ SubK K r
theorem SubK.get {α : Type} {K : List (Nat × α)} : ∀ {K' : List (Nat × α)}, SubK K K' → ∀ t v, lk K' t = some v → lk K t = some v
  | [], _, t, v, h => by cases h
  | (u, x) :: r, hs, t, v, h => by
    unfold lk at h
    cases hb : Nat.beq u t with
    | true =>
      rw [hb] at h
      cases h
      have := Nat.eq_of_beq_eq_true hb
      subst this
      exact hs.1
    | false =>
      rw [hb] at h
      exact SubK.get hs.2 t v h
theorem FrOk.sub {N : Nat} {D : List Deferred} {K K' : List (Nat × Value)} {a : Act} (h : FrOk N D K a) (hs : SubK K K') : FrOk N D K' a :=
  ⟨h.size, h.defers, fun t v ht => h.knows t v (hs.get t v ht)⟩
theorem MemOk.sub {w₀ w : World} {L L' : Heap} (h : MemOk w₀ L w) (hs : SubK L L') : MemOk w₀ L' w :=
  ⟨h.ext, fun i r hl => h.own i r (hs.get i _ hl), fun i j r s hi hj => h.sep i j r s (hs.get i _ hi) (hs.get j _ hj)⟩

theorem lk_cons_same {α : Type} (K : List (Nat × α)) (t : Nat) (v : α) : lk ((t, v) :: K) t = some v := by
  unfold lk
  rw [show Nat.beq t t = true from Nat.beq_refl t]
theorem lk_cons_other {α : Type} (K : List (Nat × α)) {t u : Nat} (v : α) (h : t ≠ u) : lk ((t, v) :: K) u = lk K u := by
  show (match Nat.beq t u with | true => some v | false => lk K u) = _
  cases hb : Nat.beq t u with
  | true => exact absurd (Nat.eq_of_beq_eq_true hb) h
  | false => rfl

theorem FrOk.put {N : Nat} {D : List Deferred} {K : List (Nat × Value)} {a : Act} (h : FrOk N D K a) {d : Nat} (v : Value) (hd : Nat.blt d N = true) : FrOk N D ((d, v) :: K) (a.put (some d) v) := by
  have hd' : d < a.tmps.size := by rw [h.size]; exact (Nat.blt_eq ▸ hd)
  refine ⟨by simp [Act.put, h.size], h.defers, fun t u ht => ?_⟩
  by_cases e : d = t
  · subst e
    rw [lk_cons_same] at ht
    cases ht
    simp [Act.put, Array.getD_eq_getD_getElem?, hd']
  · rw [lk_cons_other _ _ e] at ht
    rw [← h.knows t u ht]
    simp [Act.put, Array.getD_eq_getD_getElem?, Array.getElem?_setIfInBounds, e]

/-! ### operands -/
/-- What an operand is known to be. -/
def ev (K : List (Nat × Value)) : Operand → Option Value
  | .tmp t => lk K t
  | .const v => some v
  | .global g => some (.pointer (some ⟨g, 0, none⟩))
  | .func f => some (.func (.func f) #[] #[])
/-- A reading of operands that agrees with what is known. -/
def Rd (K : List (Nat × Value)) (ρ : Operand → Value) : Prop := ∀ x v, ev K x = some v → ρ x = v
theorem FrOk.rd {N : Nat} {D : List Deferred} {K : List (Nat × Value)} {a : Act} (h : FrOk N D K a) : Rd K a.eval := by
  intro x v hx
  cases x with
  | tmp t => exact h.knows t v hx
  | const u => cases hx; rfl
  | global g => cases hx; rfl
  | func f => cases hx; rfl

/-! ### the judgement -/
abbrev FW (ro : Option Nat) : Fence := { Fence.wide with round := ro }
abbrev Post := Exit → Act → World → Prop
/-- Where a walk goes on: the program, the frame's size, the deferred calls, the round, the world at the start. -/
structure Cx where
  P : Program
  w₀ : World
  N : Nat
  D : List Deferred
  ro : Option Nat
def T (C : Cx) (c : Code) (Q : Post) (K : List (Nat × Value)) (L : Heap) : Prop := ∀ a w, FrOk C.N C.D K a → MemOk C.w₀ L w → c.wpIn (FW C.ro) 0 C.P Q a w
def TL (C : Cx) (ops : Array Oper) (os : List Oper) (Q : Post) (K : List (Nat × Value)) (L : Heap) : Prop := ∀ a w, FrOk C.N C.D K a → MemOk C.w₀ L w → wpListIn (FW C.ro) 0 C.P ops Q os a w
/-- What comes behind, in a sequence. -/
abbrev Seq (C : Cx) (y : Code) (Q : Post) : Post := Exit.then (y.wpIn (FW C.ro) 0 C.P Q) Q
/-- The frame and memory are as one of a family says. -/
def At (C : Cx) {ι : Type} (p : ι → Prop) (K : ι → List (Nat × Value)) (L : ι → Heap) (a : Act) (w : World) : Prop := ∃ i, p i ∧ FrOk C.N C.D (K i) a ∧ MemOk C.w₀ (L i) w

section
variable {C : Cx} {Q : Post} {K : List (Nat × Value)} {L : Heap}

theorem T_sub {c : Code} (K' : List (Nat × Value)) (L' : Heap) (hK : SubK K K') (hL : SubK L L') (h : T C c Q K' L') : T C c Q K L := fun a w hf hm => h a w (hf.sub hK) (hm.sub hL)
theorem T_seq {x y : Code} (h : T C x (Seq C y Q) K L) : T C (.seq x y) Q K L := fun a w hf hm => wpIn_seq (h a w hf hm)
theorem T_region {id : Nat} {l : List Oper} (h : TL C l.toArray l Q K L) : T C (.region id l.toArray false) Q K L := fun a w hf hm => wpIn_region_lit (h a w hf hm)
theorem TL_seq {ops : Array Oper} {y : Code} (h : T C y Q K L) : TL C ops [] (Seq C y Q) K L := fun a w hf hm => h a w hf hm
theorem TL_end {ops : Array Oper} (h : ∀ a w, FrOk C.N C.D K a → MemOk C.w₀ L w → Q .normal a w) : TL C ops [] Q K L := fun a w hf hm => h a w hf hm
theorem T_skip (h : ∀ a w, FrOk C.N C.D K a → MemOk C.w₀ L w → Q .normal a w) : T C .skip Q K L := fun a w hf hm => wpIn_skip (h a w hf hm)
theorem T_exit {id : Nat} (h : ∀ a w, FrOk C.N C.D K a → MemOk C.w₀ L w → Q (.exit id) a w) : T C (.exit id) Q K L := fun a w hf hm => wpIn_exit (h a w hf hm)
theorem T_ret (h : ∀ a w, FrOk C.N C.D K a → MemOk C.w₀ L w → Q .ret a w) : T C .ret Q K L := fun a w hf hm => wpIn_ret (h a w hf hm)
theorem T_block {id : Nat} {c : Code} (h : T C c (Exit.inBlock id Q) K L) : T C (.block id c) Q K L := fun a w hf hm => wpIn_block (h a w hf hm)
theorem T_cond {c : Operand} {x y : Code} {t : Bool} (hc : ev K c = some (.bool t)) (ht : t = true → T C x Q K L) (hf : t = false → T C y Q K L) : T C (.cond c x y) Q K L :=
  fun a w hfr hm => wpIn_cond_split (hfr.rd _ _ hc) (fun e => ht e a w hfr hm) (fun e => hf e a w hfr hm)
theorem T_cond_t {c : Operand} {x y : Code} (hc : ev K c = some (.bool true)) (h : T C x Q K L) : T C (.cond c x y) Q K L := T_cond hc (fun _ => h) (fun e => by cases e)
theorem T_cond_f {c : Operand} {x y : Code} (hc : ev K c = some (.bool false)) (h : T C y Q K L) : T C (.cond c x y) Q K L := T_cond hc (fun e => by cases e) (fun _ => h)
/-- Ways meet again: each of them ends in one of a family. -/
theorem T_join {ι : Type} (p : ι → Prop) (KJ : ι → List (Nat × Value)) (LJ : ι → Heap) {x y : Code} (h : T C x (Exit.then (At C p KJ LJ) Q) K L) (hy : ∀ i, p i → T C y Q (KJ i) (LJ i)) : T C (.seq x y) Q K L := by
  intro a w hf hm
  refine wpIn_seq (wpIn_mono (h a w hf hm) ?_)
  intro e a' w' hq
  cases e with
  | normal => obtain ⟨i, hp, h1, h2⟩ := hq; exact hy i hp a' w' h1 h2
  | exit id => exact hq
  | goto l => exact hq
  | ret => exact hq
  | panic ch => exact hq
  | outgrown => exact hq
theorem At_intro {ι : Type} {p : ι → Prop} {KJ : ι → List (Nat × Value)} {LJ : ι → Heap} {a : Act} {w : World} (i : ι) (hp : p i) (hf : FrOk C.N C.D K a) (hm : MemOk C.w₀ L w) (hK : SubK K (KJ i)) (hL : SubK L (LJ i)) :
    At C p KJ LJ a w := ⟨i, hp, hf.sub hK, hm.sub hL⟩
theorem TL_at {ops : Array Oper} {ι : Type} {p : ι → Prop} {KJ : ι → List (Nat × Value)} {LJ : ι → Heap} (i : ι) (hp : p i) (hK : SubK K (KJ i)) (hL : SubK L (LJ i)) : TL C ops [] (Exit.then (At C p KJ LJ) Q) K L :=
  TL_end fun _ _ hf hm => At_intro i hp hf hm hK hL
/-- A loop: a family that holds at each round's head, and a number that each round lowers. -/
theorem T_loop {ι : Type} (p : ι → Prop) (KI : ι → List (Nat × Value)) (LI : ι → Heap) (μ : ι → Nat) (i₀ : ι) (hp : p i₀) (hK : SubK K (KI i₀)) (hL : SubK L (LI i₀)) {c : Code}
    (hround : ∀ i, p i → T C c (Exit.then (At C (fun j => p j ∧ μ j < μ i) KI LI) Q) (KI i) (LI i)) : T C (.loop c) Q K L := by
  intro a w hf hm
  have key : ∀ m i, p i → μ i ≤ m → ∀ a w, FrOk C.N C.D (KI i) a → MemOk C.w₀ (LI i) w → Code.roundsIn (FW C.ro) 0 C.P c Q (m + 1) a w := by
    intro m
    induction m with
    | zero =>
      intro i hi hle a w hf hm
      refine wpIn_mono (hround i hi a w hf hm) ?_
      intro e a' w' hq
      cases e with
      | normal => obtain ⟨j, ⟨_, hlt⟩, _⟩ := hq; omega
      | exit id => exact hq
      | goto l => exact hq
      | ret => exact hq
      | panic ch => exact hq
      | outgrown => exact hq
    | succ m ih =>
      intro i hi hle a w hf hm
      refine wpIn_mono (hround i hi a w hf hm) ?_
      intro e a' w' hq
      cases e with
      | normal => obtain ⟨j, ⟨hj, hlt⟩, h1, h2⟩ := hq; exact ih j hj (by omega) a' w' h1 h2
      | exit id => exact hq
      | goto l => exact hq
      | ret => exact hq
      | panic ch => exact hq
      | outgrown => exact hq
  exact wpIn_loop_rounds _ (key (μ i₀) i₀ hp (Nat.le_refl _) a w (hf.sub hK) (hm.sub hL))
end

/-! ### ways out, through what lies around -/
/-- Left in this way, it is well. -/
def POk (C : Cx) (Q : Post) (e : Exit) (K : List (Nat × Value)) (L : Heap) : Prop := ∀ a w, FrOk C.N C.D K a → MemOk C.w₀ L w → Q e a w
section
variable {C : Cx} {Q : Post} {K : List (Nat × Value)} {L : Heap}
theorem TL_nil {ops : Array Oper} (h : POk C Q .normal K L) : TL C ops [] Q K L := h
theorem T_skip' (h : POk C Q .normal K L) : T C .skip Q K L := T_skip h
theorem T_exit' {id : Nat} (h : POk C Q (.exit id) K L) : T C (.exit id) Q K L := T_exit h
theorem T_ret' (h : POk C Q .ret K L) : T C .ret Q K L := T_ret h
theorem p_seq {y : Code} (h : T C y Q K L) : POk C (Seq C y Q) .normal K L := h
theorem p_then_x {next : Act → World → Prop} {id : Nat} (h : POk C Q (.exit id) K L) : POk C (Exit.then next Q) (.exit id) K L := h
theorem p_then_r {next : Act → World → Prop} (h : POk C Q .ret K L) : POk C (Exit.then next Q) .ret K L := h
theorem p_blk_n {id : Nat} (h : POk C Q .normal K L) : POk C (Exit.inBlock id Q) .normal K L := h
theorem p_blk_r {id : Nat} (h : POk C Q .ret K L) : POk C (Exit.inBlock id Q) .ret K L := h
theorem p_blk_x {id : Nat} (h : POk C Q .normal K L) : POk C (Exit.inBlock id Q) (.exit id) K L := fun a w hf hm => by
  show (if id = id then _ else _)
  rw [if_pos rfl]; exact h a w hf hm
theorem p_blk_o {id id' : Nat} (hne : Nat.beq id' id = false) (h : POk C Q (.exit id') K L) : POk C (Exit.inBlock id Q) (.exit id') K L := fun a w hf hm => by
  show (if id' = id then _ else _)
  rw [if_neg (fun e => by subst e; rw [Nat.beq_refl] at hne; cases hne)]; exact h a w hf hm
theorem p_at {ι : Type} {p : ι → Prop} {KJ : ι → List (Nat × Value)} {LJ : ι → Heap} (i : ι) (hp : p i) (hK : SubK K (KJ i)) (hL : SubK L (LJ i)) : POk C (Exit.then (At C p KJ LJ) Q) .normal K L :=
  fun _ _ hf hm => At_intro i hp hf hm hK hL
theorem p_sub {e : Exit} (K' : List (Nat × Value)) (L' : Heap) (hK : SubK K K') (hL : SubK L L') (h : POk C Q e K' L') : POk C Q e K L := fun a w hf hm => h a w (hf.sub hK) (hm.sub hL)
end

/-! ### entering and leaving a function -/
theorem lk_args {N : Nat} {args : Array Value} (h : args.size ≤ N) (K : List (Nat × Value)) (hK : ∀ t v, lk K t = some v → args[t]? = some v) :
    FrOk N [] K { tmps := args ++ Array.replicate (N - args.size) undef, defers := [] } := by
  refine ⟨by simp; omega, rfl, fun t v ht => ?_⟩
  have := hK t v ht
  have hlt : t < args.size := (Array.getElem?_eq_some_iff.1 this).1
  rw [Array.getD_eq_getD_getElem?, Array.getElem?_append_left hlt, this]
  rfl
/-- The arguments by their numbers. -/
def argsK : Nat → List Value → List (Nat × Value)
  | _, [] => []
  | k, v :: l => (k, v) :: argsK (k + 1) l
theorem argsK_lk : ∀ (l : List Value) (k t : Nat) (v : Value), lk (argsK k l) t = some v → k ≤ t ∧ l[t - k]? = some v
  | [], _, _, _, h => by cases h
  | x :: l, k, t, v, h => by
    by_cases e : k = t
    · subst e
      rw [show argsK k (x :: l) = (k, x) :: argsK (k + 1) l from rfl, lk_cons_same] at h
      cases h
      simp
    · rw [show argsK k (x :: l) = (k, x) :: argsK (k + 1) l from rfl, lk_cons_other _ _ e] at h
      obtain ⟨h1, h2⟩ := argsK_lk l (k + 1) t v h
      refine ⟨by omega, ?_⟩
      rw [show t - k = (t - (k + 1)) + 1 by omega, List.getElem?_cons_succ]
      exact h2
/-- A function's contract out of its body. -/
theorem calls_of_T {P : Program} {f : FuncId} {fn : Func} {c : Code} {l : List Value} {w : World} {R : Ending → World → Prop} (N : Nat) (hf : P.funcs[f]? = some fn) (hN : fn.ntmps = N) (hn : Nat.ble l.length N = true) (hb : fn.body = some c)
    (h : T ⟨P, w, N, [], none⟩ c (bodyM P fn R) (argsK 0 l) []) : Calls P f l.toArray w R := by
  subst hN
  replace hn := Nat.le_of_ble_eq_true hn
  refine calls_of_marks hf hb (wpIn_wide.1 (h _ w ?_ (MemOk.nil w)))
  refine lk_args (by simpa using hn) _ (fun t v ht => ?_)
  obtain ⟨_, h2⟩ := argsK_lk l 0 t v ht
  simpa using h2
/-- Leaving: what the results come to, and what is to be shown. -/
theorem ret_of {C : Cx} {fn : Func} {R : Ending → World → Prop} {K : List (Nat × Value)} {L : Heap} (hD : C.D = []) (v : Value)
    (hr : ∀ tmps w, (∀ t u, lk K t = some u → tmps.getD t undef = u) → MemOk C.w₀ L w → (results fn tmps).run C.P w = .ok v w) (hR : ∀ w, MemOk C.w₀ L w → R (.returned v) w) : POk C (bodyM C.P fn R) .ret K L :=
  fun a w hf hm => bodyM_ret0 (hf.defers.trans hD) (hr _ _ hf.knows hm) (hR w hm)
end Go.Proofs.Ytbiapeaghbndoaa
