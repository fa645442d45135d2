/- Calls that write memory of one's own; a range over a function. Over any program. -/
import Derived.Test.YtbiapeaghbndoaaEq
namespace Go.Proofs.Ytbiapeaghbndoaa
open Go Go.RowKit

theorem MemOk.putObj {w₀ w : World} {L : Heap} (h : MemOk w₀ L w) {i b : Nat} {o : Obj} (o' : Obj) (hi : lk L i = some (.blk b o)) : MemOk w₀ ((i, .blk b o') :: L) (w.putObj b o') :=
  h.upd hi ⟨rfl, rfl, rfl, by simp, World.putObj_heap_same (hp_lt (h.own i _ hi).2), fun k hk => hp_putObj _ _ _ hk⟩

/-- A function answers one of a family, and leaves memory in one of a family. -/
def HAns (w₀ : World) {ι : Type} (p : ι → Prop) (v : ι → Value) (LJ : ι → Heap) (e : Ending) (w' : World) : Prop := ∃ x, p x ∧ e = .returned (v x) ∧ MemOk w₀ (LJ x) w'
/-- A function's contract, told by what is known of memory. -/
theorem ht_of_T {P : Program} {f : FuncId} {fn : Func} {c : Code} {l : List Value} {w₀ : World} {L : Heap} {R : Ending → World → Prop} (N : Nat) (hf : P.funcs[f]? = some fn) (hN : fn.ntmps = N) (hn : Nat.ble l.length N = true) (hb : fn.body = some c)
    (h : T ⟨P, w₀, N, [], none⟩ c (bodyM P fn R) (argsK 0 l) L) : ∀ w, MemOk w₀ L w → Calls P f l.toArray w R := by
  intro w hm
  subst hN
  replace hn := Nat.le_of_ble_eq_true hn
  refine calls_of_marks hf hb (wpIn_wide.1 (h _ w ?_ hm))
  refine lk_args (by simpa using hn) _ (fun t v ht => ?_)
  obtain ⟨_, h2⟩ := argsK_lk l 0 t v ht
  simpa using h2
section
variable {C : Cx} {ops : Array Oper} {os : List Oper} {Q : Post} {K : List (Nat × Value)} {L : Heap} {o : Oper}
theorem TL_callH {ι : Type} {d f : Nat} {args : Array Value} (p : ι → Prop) (v : ι → Value) (LJ : ι → Heap) (hr : ∀ ρ w, Rd K ρ → MemOk C.w₀ L w → (execOp ρ o).run C.P w = .ok (.enter f args) w)
    (hc : ∀ w, MemOk C.w₀ L w → Calls C.P f args w (HAns C.w₀ p v LJ))
    (hd : o.dst = some d) (hN : Nat.blt d C.N = true) (hn : isDefer o.op = false) (hw : Want ops K o true)
    (h : ∀ x, p x → TL C ops os Q ((d, v x) :: K) (LJ x)) : TL C ops (o :: os) Q K L := by
  intro a w hf hm
  unfold wpListIn
  rw [hw.is hf, if_pos rfl]
  refine step_enter hn (hr _ _ hf.rd hm) (hc w hm) ?_
  rintro e w' ⟨x, hx, rfl, hm'⟩
  show wpListIn _ _ _ _ _ _ _ _
  rw [hd]
  exact h x hx _ _ (hf.put _ hN) hm'
end
section
variable {C : Cx} {R : Rg} {Q : Post} {K0 V : List (Nat × Value)} {lo : Nat} {L : Heap}
end

/-! ### a range over a function -/
/-- The frame of a round: what was handed over lies in its slots. -/
def zipK : List Tmp → List Value → List (Nat × Value) → List (Nat × Value)
  | t :: ts, v :: vs, K => zipK ts vs ((t, v) :: K)
  | _, _, K => K
theorem FrOk.zip {N : Nat} {D : List Deferred} : ∀ (ts : List Tmp) (vs : List Value) {K : List (Nat × Value)} {tmps : Array Value}, (∀ t ∈ ts, Nat.blt t N = true) → FrOk N D K { tmps := tmps, defers := D } →
    FrOk N D (zipK ts vs K) { tmps := (ts.zip vs).foldl (fun t (p, v) => t.setIfInBounds p v) tmps, defers := D }
  | [], vs, K, tmps, _, h => by cases vs <;> simpa [zipK] using h
  | t :: ts, [], K, tmps, _, h => by simpa [zipK] using h
  | t :: ts, v :: vs, K, tmps, ht, h => by
    have := h.put (d := t) v (ht t (by simp))
    exact FrOk.zip ts vs (fun u hu => ht u (by simp [hu])) this
/-- How a round is left. -/
def RoundQ (w₀ : World) (idD idl D l : Nat) (rec : Loop) {ι : Type} (p : ι → Prop) (LI : ι → Heap) (pX : Code → ι → Prop) (LX : ι → Heap) : Post := fun e _ W =>
  let one (q : ι → Prop) (LL : ι → Heap) : Prop := ∃ i, q i ∧ MemOk w₀ ((idD, .blk D (.deferred (some []))) :: (idl, .blk l (.loop { rec with state := .busy })) :: LL i) W
  match e with
  | .normal => one p LI
  | .ret => one (pX .ret) LX
  | .exit id => one (pX (.exit id)) LX
  | .goto t => one (pX (.goto t)) LX
  | .panic _ => False
  | .outgrown => False
theorem ids_ne {L : Heap} {i j : Nat} {r s : Res} (h : i ≠ j) : lk ((i, r) :: (j, s) :: L) j = some s := by
  rw [lk_cons_other _ _ h, lk_cons_same]
/-- What is known by another list, is. -/
theorem MemOk.of {w₀ w : World} {L L' : Heap} (h : MemOk w₀ L w) (key : ∀ k q, lk L' k = some q → lk L k = some q) : MemOk w₀ L' w :=
  ⟨h.ext, fun k q hk => h.own k q (key k q hk), fun k m q q' hk hm => h.sep k m q q' (key k q hk) (key m q' hm)⟩
/-- Two entries ahead of a list, the second told anew. -/
theorem MemOk.second {w₀ w : World} {L : Heap} {i j : Nat} {r s s' : Res} (hne : i ≠ j) (h : MemOk w₀ ((j, s') :: (i, r) :: (j, s) :: L) w) : MemOk w₀ ((i, r) :: (j, s') :: L) w := by
  have key : ∀ k q, lk ((i, r) :: (j, s') :: L) k = some q → lk ((j, s') :: (i, r) :: (j, s) :: L) k = some q := by
    intro k q hk
    by_cases e1 : j = k
    · subst e1
      rw [ids_ne hne] at hk
      rw [lk_cons_same]; exact hk
    · rw [lk_cons_other _ _ e1]
      by_cases e2 : i = k
      · subst e2; rw [lk_cons_same] at hk ⊢; exact hk
      · rw [lk_cons_other _ _ e2, lk_cons_other _ _ e1] at hk
        rw [lk_cons_other _ _ e2, lk_cons_other _ _ e1]; exact hk
  exact ⟨h.ext, fun k q hk => h.own k q (key k q hk), fun k m q q' hk hm => h.sep k m q q' (key k q hk) (key m q' hm)⟩
theorem MemOk.drop2 {w₀ w : World} {L : Heap} {i j : Nat} {r s : Res} (hj : lk L j = none) (h : MemOk w₀ ((i, r) :: (j, s) :: L) w) : MemOk w₀ ((i, r) :: L) w := by
  have key : ∀ k q, lk ((i, r) :: L) k = some q → lk ((i, r) :: (j, s) :: L) k = some q := by
    intro k q hk
    by_cases e2 : i = k
    · subst e2; rw [lk_cons_same] at hk ⊢; exact hk
    · rw [lk_cons_other _ _ e2] at hk ⊢
      by_cases e1 : j = k
      · subst e1; rw [hj] at hk; cases hk
      · rw [lk_cons_other _ _ e1]; exact hk
  exact ⟨h.ext, fun k q hk => h.own k q (key k q hk), fun k m q q' hk hm => h.sep k m q q' (key k q hk) (key m q' hm)⟩
theorem MemOk.tail {w₀ w : World} {L : Heap} {i : Nat} {r : Res} (hi : lk L i = none) (h : MemOk w₀ ((i, r) :: L) w) : MemOk w₀ L w := by
  have key : ∀ k q, lk L k = some q → lk ((i, r) :: L) k = some q := by
    intro k q hk
    by_cases e : i = k
    · subst e; rw [hi] at hk; cases hk
    · rw [lk_cons_other _ _ e]; exact hk
  exact ⟨h.ext, fun k q hk => h.own k q (key k q hk), fun k m q q' hk hm => h.sep k m q q' (key k q hk) (key m q' hm)⟩
abbrev Cx.with (C : Cx) (D : Nat) : Cx := ⟨C.P, C.w₀, C.N, { target := .collected D, args := #[] } :: C.D, C.ro⟩
abbrev Cx.round (C : Cx) (l : Nat) : Cx := ⟨C.P, C.w₀, C.N, [], some l⟩
/-- An iterator: called with a 'yield', it hands over the elements of xs in order, till a round says 'no more'; told by what is known of memory between the rounds. -/
def IterAt (P : Program) (w₀ : World) (gf : Nat) (lb : Array Value) {ι α : Type} (encs : α → List Value) (xs : List α) (p : Nat → ι → Prop) (LJ : Nat → ι → Heap) : Prop :=
  ∀ (l : Nat) (κ : Type) (pX : κ → Prop) (LX : κ → Heap),
    (∀ k x i W, xs[k]? = some x → p k i → MemOk w₀ (LJ k i) W → YieldAt Fence.wide 0 P l (encs x).toArray W fun e W' =>
      (e = .returned (.bool true) ∧ ∃ i', p (k + 1) i' ∧ MemOk w₀ (LJ (k + 1) i') W') ∨ (e = .returned (.bool false) ∧ ∃ j, pX j ∧ MemOk w₀ (LX j) W')) →
    ∀ i W, p 0 i → MemOk w₀ (LJ 0 i) W → Calls P gf (#[.func (.yield l) #[] #[]] ++ lb) W fun e W' =>
      (∃ v, e = .returned v) ∧ ((∃ i', p xs.length i' ∧ MemOk w₀ (LJ xs.length i') W') ∨ ∃ j, pX j ∧ MemOk w₀ (LX j) W')
theorem wide_room (k : Nat) : Fence.wide.room k := fun d h => by cases h
theorem RoundIn.any {m m' : Nat} {P : Program} {l : Nat} {f : FuncId} {tmps : Array Value} {assign body : Code} {w : World} {R : Ending → World → Prop}
    (h : RoundIn Fence.wide m P l f tmps assign body w R) : RoundIn Fence.wide m' P l f tmps assign body w R := ⟨h.1, fun c cs _ => h.2 c cs (wide_room _)⟩
/-- A yield's call, inside an iterator. -/
theorem TL_yield {C : Cx} {ops : Array Oper} {os : List Oper} {Q : Post} {K : List (Nat × Value)} {L : Heap} {o : Oper} {ι κ : Type} {d l : Nat} {args : Array Value} (pT : ι → Prop) (LT : ι → Heap) (pX : κ → Prop) (LX : κ → Heap) (hro : C.ro = none)
    (hr : ∀ ρ w, Rd K ρ → MemOk C.w₀ L w → (execOp ρ o).run C.P w = (Instr.yield l args).run C.P w)
    (hc : ∀ W, MemOk C.w₀ L W → YieldAt Fence.wide 0 C.P l args W fun e W' => (e = .returned (.bool true) ∧ ∃ i, pT i ∧ MemOk C.w₀ (LT i) W') ∨ (e = .returned (.bool false) ∧ ∃ j, pX j ∧ MemOk C.w₀ (LX j) W'))
    (hd : o.dst = some d) (hN : Nat.blt d C.N = true) (hn : isDefer o.op = false) (hw : Want ops K o true)
    (h1 : ∀ i, pT i → TL C ops os Q ((d, .bool true) :: K) (LT i)) (h2 : ∀ j, pX j → TL C ops os Q ((d, .bool false) :: K) (LX j)) : TL C ops (o :: os) Q K L := by
  obtain ⟨P, w₀, N, CD, ro⟩ := C
  cases hro
  intro a w hf hm
  unfold wpListIn
  rw [hw.is hf, if_pos rfl]
  obtain ⟨fn, tmps, assign, body, hy, hR⟩ := hc w hm
  refine ⟨fun _ _ => trivial, ?_⟩
  rw [semAt_nd hn, hr _ _ hf.rd hm, hy, Oper.uponIn_round]
  refine ⟨fun h => (by cases h), ?_⟩
  refine RoundIn.mono (RoundIn.any hR) ?_
  rintro e W' (⟨rfl, i, hi, hm'⟩ | ⟨rfl, j, hj, hm'⟩)
  · dsimp only
    rw [hd]
    exact h1 i hi _ _ (hf.put _ hN) hm'
  · dsimp only
    rw [hd]
    exact h2 j hj _ _ (hf.put _ hN) hm'
section
variable {C : Cx} {Q : Post} {K : List (Nat × Value)} {L : Heap}
theorem T_scope {c : Code} (h : T C c (Exit.noGoto Q) K L) : T C (.scope c) Q K L := fun a w hf hm => wpIn_scope_straight (h a w hf hm)
theorem T_label {l : Nat} {y : Code} (h : T C y Q K L) : T C (.seq (.label l) y) Q K L := fun a w hf hm => wpIn_label_seq (h a w hf hm)
theorem p_ng_n (h : POk C Q .normal K L) : POk C (Exit.noGoto Q) .normal K L := h
/-- The body's end is a return. -/
theorem p_end {fn : Func} {R : Ending → World → Prop} (h : POk C (bodyM C.P fn R) .ret K L) : POk C (bodyM C.P fn R) .normal K L := h
/-- Leaving behind one range over a function: the list of what was put off there is empty. -/
theorem ret_of1 {fn : Func} {R : Ending → World → Prop} (idD D : Nat) (hD : C.D = [{ target := .collected D, args := #[] }]) (hi : lk L idD = some (.blk D (.deferred (some [])))) (v : Value)
    (hr : ∀ tmps w, (∀ t u, lk K t = some u → tmps.getD t undef = u) → MemOk C.w₀ ((idD, .blk D (.deferred none)) :: L) w → (results fn tmps).run C.P w = .ok v w) (hR : ∀ w, MemOk C.w₀ ((idD, .blk D (.deferred none)) :: L) w → R (.returned v) w) : POk C (bodyM C.P fn R) .ret K L :=
  fun a w hf hm => bodyM_ret1 (hf.defers.trans hD) (hm.at idD hi) (hr _ _ hf.knows (hm.putObj _ hi)) (hR _ (hm.putObj _ hi))
end
section
variable {C : Cx} {Q : Post} {K : List (Nat × Value)} {L : Heap}
/-- A loop whose memory is told as a whole, by the same words at each round's head. -/
theorem T_loopE {ι : Type} (p : ι → Prop) (KI : ι → List (Nat × Value)) (LI : ι → Heap) (μ : ι → Nat) (i₀ : ι) (hp : p i₀) (hK : SubK K (KI i₀)) (hL : L = LI i₀) {c : Code}
    (hround : ∀ i, p i → T C c (Exit.then (At C (fun j => p j ∧ μ j < μ i) KI LI) Q) (KI i) (LI i)) : T C (.loop c) Q K L := by
  intro a w hf hm
  have key : ∀ m i, p i → μ i ≤ m → ∀ a w, FrOk C.N C.D (KI i) a → MemOk C.w₀ (LI i) w → Code.roundsIn (FW C.ro) 0 C.P c Q (m + 1) a w := by
    intro m
    induction m with
    | zero =>
      intro i hi hle a w hf hm
      refine wpIn_mono (hround i hi a w hf hm) ?_
      intro e a' w' hq
      cases e with
      | normal => obtain ⟨j, ⟨_, hlt⟩, _⟩ := hq; omega
      | exit id => exact hq
      | goto l => exact hq
      | ret => exact hq
      | panic ch => exact hq
      | outgrown => exact hq
    | succ m ih =>
      intro i hi hle a w hf hm
      refine wpIn_mono (hround i hi a w hf hm) ?_
      intro e a' w' hq
      cases e with
      | normal => obtain ⟨j, ⟨hj, hlt⟩, h1, h2⟩ := hq; exact ih j hj (by omega) a' w' h1 h2
      | exit id => exact hq
      | goto l => exact hq
      | ret => exact hq
      | panic ch => exact hq
      | outgrown => exact hq
  exact wpIn_loop_rounds _ (key (μ i₀) i₀ hp (Nat.le_refl _) a w (hf.sub hK) (by rw [← hL]; exact hm))
theorem p_atE {ι : Type} {p : ι → Prop} {KJ : ι → List (Nat × Value)} {LJ : ι → Heap} (i : ι) (hp : p i) (hK : SubK K (KJ i)) (hL : L = LJ i) : POk C (Exit.then (At C p KJ LJ) Q) .normal K L :=
  fun _ _ hf hm => ⟨i, hp, hf.sub hK, by rw [← hL]; exact hm⟩
end
/-- What is known behind a yield. -/
def yL {ι κ : Type} (LT : ι → Heap) (LX : κ → Heap) : ι ⊕ κ → Heap
  | .inl i => LT i
  | .inr j => LX j
def yP {ι κ : Type} (pT : ι → Prop) (pX : κ → Prop) : ι ⊕ κ → Prop
  | .inl i => pT i
  | .inr j => pX j
theorem isL {ι κ : Type} {x : ι ⊕ κ} (h : x.isLeft = true) : ∃ i, x = .inl i := by cases x with | inl i => exact ⟨i, rfl⟩ | inr j => cases h
theorem isR {ι κ : Type} {x : ι ⊕ κ} (h : x.isLeft = false) : ∃ j, x = .inr j := by cases x with | inl i => cases h | inr j => exact ⟨j, rfl⟩
theorem TL_yieldB {C : Cx} {ops : Array Oper} {os : List Oper} {Q : Post} {K : List (Nat × Value)} {L : Heap} {o : Oper} {ι κ : Type} {d l : Nat} {args : Array Value} (pT : ι → Prop) (LT : ι → Heap) (pX : κ → Prop) (LX : κ → Heap) (hro : C.ro = none)
    (hr : ∀ ρ w, Rd K ρ → MemOk C.w₀ L w → (execOp ρ o).run C.P w = (Instr.yield l args).run C.P w)
    (hc : ∀ W, MemOk C.w₀ L W → YieldAt Fence.wide 0 C.P l args W fun e W' => (e = .returned (.bool true) ∧ ∃ i, pT i ∧ MemOk C.w₀ (LT i) W') ∨ (e = .returned (.bool false) ∧ ∃ j, pX j ∧ MemOk C.w₀ (LX j) W'))
    (hd : o.dst = some d) (hN : Nat.blt d C.N = true) (hn : isDefer o.op = false) (hw : Want ops K o true)
    (h : ∀ x, yP pT pX x → TL C ops os Q ((d, .bool x.isLeft) :: K) (yL LT LX x)) : TL C ops (o :: os) Q K L :=
  TL_yield pT LT pX LX hro hr hc hd hN hn hw (fun i hi => h (.inl i) hi) (fun j hj => h (.inr j) hj)
theorem r_yield {P : Program} {w : World} {ρ : Operand → Value} {d : Option Tmp} {ty : TypeId} {ps : String} {af : Array Edge} {g : Option (Nat × Bool)} {l : Nat} {fop : Operand} {opl : List Operand} {args : List Value} {ats : Array TypeId} (hf : ρ fop = .func (.yield l) #[] #[]) (ha : opl.map ρ = args) :
    (execOp ρ { dst := d, op := .call { callee := .value fop, args := opl.toArray, argTypes := ats }, type := ty, pos := ps, after := af, guard := g }).run P w = (Instr.yield l args.toArray).run P w := by
  subst ha
  show (do let d ← resolve ρ _ ty; invoke d.target d.args : Sem Next).run P w = _
  simp only [resolve, hf]
  rw [run_bind_ok (a := { target := .fn (.yield l) #[], args := #[] ++ (opl.map ρ).toArray }) (w' := w)]
  · simp only [Array.empty_append]; rfl
  · simp only [Deferred.ofValue, List.map_toArray]
    rfl
theorem lk_dup {L : Heap} {i : Nat} {r : Res} (hi : lk L i = some r) : ∀ k q, lk ((i, r) :: L) k = some q → lk L k = some q := fun k q hk => by
  by_cases e : i = k
  · subst e; rw [lk_cons_same] at hk; rw [hi]; exact hk
  · rwa [lk_cons_other _ _ e] at hk
theorem lk_fresh {A : Heap} {j : Nat} {b : Res} (hf : lk A j = none) : ∀ k q, lk A k = some q → lk ((j, b) :: A) k = some q := fun k q hk => by
  by_cases e : j = k
  · subst e; rw [hf] at hk; cases hk
  · rwa [lk_cons_other _ _ e]
theorem lk_put {L : Heap} {i j : Nat} {n o b : Res} (hij : Nat.beq j i = false) (hf : lk L j = none) : ∀ k q, lk ((i, n) :: L) k = some q → lk ((i, n) :: (j, b) :: (i, o) :: L) k = some q := fun k q hk => by
  by_cases e : i = k
  · subst e; rwa [lk_cons_same] at hk ⊢
  · rw [lk_cons_other _ _ e] at hk ⊢
    by_cases e2 : j = k
    · subst e2; rw [hf] at hk; cases hk
    · rwa [lk_cons_other _ _ e2, lk_cons_other _ _ e]
theorem p_round_n {C : Cx} {K : List (Nat × Value)} {L : Heap} {idD idl D l : Nat} {rec : Loop} {ι : Type} {p : ι → Prop} {LI : ι → Heap} {pX : Code → ι → Prop} {LX : ι → Heap} (i : ι) (hp : p i)
    (hL : SubK L ((idD, .blk D (.deferred (some []))) :: (idl, .blk l (.loop { rec with state := .busy })) :: LI i)) : POk C (RoundQ C.w₀ idD idl D l rec p LI pX LX) .normal K L := fun _ _ _ hm => ⟨i, hp, hm.sub hL⟩
end Go.Proofs.Ytbiapeaghbndoaa
