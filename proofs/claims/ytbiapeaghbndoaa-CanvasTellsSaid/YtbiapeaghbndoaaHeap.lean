/- Calls that write memory of one's own; a range over a function. Over any program. -/
import Derived.Test.YtbiapeaghbndoaaEq
namespace Go.Proofs.Ytbiapeaghbndoaa
open Go Go.RowKit

/-- Block b holds o; of what there was all else is as it was; there may be more. -/
structure Chg (w : World) (b : Nat) (o : Obj) (w' : World) : Prop where
  os : w'.os = w.os
  tape : w'.tape = w.tape
  output : w'.output = w.output
  size : w.heap.size ≤ w'.heap.size
  this : hp w' b = some o
  other : ∀ k, k < w.heap.size → k ≠ b → hp w' k = hp w k
theorem MemOk.chg {w₀ w w' : World} {L : Heap} (h : MemOk w₀ L w) {i b : Nat} {o o' : Obj} (hi : lk L i = some (.blk b o)) (hu : Chg w b o' w') : MemOk w₀ ((i, .blk b o') :: L) w' := by
  have hb := (h.own i _ hi).1
  have hsz := h.ext.size
  refine h.set i (.blk b o') ⟨hu.os.trans h.ext.os, hu.tape.trans h.ext.tape, hu.output.trans h.ext.output, Nat.le_trans h.ext.size hu.size, fun k hk => (hu.other k (by omega) (by omega)).trans (h.ext.block k hk)⟩ ⟨hb, hu.this⟩ ?_
  intro j r hl hne c hc
  have hcb : c ≠ b := fun e => h.sep j i r _ hl hi hne c hc (by rw [e]; rfl)
  exact ⟨hu.other c (Res.low (h.own j r hl) hc).2 hcb, fun e => by cases e; exact hcb rfl⟩
theorem MemOk.putObj {w₀ w : World} {L : Heap} (h : MemOk w₀ L w) {i b : Nat} {o : Obj} (o' : Obj) (hi : lk L i = some (.blk b o)) : MemOk w₀ ((i, .blk b o') :: L) (w.putObj b o') :=
  h.upd hi ⟨rfl, rfl, rfl, by simp, World.putObj_heap_same (hp_lt (h.own i _ hi).2), fun k hk => hp_putObj _ _ _ hk⟩

/-- A function answers one of a family, and leaves memory in one of a family. -/
def HAns (w₀ : World) {ι : Type} (p : ι → Prop) (v : ι → Value) (LJ : ι → Heap) (e : Ending) (w' : World) : Prop := ∃ x, p x ∧ e = .returned (v x) ∧ MemOk w₀ (LJ x) w'
/-- A function's contract, told by what is known of memory. -/
theorem ht_of_T {P : Program} {f : FuncId} {fn : Func} {c : Code} {l : List Value} {w₀ : World} {L : Heap} {R : Ending → World → Prop} (N : Nat) (hf : P.funcs[f]? = some fn) (hN : fn.ntmps = N) (hn : Nat.ble l.length N = true) (hb : fn.body = some c)
    (h : T ⟨P, w₀, N, [], none⟩ c (bodyM P fn R) (argsK 0 l) L) : ∀ w, MemOk w₀ L w → Calls P f l.toArray w R := by
  intro w hm
  subst hN
  replace hn := Nat.le_of_ble_eq_true hn
  refine calls_of_marks hf hb (wpIn_wide.1 (h _ w ?_ hm))
  refine lk_args (by simpa using hn) _ (fun t v ht => ?_)
  obtain ⟨_, h2⟩ := argsK_lk l 0 t v ht
  simpa using h2
section
variable {C : Cx} {ops : Array Oper} {os : List Oper} {Q : Post} {K : List (Nat × Value)} {L : Heap} {o : Oper}
theorem TL_callH {ι : Type} {d f : Nat} {args : Array Value} (p : ι → Prop) (v : ι → Value) (LJ : ι → Heap) (hr : ∀ ρ w, Rd K ρ → MemOk C.w₀ L w → (execOp ρ o).run C.P w = .ok (.enter f args) w)
    (hc : ∀ w, MemOk C.w₀ L w → Calls C.P f args w (HAns C.w₀ p v LJ))
    (hd : o.dst = some d) (hN : Nat.blt d C.N = true) (hn : isDefer o.op = false) (hw : Want ops K o true)
    (h : ∀ x, p x → TL C ops os Q ((d, v x) :: K) (LJ x)) : TL C ops (o :: os) Q K L := by
  intro a w hf hm
  unfold wpListIn
  rw [hw.is hf, if_pos rfl]
  refine step_enter hn (hr _ _ hf.rd hm) (hc w hm) ?_
  rintro e w' ⟨x, hx, rfl, hm'⟩
  show wpListIn _ _ _ _ _ _ _ _
  rw [hd]
  exact h x hx _ _ (hf.put _ hN) hm'
/-- The same for a call whose answer goes nowhere. -/
theorem TL_callH_ {ι : Type} {f : Nat} {args : Array Value} (p : ι → Prop) (v : ι → Value) (LJ : ι → Heap) (hr : ∀ ρ w, Rd K ρ → MemOk C.w₀ L w → (execOp ρ o).run C.P w = .ok (.enter f args) w)
    (hc : ∀ w, MemOk C.w₀ L w → Calls C.P f args w (HAns C.w₀ p v LJ))
    (hd : o.dst = none) (hn : isDefer o.op = false) (hw : Want ops K o true)
    (h : ∀ x, p x → TL C ops os Q K (LJ x)) : TL C ops (o :: os) Q K L := by
  intro a w hf hm
  unfold wpListIn
  rw [hw.is hf, if_pos rfl]
  refine step_enter hn (hr _ _ hf.rd hm) (hc w hm) ?_
  rintro e w' ⟨x, hx, rfl, hm'⟩
  show wpListIn _ _ _ _ _ _ _ _
  rw [hd]
  exact h x hx _ _ hf hm'
end
section
variable {C : Cx} {R : Rg} {Q : Post} {K0 V : List (Nat × Value)} {lo : Nat} {L : Heap}
theorem LOb_callH {ι : Type} {c d f : Nat} {o : Oper} {args : Array Value} (p : ι → Prop) (v : ι → Value) (LJ : ι → Heap) (news : ι → List (Nat × Value)) (ho : R.ops[c]? = some o) (hw : WantV V o true) (hd : o.dst = some d) (hn : isDefer o.op = false)
    (hr : ∀ ρ w, Rd (kOf K0 V (R.S.getD c [])) ρ → MemOk C.w₀ L w → (execOp ρ o).run C.P w = .ok (.enter f args) w)
    (hc : ∀ w, MemOk C.w₀ L w → Calls C.P f args w (HAns C.w₀ p v LJ)) (hnew : ∀ x, newsOk R c (news x) = true)
    (h : ∀ x, p x → G C R Q K0 (lo ||| 2 ^ c) (news x ++ (c, v x) :: V) (LJ x)) : LOb C R Q K0 lo V L c := by
  refine ⟨o, ho, hw, fun a w next hrd hm _ hnext => ?_⟩
  refine step_enter hn (hr _ _ hrd hm) (hc w hm) ?_
  rintro e w' ⟨x, hx, rfl, hm'⟩
  have hnw2 := hnew x
  simp only [newsOk, Bool.and_eq_true, Bool.not_eq_true'] at hnw2
  exact hnext _ _ _ _ (.inl (lk_app _ _ _ hnw2.2)) (extV _ _ _ hnw2.1) hm' (h x hx)
end

/-! ### a range over a function -/
/-- The frame of a round: what was handed over lies in its slots. -/
def zipK : List Tmp → List Value → List (Nat × Value) → List (Nat × Value)
  | t :: ts, v :: vs, K => zipK ts vs ((t, v) :: K)
  | _, _, K => K
theorem FrOk.zip {N : Nat} {D : List Deferred} : ∀ (ts : List Tmp) (vs : List Value) {K : List (Nat × Value)} {tmps : Array Value}, (∀ t ∈ ts, Nat.blt t N = true) → FrOk N D K { tmps := tmps, defers := D } →
    FrOk N D (zipK ts vs K) { tmps := (ts.zip vs).foldl (fun t (p, v) => t.setIfInBounds p v) tmps, defers := D }
  | [], vs, K, tmps, _, h => by cases vs <;> simpa [zipK] using h
  | t :: ts, [], K, tmps, _, h => by simpa [zipK] using h
  | t :: ts, v :: vs, K, tmps, ht, h => by
    have := h.put (d := t) v (ht t (by simp))
    exact FrOk.zip ts vs (fun u hu => ht u (by simp [hu])) this
/-- How a round is left. -/
def RoundQ (w₀ : World) (idD idl D l : Nat) (rec : Loop) {ι : Type} (p : ι → Prop) (LI : ι → Heap) (pX : Code → ι → Prop) (LX : ι → Heap) : Post := fun e _ W =>
  let one (q : ι → Prop) (LL : ι → Heap) : Prop := ∃ i, q i ∧ MemOk w₀ ((idD, .blk D (.deferred (some []))) :: (idl, .blk l (.loop { rec with state := .busy })) :: LL i) W
  match e with
  | .normal => one p LI
  | .ret => one (pX .ret) LX
  | .exit id => one (pX (.exit id)) LX
  | .goto t => one (pX (.goto t)) LX
  | .panic _ => False
  | .outgrown => False
theorem ids_ne {L : Heap} {i j : Nat} {r s : Res} (h : i ≠ j) : lk ((i, r) :: (j, s) :: L) j = some s := by
  rw [lk_cons_other _ _ h, lk_cons_same]
/-- What is known by another list, is. -/
theorem MemOk.of {w₀ w : World} {L L' : Heap} (h : MemOk w₀ L w) (key : ∀ k q, lk L' k = some q → lk L k = some q) : MemOk w₀ L' w :=
  ⟨h.ext, fun k q hk => h.own k q (key k q hk), fun k m q q' hk hm => h.sep k m q q' (key k q hk) (key m q' hm)⟩
/-- Two entries ahead of a list, the second told anew. -/
theorem MemOk.second {w₀ w : World} {L : Heap} {i j : Nat} {r s s' : Res} (hne : i ≠ j) (h : MemOk w₀ ((j, s') :: (i, r) :: (j, s) :: L) w) : MemOk w₀ ((i, r) :: (j, s') :: L) w := by
  have key : ∀ k q, lk ((i, r) :: (j, s') :: L) k = some q → lk ((j, s') :: (i, r) :: (j, s) :: L) k = some q := by
    intro k q hk
    by_cases e1 : j = k
    · subst e1
      rw [ids_ne hne] at hk
      rw [lk_cons_same]; exact hk
    · rw [lk_cons_other _ _ e1]
      by_cases e2 : i = k
      · subst e2; rw [lk_cons_same] at hk ⊢; exact hk
      · rw [lk_cons_other _ _ e2, lk_cons_other _ _ e1] at hk
        rw [lk_cons_other _ _ e2, lk_cons_other _ _ e1]; exact hk
  exact ⟨h.ext, fun k q hk => h.own k q (key k q hk), fun k m q q' hk hm => h.sep k m q q' (key k q hk) (key m q' hm)⟩
theorem MemOk.drop2 {w₀ w : World} {L : Heap} {i j : Nat} {r s : Res} (hj : lk L j = none) (h : MemOk w₀ ((i, r) :: (j, s) :: L) w) : MemOk w₀ ((i, r) :: L) w := by
  have key : ∀ k q, lk ((i, r) :: L) k = some q → lk ((i, r) :: (j, s) :: L) k = some q := by
    intro k q hk
    by_cases e2 : i = k
    · subst e2; rw [lk_cons_same] at hk ⊢; exact hk
    · rw [lk_cons_other _ _ e2] at hk ⊢
      by_cases e1 : j = k
      · subst e1; rw [hj] at hk; cases hk
      · rw [lk_cons_other _ _ e1]; exact hk
  exact ⟨h.ext, fun k q hk => h.own k q (key k q hk), fun k m q q' hk hm => h.sep k m q q' (key k q hk) (key m q' hm)⟩
theorem MemOk.tail {w₀ w : World} {L : Heap} {i : Nat} {r : Res} (hi : lk L i = none) (h : MemOk w₀ ((i, r) :: L) w) : MemOk w₀ L w := by
  have key : ∀ k q, lk L k = some q → lk ((i, r) :: L) k = some q := by
    intro k q hk
    by_cases e : i = k
    · subst e; rw [hi] at hk; cases hk
    · rw [lk_cons_other _ _ e]; exact hk
  exact ⟨h.ext, fun k q hk => h.own k q (key k q hk), fun k m q q' hk hm => h.sep k m q q' (key k q hk) (key m q' hm)⟩
abbrev Cx.with (C : Cx) (D : Nat) : Cx := ⟨C.P, C.w₀, C.N, { target := .collected D, args := #[] } :: C.D, C.ro⟩
abbrev Cx.round (C : Cx) (l : Nat) : Cx := ⟨C.P, C.w₀, C.N, [], some l⟩
/-- An iterator: called with a 'yield', it hands over the elements of xs in order, till a round says 'no more'; told by what is known of memory between the rounds. -/
def IterAt (P : Program) (w₀ : World) (gf : Nat) (lb : Array Value) {ι α : Type} (encs : α → List Value) (xs : List α) (p : Nat → ι → Prop) (LJ : Nat → ι → Heap) : Prop :=
  ∀ (l : Nat) (κ : Type) (pX : κ → Prop) (LX : κ → Heap),
    (∀ k x i W, xs[k]? = some x → p k i → MemOk w₀ (LJ k i) W → YieldAt Fence.wide 0 P l (encs x).toArray W fun e W' =>
      (e = .returned (.bool true) ∧ ∃ i', p (k + 1) i' ∧ MemOk w₀ (LJ (k + 1) i') W') ∨ (e = .returned (.bool false) ∧ ∃ j, pX j ∧ MemOk w₀ (LX j) W')) →
    ∀ i W, p 0 i → MemOk w₀ (LJ 0 i) W → Calls P gf (#[.func (.yield l) #[] #[]] ++ lb) W fun e W' =>
      (∃ v, e = .returned v) ∧ ((∃ i', p xs.length i' ∧ MemOk w₀ (LJ xs.length i') W') ∨ ∃ j, pX j ∧ MemOk w₀ (LX j) W')
theorem wide_room (k : Nat) : Fence.wide.room k := fun d h => by cases h
theorem RoundIn.any {m m' : Nat} {P : Program} {l : Nat} {f : FuncId} {tmps : Array Value} {assign body : Code} {w : World} {R : Ending → World → Prop}
    (h : RoundIn Fence.wide m P l f tmps assign body w R) : RoundIn Fence.wide m' P l f tmps assign body w R := ⟨h.1, fun c cs _ => h.2 c cs (wide_room _)⟩
/-- A yield's call, inside an iterator. -/
theorem TL_yield {C : Cx} {ops : Array Oper} {os : List Oper} {Q : Post} {K : List (Nat × Value)} {L : Heap} {o : Oper} {ι κ : Type} {d l : Nat} {args : Array Value} (pT : ι → Prop) (LT : ι → Heap) (pX : κ → Prop) (LX : κ → Heap) (hro : C.ro = none)
    (hr : ∀ ρ w, Rd K ρ → MemOk C.w₀ L w → (execOp ρ o).run C.P w = (Instr.yield l args).run C.P w)
    (hc : ∀ W, MemOk C.w₀ L W → YieldAt Fence.wide 0 C.P l args W fun e W' => (e = .returned (.bool true) ∧ ∃ i, pT i ∧ MemOk C.w₀ (LT i) W') ∨ (e = .returned (.bool false) ∧ ∃ j, pX j ∧ MemOk C.w₀ (LX j) W'))
    (hd : o.dst = some d) (hN : Nat.blt d C.N = true) (hn : isDefer o.op = false) (hw : Want ops K o true)
    (h1 : ∀ i, pT i → TL C ops os Q ((d, .bool true) :: K) (LT i)) (h2 : ∀ j, pX j → TL C ops os Q ((d, .bool false) :: K) (LX j)) : TL C ops (o :: os) Q K L := by
  obtain ⟨P, w₀, N, CD, ro⟩ := C
  cases hro
  intro a w hf hm
  unfold wpListIn
  rw [hw.is hf, if_pos rfl]
  obtain ⟨fn, tmps, assign, body, hy, hR⟩ := hc w hm
  refine ⟨fun _ _ => trivial, ?_⟩
  rw [semAt_nd hn, hr _ _ hf.rd hm, hy, Oper.uponIn_round]
  refine ⟨fun h => (by cases h), ?_⟩
  refine RoundIn.mono (RoundIn.any hR) ?_
  rintro e W' (⟨rfl, i, hi, hm'⟩ | ⟨rfl, j, hj, hm'⟩)
  · dsimp only
    rw [hd]
    exact h1 i hi _ _ (hf.put _ hN) hm'
  · dsimp only
    rw [hd]
    exact h2 j hj _ _ (hf.put _ hN) hm'
section
variable {C : Cx} {Q : Post} {K : List (Nat × Value)} {L : Heap}
theorem T_scope {c : Code} (h : T C c (Exit.noGoto Q) K L) : T C (.scope c) Q K L := fun a w hf hm => wpIn_scope_straight (h a w hf hm)
theorem T_label {l : Nat} {y : Code} (h : T C y Q K L) : T C (.seq (.label l) y) Q K L := fun a w hf hm => wpIn_label_seq (h a w hf hm)
theorem p_ng_n (h : POk C Q .normal K L) : POk C (Exit.noGoto Q) .normal K L := h
theorem p_ng_r (h : POk C Q .ret K L) : POk C (Exit.noGoto Q) .ret K L := h
theorem p_ng_x {id : Nat} (h : POk C Q (.exit id) K L) : POk C (Exit.noGoto Q) (.exit id) K L := h
/-- The body's end is a return. -/
theorem p_end {fn : Func} {R : Ending → World → Prop} (h : POk C (bodyM C.P fn R) .ret K L) : POk C (bodyM C.P fn R) .normal K L := h
/-- Leaving behind one range over a function: the list of what was put off there is empty. -/
theorem ret_of1 {fn : Func} {R : Ending → World → Prop} (idD D : Nat) (hD : C.D = [{ target := .collected D, args := #[] }]) (hi : lk L idD = some (.blk D (.deferred (some [])))) (v : Value)
    (hr : ∀ tmps w, (∀ t u, lk K t = some u → tmps.getD t undef = u) → MemOk C.w₀ ((idD, .blk D (.deferred none)) :: L) w → (results fn tmps).run C.P w = .ok v w) (hR : ∀ w, MemOk C.w₀ ((idD, .blk D (.deferred none)) :: L) w → R (.returned v) w) : POk C (bodyM C.P fn R) .ret K L :=
  fun a w hf hm => bodyM_ret1 (hf.defers.trans hD) (hm.at idD hi) (hr _ _ hf.knows (hm.putObj _ hi)) (hR _ (hm.putObj _ hi))
end
theorem T_range {C : Cx} {Q : Post} {K : List (Nat × Value)} {L : Heap} {ι α : Type} {g : Operand} {pl : List Tmp} {assign body : Code} {gf : Nat} {lb : Array Value} {encs : α → List Value} {xs : List α}
    (hro : C.ro = none) (hg : ev K g = some (.func (.func gf) #[] lb)) (eg : Enters C.P gf) (hps : ∀ x, (encs x).length = pl.length) (hpN : (pl.all fun t => Nat.blt t C.N) = true) 
    (idD idl : Nat) (hne : Nat.beq idD idl = false) (p : Nat → ι → Prop) (LI : Nat → ι → Heap) (pX : Code → ι → Prop) (LX : ι → Heap) (K1 : α → List (Nat × Value))
    (hit : ∀ D l rec, IterAt C.P C.w₀ gf lb encs xs p (fun k i => (idD, .blk D (.deferred (some []))) :: (idl, .blk l (.loop rec)) :: LI k i)) (hids : ∀ k i, lk (LI k i) idD = none ∧ lk (LI k i) idl = none) (hidx : ∀ i, lk (LX i) idD = none ∧ lk (LX i) idl = none)
    (i₀ : ι) (h0 : p 0 i₀) (hL : SubK L (LI 0 i₀))
    (hassign : ∀ D l rec k x i, xs[k]? = some x → p k i → T (C.round l) assign (Exit.then (At (C.round l) (fun _ : Unit => True) (fun _ => K1 x) (fun _ => (idD, .blk D (.deferred (some []))) :: (idl, .blk l (.loop rec)) :: LI k i)) (fun _ _ _ => False))
      (zipK pl (encs x) K) ((idD, .blk D (.deferred (some []))) :: (idl, .blk l (.loop rec)) :: LI k i))
    (hround : ∀ D l rec k x i, xs[k]? = some x → p k i → T (C.round l) body (RoundQ C.w₀ idD idl D l rec (p (k + 1)) (LI (k + 1)) pX LX) (K1 x) ((idD, .blk D (.deferred (some []))) :: (idl, .blk l (.loop { rec with state := .busy })) :: LI k i))
    (hdone : ∀ D i, p xs.length i → POk (C.with D) Q .normal K ((idD, .blk D (.deferred (some []))) :: LI xs.length i))
    (hstop : ∀ D c i, pX c i → T (C.with D) c Q K ((idD, .blk D (.deferred (some []))) :: LX i)) : T C (.rangeFunc g pl.toArray assign body) Q K L := by
  obtain ⟨P, w₀, N, CD, ro⟩ := C
  cases hro
  have hne' : idD ≠ idl := fun e => by subst e; rw [Nat.beq_refl] at hne; cases hne
  intro a w hf hm
  show (Code.rangeFunc g pl.toArray assign body).wpIn Fence.wide 0 P _ a w
  refine (wpIn_wide (n := 0)).2 ((wpIn_wide (n := 2)).1 (wpIn_rangeFunc ?_))
  intro fn hfn
  rw [show Fence.wide.round = none from rfl]
  have hg' := hf.rd _ _ hg
  obtain ⟨rec, hrec⟩ : ∃ rec : Loop, rec = { state := .ready, pending := none, fn, tmps := a.tmps, params := pl.toArray, assign, body, defers := w.heap.size } := ⟨_, rfl⟩
  have hm1 : MemOk w₀ ((idl, .blk (w.heap.size + 1) (.loop rec)) :: (idD, .blk w.heap.size (.deferred (some []))) :: LI 0 i₀) ((w.alloc (.deferred (some []))).alloc (.loop rec)) := by
    have h1 := (hm.sub hL).new (alloc_below w (.deferred (some []))) idD (Nat.le_refl _) (hp_new w _)
    have h2 := h1.new (alloc_below (w.alloc (.deferred (some []))) (.loop rec)) idl (Nat.le_refl _) (hp_new _ _)
    rwa [World.size_alloc] at h2
  have hm1 : MemOk w₀ ((idD, .blk w.heap.size (.deferred (some []))) :: (idl, .blk (w.heap.size + 1) (.loop rec)) :: LI 0 i₀) ((w.alloc (.deferred (some []))).alloc (.loop rec)) := by
    refine hm1.of (fun k q hk => ?_)
    by_cases e1 : idD = k
    · subst e1; rw [lk_cons_same] at hk; rw [ids_ne (Ne.symm hne')]; exact hk
    · rw [lk_cons_other _ _ e1] at hk
      by_cases e2 : idl = k
      · subst e2; rw [lk_cons_same] at hk ⊢; exact hk
      · rw [lk_cons_other _ _ e2] at hk; rw [lk_cons_other _ _ e2, lk_cons_other _ _ e1]; exact hk
  obtain ⟨W1, hW1⟩ : ∃ W1, (w.alloc (.deferred (some []))).alloc (.loop rec) = W1 := ⟨_, rfl⟩
  rw [hW1] at hm1
  refine ⟨w.heap.size + 1, [{ target := .collected w.heap.size, args := #[] }], W1, { target := .fn (.func gf) lb, args := #[.func (.yield (w.heap.size + 1)) #[] #[]] }, W1, gf,
    #[.func (.yield (w.heap.size + 1)) #[] #[]] ++ lb, W1, ?_, ?_, ?_, ?_, fun h => by simp [Fence.wide] at h, ?_⟩
  · rw [← hW1, hrec]; exact run_enterLoop_outer _ _ _ _ _
  · simp only [resolve, hg']
    simp [go_sem]
  · intro f' _; trivial
  · simp [invoke, eg _ _]
  · -- what holds at each round's head, and behind a round that left
    refine CallsIn.mono (callsIn_wide.2 (hit w.heap.size (w.heap.size + 1) rec (w.heap.size + 1) (Code × ι) (fun z => pX z.1 z.2)
      (fun z => (idD, .blk w.heap.size (.deferred (some []))) :: (idl, .blk (w.heap.size + 1) (.loop { rec with state := .done, pending := some z.1 })) :: LX z.2) ?_ i₀ W1 h0 hm1)) ?_
    · intro k x i W hx hi hmi
      have hl : W.heap[w.heap.size + 1]? = some (.loop rec) := hmi.at idl (ids_ne hne')
      have hy := run_yield (P := P) (args := (encs x).toArray) hl (by rw [hrec]; simp [hps])
      have hfr : FrOk N [] (zipK pl (encs x) K) { tmps := (pl.zip (encs x)).foldl (fun t (p, v) => t.setIfInBounds p v) a.tmps, defers := [] } :=
        FrOk.zip pl (encs x) (fun t ht => List.all_eq_true.1 hpN t ht) ⟨hf.size, rfl, hf.knows⟩
      have htm : (rec.params.zip (encs x).toArray).foldl (fun tmps (t, a) => tmps.setIfInBounds t a) rec.tmps = (pl.zip (encs x)).foldl (fun t (p, v) => t.setIfInBounds p v) a.tmps := by
        rw [hrec]; simp [List.zip_toArray]
      rw [htm] at hy
      rw [show rec.fn = fn by rw [hrec], show rec.assign = assign by rw [hrec], show rec.body = body by rw [hrec]] at hy
      refine ⟨fn, _, assign, body, hy, roundIn_of_wpIn hfn ?_⟩
      have hA := hassign w.heap.size (w.heap.size + 1) rec k x i hx hi _ W hfr hmi
      refine wpIn_mono hA ?_
      intro e a1 W2 hq
      cases e with
      | normal =>
        obtain ⟨_, _, hf1, hm2⟩ := hq
        have hl2 : W2.heap[w.heap.size + 1]? = some (.loop rec) := hm2.at idl (ids_ne hne')
        refine ⟨_, run_beginRound hl2 (by rw [hrec]), ?_⟩
        have hm3 := (hm2.putObj (.loop { rec with state := .busy }) (ids_ne hne' : lk _ idl = some (.blk (w.heap.size + 1) (.loop rec)))).second hne'
        have hB := hround w.heap.size (w.heap.size + 1) rec k x i hx hi a1 _ hf1 hm3
        refine wpIn_mono hB ?_
        have fin : ∀ (jump : Option Code) (W3 : World) (LL : Heap), MemOk w₀ ((idD, .blk w.heap.size (.deferred (some []))) :: (idl, .blk (w.heap.size + 1) (.loop { rec with state := .busy })) :: LL) W3 →
            (Instr.endRound (w.heap.size + 1) jump).run P W3 = .ok (.bool jump.isNone) (W3.putObj (w.heap.size + 1) (.loop { rec with state := if jump.isNone then .ready else .done, pending := jump })) ∧
            MemOk w₀ ((idD, .blk w.heap.size (.deferred (some []))) :: (idl, .blk (w.heap.size + 1) (.loop { rec with state := if jump.isNone then .ready else .done, pending := jump })) :: LL) (W3.putObj (w.heap.size + 1) (.loop { rec with state := if jump.isNone then .ready else .done, pending := jump })) := fun jump W3 LL h3 => by
          have hl3 : W3.heap[w.heap.size + 1]? = some (.loop { rec with state := .busy }) := h3.at idl (ids_ne hne')
          exact ⟨run_endRound (P := P) (r := { rec with state := .busy }) jump hl3, (h3.putObj _ (ids_ne hne')).second hne'⟩
        have hrd : ({ rec with state := .ready, pending := none } : Loop) = rec := by rw [hrec]
        rintro e a3 W3 hp
        cases e with
        | normal =>
          obtain ⟨i', hi', h3⟩ := hp
          obtain ⟨hr, h4⟩ := fin none W3 _ h3
          exact ⟨_, _, hr, .inl ⟨rfl, i', hi', by simpa [hrd] using h4⟩⟩
        | ret =>
          obtain ⟨i', hi', h3⟩ := hp
          obtain ⟨hr, h4⟩ := fin (some .ret) W3 _ h3
          exact ⟨_, _, hr, .inr ⟨rfl, (.ret, i'), hi', by simpa using h4⟩⟩
        | exit id =>
          obtain ⟨i', hi', h3⟩ := hp
          obtain ⟨hr, h4⟩ := fin (some (.exit id)) W3 _ h3
          exact ⟨_, _, hr, .inr ⟨rfl, (.exit id, i'), hi', by simpa using h4⟩⟩
        | goto t =>
          obtain ⟨i', hi', h3⟩ := hp
          obtain ⟨hr, h4⟩ := fin (some (.goto t)) W3 _ h3
          exact ⟨_, _, hr, .inr ⟨rfl, (.goto t, i'), hi', by simpa using h4⟩⟩
        | panic ch => exact hp.elim
        | outgrown => exact hp.elim
      | exit id => exact hq.elim
      | goto l => exact hq.elim
      | ret => exact hq.elim
      | panic ch => exact hq.elim
      | outgrown => exact hq.elim
    · have hf' : ∀ (D : Nat), FrOk N ({ target := .collected D, args := #[] } :: CD) K { a with defers := [{ target := .collected D, args := #[] }] ++ a.defers } := fun D => ⟨hf.size, by rw [hf.defers]; rfl, hf.knows⟩
      rintro e W2 ⟨⟨v, rfl⟩, (⟨i, hi, h2⟩ | ⟨⟨c, i⟩, hi, h2⟩)⟩
      · have hl2 : W2.heap[w.heap.size + 1]? = some (.loop rec) := h2.at idl (ids_ne hne')
        refine ⟨none, _, by have := run_endLoop (P := P) hl2 (by rw [hrec]; simp); rw [this, hrec], ?_⟩
        exact hdone w.heap.size i hi _ _ (hf' _) (((h2.putObj _ (ids_ne hne')).second hne').drop2 (hids _ i).2)
      · have hl2 : W2.heap[w.heap.size + 1]? = some (.loop { rec with state := .done, pending := some c }) := h2.at idl (ids_ne hne')
        refine ⟨some c, _, by have := run_endLoop (P := P) hl2 (by simp); exact this, ?_⟩
        exact wpIn_wide.2 ((wpIn_wide (n := 0)).1 (hstop w.heap.size c i hi _ _ (hf' _) (((h2.putObj _ (ids_ne hne')).second hne').drop2 (hidx i).2)))
section
variable {C : Cx} {Q : Post} {K : List (Nat × Value)} {L : Heap}
/-- A loop whose memory is told as a whole, by the same words at each round's head. -/
theorem T_loopE {ι : Type} (p : ι → Prop) (KI : ι → List (Nat × Value)) (LI : ι → Heap) (μ : ι → Nat) (i₀ : ι) (hp : p i₀) (hK : SubK K (KI i₀)) (hL : L = LI i₀) {c : Code}
    (hround : ∀ i, p i → T C c (Exit.then (At C (fun j => p j ∧ μ j < μ i) KI LI) Q) (KI i) (LI i)) : T C (.loop c) Q K L := by
  intro a w hf hm
  have key : ∀ m i, p i → μ i ≤ m → ∀ a w, FrOk C.N C.D (KI i) a → MemOk C.w₀ (LI i) w → Code.roundsIn (FW C.ro) 0 C.P c Q (m + 1) a w := by
    intro m
    induction m with
    | zero =>
      intro i hi hle a w hf hm
      refine wpIn_mono (hround i hi a w hf hm) ?_
      intro e a' w' hq
      cases e with
      | normal => obtain ⟨j, ⟨_, hlt⟩, _⟩ := hq; omega
      | exit id => exact hq
      | goto l => exact hq
      | ret => exact hq
      | panic ch => exact hq
      | outgrown => exact hq
    | succ m ih =>
      intro i hi hle a w hf hm
      refine wpIn_mono (hround i hi a w hf hm) ?_
      intro e a' w' hq
      cases e with
      | normal => obtain ⟨j, ⟨hj, hlt⟩, h1, h2⟩ := hq; exact ih j hj (by omega) a' w' h1 h2
      | exit id => exact hq
      | goto l => exact hq
      | ret => exact hq
      | panic ch => exact hq
      | outgrown => exact hq
  exact wpIn_loop_rounds _ (key (μ i₀) i₀ hp (Nat.le_refl _) a w (hf.sub hK) (by rw [← hL]; exact hm))
theorem p_atE {ι : Type} {p : ι → Prop} {KJ : ι → List (Nat × Value)} {LJ : ι → Heap} (i : ι) (hp : p i) (hK : SubK K (KJ i)) (hL : L = LJ i) : POk C (Exit.then (At C p KJ LJ) Q) .normal K L :=
  fun _ _ hf hm => ⟨i, hp, hf.sub hK, by rw [← hL]; exact hm⟩
end
/-- What is known behind a yield. -/
def yL {ι κ : Type} (LT : ι → Heap) (LX : κ → Heap) : ι ⊕ κ → Heap
  | .inl i => LT i
  | .inr j => LX j
def yP {ι κ : Type} (pT : ι → Prop) (pX : κ → Prop) : ι ⊕ κ → Prop
  | .inl i => pT i
  | .inr j => pX j
theorem isL {ι κ : Type} {x : ι ⊕ κ} (h : x.isLeft = true) : ∃ i, x = .inl i := by cases x with | inl i => exact ⟨i, rfl⟩ | inr j => cases h
theorem isR {ι κ : Type} {x : ι ⊕ κ} (h : x.isLeft = false) : ∃ j, x = .inr j := by cases x with | inl i => cases h | inr j => exact ⟨j, rfl⟩
theorem TL_yieldB {C : Cx} {ops : Array Oper} {os : List Oper} {Q : Post} {K : List (Nat × Value)} {L : Heap} {o : Oper} {ι κ : Type} {d l : Nat} {args : Array Value} (pT : ι → Prop) (LT : ι → Heap) (pX : κ → Prop) (LX : κ → Heap) (hro : C.ro = none)
    (hr : ∀ ρ w, Rd K ρ → MemOk C.w₀ L w → (execOp ρ o).run C.P w = (Instr.yield l args).run C.P w)
    (hc : ∀ W, MemOk C.w₀ L W → YieldAt Fence.wide 0 C.P l args W fun e W' => (e = .returned (.bool true) ∧ ∃ i, pT i ∧ MemOk C.w₀ (LT i) W') ∨ (e = .returned (.bool false) ∧ ∃ j, pX j ∧ MemOk C.w₀ (LX j) W'))
    (hd : o.dst = some d) (hN : Nat.blt d C.N = true) (hn : isDefer o.op = false) (hw : Want ops K o true)
    (h : ∀ x, yP pT pX x → TL C ops os Q ((d, .bool x.isLeft) :: K) (yL LT LX x)) : TL C ops (o :: os) Q K L :=
  TL_yield pT LT pX LX hro hr hc hd hN hn hw (fun i hi => h (.inl i) hi) (fun j hj => h (.inr j) hj)
theorem r_yield {P : Program} {w : World} {ρ : Operand → Value} {d : Option Tmp} {ty : TypeId} {ps : String} {af : Array Edge} {g : Option (Nat × Bool)} {l : Nat} {fop : Operand} {opl : List Operand} {args : List Value} {ats : Array TypeId} (hf : ρ fop = .func (.yield l) #[] #[]) (ha : opl.map ρ = args) :
    (execOp ρ { dst := d, op := .call { callee := .value fop, args := opl.toArray, argTypes := ats }, type := ty, pos := ps, after := af, guard := g }).run P w = (Instr.yield l args.toArray).run P w := by
  subst ha
  show (do let d ← resolve ρ _ ty; invoke d.target d.args : Sem Next).run P w = _
  simp only [resolve, hf]
  rw [run_bind_ok (a := { target := .fn (.yield l) #[], args := #[] ++ (opl.map ρ).toArray }) (w' := w)]
  · simp only [Array.empty_append]; rfl
  · simp only [Deferred.ofValue, List.map_toArray]
    rfl
theorem lk_dup {L : Heap} {i : Nat} {r : Res} (hi : lk L i = some r) : ∀ k q, lk ((i, r) :: L) k = some q → lk L k = some q := fun k q hk => by
  by_cases e : i = k
  · subst e; rw [lk_cons_same] at hk; rw [hi]; exact hk
  · rwa [lk_cons_other _ _ e] at hk
theorem lk_fresh {A : Heap} {j : Nat} {b : Res} (hf : lk A j = none) : ∀ k q, lk A k = some q → lk ((j, b) :: A) k = some q := fun k q hk => by
  by_cases e : j = k
  · subst e; rw [hf] at hk; cases hk
  · rwa [lk_cons_other _ _ e]
theorem lk_put {L : Heap} {i j : Nat} {n o b : Res} (hij : Nat.beq j i = false) (hf : lk L j = none) : ∀ k q, lk ((i, n) :: L) k = some q → lk ((i, n) :: (j, b) :: (i, o) :: L) k = some q := fun k q hk => by
  by_cases e : i = k
  · subst e; rwa [lk_cons_same] at hk ⊢
  · rw [lk_cons_other _ _ e] at hk ⊢
    by_cases e2 : j = k
    · subst e2; rw [hf] at hk; cases hk
    · rwa [lk_cons_other _ _ e2, lk_cons_other _ _ e]
theorem p_round_n {C : Cx} {K : List (Nat × Value)} {L : Heap} {idD idl D l : Nat} {rec : Loop} {ι : Type} {p : ι → Prop} {LI : ι → Heap} {pX : Code → ι → Prop} {LX : ι → Heap} (i : ι) (hp : p i)
    (hL : SubK L ((idD, .blk D (.deferred (some []))) :: (idl, .blk l (.loop { rec with state := .busy })) :: LI i)) : POk C (RoundQ C.w₀ idD idl D l rec p LI pX LX) .normal K L := fun _ _ _ hm => ⟨i, hp, hm.sub hL⟩
end Go.Proofs.Ytbiapeaghbndoaa
