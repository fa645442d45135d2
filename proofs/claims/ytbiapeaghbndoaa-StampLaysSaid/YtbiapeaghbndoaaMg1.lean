/- Texts of this seat, merged: part 1. -/
import Derived.Test.YtbiapeaghbndoaaMg0
import Derived.LaidEqlPtr
import Derived.Test.YtbiapeaghbndoaaChecked
import Derived.Laws.MakeOwn
import Derived.Laws.CopyOwn
import Derived.Laws.IdiomCopy
import Derived.Maps.RangeRun
/- Calls that write memory of one's own; a range over a function. Over any program. -/
namespace Go.Proofs.Ytbiapeaghbndoaa
open Go Go.RowKit

theorem MemOk.putObj {w₀ w : World} {L : Heap} (h : MemOk w₀ L w) {i b : Nat} {o : Obj} (o' : Obj) (hi : lk L i = some (.blk b o)) : MemOk w₀ ((i, .blk b o') :: L) (w.putObj b o') :=
  h.upd hi ⟨rfl, rfl, rfl, by simp, World.putObj_heap_same (hp_lt (h.own i _ hi).2), fun k hk => hp_putObj _ _ _ hk⟩

def HAns (w₀ : World) {ι : Type} (p : ι → Prop) (v : ι → Value) (LJ : ι → Heap) (e : Ending) (w' : World) : Prop := ∃ x, p x ∧ e = .returned (v x) ∧ MemOk w₀ (LJ x) w'
theorem ht_of_T {P : Program} {f : FuncId} {fn : Func} {c : Code} {l : List Value} {w₀ : World} {L : Heap} {R : Ending → World → Prop} (N : Nat) (hf : P.funcs[f]? = some fn) (hN : fn.ntmps = N) (hn : Nat.ble l.length N = true) (hb : fn.body = some c)
    (h : T ⟨P, w₀, N, [], none⟩ c (bodyM P fn R) (argsK 0 l) L) : ∀ w, MemOk w₀ L w → Calls P f l.toArray w R := by
  intro w hm
  subst hN
  replace hn := Nat.le_of_ble_eq_true hn
  refine calls_of_marks hf hb (wpIn_wide.1 (h _ w ?_ hm))
  refine lk_args (by simpa using hn) _ (fun t v ht => ?_)
  obtain ⟨_, h2⟩ := argsK_lk l 0 t v ht
  simpa using h2
section
variable {C : Cx} {ops : Array Oper} {os : List Oper} {Q : Post} {K : List (Nat × Value)} {L : Heap} {o : Oper}
theorem TL_callH {ι : Type} {d f : Nat} {args : Array Value} (p : ι → Prop) (v : ι → Value) (LJ : ι → Heap) (hr : ∀ ρ w, Rd K ρ → MemOk C.w₀ L w → (execOp ρ o).run C.P w = .ok (.enter f args) w)
    (hc : ∀ w, MemOk C.w₀ L w → Calls C.P f args w (HAns C.w₀ p v LJ))
    (hd : o.dst = some d) (hN : Nat.blt d C.N = true) (hn : isDefer o.op = false) (hw : Want ops K o true)
    (h : ∀ x, p x → TL C ops os Q ((d, v x) :: K) (LJ x)) : TL C ops (o :: os) Q K L := by
  intro a w hf hm
  unfold wpListIn
  rw [hw.is hf, if_pos rfl]
  refine step_enter hn (hr _ _ hf.rd hm) (hc w hm) ?_
  rintro e w' ⟨x, hx, rfl, hm'⟩
  show wpListIn _ _ _ _ _ _ _ _
  rw [hd]
  exact h x hx _ _ (hf.put _ hN) hm'
end
section
variable {C : Cx} {R : Rg} {Q : Post} {K0 V : List (Nat × Value)} {lo : Nat} {L : Heap}
end

/-! ### a range over a function -/
def zipK : List Tmp → List Value → List (Nat × Value) → List (Nat × Value)
  | t :: ts, v :: vs, K => zipK ts vs ((t, v) :: K)
  | _, _, K => K
theorem FrOk.zip {N : Nat} {D : List Deferred} : ∀ (ts : List Tmp) (vs : List Value) {K : List (Nat × Value)} {tmps : Array Value}, (∀ t ∈ ts, Nat.blt t N = true) → FrOk N D K { tmps := tmps, defers := D } →
    FrOk N D (zipK ts vs K) { tmps := (ts.zip vs).foldl (fun t (p, v) => t.setIfInBounds p v) tmps, defers := D }
  | [], vs, K, tmps, _, h => by cases vs <;> simpa [zipK] using h
  | t :: ts, [], K, tmps, _, h => by simpa [zipK] using h
  | t :: ts, v :: vs, K, tmps, ht, h => by
    have := h.put (d := t) v (ht t (by simp))
    exact FrOk.zip ts vs (fun u hu => ht u (by simp [hu])) this
def RoundQ (w₀ : World) (idD idl D l : Nat) (rec : Loop) {ι : Type} (p : ι → Prop) (LI : ι → Heap) (pX : Code → ι → Prop) (LX : ι → Heap) : Post := fun e _ W =>
  let one (q : ι → Prop) (LL : ι → Heap) : Prop := ∃ i, q i ∧ MemOk w₀ ((idD, .blk D (.deferred (some []))) :: (idl, .blk l (.loop { rec with state := .busy })) :: LL i) W
  match e with
  | .normal => one p LI
  | .ret => one (pX .ret) LX
  | .exit id => one (pX (.exit id)) LX
  | .goto t => one (pX (.goto t)) LX
  | .panic _ => False
  | .outgrown => False
theorem ids_ne {L : Heap} {i j : Nat} {r s : Res} (h : i ≠ j) : lk ((i, r) :: (j, s) :: L) j = some s := by
  rw [lk_cons_other _ _ h, lk_cons_same]
theorem MemOk.of {w₀ w : World} {L L' : Heap} (h : MemOk w₀ L w) (key : ∀ k q, lk L' k = some q → lk L k = some q) : MemOk w₀ L' w :=
  ⟨h.ext, fun k q hk => h.own k q (key k q hk), fun k m q q' hk hm => h.sep k m q q' (key k q hk) (key m q' hm)⟩
theorem MemOk.second {w₀ w : World} {L : Heap} {i j : Nat} {r s s' : Res} (hne : i ≠ j) (h : MemOk w₀ ((j, s') :: (i, r) :: (j, s) :: L) w) : MemOk w₀ ((i, r) :: (j, s') :: L) w := by
  have key : ∀ k q, lk ((i, r) :: (j, s') :: L) k = some q → lk ((j, s') :: (i, r) :: (j, s) :: L) k = some q := by
    intro k q hk
    by_cases e1 : j = k
    · subst e1
      rw [ids_ne hne] at hk
      rw [lk_cons_same]; exact hk
    · rw [lk_cons_other _ _ e1]
      by_cases e2 : i = k
      · subst e2; rw [lk_cons_same] at hk ⊢; exact hk
      · rw [lk_cons_other _ _ e2, lk_cons_other _ _ e1] at hk
        rw [lk_cons_other _ _ e2, lk_cons_other _ _ e1]; exact hk
  exact ⟨h.ext, fun k q hk => h.own k q (key k q hk), fun k m q q' hk hm => h.sep k m q q' (key k q hk) (key m q' hm)⟩
theorem MemOk.drop2 {w₀ w : World} {L : Heap} {i j : Nat} {r s : Res} (hj : lk L j = none) (h : MemOk w₀ ((i, r) :: (j, s) :: L) w) : MemOk w₀ ((i, r) :: L) w := by
  have key : ∀ k q, lk ((i, r) :: L) k = some q → lk ((i, r) :: (j, s) :: L) k = some q := by
    intro k q hk
    by_cases e2 : i = k
    · subst e2; rw [lk_cons_same] at hk ⊢; exact hk
    · rw [lk_cons_other _ _ e2] at hk ⊢
      by_cases e1 : j = k
      · subst e1; rw [hj] at hk; cases hk
      · rw [lk_cons_other _ _ e1]; exact hk
  exact ⟨h.ext, fun k q hk => h.own k q (key k q hk), fun k m q q' hk hm => h.sep k m q q' (key k q hk) (key m q' hm)⟩
theorem MemOk.tail {w₀ w : World} {L : Heap} {i : Nat} {r : Res} (hi : lk L i = none) (h : MemOk w₀ ((i, r) :: L) w) : MemOk w₀ L w := by
  have key : ∀ k q, lk L k = some q → lk ((i, r) :: L) k = some q := by
    intro k q hk
    by_cases e : i = k
    · subst e; rw [hi] at hk; cases hk
    · rw [lk_cons_other _ _ e]; exact hk
  exact ⟨h.ext, fun k q hk => h.own k q (key k q hk), fun k m q q' hk hm => h.sep k m q q' (key k q hk) (key m q' hm)⟩
abbrev Cx.with (C : Cx) (D : Nat) : Cx := ⟨C.P, C.w₀, C.N, { target := .collected D, args := #[] } :: C.D, C.ro⟩
abbrev Cx.round (C : Cx) (l : Nat) : Cx := ⟨C.P, C.w₀, C.N, [], some l⟩
def IterAt (P : Program) (w₀ : World) (gf : Nat) (lb : Array Value) {ι α : Type} (encs : α → List Value) (xs : List α) (p : Nat → ι → Prop) (LJ : Nat → ι → Heap) : Prop :=
  ∀ (l : Nat) (κ : Type) (pX : κ → Prop) (LX : κ → Heap),
    (∀ k x i W, xs[k]? = some x → p k i → MemOk w₀ (LJ k i) W → YieldAt Fence.wide 0 P l (encs x).toArray W fun e W' =>
      (e = .returned (.bool true) ∧ ∃ i', p (k + 1) i' ∧ MemOk w₀ (LJ (k + 1) i') W') ∨ (e = .returned (.bool false) ∧ ∃ j, pX j ∧ MemOk w₀ (LX j) W')) →
    ∀ i W, p 0 i → MemOk w₀ (LJ 0 i) W → Calls P gf (#[.func (.yield l) #[] #[]] ++ lb) W fun e W' =>
      (∃ v, e = .returned v) ∧ ((∃ i', p xs.length i' ∧ MemOk w₀ (LJ xs.length i') W') ∨ ∃ j, pX j ∧ MemOk w₀ (LX j) W')
theorem wide_room (k : Nat) : Fence.wide.room k := fun d h => by cases h
theorem RoundIn.any {m m' : Nat} {P : Program} {l : Nat} {f : FuncId} {tmps : Array Value} {assign body : Code} {w : World} {R : Ending → World → Prop}
    (h : RoundIn Fence.wide m P l f tmps assign body w R) : RoundIn Fence.wide m' P l f tmps assign body w R := ⟨h.1, fun c cs _ => h.2 c cs (wide_room _)⟩
theorem TL_yield {C : Cx} {ops : Array Oper} {os : List Oper} {Q : Post} {K : List (Nat × Value)} {L : Heap} {o : Oper} {ι κ : Type} {d l : Nat} {args : Array Value} (pT : ι → Prop) (LT : ι → Heap) (pX : κ → Prop) (LX : κ → Heap) (hro : C.ro = none)
    (hr : ∀ ρ w, Rd K ρ → MemOk C.w₀ L w → (execOp ρ o).run C.P w = (Instr.yield l args).run C.P w)
    (hc : ∀ W, MemOk C.w₀ L W → YieldAt Fence.wide 0 C.P l args W fun e W' => (e = .returned (.bool true) ∧ ∃ i, pT i ∧ MemOk C.w₀ (LT i) W') ∨ (e = .returned (.bool false) ∧ ∃ j, pX j ∧ MemOk C.w₀ (LX j) W'))
    (hd : o.dst = some d) (hN : Nat.blt d C.N = true) (hn : isDefer o.op = false) (hw : Want ops K o true)
    (h1 : ∀ i, pT i → TL C ops os Q ((d, .bool true) :: K) (LT i)) (h2 : ∀ j, pX j → TL C ops os Q ((d, .bool false) :: K) (LX j)) : TL C ops (o :: os) Q K L := by
  obtain ⟨P, w₀, N, CD, ro⟩ := C
  cases hro
  intro a w hf hm
  unfold wpListIn
  rw [hw.is hf, if_pos rfl]
  obtain ⟨fn, tmps, assign, body, hy, hR⟩ := hc w hm
  refine ⟨fun _ _ => trivial, ?_⟩
  rw [semAt_nd hn, hr _ _ hf.rd hm, hy, Oper.uponIn_round]
  refine ⟨fun h => (by cases h), ?_⟩
  refine RoundIn.mono (RoundIn.any hR) ?_
  rintro e W' (⟨rfl, i, hi, hm'⟩ | ⟨rfl, j, hj, hm'⟩)
  · dsimp only
    rw [hd]
    exact h1 i hi _ _ (hf.put _ hN) hm'
  · dsimp only
    rw [hd]
    exact h2 j hj _ _ (hf.put _ hN) hm'
section
variable {C : Cx} {Q : Post} {K : List (Nat × Value)} {L : Heap}
theorem T_scope {c : Code} (h : T C c (Exit.noGoto Q) K L) : T C (.scope c) Q K L := fun a w hf hm => wpIn_scope_straight (h a w hf hm)
theorem T_label {l : Nat} {y : Code} (h : T C y Q K L) : T C (.seq (.label l) y) Q K L := fun a w hf hm => wpIn_label_seq (h a w hf hm)
theorem p_ng_n (h : POk C Q .normal K L) : POk C (Exit.noGoto Q) .normal K L := h
theorem p_end {fn : Func} {R : Ending → World → Prop} (h : POk C (bodyM C.P fn R) .ret K L) : POk C (bodyM C.P fn R) .normal K L := h
theorem ret_of1 {fn : Func} {R : Ending → World → Prop} (idD D : Nat) (hD : C.D = [{ target := .collected D, args := #[] }]) (hi : lk L idD = some (.blk D (.deferred (some [])))) (v : Value)
    (hr : ∀ tmps w, (∀ t u, lk K t = some u → tmps.getD t undef = u) → MemOk C.w₀ ((idD, .blk D (.deferred none)) :: L) w → (results fn tmps).run C.P w = .ok v w) (hR : ∀ w, MemOk C.w₀ ((idD, .blk D (.deferred none)) :: L) w → R (.returned v) w) : POk C (bodyM C.P fn R) .ret K L :=
  fun a w hf hm => bodyM_ret1 (hf.defers.trans hD) (hm.at idD hi) (hr _ _ hf.knows (hm.putObj _ hi)) (hR _ (hm.putObj _ hi))
end
section
variable {C : Cx} {Q : Post} {K : List (Nat × Value)} {L : Heap}
theorem T_loopE {ι : Type} (p : ι → Prop) (KI : ι → List (Nat × Value)) (LI : ι → Heap) (μ : ι → Nat) (i₀ : ι) (hp : p i₀) (hK : SubK K (KI i₀)) (hL : L = LI i₀) {c : Code}
    (hround : ∀ i, p i → T C c (Exit.then (At C (fun j => p j ∧ μ j < μ i) KI LI) Q) (KI i) (LI i)) : T C (.loop c) Q K L := by
  intro a w hf hm
  have key : ∀ m i, p i → μ i ≤ m → ∀ a w, FrOk C.N C.D (KI i) a → MemOk C.w₀ (LI i) w → Code.roundsIn (FW C.ro) 0 C.P c Q (m + 1) a w := by
    intro m
    induction m with
    | zero =>
      intro i hi hle a w hf hm
      refine wpIn_mono (hround i hi a w hf hm) ?_
      intro e a' w' hq
      cases e with
      | normal => obtain ⟨j, ⟨_, hlt⟩, _⟩ := hq; omega
      | exit id => exact hq
      | goto l => exact hq
      | ret => exact hq
      | panic ch => exact hq
      | outgrown => exact hq
    | succ m ih =>
      intro i hi hle a w hf hm
      refine wpIn_mono (hround i hi a w hf hm) ?_
      intro e a' w' hq
      cases e with
      | normal => obtain ⟨j, ⟨hj, hlt⟩, h1, h2⟩ := hq; exact ih j hj (by omega) a' w' h1 h2
      | exit id => exact hq
      | goto l => exact hq
      | ret => exact hq
      | panic ch => exact hq
      | outgrown => exact hq
  exact wpIn_loop_rounds _ (key (μ i₀) i₀ hp (Nat.le_refl _) a w (hf.sub hK) (by rw [← hL]; exact hm))
theorem p_atE {ι : Type} {p : ι → Prop} {KJ : ι → List (Nat × Value)} {LJ : ι → Heap} (i : ι) (hp : p i) (hK : SubK K (KJ i)) (hL : L = LJ i) : POk C (Exit.then (At C p KJ LJ) Q) .normal K L :=
  fun _ _ hf hm => ⟨i, hp, hf.sub hK, by rw [← hL]; exact hm⟩
end
def yL {ι κ : Type} (LT : ι → Heap) (LX : κ → Heap) : ι ⊕ κ → Heap
  | .inl i => LT i
  | .inr j => LX j
def yP {ι κ : Type} (pT : ι → Prop) (pX : κ → Prop) : ι ⊕ κ → Prop
  | .inl i => pT i
  | .inr j => pX j
theorem isL {ι κ : Type} {x : ι ⊕ κ} (h : x.isLeft = true) : ∃ i, x = .inl i := by cases x with | inl i => exact ⟨i, rfl⟩ | inr j => cases h
theorem isR {ι κ : Type} {x : ι ⊕ κ} (h : x.isLeft = false) : ∃ j, x = .inr j := by cases x with | inl i => cases h | inr j => exact ⟨j, rfl⟩
theorem TL_yieldB {C : Cx} {ops : Array Oper} {os : List Oper} {Q : Post} {K : List (Nat × Value)} {L : Heap} {o : Oper} {ι κ : Type} {d l : Nat} {args : Array Value} (pT : ι → Prop) (LT : ι → Heap) (pX : κ → Prop) (LX : κ → Heap) (hro : C.ro = none)
    (hr : ∀ ρ w, Rd K ρ → MemOk C.w₀ L w → (execOp ρ o).run C.P w = (Instr.yield l args).run C.P w)
    (hc : ∀ W, MemOk C.w₀ L W → YieldAt Fence.wide 0 C.P l args W fun e W' => (e = .returned (.bool true) ∧ ∃ i, pT i ∧ MemOk C.w₀ (LT i) W') ∨ (e = .returned (.bool false) ∧ ∃ j, pX j ∧ MemOk C.w₀ (LX j) W'))
    (hd : o.dst = some d) (hN : Nat.blt d C.N = true) (hn : isDefer o.op = false) (hw : Want ops K o true)
    (h : ∀ x, yP pT pX x → TL C ops os Q ((d, .bool x.isLeft) :: K) (yL LT LX x)) : TL C ops (o :: os) Q K L :=
  TL_yield pT LT pX LX hro hr hc hd hN hn hw (fun i hi => h (.inl i) hi) (fun j hj => h (.inr j) hj)
theorem r_yield {P : Program} {w : World} {ρ : Operand → Value} {d : Option Tmp} {ty : TypeId} {ps : String} {af : Array Edge} {g : Option (Nat × Bool)} {l : Nat} {fop : Operand} {opl : List Operand} {args : List Value} {ats : Array TypeId} (hf : ρ fop = .func (.yield l) #[] #[]) (ha : opl.map ρ = args) :
    (execOp ρ { dst := d, op := .call { callee := .value fop, args := opl.toArray, argTypes := ats }, type := ty, pos := ps, after := af, guard := g }).run P w = (Instr.yield l args.toArray).run P w := by
  subst ha
  show (do let d ← resolve ρ _ ty; invoke d.target d.args : Sem Next).run P w = _
  simp only [resolve, hf]
  rw [run_bind_ok (a := { target := .fn (.yield l) #[], args := #[] ++ (opl.map ρ).toArray }) (w' := w)]
  · simp only [Array.empty_append]; rfl
  · simp only [Deferred.ofValue, List.map_toArray]
    rfl
theorem lk_dup {L : Heap} {i : Nat} {r : Res} (hi : lk L i = some r) : ∀ k q, lk ((i, r) :: L) k = some q → lk L k = some q := fun k q hk => by
  by_cases e : i = k
  · subst e; rw [lk_cons_same] at hk; rw [hi]; exact hk
  · rwa [lk_cons_other _ _ e] at hk
theorem lk_fresh {A : Heap} {j : Nat} {b : Res} (hf : lk A j = none) : ∀ k q, lk A k = some q → lk ((j, b) :: A) k = some q := fun k q hk => by
  by_cases e : j = k
  · subst e; rw [hf] at hk; cases hk
  · rwa [lk_cons_other _ _ e]
theorem lk_put {L : Heap} {i j : Nat} {n o b : Res} (hij : Nat.beq j i = false) (hf : lk L j = none) : ∀ k q, lk ((i, n) :: L) k = some q → lk ((i, n) :: (j, b) :: (i, o) :: L) k = some q := fun k q hk => by
  by_cases e : i = k
  · subst e; rwa [lk_cons_same] at hk ⊢
  · rw [lk_cons_other _ _ e] at hk ⊢
    by_cases e2 : j = k
    · subst e2; rw [hf] at hk; cases hk
    · rwa [lk_cons_other _ _ e2, lk_cons_other _ _ e]
theorem p_round_n {C : Cx} {K : List (Nat × Value)} {L : Heap} {idD idl D l : Nat} {rec : Loop} {ι : Type} {p : ι → Prop} {LI : ι → Heap} {pX : Code → ι → Prop} {LX : ι → Heap} (i : ι) (hp : p i)
    (hL : SubK L ((idD, .blk D (.deferred (some []))) :: (idl, .blk l (.loop { rec with state := .busy })) :: LI i)) : POk C (RoundQ C.w₀ idD idl D l rec p LI pX LX) .normal K L := fun _ _ _ hm => ⟨i, hp, hm.sub hL⟩
end Go.Proofs.Ytbiapeaghbndoaa
/- Arrays told by the list of their elements. Over any program. -/
namespace Go.Proofs.Ytbiapeaghbndoaa
open Go Go.RowKit

def lst {α : Type} (f : α → List Value) (l : List α) : Array Value := (l.flatMap f).toArray
section
variable {α : Type} {s : Nat} {f : α → List Value} {l : List α}
theorem flat_len (hf : ∀ x, (f x).length = s) : ∀ l : List α, (l.flatMap f).length = l.length * s
  | [] => by simp
  | x :: l => by rw [List.flatMap_cons, List.length_append, hf, flat_len hf l, List.length_cons, Nat.add_mul, Nat.one_mul, Nat.add_comm]
theorem lst_size (hf : ∀ x, (f x).length = s) (l : List α) : (lst f l).size = l.length * s := by
  unfold lst; rw [List.size_toArray]; exact flat_len hf l
theorem row_lst (hf : ∀ x, (f x).length = s) (l : List α) : Row s f (lst f l) 0 l :=
  row_of_take hf (by unfold lst; rw [List.take_of_length_le (by rw [flat_len hf]; exact Nat.le_refl _)])
theorem wrC_list : ∀ (vs xs pre post : List Value), xs.length = vs.length → wrC (pre ++ xs ++ post).toArray pre.length vs = (pre ++ vs ++ post).toArray
  | [], xs, pre, post, h => by
    have : xs = [] := List.eq_nil_of_length_eq_zero h
    subst this; rfl
  | v :: vs, [], pre, post, h => by simp at h
  | v :: vs, x :: xs, pre, post, h => by
    have ih := wrC_list vs xs (pre ++ [v]) post (by simpa using h)
    have e : ((pre ++ x :: xs ++ post).toArray).setIfInBounds pre.length v = (pre ++ [v] ++ xs ++ post).toArray := by
      apply Array.ext'
      simp [List.set_append]
    show wrC (((pre ++ x :: xs ++ post).toArray).setIfInBounds pre.length v) (pre.length + 1) vs = _
    rw [e]
    rw [List.length_append, List.length_singleton] at ih
    rw [ih]
    simp
theorem flat_set (hf : ∀ x, (f x).length = s) {i : Nat} (hi : i < l.length) (x : α) : ∃ pre xs post, l.flatMap f = pre ++ xs ++ post ∧ pre.length = i * s ∧ xs.length = s ∧ (l.set i x).flatMap f = pre ++ f x ++ post := by
  refine ⟨(l.take i).flatMap f, f l[i], (l.drop (i + 1)).flatMap f, ?_, ?_, hf _, ?_⟩
  · have : l = l.take i ++ l[i] :: l.drop (i + 1) := by rw [List.getElem_cons_drop, List.take_append_drop]
    conv => lhs; rw [this]
    rw [List.flatMap_append, List.flatMap_cons, List.append_assoc]
  · rw [flat_len hf, List.length_take, Nat.min_eq_left (Nat.le_of_lt hi)]
  · rw [List.set_eq_take_append_cons_drop, if_pos hi, List.flatMap_append, List.flatMap_cons, List.append_assoc]
theorem wrC_lst (hf : ∀ x, (f x).length = s) {i : Nat} (hi : i < l.length) (x : α) : wrC (lst f l) (i * s) (f x) = lst f (l.set i x) := by
  obtain ⟨pre, xs, post, e1, e2, e3, e4⟩ := flat_set hf hi x
  unfold lst
  rw [e1, e4, ← e2]
  exact wrC_list _ _ _ _ (by rw [e3, hf])
variable {P : Program} {w : World} {ρ : Operand → Value} {d : Option Tmp} {ty : TypeId} {ps : String} {af : Array Edge} {g : Option (Nat × Bool)} {x y : Operand}
theorem r_storeLst {t : TypeId} {b i : Nat} {T : TypeId} {v : Value} {u : α} (hs : szOf P t = some s) (hx : ρ x = .pointer (some ⟨b, 0 + i * s, none⟩)) (hy : ρ y = v) (hb : hp w b = some (.cells (lst f l) T (0, 0))) (hf : ∀ x, (f x).length = s)
    (hi : i < l.length) (hv : v.cells = (f u).toArray) (ho : (f u).all isOne = true) : ∃ w', (execOp ρ (mk d (.store t x y) ty ps af g)).run P w = .ok .skip w' ∧ Upd w b (.cells (lst f (l.set i u)) T (0, 0)) w' := by
  refine r_store hs hx hy hb (by rw [hv, List.size_toArray, hf]) ?_ (by rw [hv]; exact ho) ?_
  · rw [lst_size hf]
    refine Nat.ble_eq_true_of_le ?_
    have := Nat.mul_le_mul_right s (show i + 1 ≤ l.length from hi)
    rw [Nat.add_mul, Nat.one_mul] at this
    omega
  · rw [hv, Nat.zero_add]; exact wrC_lst hf hi u
theorem r_storeAll {t : TypeId} {b : Nat} {T : TypeId} {cs cs' : Array Value} {n : Nat} (hs : szOf P t = some n) (hx : ρ x = .pointer (some ⟨b, 0, none⟩)) (hy : ρ y = .agg cs') (hb : hp w b = some (.cells cs T (0, 0))) (h1 : cs.size = n) (h2 : cs'.size = n)
    (ho : cs'.toList.all isOne = true) : ∃ w', (execOp ρ (mk d (.store t x y) ty ps af g)).run P w = .ok .skip w' ∧ Upd w b (.cells cs' T (0, 0)) w' := by
  refine r_store hs hx hy hb h2 (by rw [h1, Nat.zero_add]; exact Nat.ble_self_eq_true n) ho ?_
  have := wrC_list cs'.toList cs.toList [] [] (by simp [h1, h2])
  show wrC cs 0 cs'.toList = cs'
  simpa using this
theorem lst_one (ho : ∀ x, (f x).all isOne = true) (l : List α) : (lst f l).toList.all isOne = true := by
  unfold lst
  rw [List.all_flatMap]
  exact List.all_eq_true.2 fun x _ => ho x
theorem run_equalLst {t e : TypeId} {n : Nat} {il : List (Nat × IntKind)} {l m : List α} [DecidableEq α] (ht : arrOf P t = some (n, e)) (hs : szOf P e = some s) (ha : aggOf P e = some true) (hi : intStr P e = some il) (hf : ∀ x, (f x).length = s) (hl : l.length = n) (hm : m.length = n)
    (hfit : ∀ x, fitI (f x).toArray il = true) (heq : ∀ x y, eqI (f x).toArray (f y).toArray il = true → x = y) : (Op.equal t (.agg (lst f l)) (.agg (lst f m))).run P w = .ok (decide (l = m)) w := by
  have key : (Op.equal t (.agg (lst f l)) (.agg (lst f m))).run P w = .ok ((List.range n).all fun i => match l[i]?, m[i]? with | some x, some y => eqI (f x).toArray (f y).toArray il | _, _ => false) w := by
    refine run_eqArr (P := P) (fun i => match l[i]?, m[i]? with | some x, some y => eqI (f x).toArray (f y).toArray il | _, _ => false) ht hs fun i hi' => ?_
    obtain ⟨x, hx⟩ : ∃ x, l[i]? = some x := ⟨_, List.getElem?_eq_getElem (by omega)⟩
    obtain ⟨y, hy⟩ : ∃ x, m[i]? = some x := ⟨_, List.getElem?_eq_getElem (by omega)⟩
    refine ⟨.agg (f x).toArray, .agg (f y).toArray, ?_, ?_, ?_⟩
    · rw [run_part_agg ha hs]
      have := (row_lst hf l i x hx).2
      rw [Nat.zero_add] at this
      rw [this]
    · rw [run_part_agg ha hs]
      have := (row_lst hf m i y hy).2
      rw [Nat.zero_add] at this
      rw [this]
    · rw [hx, hy]
      exact run_eqIntS hi (hfit x) (hfit y)
  rw [key]
  congr 1
  by_cases h : l = m
  · subst h
    rw [decide_eq_true rfl]
    refine List.all_eq_true.2 fun i hi' => ?_
    have hi' := List.mem_range.1 hi'
    obtain ⟨x, hx⟩ : ∃ x, l[i]? = some x := ⟨_, List.getElem?_eq_getElem (by omega)⟩
    rw [hx]
    exact eqI_self _ _
  · rw [decide_eq_false h]
    refine Bool.eq_false_iff.2 fun hall => h ?_
    have hall := List.all_eq_true.1 hall
    refine List.ext_getElem (by omega) fun i h1 h2 => ?_
    have := hall i (List.mem_range.2 (by omega))
    rw [List.getElem?_eq_getElem h1, List.getElem?_eq_getElem h2] at this
    exact heq _ _ this
end
end Go.Proofs.Ytbiapeaghbndoaa
/- A struct that is one part as a whole. Over any program. -/
namespace Go.Proofs.Ytbiapeaghbndoaa
open Go Go.RowKit
theorem fill_fold : ∀ (vs xs pre : List Value), xs.length = vs.length → (vs.zipIdx pre.length).foldl (fun (a : Array Value) (p : Value × Nat) => a.setIfInBounds (0 + p.2) p.1) (pre ++ xs).toArray = (pre ++ vs).toArray
  | [], xs, pre, h => by
    have : xs = [] := List.eq_nil_of_length_eq_zero h
    subst this; rfl
  | v :: vs, [], pre, h => by simp at h
  | v :: vs, x :: xs, pre, h => by
    have ih := fill_fold vs xs (pre ++ [v]) (by simpa using h)
    rw [List.zipIdx_cons, List.foldl_cons]
    have e : ((pre ++ x :: xs).toArray).setIfInBounds (0 + pre.length) v = (pre ++ [v] ++ xs).toArray := by
      apply Array.ext'
      simp [List.set_append]
    rw [e]
    rw [List.length_append, List.length_singleton] at ih
    rw [ih]
    simp
theorem fill_one {z cs : Array Value} {n : Nat} {place : Nat → Option (Nat × Nat)} (hp : place 0 = some (0, n)) (hz : z.size = n) (hc : cs.size = n) : Instr.fill place z [(0, .agg cs)] = some cs := by
  unfold Instr.fill
  rw [hp]
  dsimp only
  have hcs : (Value.agg cs).cells = cs := rfl
  rw [hcs, if_neg (by simp; omega)]
  unfold Instr.fill
  have := fill_fold cs.toList z.toList [] (by simp [hz, hc])
  congr 1
  rw [← Array.foldl_toList, Array.toList_zipIdx]
  simpa using this
end Go.Proofs.Ytbiapeaghbndoaa
/- Pointers, compared. Over any program. -/
namespace Go.Proofs.Ytbiapeaghbndoaa
open Go Go.RowKit
def ptrOf (P : Program) (t : TypeId) : Option TypeId := (P.underlying t).bind fun | .pointer e => some e | _ => none
theorem und_ptr {P : Program} {t e : TypeId} (h : ptrOf P t = some e) : P.underlying t = some (.pointer e) := by
  simp only [ptrOf, Option.bind_eq_some_iff] at h
  obtain ⟨i, hi, h⟩ := h
  cases i <;> simp at h
  subst h
  exact hi
section
variable {P : Program} {w : World} {ρ : Operand → Value} {d : Option Tmp} {ty : TypeId} {ps : String} {af : Array Edge} {g : Option (Nat × Bool)} {x y : Operand}
theorem run_eqPtrN {t e : TypeId} {a : Option Addr} (ht : ptrOf P t = some e) : (Op.equal t (.pointer a) (.pointer none)).run P w = .ok a.isNone w := by
  unfold Op.equal Op.maxDepth Op.equalIn
  rw [run_underlying (und_ptr ht)]
  cases a <;> rfl
theorem r_eqlPn {t t' e : TypeId} {a : Option Addr} (ht : ptrOf P t = some e) (hx : ρ x = .pointer a) (hy : ρ y = .pointer none) : (execOp ρ (mk d (.binOp .eql t x y t') ty ps af g)).run P w = .ok (.value (.bool a.isNone)) w :=
  run_eqv (a := .pointer a) (b := .pointer none) rfl hx hy (run_eql (run_eqPtrN ht))
theorem r_neqPn {t t' e : TypeId} {a : Option Addr} (ht : ptrOf P t = some e) (hx : ρ x = .pointer a) (hy : ρ y = .pointer none) : (execOp ρ (mk d (.binOp .neq t x y t') ty ps af g)).run P w = .ok (.value (.bool !a.isNone)) w :=
  run_eqv (a := .pointer a) (b := .pointer none) rfl hx hy (run_neq (run_eqPtrN ht))
end
end Go.Proofs.Ytbiapeaghbndoaa
/- Maps told by the list of their entries. Over any program. -/
namespace Go.Proofs.Ytbiapeaghbndoaa
open Go Go.RowKit

def mapOf (P : Program) (t : TypeId) : Option (TypeId × TypeId) := (P.underlying t).bind fun | .map k e => some (k, e) | _ => none
theorem und_map {P : Program} {t k e : TypeId} (h : mapOf P t = some (k, e)) : P.underlying t = some (.map k e) := by
  simp only [mapOf, Option.bind_eq_some_iff] at h
  obtain ⟨i, hi, h⟩ := h
  cases i <;> simp at h
  obtain ⟨rfl, rfl⟩ := h
  exact hi
section
variable {κ μ : Type} {fk : κ → Value} {fv : μ → Value}
def ents (fk : κ → Value) (fv : μ → Value) : List (κ × μ) → Nat → List MapEntry
  | [], _ => []
  | (k, v) :: l, n => { key := fk k, val := fv v, born := n } :: ents fk fv l (n + 1)
def mapO (fk : κ → Value) (fv : μ → Value) (l : List (κ × μ)) : Obj := .map (ents fk fv l 0).toArray l.length
theorem ents_at : ∀ (l : List (κ × μ)) (n i : Nat), (ents fk fv l n)[i]? = (l[i]?).map fun z => { key := fk z.1, val := fv z.2, born := n + i }
  | [], _, _ => rfl
  | (k, v) :: l, n, 0 => rfl
  | (k, v) :: l, n, i + 1 => by
    unfold ents
    rw [List.getElem?_cons_succ, List.getElem?_cons_succ, ents_at l (n + 1) i, show n + 1 + i = n + (i + 1) by omega]
theorem ents_app : ∀ (l m : List (κ × μ)) (n : Nat), ents fk fv (l ++ m) n = ents fk fv l n ++ ents fk fv m (n + l.length)
  | [], _, _ => rfl
  | (k, v) :: l, m, n => by
    show _ :: ents fk fv (l ++ m) (n + 1) = _
    rw [ents_app l m (n + 1), List.length_cons, show n + 1 + l.length = n + (l.length + 1) by omega]
    rfl
variable [DecidableEq κ]
def fndM (c : κ) : List (κ × μ) → Nat → Option (Nat × μ)
  | [], _ => none
  | (k, v) :: l, i => if c = k then some (i, v) else fndM c l (i + 1)
def getM (z : μ) (c : κ) : List (κ × μ) → μ
  | [] => z
  | (k, v) :: l => if c = k then v else getM z c l
def hasM (c : κ) : List (κ × μ) → Bool
  | [] => false
  | (k, _) :: l => if c = k then true else hasM c l
def idxM (c : κ) : List (κ × μ) → Nat
  | [] => 0
  | (k, _) :: l => if c = k then 0 else idxM c l + 1
def entM (z : μ) (c : κ) : List (κ × μ) → List (κ × μ)
  | [] => [(c, z)]
  | (k, v) :: l => if c = k then (k, v) :: l else (k, v) :: entM z c l
def setM : Nat → μ → List (κ × μ) → List (κ × μ)
  | _, _, [] => []
  | 0, u, (k, _) :: l => (k, u) :: l
  | n + 1, u, x :: l => x :: setM n u l
def putM (c : κ) (u : μ) : List (κ × μ) → List (κ × μ)
  | [] => [(c, u)]
  | (k, v) :: l => if c = k then (k, u) :: l else (k, v) :: putM c u l
theorem set_ent (z u : μ) (c : κ) : ∀ l : List (κ × μ), setM (idxM c l) u (entM z c l) = putM c u l
  | [] => rfl
  | (k, v) :: l => by
    unfold idxM entM putM
    by_cases h : c = k
    · rw [if_pos h, if_pos h, if_pos h]; rfl
    · rw [if_neg h, if_neg h, if_neg h]
      show (k, v) :: setM (idxM c l) u (entM z c l) = _
      rw [set_ent z u c l]
theorem fnd_get (z : μ) (c : κ) : ∀ (l : List (κ × μ)) (i : Nat), (match fndM c l i with | some (_, v) => v | none => z) = getM z c l ∧ (fndM c l i).isSome = hasM c l ∧ (∀ j v, fndM c l i = some (j, v) → j = i + idxM c l ∧ idxM c l < l.length ∧ entM z c l = l ∧ l[idxM c l]? = some (c, v)) ∧ (fndM c l i = none → idxM c l = l.length ∧ entM z c l = l ++ [(c, z)])
  | [], i => ⟨rfl, rfl, (fun _ _ h => by cases h), fun _ => ⟨rfl, rfl⟩⟩
  | (k, v) :: l, i => by
    unfold fndM getM hasM idxM entM
    by_cases h : c = k
    · simp only [if_pos h]
      refine ⟨trivial, rfl, ?_, fun e => by cases e⟩
      intro j v' e
      cases e
      exact ⟨by omega, by simp, trivial, by subst h; rfl⟩
    · simp only [if_neg h]
      obtain ⟨h1, h2, h3, h4⟩ := fnd_get z c l (i + 1)
      refine ⟨h1, h2, ?_, ?_⟩
      · intro j v' e
        obtain ⟨a, b, d, f⟩ := h3 j v' e
        exact ⟨by omega, by rw [List.length_cons]; omega, by rw [d], by rw [List.getElem?_cons_succ]; exact f⟩
      · intro e
        obtain ⟨a, b⟩ := h4 e
        exact ⟨by rw [a]; rfl, by rw [b]; rfl⟩

structure KeyOk (P : Program) (kt : TypeId) (fk : κ → Value) : Prop where
  und : ∃ d, P.underlying kt = some d ∧ ((∀ x y, Instr.sameNow d (fk x) (fk y) = none) ∨ (∀ x y, Instr.sameNow d (fk x) (fk y) = some (decide (x = y))))
  eq : ∀ x y w, (Op.equal kt (fk x) (fk y)).run P w = .ok (decide (x = y)) w
  chk : ∀ b x w, (Instr.checkKey b 10000 kt (fk x)).run P w = .ok () w
  same : ∀ x, Instr.sameBits 10000 (fk x) (fk x) = true
variable {P : Program} {w : World} {kt : TypeId}
theorem run_findAsking (K : KeyOk P kt fk) (c : κ) : ∀ (l : List (κ × μ)) (n i : Nat), (Instr.findAsking kt (fk c) (ents fk fv l n) i).run P w = .ok ((fndM c l i).map fun z => (z.1, fv z.2)) w
  | [], _, _ => rfl
  | (k, v) :: l, n, i => by
    show ((do if ← Op.equal kt (fk c) (fk k) then pure (some (i, fv v)) else Instr.findAsking kt (fk c) (ents fk fv l (n + 1)) (i + 1)) : Sem (Option (Nat × Value))).run P w = _
    rw [run_bind_ok (K.eq c k w)]
    unfold fndM
    by_cases h : c = k
    · rw [decide_eq_true h, if_pos h]; rfl
    · rw [decide_eq_false h, if_neg h]
      exact run_findAsking K c l (n + 1) (i + 1)
theorem findNow_some {d : TypeDesc} (hd : ∀ x y, Instr.sameNow d (fk x) (fk y) = some (decide (x = y))) (c : κ) : ∀ (l : List (κ × μ)) (n i : Nat), Instr.findNow d (fk c) (ents fk fv l n) i = some ((fndM c l i).map fun z => (z.1, fv z.2))
  | [], _, _ => rfl
  | (k, v) :: l, n, i => by
    unfold ents Instr.findNow fndM
    dsimp only
    rw [hd]
    by_cases h : c = k
    · rw [decide_eq_true h, if_pos h]; rfl
    · rw [decide_eq_false h, if_neg h]
      exact findNow_some hd c l (n + 1) (i + 1)
theorem run_findKey (K : KeyOk P kt fk) (c : κ) (l : List (κ × μ)) : (Instr.findKey kt (fk c) (ents fk fv l 0)).run P w = .ok ((fndM c l 0).map fun z => (z.1, fv z.2)) w := by
  obtain ⟨d, hd, hk⟩ := K.und
  unfold Instr.findKey
  rw [run_underlying hd]
  rcases hk with hk | hk
  · cases l with
    | nil => rfl
    | cons z l =>
      have : Instr.findNow d (fk c) (ents fk fv (z :: l) 0) 0 = none := by
        obtain ⟨k, v⟩ := z
        unfold ents Instr.findNow
        dsimp only
        rw [hk]
      rw [this]
      exact run_findAsking K c _ 0 0
  · rw [findNow_some hk]
    rfl
theorem run_zero {e : TypeId} {z : Value} (hz : zeroOf P e = some z) : (zeroValue e).run P w = .ok z w := by
  simp only [zeroOf, Option.bind_eq_some_iff] at hz
  obtain ⟨i, hi, hz⟩ := hz
  simp [zeroValue, typeInfo, program, Sem.bind, Sem.run, bind, pure, hi, hz]
theorem run_getMap {b n : Nat} {es : Array MapEntry} (h : hp w b = some (.map es n)) : (getObj b).run P w = .ok (.map es n) w := by
  simp only [getObj, Sem.run]
  have : w.heap[b]? = some (.map es n) := h
  rw [this]
theorem run_setMap {b n : Nat} {es : Array MapEntry} (o : Obj) (h : hp w b = some (.map es n)) : (setObj b o).run P w = .ok () (w.putObj b o) := by
  have : w.heap[b]? = some (.map es n) := h
  simp [setObj, Sem.run, this, World.putObj]
variable {ρ : Operand → Value} {d : Option Tmp} {ty : TypeId} {ps : String} {af : Array Edge} {g : Option (Nat × Bool)} {x y v : Operand} {t e : TypeId}
theorem r_makeMap : (execOp ρ (mk d (.makeMap t none) ty ps af g)).run P w = .ok (.value (.map (some w.heap.size))) (w.alloc (.map #[] 0)) := rfl
theorem r_lookup {b : Nat} {c : κ} {z : μ} {l : List (κ × μ)} (K : KeyOk P kt fk) (ht : mapOf P t = some (kt, e)) (hz : zeroOf P e = some (fv z)) (hx : ρ x = .map (some b)) (hy : ρ y = fk c) (hb : hp w b = some (mapO fk fv l)) :
    (execOp ρ (mk d (.lookup t x y false) ty ps af g)).run P w = .ok (.value (fv (getM z c l))) w := by
  refine run_v ?_
  rw [hx, hy]
  unfold Instr.lookup
  rw [run_underlying (und_map ht)]
  dsimp only
  rw [run_bind_ok (run_getMap hb)]
  dsimp only
  rw [run_bind_ok (a := (ents fk fv l 0).toArray) (w' := w) rfl, run_bind_ok (K.chk _ c w)]
  rw [run_bind_ok (run_findKey K c l)]
  obtain ⟨h1, h2, _, _⟩ := fnd_get z c l 0
  cases h : fndM c l 0 with
  | none =>
    rw [h] at h1 h2
    simp only [Option.map_some, Option.map_none] at h1 ⊢
    rw [run_bind_ok (run_zero hz), ← h1]; rfl
  | some q =>
    obtain ⟨i, u⟩ := q
    rw [h] at h1 h2
    simp only [Option.map_some, Option.map_none] at h1 ⊢
    rw [← h1]; rfl
theorem upd_put {b : Nat} {o o' : Obj} (h : hp w b = some o) : Upd w b o' (w.putObj b o') :=
  ⟨rfl, rfl, rfl, by simp, World.putObj_heap_same (hp_lt h), fun k hk => hp_putObj _ _ _ hk⟩
omit [DecidableEq κ] in
omit [DecidableEq κ] in
theorem ents_set : ∀ (l : List (κ × μ)) (n i : Nat) (u : μ) (j : Nat), (ents fk fv (setM i u l) n)[j]? = if i = j then ((ents fk fv l n)[j]?).map (fun e => { e with val := fv u }) else (ents fk fv l n)[j]?
  | [], n, i, u, j => by unfold setM ents; simp
  | (k, v) :: l, n, 0, u, 0 => rfl
  | (k, v) :: l, n, 0, u, j + 1 => by
    rw [if_neg (by omega)]
    unfold setM ents
    rw [List.getElem?_cons_succ, List.getElem?_cons_succ]
  | (k, v) :: l, n, i + 1, u, 0 => by
    rw [if_neg (by omega)]
    rfl
  | (k, v) :: l, n, i + 1, u, j + 1 => by
    unfold setM ents
    rw [List.getElem?_cons_succ, List.getElem?_cons_succ, ents_set l (n + 1) i u j]
    by_cases h : i = j
    · rw [if_pos h, if_pos (by omega)]
    · rw [if_neg h, if_neg (by omega)]
omit [DecidableEq κ] in
theorem setM_len : ∀ (l : List (κ × μ)) (i : Nat) (u : μ), (setM i u l).length = l.length
  | [], _, _ => by unfold setM; rfl
  | (_, _) :: _, 0, _ => rfl
  | x :: l, i + 1, u => by unfold setM; rw [List.length_cons, List.length_cons, setM_len l i u]
omit [DecidableEq κ] in
end
/-! ### an operation that answers, and writes a block of one's own -/
section
variable {C : Cx} {ops : Array Oper} {os : List Oper} {Q : Post} {K : List (Nat × Value)} {L : Heap} {o : Oper}
end
section
variable {C : Cx} {R : Rg} {Q : Post} {K0 V : List (Nat × Value)} {lo : Nat} {L : Heap}
end
end Go.Proofs.Ytbiapeaghbndoaa
/- Facts on the types of this seat's program. Printed by a program of this seat's prover. -/
namespace Go.Proofs.Ytbiapeaghbndoaa
open Go.RowKit
theorem mixed : Try.prog.follows .mixedOrders = true := by kernel_rfl
theorem sz3 : szOf Try.prog 3 = some 1 := by kernel_rfl
theorem ag3 : aggOf Try.prog 3 = some false := by kernel_rfl
theorem un3 : (Try.prog.underlying 3).isSome = true := by kernel_rfl
theorem io3 : intOf? Try.prog 3 = some .i64 := by kernel_rfl
theorem sz5 : szOf Try.prog 5 = some 1 := by kernel_rfl
theorem ag5 : aggOf Try.prog 5 = some false := by kernel_rfl
theorem un5 : (Try.prog.underlying 5).isSome = true := by kernel_rfl
theorem io5 : intOf? Try.prog 5 = some .u8 := by kernel_rfl
theorem sz22 : szOf Try.prog 22 = some 1 := by kernel_rfl
theorem ag22 : aggOf Try.prog 22 = some false := by kernel_rfl
theorem sl22 : sliOf Try.prog 22 = some 39 := by kernel_rfl
theorem sz24 : szOf Try.prog 24 = some 3 := by kernel_rfl
theorem ag24 : aggOf Try.prog 24 = some true := by kernel_rfl
theorem fl24_0 : fldOf Try.prog 24 0 = some (3, 0) := by kernel_rfl
theorem fl24_1 : fldOf Try.prog 24 1 = some (3, 1) := by kernel_rfl
theorem fl24_2 : fldOf Try.prog 24 2 = some (22, 2) := by kernel_rfl
theorem sz25 : szOf Try.prog 25 = some 1 := by kernel_rfl
theorem ag25 : aggOf Try.prog 25 = some false := by kernel_rfl
theorem sl25 : sliOf Try.prog 25 = some 51 := by kernel_rfl
theorem sz28 : szOf Try.prog 28 = some 1 := by kernel_rfl
theorem ag28 : aggOf Try.prog 28 = some false := by kernel_rfl
theorem po28 : ptrOf Try.prog 28 = some 111 := by kernel_rfl
theorem sz29 : szOf Try.prog 29 = some 1 := by kernel_rfl
theorem ag29 : aggOf Try.prog 29 = some false := by kernel_rfl
theorem sz37 : szOf Try.prog 37 = some 4 := by kernel_rfl
theorem by37 : byOf Try.prog 37 = some 4 := by kernel_rfl
theorem ag37 : aggOf Try.prog 37 = some true := by kernel_rfl
theorem fl37_0 : fldOf Try.prog 37 0 = some (5, 0) := by kernel_rfl
theorem fl37_1 : fldOf Try.prog 37 1 = some (5, 1) := by kernel_rfl
theorem fl37_2 : fldOf Try.prog 37 2 = some (5, 2) := by kernel_rfl
theorem fl37_3 : fldOf Try.prog 37 3 = some (5, 3) := by kernel_rfl
theorem ar38 : arrOf Try.prog 38 = some (64, 37) := by kernel_rfl
theorem sz39 : szOf Try.prog 39 = some 256 := by kernel_rfl
theorem by39 : byOf Try.prog 39 = some 256 := by kernel_rfl
theorem ag39 : aggOf Try.prog 39 = some true := by kernel_rfl
theorem ar39 : arrOf Try.prog 39 = some (64, 37) := by kernel_rfl
theorem sz44 : szOf Try.prog 44 = some 1 := by kernel_rfl
theorem ag44 : aggOf Try.prog 44 = some false := by kernel_rfl
theorem sl44 : sliOf Try.prog 44 = some 47 := by kernel_rfl
theorem sz47 : szOf Try.prog 47 = some 2 := by kernel_rfl
theorem by47 : byOf Try.prog 47 = some 16 := by kernel_rfl
theorem ag47 : aggOf Try.prog 47 = some true := by kernel_rfl
theorem fl47_0 : fldOf Try.prog 47 0 = some (3, 0) := by kernel_rfl
theorem fl47_1 : fldOf Try.prog 47 1 = some (3, 1) := by kernel_rfl
theorem sz51 : szOf Try.prog 51 = some 6 := by kernel_rfl
theorem by51 : byOf Try.prog 51 = some 24 := by kernel_rfl
theorem ag51 : aggOf Try.prog 51 = some true := by kernel_rfl
theorem fl51_0 : fldOf Try.prog 51 0 = some (3, 0) := by kernel_rfl
theorem fl51_1 : fldOf Try.prog 51 1 = some (3, 1) := by kernel_rfl
theorem fl51_2 : fldOf Try.prog 51 2 = some (37, 2) := by kernel_rfl
theorem sz71 : szOf Try.prog 71 = some 1 := by kernel_rfl
theorem ag71 : aggOf Try.prog 71 = some false := by kernel_rfl
theorem sl71 : sliOf Try.prog 71 = some 37 := by kernel_rfl
theorem sz75 : szOf Try.prog 75 = some 3 := by kernel_rfl
theorem ag75 : aggOf Try.prog 75 = some true := by kernel_rfl
theorem fl75_0 : fldOf Try.prog 75 0 = some (3, 0) := by kernel_rfl
theorem fl75_1 : fldOf Try.prog 75 1 = some (3, 1) := by kernel_rfl
theorem fl75_2 : fldOf Try.prog 75 2 = some (71, 2) := by kernel_rfl
theorem sz94 : szOf Try.prog 94 = some 5 := by kernel_rfl
theorem ag94 : aggOf Try.prog 94 = some true := by kernel_rfl
theorem fl94_0 : fldOf Try.prog 94 0 = some (3, 0) := by kernel_rfl
theorem fl94_1 : fldOf Try.prog 94 1 = some (3, 1) := by kernel_rfl
theorem fl94_2 : fldOf Try.prog 94 2 = some (3, 2) := by kernel_rfl
theorem fl94_3 : fldOf Try.prog 94 3 = some (3, 3) := by kernel_rfl
theorem fl94_4 : fldOf Try.prog 94 4 = some (44, 4) := by kernel_rfl
theorem sz104 : szOf Try.prog 104 = some 1 := by kernel_rfl
theorem ag104 : aggOf Try.prog 104 = some false := by kernel_rfl
theorem sl104 : sliOf Try.prog 104 = some 106 := by kernel_rfl
theorem sz106 : szOf Try.prog 106 = some 1 := by kernel_rfl
theorem by106 : byOf Try.prog 106 = some 8 := by kernel_rfl
theorem ag106 : aggOf Try.prog 106 = some false := by kernel_rfl
theorem po106 : ptrOf Try.prog 106 = some 39 := by kernel_rfl
theorem sz109 : szOf Try.prog 109 = some 2 := by kernel_rfl
theorem ag109 : aggOf Try.prog 109 = some true := by kernel_rfl
theorem fl109_0 : fldOf Try.prog 109 0 = some (3, 0) := by kernel_rfl
theorem fl109_1 : fldOf Try.prog 109 1 = some (3, 1) := by kernel_rfl
theorem fl111_0 : fldOf Try.prog 111 0 = some (109, 0) := by kernel_rfl
theorem fl111_1 : fldOf Try.prog 111 1 = some (104, 2) := by kernel_rfl
theorem mp113 : mapOf Try.prog 113 = some (3, 106) := by kernel_rfl
theorem sz118 : szOf Try.prog 118 = some 1 := by kernel_rfl
theorem ag118 : aggOf Try.prog 118 = some false := by kernel_rfl
theorem sz134 : szOf Try.prog 134 = some 1 := by kernel_rfl
theorem ag134 : aggOf Try.prog 134 = some false := by kernel_rfl
theorem fl138_0 : fldOf Try.prog 138 0 = some (75, 0) := by kernel_rfl
theorem ag139 : aggOf Try.prog 139 = some false := by kernel_rfl
theorem fl148_0 : fldOf Try.prog 148 0 = some (39, 0) := by kernel_rfl
theorem un150 : (Try.prog.underlying 150).isSome = true := by kernel_rfl
theorem io150 : intOf? Try.prog 150 = some .u64 := by kernel_rfl
theorem sz161 : szOf Try.prog 161 = some 4 := by kernel_rfl
theorem ag161 : aggOf Try.prog 161 = some true := by kernel_rfl
theorem ar161 : arrOf Try.prog 161 = some (4, 3) := by kernel_rfl
end Go.Proofs.Ytbiapeaghbndoaa
/- tile: colours, tiles, plainly. -/
namespace Go.Proofs.Ytbiapeaghbndoaa
open Go Go.RowKit
structure C4 where
  r : Int
  g : Int
  b : Int
  a : Int
abbrev C4.v (c : C4) : Value := .agg #[.int .u8 c.r, .int .u8 c.g, .int .u8 c.b, .int .u8 c.a]
abbrev C4.cells (c : C4) : List Value := [.int .u8 c.r, .int .u8 c.g, .int .u8 c.b, .int .u8 c.a]
theorem C4.cells_len (c : C4) : c.cells.length = 4 := rfl
theorem C4.cells_one (c : C4) : ∀ u ∈ c.cells, u.oneCell' = true := by simp [C4.cells, Value.oneCell']
theorem C4.cells_all (c : C4) : c.cells.all isOne = true := rfl
theorem c4_ext {x y : C4} (h1 : x.r = y.r) (h2 : x.g = y.g) (h3 : x.b = y.b) (h4 : x.a = y.a) : x = y := by
  cases x; cases y; simp_all
instance : DecidableEq C4 := fun x y => decidable_of_iff (x.r = y.r ∧ x.g = y.g ∧ x.b = y.b ∧ x.a = y.a) ⟨fun ⟨h1, h2, h3, h4⟩ => c4_ext h1 h2 h3 h4, fun e => by subst e; exact ⟨rfl, rfl, rfl, rfl⟩⟩
abbrev zeroC : C4 := ⟨0, 0, 0, 0⟩
abbrev til (l : List C4) : Value := .agg (lst C4.cells l)
def zero64 : List C4 := List.replicate 64 zeroC
theorem zero64_len : zero64.length = 64 := by simp [zero64]
def get (l : List C4) (i : Nat) : C4 := l.getD i zeroC
theorem get_some {l : List C4} {i : Nat} (hl : l.length = 64) (hi : i < 64) : l[i]? = some (get l i) := by
  have h : i < l.length := by omega
  unfold get
  rw [List.getElem?_eq_getElem h, List.getD_eq_getElem?_getD, List.getElem?_eq_getElem h]; rfl
theorem lt64 {l : List C4} {i : Nat} (hl : l.length = 64) (hi : i < 64) : i < l.length := by omega
theorem tsz {l : List C4} (hl : l.length = 64) : (lst C4.cells l).size = 256 := by rw [lst_size C4.cells_len, hl]
theorem le64 {l : List C4} (hl : l.length = 64) : 0 + 256 ≤ (lst C4.cells l).size := by rw [tsz hl]; decide
theorem ex64 {l : List C4} (hl : l.length = 64) : (lst C4.cells l).extract 0 (0 + 256) = lst C4.cells l := by rw [Nat.zero_add, ← tsz hl]; simp
theorem len_set {l : List C4} {i : Nat} {c : C4} (hl : l.length = 64) : (l.set i c).length = 64 := by rw [List.length_set, hl]
def isP (x y : Int) : Bool := decide (0 ≤ x ∧ x < 8 ∧ 0 ≤ y ∧ y < 8)
theorem isP_nat {x y : Int} (h : isP x y = true) : ∃ px py : Nat, x = px ∧ y = py ∧ px < 8 ∧ py < 8 := by
  have h := of_decide_eq_true h
  exact ⟨x.toNat, y.toNat, by omega, by omega, by omega, by omega⟩
def putL (m : List C4) (x y : Int) (c : C4) : List C4 := if isP x y then m.set (8 * y + x).toNat c else m
theorem putL_no {m : List C4} {x y : Int} {c : C4} (h : isP x y = false) : putL m x y c = m := by unfold putL; rw [if_neg (by rw [h]; decide)]
theorem putL_at {m : List C4} {px py : Nat} {c : C4} (hx : px < 8) (hy : py < 8) : putL m px py c = m.set (py * 8 + px) c := by
  unfold putL
  rw [if_pos (show isP px py = true from decide_eq_true ⟨by omega, by omega, by omega, by omega⟩), show (8 * (py : Int) + px).toNat = py * 8 + px by omega]
theorem putL_len (m : List C4) (x y : Int) (c : C4) : (putL m x y c).length = m.length := by
  unfold putL; split
  · exact List.length_set
  · rfl
structure T64 where
  l : List C4
  h : l.length = 64
theorem t64_ext {x y : T64} (h : x.l = y.l) : x = y := by cases x; cases y; cases h; rfl
instance : DecidableEq T64 := fun x y => decidable_of_iff (x.l = y.l) ⟨t64_ext, fun e => by rw [e]⟩
theorem t64_dec (x y : T64) : decide (x.l = y.l) = decide (x = y) := by
  by_cases h : x = y
  · rw [decide_eq_true h, decide_eq_true (by rw [h])]
  · rw [decide_eq_false h, decide_eq_false (fun e => h (t64_ext e))]
abbrev T64.cells (t : T64) : List Value := t.l.flatMap C4.cells
theorem T64.cells_len (t : T64) : t.cells.length = 256 := by rw [flat_len C4.cells_len, t.h]
theorem T64.cells_all (t : T64) : t.cells.all isOne = true := by
  rw [List.all_flatMap]; exact List.all_eq_true.2 fun x _ => C4.cells_all x
theorem T64.cells_one (t : T64) : ∀ u ∈ t.cells, u.oneCell' = true := by
  intro u hu
  obtain ⟨x, _, hx⟩ := List.mem_flatMap.1 hu
  exact C4.cells_one x u hx
abbrev zeroT : T64 := ⟨zero64, zero64_len⟩
def T64.set (t : T64) (i : Nat) (c : C4) : T64 := ⟨t.l.set i c, len_set t.h⟩
theorem eqC (x y : C4) : (decide (x.r = y.r) && (decide (x.g = y.g) && (decide (x.b = y.b) && (decide (x.a = y.a) && true)))) = decide (x = y) := by
  by_cases h : x = y
  · subst h; simp
  · rw [decide_eq_false h]
    refine Bool.eq_false_iff.2 fun e => h ?_
    simp only [Bool.and_true, Bool.and_eq_true, decide_eq_true_eq] at e
    exact c4_ext e.1 e.2.1 e.2.2.1 e.2.2.2
theorem eq_til {l m : List C4} (hl : l.length = 64) (hm : m.length = 64) (w : World) : (Op.equal 39 (til l) (til m)).run Try.prog w = .ok (decide (l = m)) w :=
  run_equalLst (il := [(0, .u8), (1, .u8), (2, .u8), (3, .u8)]) ar39 sz37 ag37 (by kernel_rfl) C4.cells_len hl hm (fun _ => rfl) fun x y h => of_decide_eq_true ((eqC x y).symm.trans h)
theorem eq_t64 (x y : T64) (w : World) : (Op.equal 39 (til x.l) (til y.l)).run Try.prog w = .ok (decide (x = y)) w := by rw [eq_til x.h y.h, t64_dec]
end Go.Proofs.Ytbiapeaghbndoaa
/- canvas: a work of a tile. -/
namespace Go.Proofs.Ytbiapeaghbndoaa
open Go Go.RowKit
theorem build_work {cs : Array Value} (hc : cs.size = 256) (w : World) : (Instr.build 148 #[(0, .agg cs)]).run Try.prog w = .ok (.agg cs) w := by
  have key : Try.prog.built 148 [(0, .agg cs)] = Instr.fill (fun x => (#[(0, 256)] : Array (Nat × Nat))[x]?) (lst C4.cells zero64) [(0, .agg cs)] := by kernel_rfl
  exact run_build w 148 #[(0, .agg cs)] cs (key.trans (fill_one (n := 256) rfl (tsz zero64_len) hc))
end Go.Proofs.Ytbiapeaghbndoaa
/- canvas: the tile's functions. Printed by a program of this seat's prover. -/
namespace Go.Proofs.Ytbiapeaghbndoaa
open Go Go.RowKit
set_option maxRecDepth 10000
theorem is_c (x y : Int) (w : World) : Calls Try.prog 102 #[.int .i64 x, .int .i64 y] w fun e w' => e = .returned (.bool (isP x y)) ∧ Below w.heap.size w w' := by
 refine calls_of_T (l := [.int .i64 x, .int .i64 y]) 19 Try.func102 rfl rfl rfl ?_
 show T _ _ _ [(0, .int .i64 x), (1, .int .i64 y)] []
 refine T_seq (T_region ?_)
 refine TL_v (.bool false) (s_as rfl) rfl rfl ?_
 refine TL_seq ?_
 by_cases c1 : (0 : Int) ≤ x
 ·skip
  by_cases c2 : x < 8
  ·skip
   by_cases c3 : (0 : Int) ≤ y
   ·skip
    by_cases c4 : y < 8
    ·skip
     refine T_seq (T_region ?_)
     refine TL_v (.int .i64 x) (s_mv rfl) rfl rfl ?_
     refine TL_v (.bool true) (s_op r_geq rfl rfl (bool_as (decide_eq_true c1))) rfl rfl ?_
     refine TL_v (.bool true) (s_mv rfl) rfl rfl ?_
     refine TL_q (.int .i64 x) (s_mv rfl) rfl rfl rfl (want_y 7 rfl rfl rfl) ?_
     refine TL_q (.bool true) (s_op r_lss rfl rfl (bool_as (decide_eq_true c2))) rfl rfl rfl (want_y 7 rfl rfl rfl) ?_
     refine TL_v (.bool true) (s_pt rfl rfl) rfl rfl ?_
     refine TL_v (.bool true) (s_mv rfl) rfl rfl ?_
     refine TL_q (.int .i64 y) (s_mv rfl) rfl rfl rfl (want_y 11 rfl rfl rfl) ?_
     refine TL_q (.bool true) (s_op r_geq rfl rfl (bool_as (decide_eq_true c3))) rfl rfl rfl (want_y 11 rfl rfl rfl) ?_
     refine TL_v (.bool true) (s_pt rfl rfl) rfl rfl ?_
     refine TL_v (.bool true) (s_mv rfl) rfl rfl ?_
     refine TL_q (.int .i64 y) (s_mv rfl) rfl rfl rfl (want_y 15 rfl rfl rfl) ?_
     refine TL_q (.bool true) (s_op r_lss rfl rfl (bool_as (decide_eq_true c4))) rfl rfl rfl (want_y 15 rfl rfl rfl) ?_
     refine TL_v (.bool true) (s_pt rfl rfl) rfl rfl ?_
     refine TL_v (.bool true) (s_as rfl) rfl rfl ?_
     refine TL_seq ?_
     refine T_ret' ?_
     refine ret_of rfl (.bool true) (fun tmps w hk hm => res1 rfl (res_tmp (hk 4 _ rfl))) (fun w hm => ?_)
     exact ⟨congrArg Ending.returned (bool_as (decide_eq_true (by omega)).symm), hm.ext⟩
    ·skip
     refine T_seq (T_region ?_)
     refine TL_v (.int .i64 x) (s_mv rfl) rfl rfl ?_
     refine TL_v (.bool true) (s_op r_geq rfl rfl (bool_as (decide_eq_true c1))) rfl rfl ?_
     refine TL_v (.bool true) (s_mv rfl) rfl rfl ?_
     refine TL_q (.int .i64 x) (s_mv rfl) rfl rfl rfl (want_y 7 rfl rfl rfl) ?_
     refine TL_q (.bool true) (s_op r_lss rfl rfl (bool_as (decide_eq_true c2))) rfl rfl rfl (want_y 7 rfl rfl rfl) ?_
     refine TL_v (.bool true) (s_pt rfl rfl) rfl rfl ?_
     refine TL_v (.bool true) (s_mv rfl) rfl rfl ?_
     refine TL_q (.int .i64 y) (s_mv rfl) rfl rfl rfl (want_y 11 rfl rfl rfl) ?_
     refine TL_q (.bool true) (s_op r_geq rfl rfl (bool_as (decide_eq_true c3))) rfl rfl rfl (want_y 11 rfl rfl rfl) ?_
     refine TL_v (.bool true) (s_pt rfl rfl) rfl rfl ?_
     refine TL_v (.bool true) (s_mv rfl) rfl rfl ?_
     refine TL_q (.int .i64 y) (s_mv rfl) rfl rfl rfl (want_y 15 rfl rfl rfl) ?_
     refine TL_q (.bool false) (s_op r_lss rfl rfl (bool_as (decide_eq_false c4))) rfl rfl rfl (want_y 15 rfl rfl rfl) ?_
     refine TL_v (.bool false) (s_pt rfl rfl) rfl rfl ?_
     refine TL_v (.bool false) (s_as rfl) rfl rfl ?_
     refine TL_seq ?_
     refine T_ret' ?_
     refine ret_of rfl (.bool false) (fun tmps w hk hm => res1 rfl (res_tmp (hk 4 _ rfl))) (fun w hm => ?_)
     exact ⟨congrArg Ending.returned (bool_as (decide_eq_false (by omega)).symm), hm.ext⟩
   ·skip
    by_cases c4 : y < 8
    ·skip
     refine T_seq (T_region ?_)
     refine TL_v (.int .i64 x) (s_mv rfl) rfl rfl ?_
     refine TL_v (.bool true) (s_op r_geq rfl rfl (bool_as (decide_eq_true c1))) rfl rfl ?_
     refine TL_v (.bool true) (s_mv rfl) rfl rfl ?_
     refine TL_q (.int .i64 x) (s_mv rfl) rfl rfl rfl (want_y 7 rfl rfl rfl) ?_
     refine TL_q (.bool true) (s_op r_lss rfl rfl (bool_as (decide_eq_true c2))) rfl rfl rfl (want_y 7 rfl rfl rfl) ?_
     refine TL_v (.bool true) (s_pt rfl rfl) rfl rfl ?_
     refine TL_v (.bool true) (s_mv rfl) rfl rfl ?_
     refine TL_q (.int .i64 y) (s_mv rfl) rfl rfl rfl (want_y 11 rfl rfl rfl) ?_
     refine TL_q (.bool false) (s_op r_geq rfl rfl (bool_as (decide_eq_false c3))) rfl rfl rfl (want_y 11 rfl rfl rfl) ?_
     refine TL_v (.bool false) (s_pt rfl rfl) rfl rfl ?_
     refine TL_v (.bool false) (s_mv rfl) rfl rfl ?_
     refine TL_x 15 rfl rfl rfl rfl rfl ?_
     refine TL_x 15 rfl rfl rfl rfl rfl ?_
     refine TL_v (.bool false) (s_pf rfl rfl) rfl rfl ?_
     refine TL_v (.bool false) (s_as rfl) rfl rfl ?_
     refine TL_seq ?_
     refine T_ret' ?_
     refine ret_of rfl (.bool false) (fun tmps w hk hm => res1 rfl (res_tmp (hk 4 _ rfl))) (fun w hm => ?_)
     exact ⟨congrArg Ending.returned (bool_as (decide_eq_false (by omega)).symm), hm.ext⟩
    ·skip
     refine T_seq (T_region ?_)
     refine TL_v (.int .i64 x) (s_mv rfl) rfl rfl ?_
     refine TL_v (.bool true) (s_op r_geq rfl rfl (bool_as (decide_eq_true c1))) rfl rfl ?_
     refine TL_v (.bool true) (s_mv rfl) rfl rfl ?_
     refine TL_q (.int .i64 x) (s_mv rfl) rfl rfl rfl (want_y 7 rfl rfl rfl) ?_
     refine TL_q (.bool true) (s_op r_lss rfl rfl (bool_as (decide_eq_true c2))) rfl rfl rfl (want_y 7 rfl rfl rfl) ?_
     refine TL_v (.bool true) (s_pt rfl rfl) rfl rfl ?_
     refine TL_v (.bool true) (s_mv rfl) rfl rfl ?_
     refine TL_q (.int .i64 y) (s_mv rfl) rfl rfl rfl (want_y 11 rfl rfl rfl) ?_
     refine TL_q (.bool false) (s_op r_geq rfl rfl (bool_as (decide_eq_false c3))) rfl rfl rfl (want_y 11 rfl rfl rfl) ?_
     refine TL_v (.bool false) (s_pt rfl rfl) rfl rfl ?_
     refine TL_v (.bool false) (s_mv rfl) rfl rfl ?_
     refine TL_x 15 rfl rfl rfl rfl rfl ?_
     refine TL_x 15 rfl rfl rfl rfl rfl ?_
     refine TL_v (.bool false) (s_pf rfl rfl) rfl rfl ?_
     refine TL_v (.bool false) (s_as rfl) rfl rfl ?_
     refine TL_seq ?_
     refine T_ret' ?_
     refine ret_of rfl (.bool false) (fun tmps w hk hm => res1 rfl (res_tmp (hk 4 _ rfl))) (fun w hm => ?_)
     exact ⟨congrArg Ending.returned (bool_as (decide_eq_false (by omega)).symm), hm.ext⟩
  ·skip
   by_cases c3 : (0 : Int) ≤ y
   ·skip
    by_cases c4 : y < 8
    ·skip
     refine T_seq (T_region ?_)
     refine TL_v (.int .i64 x) (s_mv rfl) rfl rfl ?_
     refine TL_v (.bool true) (s_op r_geq rfl rfl (bool_as (decide_eq_true c1))) rfl rfl ?_
     refine TL_v (.bool true) (s_mv rfl) rfl rfl ?_
     refine TL_q (.int .i64 x) (s_mv rfl) rfl rfl rfl (want_y 7 rfl rfl rfl) ?_
     refine TL_q (.bool false) (s_op r_lss rfl rfl (bool_as (decide_eq_false c2))) rfl rfl rfl (want_y 7 rfl rfl rfl) ?_
     refine TL_v (.bool false) (s_pt rfl rfl) rfl rfl ?_
     refine TL_v (.bool false) (s_mv rfl) rfl rfl ?_
     refine TL_x 11 rfl rfl rfl rfl rfl ?_
     refine TL_x 11 rfl rfl rfl rfl rfl ?_
     refine TL_v (.bool false) (s_pf rfl rfl) rfl rfl ?_
     refine TL_v (.bool false) (s_mv rfl) rfl rfl ?_
     refine TL_x 15 rfl rfl rfl rfl rfl ?_
     refine TL_x 15 rfl rfl rfl rfl rfl ?_
     refine TL_v (.bool false) (s_pf rfl rfl) rfl rfl ?_
     refine TL_v (.bool false) (s_as rfl) rfl rfl ?_
     refine TL_seq ?_
     refine T_ret' ?_
     refine ret_of rfl (.bool false) (fun tmps w hk hm => res1 rfl (res_tmp (hk 4 _ rfl))) (fun w hm => ?_)
     exact ⟨congrArg Ending.returned (bool_as (decide_eq_false (by omega)).symm), hm.ext⟩
    ·skip
     refine T_seq (T_region ?_)
     refine TL_v (.int .i64 x) (s_mv rfl) rfl rfl ?_
     refine TL_v (.bool true) (s_op r_geq rfl rfl (bool_as (decide_eq_true c1))) rfl rfl ?_
     refine TL_v (.bool true) (s_mv rfl) rfl rfl ?_
     refine TL_q (.int .i64 x) (s_mv rfl) rfl rfl rfl (want_y 7 rfl rfl rfl) ?_
     refine TL_q (.bool false) (s_op r_lss rfl rfl (bool_as (decide_eq_false c2))) rfl rfl rfl (want_y 7 rfl rfl rfl) ?_
     refine TL_v (.bool false) (s_pt rfl rfl) rfl rfl ?_
     refine TL_v (.bool false) (s_mv rfl) rfl rfl ?_
     refine TL_x 11 rfl rfl rfl rfl rfl ?_
     refine TL_x 11 rfl rfl rfl rfl rfl ?_
     refine TL_v (.bool false) (s_pf rfl rfl) rfl rfl ?_
     refine TL_v (.bool false) (s_mv rfl) rfl rfl ?_
     refine TL_x 15 rfl rfl rfl rfl rfl ?_
     refine TL_x 15 rfl rfl rfl rfl rfl ?_
     refine TL_v (.bool false) (s_pf rfl rfl) rfl rfl ?_
     refine TL_v (.bool false) (s_as rfl) rfl rfl ?_
     refine TL_seq ?_
     refine T_ret' ?_
     refine ret_of rfl (.bool false) (fun tmps w hk hm => res1 rfl (res_tmp (hk 4 _ rfl))) (fun w hm => ?_)
     exact ⟨congrArg Ending.returned (bool_as (decide_eq_false (by omega)).symm), hm.ext⟩
   ·skip
    by_cases c4 : y < 8
    ·skip
     refine T_seq (T_region ?_)
     refine TL_v (.int .i64 x) (s_mv rfl) rfl rfl ?_
     refine TL_v (.bool true) (s_op r_geq rfl rfl (bool_as (decide_eq_true c1))) rfl rfl ?_
     refine TL_v (.bool true) (s_mv rfl) rfl rfl ?_
     refine TL_q (.int .i64 x) (s_mv rfl) rfl rfl rfl (want_y 7 rfl rfl rfl) ?_
     refine TL_q (.bool false) (s_op r_lss rfl rfl (bool_as (decide_eq_false c2))) rfl rfl rfl (want_y 7 rfl rfl rfl) ?_
     refine TL_v (.bool false) (s_pt rfl rfl) rfl rfl ?_
     refine TL_v (.bool false) (s_mv rfl) rfl rfl ?_
     refine TL_x 11 rfl rfl rfl rfl rfl ?_
     refine TL_x 11 rfl rfl rfl rfl rfl ?_
     refine TL_v (.bool false) (s_pf rfl rfl) rfl rfl ?_
     refine TL_v (.bool false) (s_mv rfl) rfl rfl ?_
     refine TL_x 15 rfl rfl rfl rfl rfl ?_
     refine TL_x 15 rfl rfl rfl rfl rfl ?_
     refine TL_v (.bool false) (s_pf rfl rfl) rfl rfl ?_
     refine TL_v (.bool false) (s_as rfl) rfl rfl ?_
     refine TL_seq ?_
     refine T_ret' ?_
     refine ret_of rfl (.bool false) (fun tmps w hk hm => res1 rfl (res_tmp (hk 4 _ rfl))) (fun w hm => ?_)
     exact ⟨congrArg Ending.returned (bool_as (decide_eq_false (by omega)).symm), hm.ext⟩
    ·skip
     refine T_seq (T_region ?_)
     refine TL_v (.int .i64 x) (s_mv rfl) rfl rfl ?_
     refine TL_v (.bool true) (s_op r_geq rfl rfl (bool_as (decide_eq_true c1))) rfl rfl ?_
     refine TL_v (.bool true) (s_mv rfl) rfl rfl ?_
     refine TL_q (.int .i64 x) (s_mv rfl) rfl rfl rfl (want_y 7 rfl rfl rfl) ?_
     refine TL_q (.bool false) (s_op r_lss rfl rfl (bool_as (decide_eq_false c2))) rfl rfl rfl (want_y 7 rfl rfl rfl) ?_
     refine TL_v (.bool false) (s_pt rfl rfl) rfl rfl ?_
     refine TL_v (.bool false) (s_mv rfl) rfl rfl ?_
     refine TL_x 11 rfl rfl rfl rfl rfl ?_
     refine TL_x 11 rfl rfl rfl rfl rfl ?_
     refine TL_v (.bool false) (s_pf rfl rfl) rfl rfl ?_
     refine TL_v (.bool false) (s_mv rfl) rfl rfl ?_
     refine TL_x 15 rfl rfl rfl rfl rfl ?_
     refine TL_x 15 rfl rfl rfl rfl rfl ?_
     refine TL_v (.bool false) (s_pf rfl rfl) rfl rfl ?_
     refine TL_v (.bool false) (s_as rfl) rfl rfl ?_
     refine TL_seq ?_
     refine T_ret' ?_
     refine ret_of rfl (.bool false) (fun tmps w hk hm => res1 rfl (res_tmp (hk 4 _ rfl))) (fun w hm => ?_)
     exact ⟨congrArg Ending.returned (bool_as (decide_eq_false (by omega)).symm), hm.ext⟩
 ·skip
  by_cases c2 : x < 8
  ·skip
   by_cases c3 : (0 : Int) ≤ y
   ·skip
    by_cases c4 : y < 8
    ·skip
     refine T_seq (T_region ?_)
     refine TL_v (.int .i64 x) (s_mv rfl) rfl rfl ?_
     refine TL_v (.bool false) (s_op r_geq rfl rfl (bool_as (decide_eq_false c1))) rfl rfl ?_
     refine TL_v (.bool false) (s_mv rfl) rfl rfl ?_
     refine TL_x 7 rfl rfl rfl rfl rfl ?_
     refine TL_x 7 rfl rfl rfl rfl rfl ?_
     refine TL_v (.bool false) (s_pf rfl rfl) rfl rfl ?_
     refine TL_v (.bool false) (s_mv rfl) rfl rfl ?_
     refine TL_x 11 rfl rfl rfl rfl rfl ?_
     refine TL_x 11 rfl rfl rfl rfl rfl ?_
     refine TL_v (.bool false) (s_pf rfl rfl) rfl rfl ?_
     refine TL_v (.bool false) (s_mv rfl) rfl rfl ?_
     refine TL_x 15 rfl rfl rfl rfl rfl ?_
     refine TL_x 15 rfl rfl rfl rfl rfl ?_
     refine TL_v (.bool false) (s_pf rfl rfl) rfl rfl ?_
     refine TL_v (.bool false) (s_as rfl) rfl rfl ?_
     refine TL_seq ?_
     refine T_ret' ?_
     refine ret_of rfl (.bool false) (fun tmps w hk hm => res1 rfl (res_tmp (hk 4 _ rfl))) (fun w hm => ?_)
     exact ⟨congrArg Ending.returned (bool_as (decide_eq_false (by omega)).symm), hm.ext⟩
    ·skip
     refine T_seq (T_region ?_)
     refine TL_v (.int .i64 x) (s_mv rfl) rfl rfl ?_
     refine TL_v (.bool false) (s_op r_geq rfl rfl (bool_as (decide_eq_false c1))) rfl rfl ?_
     refine TL_v (.bool false) (s_mv rfl) rfl rfl ?_
     refine TL_x 7 rfl rfl rfl rfl rfl ?_
     refine TL_x 7 rfl rfl rfl rfl rfl ?_
     refine TL_v (.bool false) (s_pf rfl rfl) rfl rfl ?_
     refine TL_v (.bool false) (s_mv rfl) rfl rfl ?_
     refine TL_x 11 rfl rfl rfl rfl rfl ?_
     refine TL_x 11 rfl rfl rfl rfl rfl ?_
     refine TL_v (.bool false) (s_pf rfl rfl) rfl rfl ?_
     refine TL_v (.bool false) (s_mv rfl) rfl rfl ?_
     refine TL_x 15 rfl rfl rfl rfl rfl ?_
     refine TL_x 15 rfl rfl rfl rfl rfl ?_
     refine TL_v (.bool false) (s_pf rfl rfl) rfl rfl ?_
     refine TL_v (.bool false) (s_as rfl) rfl rfl ?_
     refine TL_seq ?_
     refine T_ret' ?_
     refine ret_of rfl (.bool false) (fun tmps w hk hm => res1 rfl (res_tmp (hk 4 _ rfl))) (fun w hm => ?_)
     exact ⟨congrArg Ending.returned (bool_as (decide_eq_false (by omega)).symm), hm.ext⟩
   ·skip
    by_cases c4 : y < 8
    ·skip
     refine T_seq (T_region ?_)
     refine TL_v (.int .i64 x) (s_mv rfl) rfl rfl ?_
     refine TL_v (.bool false) (s_op r_geq rfl rfl (bool_as (decide_eq_false c1))) rfl rfl ?_
     refine TL_v (.bool false) (s_mv rfl) rfl rfl ?_
     refine TL_x 7 rfl rfl rfl rfl rfl ?_
     refine TL_x 7 rfl rfl rfl rfl rfl ?_
     refine TL_v (.bool false) (s_pf rfl rfl) rfl rfl ?_
     refine TL_v (.bool false) (s_mv rfl) rfl rfl ?_
     refine TL_x 11 rfl rfl rfl rfl rfl ?_
     refine TL_x 11 rfl rfl rfl rfl rfl ?_
     refine TL_v (.bool false) (s_pf rfl rfl) rfl rfl ?_
     refine TL_v (.bool false) (s_mv rfl) rfl rfl ?_
     refine TL_x 15 rfl rfl rfl rfl rfl ?_
     refine TL_x 15 rfl rfl rfl rfl rfl ?_
     refine TL_v (.bool false) (s_pf rfl rfl) rfl rfl ?_
     refine TL_v (.bool false) (s_as rfl) rfl rfl ?_
     refine TL_seq ?_
     refine T_ret' ?_
     refine ret_of rfl (.bool false) (fun tmps w hk hm => res1 rfl (res_tmp (hk 4 _ rfl))) (fun w hm => ?_)
     exact ⟨congrArg Ending.returned (bool_as (decide_eq_false (by omega)).symm), hm.ext⟩
    ·skip
     refine T_seq (T_region ?_)
     refine TL_v (.int .i64 x) (s_mv rfl) rfl rfl ?_
     refine TL_v (.bool false) (s_op r_geq rfl rfl (bool_as (decide_eq_false c1))) rfl rfl ?_
     refine TL_v (.bool false) (s_mv rfl) rfl rfl ?_
     refine TL_x 7 rfl rfl rfl rfl rfl ?_
     refine TL_x 7 rfl rfl rfl rfl rfl ?_
     refine TL_v (.bool false) (s_pf rfl rfl) rfl rfl ?_
     refine TL_v (.bool false) (s_mv rfl) rfl rfl ?_
     refine TL_x 11 rfl rfl rfl rfl rfl ?_
     refine TL_x 11 rfl rfl rfl rfl rfl ?_
     refine TL_v (.bool false) (s_pf rfl rfl) rfl rfl ?_
     refine TL_v (.bool false) (s_mv rfl) rfl rfl ?_
     refine TL_x 15 rfl rfl rfl rfl rfl ?_
     refine TL_x 15 rfl rfl rfl rfl rfl ?_
     refine TL_v (.bool false) (s_pf rfl rfl) rfl rfl ?_
     refine TL_v (.bool false) (s_as rfl) rfl rfl ?_
     refine TL_seq ?_
     refine T_ret' ?_
     refine ret_of rfl (.bool false) (fun tmps w hk hm => res1 rfl (res_tmp (hk 4 _ rfl))) (fun w hm => ?_)
     exact ⟨congrArg Ending.returned (bool_as (decide_eq_false (by omega)).symm), hm.ext⟩
  ·skip
   by_cases c3 : (0 : Int) ≤ y
   ·skip
    by_cases c4 : y < 8
    ·skip
     refine T_seq (T_region ?_)
     refine TL_v (.int .i64 x) (s_mv rfl) rfl rfl ?_
     refine TL_v (.bool false) (s_op r_geq rfl rfl (bool_as (decide_eq_false c1))) rfl rfl ?_
     refine TL_v (.bool false) (s_mv rfl) rfl rfl ?_
     refine TL_x 7 rfl rfl rfl rfl rfl ?_
     refine TL_x 7 rfl rfl rfl rfl rfl ?_
     refine TL_v (.bool false) (s_pf rfl rfl) rfl rfl ?_
     refine TL_v (.bool false) (s_mv rfl) rfl rfl ?_
     refine TL_x 11 rfl rfl rfl rfl rfl ?_
     refine TL_x 11 rfl rfl rfl rfl rfl ?_
     refine TL_v (.bool false) (s_pf rfl rfl) rfl rfl ?_
     refine TL_v (.bool false) (s_mv rfl) rfl rfl ?_
     refine TL_x 15 rfl rfl rfl rfl rfl ?_
     refine TL_x 15 rfl rfl rfl rfl rfl ?_
     refine TL_v (.bool false) (s_pf rfl rfl) rfl rfl ?_
     refine TL_v (.bool false) (s_as rfl) rfl rfl ?_
     refine TL_seq ?_
     refine T_ret' ?_
     refine ret_of rfl (.bool false) (fun tmps w hk hm => res1 rfl (res_tmp (hk 4 _ rfl))) (fun w hm => ?_)
     exact ⟨congrArg Ending.returned (bool_as (decide_eq_false (by omega)).symm), hm.ext⟩
    ·skip
     refine T_seq (T_region ?_)
     refine TL_v (.int .i64 x) (s_mv rfl) rfl rfl ?_
     refine TL_v (.bool false) (s_op r_geq rfl rfl (bool_as (decide_eq_false c1))) rfl rfl ?_
     refine TL_v (.bool false) (s_mv rfl) rfl rfl ?_
     refine TL_x 7 rfl rfl rfl rfl rfl ?_
     refine TL_x 7 rfl rfl rfl rfl rfl ?_
     refine TL_v (.bool false) (s_pf rfl rfl) rfl rfl ?_
     refine TL_v (.bool false) (s_mv rfl) rfl rfl ?_
     refine TL_x 11 rfl rfl rfl rfl rfl ?_
     refine TL_x 11 rfl rfl rfl rfl rfl ?_
     refine TL_v (.bool false) (s_pf rfl rfl) rfl rfl ?_
     refine TL_v (.bool false) (s_mv rfl) rfl rfl ?_
     refine TL_x 15 rfl rfl rfl rfl rfl ?_
     refine TL_x 15 rfl rfl rfl rfl rfl ?_
     refine TL_v (.bool false) (s_pf rfl rfl) rfl rfl ?_
     refine TL_v (.bool false) (s_as rfl) rfl rfl ?_
     refine TL_seq ?_
     refine T_ret' ?_
     refine ret_of rfl (.bool false) (fun tmps w hk hm => res1 rfl (res_tmp (hk 4 _ rfl))) (fun w hm => ?_)
     exact ⟨congrArg Ending.returned (bool_as (decide_eq_false (by omega)).symm), hm.ext⟩
   ·skip
    by_cases c4 : y < 8
    ·skip
     refine T_seq (T_region ?_)
     refine TL_v (.int .i64 x) (s_mv rfl) rfl rfl ?_
     refine TL_v (.bool false) (s_op r_geq rfl rfl (bool_as (decide_eq_false c1))) rfl rfl ?_
     refine TL_v (.bool false) (s_mv rfl) rfl rfl ?_
     refine TL_x 7 rfl rfl rfl rfl rfl ?_
     refine TL_x 7 rfl rfl rfl rfl rfl ?_
     refine TL_v (.bool false) (s_pf rfl rfl) rfl rfl ?_
     refine TL_v (.bool false) (s_mv rfl) rfl rfl ?_
     refine TL_x 11 rfl rfl rfl rfl rfl ?_
     refine TL_x 11 rfl rfl rfl rfl rfl ?_
     refine TL_v (.bool false) (s_pf rfl rfl) rfl rfl ?_
     refine TL_v (.bool false) (s_mv rfl) rfl rfl ?_
     refine TL_x 15 rfl rfl rfl rfl rfl ?_
     refine TL_x 15 rfl rfl rfl rfl rfl ?_
     refine TL_v (.bool false) (s_pf rfl rfl) rfl rfl ?_
     refine TL_v (.bool false) (s_as rfl) rfl rfl ?_
     refine TL_seq ?_
     refine T_ret' ?_
     refine ret_of rfl (.bool false) (fun tmps w hk hm => res1 rfl (res_tmp (hk 4 _ rfl))) (fun w hm => ?_)
     exact ⟨congrArg Ending.returned (bool_as (decide_eq_false (by omega)).symm), hm.ext⟩
    ·skip
     refine T_seq (T_region ?_)
     refine TL_v (.int .i64 x) (s_mv rfl) rfl rfl ?_
     refine TL_v (.bool false) (s_op r_geq rfl rfl (bool_as (decide_eq_false c1))) rfl rfl ?_
     refine TL_v (.bool false) (s_mv rfl) rfl rfl ?_
     refine TL_x 7 rfl rfl rfl rfl rfl ?_
     refine TL_x 7 rfl rfl rfl rfl rfl ?_
     refine TL_v (.bool false) (s_pf rfl rfl) rfl rfl ?_
     refine TL_v (.bool false) (s_mv rfl) rfl rfl ?_
     refine TL_x 11 rfl rfl rfl rfl rfl ?_
     refine TL_x 11 rfl rfl rfl rfl rfl ?_
     refine TL_v (.bool false) (s_pf rfl rfl) rfl rfl ?_
     refine TL_v (.bool false) (s_mv rfl) rfl rfl ?_
     refine TL_x 15 rfl rfl rfl rfl rfl ?_
     refine TL_x 15 rfl rfl rfl rfl rfl ?_
     refine TL_v (.bool false) (s_pf rfl rfl) rfl rfl ?_
     refine TL_v (.bool false) (s_as rfl) rfl rfl ?_
     refine TL_seq ?_
     refine T_ret' ?_
     refine ret_of rfl (.bool false) (fun tmps w hk hm => res1 rfl (res_tmp (hk 4 _ rfl))) (fun w hm => ?_)
     exact ⟨congrArg Ending.returned (bool_as (decide_eq_false (by omega)).symm), hm.ext⟩

theorem put_ht (w₀ : World) (L : Heap) (B : Nat) (m : List C4) (x y : Int) (c : C4) (hl : m.length = 64) (hi : lk L 900 = some (.blk B (.cells (lst C4.cells m) 148))) (hf : lk L 1001 = none) :
  ∀ w, MemOk w₀ L w → Calls Try.prog 100 #[.pointer (some ⟨B, 0, none⟩), .int .i64 x, .int .i64 y, c.v] w (HAns w₀ (fun _ : Unit => True) (fun _ => .bool (isP x y)) (fun _ => (900, .blk B (.cells (lst C4.cells (putL m x y c)) 148)) :: L)) := by
 refine ht_of_T (l := [pt B 0, .int .i64 x, .int .i64 y, .agg #[.int .u8 c.r, .int .u8 c.g, .int .u8 c.b, .int .u8 c.a]]) (L := L) 22 Try.func100 rfl rfl rfl ?_
 refine T_mem ((900, .blk B (.cells (lst C4.cells m) 148)) :: L) (fun _ hm => hm.of (lk_dup hi)) ?_
 show T _ _ _ [(0, pt B 0), (1, .int .i64 x), (2, .int .i64 y), (3, .agg #[.int .u8 c.r, .int .u8 c.g, .int .u8 c.b, .int .u8 c.a])] ((900, .blk B (.cells (lst C4.cells m) 148)) :: L)
 refine T_seq (T_region ?_)
 refine TL_new 1001 (.cells #[.int .u8 c.r, .int .u8 c.g, .int .u8 c.b, .int .u8 c.a] 37) (fun B => pt B 0) (fun _ _ j _ => r_box (j _ _ rfl) rfl) rfl rfl rfl (w_n rfl) ?_
 intro B1
 refine TL_v (.bool false) (s_as rfl) rfl rfl ?_
 refine TL_seq ?_
 refine T_seq ?_
 refine T_seq (T_region ?_)
 refine TL_v (.int .i64 x) (s_mv rfl) rfl rfl ?_
 refine TL_v (.int .i64 y) (s_mv rfl) rfl rfl ?_
 refine TL_call (.bool (isP x y)) (fun _ _ j _ => r_call (args := [.int .i64 x, .int .i64 y]) (enters_of Try.func102 (by kernel_rfl) rfl) (j _ _ rfl) ((cons2 (j _ _ rfl) (cons2 (j _ _ rfl) rfl))) rfl) (fun w _ => is_c x y w) rfl rfl rfl (w_n rfl) ?_
 refine TL_v (.bool (!(isP x y))) (fun _ _ j _ => r_not (b := isP x y) (j _ _ rfl)) rfl rfl ?_
 refine TL_seq ?_
 refine T_cond rfl (fun h1 => ?_) (fun h1 => ?_)
 ·replace h1 := bnot_t h1
  refine T_seq (T_region ?_)
  refine TL_v (.bool false) (s_as rfl) rfl rfl ?_
  refine TL_seq ?_
  refine T_ret' ?_
  refine p_then_r ?_
  refine ret_of rfl (.bool false) (fun tmps w hk hm => res1 rfl (res_tmp (hk 8 _ rfl))) (fun w hm => ?_)
  exact ⟨(), trivial, congrArg Ending.returned (bool_as h1.symm), by rw [putL_no h1]; exact hm.of (lk_fresh (show lk (_ :: L) 1001 = none from hf))⟩
 ·replace h1 := bnot_f h1
  refine T_skip' ?_
  refine p_seq ?_
  obtain ⟨px, py, rfl, rfl, hpx, hpy⟩ := isP_nat h1
  refine T_seq (T_draw (V := [(0, pt B 0), (1, iN py), (2, iN (py * 8)), (3, iN px), (4, iN (py * 8 + px)), (5, .agg #[.int .u8 c.r, .int .u8 c.g, .int .u8 c.b, .int .u8 c.a]), (6, pt B 0), (7, pt B 0), (8, pt B (0 + (py * 8 + px) * 4))]) [0, 0, 2, 0, 14, 0, 1, 65, 255, 511] [[(0, none)], [(2, none)], [(14, some 1)], [(1, none)], [(15, some 2), (16, some 3)], [(7, none)], [(13, some 0)], [(19, some 6)], [(20, some 7), (17, some 4)], [(21, some 8), (18, some 5)]] 512 mixed (by kernel_rfl) ?_)
  refine G_step [0, 1, 2, 3, 4, 5, 6, 7, 8] 9 [] (by kernel_rfl) (allM (all_cons (q_r (pt B 0) rfl rfl rfl (s_mv rfl)) (all_cons (q_r (iN py) rfl rfl rfl (s_mv rfl)) (all_cons (q_r (iN (py * 8)) rfl rfl rfl (s_op r_mul rfl rfl (iw (by omega) (by omega) (by omega)))) (all_cons (q_r (iN px) rfl rfl rfl (s_mv rfl)) (all_cons (q_r (iN (py * 8 + px)) rfl rfl rfl (s_op r_add rfl rfl (iw (by omega) (by omega) (by omega)))) (all_cons (q_r (.agg #[.int .u8 c.r, .int .u8 c.g, .int .u8 c.b, .int .u8 c.a]) rfl rfl rfl (s_la ag37 sz37 rfl 1001 rfl rfl rfl)) (all_cons (q_r (pt B 0) rfl rfl rfl (s_nc rfl rfl)) (all_cons (q_r (pt B 0) rfl rfl rfl (s_fa fl148_0 sz39 rfl)) (all_cons (q_r (pt B (0 + (py * 8 + px) * 4)) rfl rfl rfl (fun _ _ j _ => r_indexAddrA (i := py * 8 + px) ar39 sz37 (j _ _ rfl) (j _ _ rfl) (by omega))) all_nil)))))))))) (allM (all_cons ?_ all_nil))
  refine LOb_store 900 (.cells (lst C4.cells (m.set (py * 8 + px) c)) 148) [] rfl (wv_n rfl) rfl rfl rfl (fun _ _ j hm => r_storeLst (u := c) sz37 (j _ _ rfl) (j _ _ rfl) (hm.at 900 rfl) C4.cells_len (lt64 hl (by omega)) rfl rfl) (by kernel_rfl) ?_
  refine G_last [] [(8, .bool false)] (by kernel_rfl) (allM all_nil) (end_old rfl rfl end_nil) ?_
  refine T_seq (T_region ?_)
  refine TL_v (.bool true) (s_as rfl) rfl rfl ?_
  refine TL_seq ?_
  refine T_ret' ?_
  refine ret_of rfl (.bool true) (fun tmps w hk hm => res1 rfl (res_tmp (hk 8 _ rfl))) (fun w hm => ?_)
  exact ⟨(), trivial, congrArg Ending.returned (bool_as h1.symm), by rw [putL_at hpx hpy]; exact hm.of (lk_put rfl hf)⟩

def atC (l : List C4) (x y : Int) : C4 := if isP x y then get l (8 * y + x).toNat else zeroC
def atE (x y : Int) : Int := if isP x y then 0 else 140
theorem at_no {l : List C4} {x y : Int} (h : isP x y = false) : atC l x y = zeroC ∧ atE x y = 140 := by unfold atC atE; rw [h]; exact ⟨rfl, rfl⟩
theorem at_yes {l : List C4} {px py : Nat} (hx : px < 8) (hy : py < 8) : atC l px py = get l (py * 8 + px) ∧ atE px py = 0 := by
 have h : isP px py = true := decide_eq_true ⟨by omega, by omega, by omega, by omega⟩
 unfold atC atE
 rw [h, if_pos rfl, if_pos rfl, show (8 * (py : Int) + px).toNat = py * 8 + px by omega]
 exact ⟨rfl, rfl⟩

structure Pt where
 x : Int
 y : Int
abbrev Pt.cells (p : Pt) : List Value := [.int .i64 p.x, .int .i64 p.y]
theorem Pt.cells_len (p : Pt) : p.cells.length = 2 := rfl
abbrev Pt.inn (p : Pt) : Bool := isP p.x p.y
def withL (l : List C4) (c : C4) (ps : List Pt) : List C4 := ps.foldl (fun m p => putL m p.x p.y c) l
theorem withL_len {l : List C4} {c : C4} (hl : l.length = 64) : ∀ ps, (withL l c ps).length = 64 := by
 intro ps
 unfold withL
 induction ps generalizing l with
 | nil => exact hl
 | cons p ps ih => exact ih (by rw [putL_len]; exact hl)
def withR (l : List C4) (c : C4) (ps : List Pt) : Option (List C4) := if ps.all Pt.inn then some (withL l c ps) else none
theorem with_step {l : List C4} {c : C4} {ps : List Pt} {k : Nat} {u : Pt} (h : ps[k]? = some u) : withL l c (ps.take (k + 1)) = putL (withL l c (ps.take k)) u.x u.y c := by
 unfold withL
 rw [List.take_add_one, h, List.foldl_append]; rfl
theorem inn_step {ps : List Pt} {k : Nat} {u : Pt} (h : ps[k]? = some u) (hk : (ps.take k).all Pt.inn = true) (hu : isP u.x u.y = true) : (ps.take (k + 1)).all Pt.inn = true := by
 rw [List.take_add_one, h, List.all_append, hk]
 simpa using hu
theorem with_no {l : List C4} {c : C4} {ps : List Pt} {k : Nat} {u : Pt} (h : ps[k]? = some u) (hu : isP u.x u.y = false) : withR l c ps = none := by
 unfold withR
 rw [if_neg]
 intro ha
 have := List.all_eq_true.1 ha u (List.mem_of_getElem? h)
 rw [show Pt.inn u = isP u.x u.y from rfl, hu] at this; cases this
theorem with_all {l : List C4} {c : C4} {ps : List Pt} (h : ps.all Pt.inn = true) : withR l c ps = some (withL l c ps) := if_pos h
def withV (o : Option (List C4)) : Value := til (o.getD zero64)
def withE (o : Option (List C4)) : Int := if o.isSome then 0 else 140

theorem at_c (l : List C4) (x y : Int) (w : World) (hl : l.length = 64) : Calls Try.prog 72 #[til l, .int .i64 x, .int .i64 y] w fun e w' => e = .returned (.tuple #[(atC l x y).v, .int .i64 (atE x y)]) ∧ Below w.heap.size w w' := by
 refine calls_of_T (l := [.agg (lst C4.cells l), .int .i64 x, .int .i64 y]) 19 Try.func72 rfl rfl rfl ?_
 show T _ _ _ [(0, .agg (lst C4.cells l)), (1, .int .i64 x), (2, .int .i64 y)] []
 refine T_seq (T_region ?_)
 refine TL_new 1 (.cells (lst C4.cells l) 39) (fun B => pt B 0) (fun _ _ j _ => r_box (j _ _ rfl) rfl) rfl rfl rfl (w_n rfl) ?_
 intro B1
 refine TL_new 2 (.cells #[z8, z8, z8, z8] 37) (fun B => pt B 0) (fun _ _ _ _ => r_alloc (v := .agg #[z8, z8, z8, z8]) (by kernel_rfl) rfl) rfl rfl rfl (w_n rfl) ?_
 intro B2
 refine TL_v (.int .i64 0) (s_as rfl) rfl rfl ?_
 refine TL_seq ?_
 refine T_seq ?_
 refine T_seq (T_region ?_)
 refine TL_v (.int .i64 x) (s_mv rfl) rfl rfl ?_
 refine TL_v (.int .i64 y) (s_mv rfl) rfl rfl ?_
 refine TL_call (.bool (isP x y)) (fun _ _ j _ => r_call (args := [.int .i64 x, .int .i64 y]) (enters_of Try.func102 (by kernel_rfl) rfl) (j _ _ rfl) ((cons2 (j _ _ rfl) (cons2 (j _ _ rfl) rfl))) rfl) (fun w _ => is_c x y w) rfl rfl rfl (w_n rfl) ?_
 refine TL_v (.bool (!(isP x y))) (fun _ _ j _ => r_not (b := isP x y) (j _ _ rfl)) rfl rfl ?_
 refine TL_seq ?_
 refine T_cond rfl (fun h1 => ?_) (fun h1 => ?_)
 ·replace h1 := bnot_t h1
  refine T_seq (T_region ?_)
  refine TL_v (.agg #[z8, z8, z8, z8]) (fun _ _ _ _ => r_build (vs := []) (by kernel_rfl) rfl) rfl rfl ?_
  refine TL_store 2 (.cells #[z8, z8, z8, z8] 37) rfl (s_st sz37 rfl rfl 2 rfl rfl rfl rfl rfl) rfl rfl (w_n rfl) ?_
  refine TL_v (.int .i64 140) (s_as rfl) rfl rfl ?_
  refine TL_seq ?_
  refine T_ret' ?_
  refine p_then_r ?_
  refine ret_of rfl (.tuple #[.agg #[z8, z8, z8, z8], .int .i64 140]) (fun tmps w hk hm => res2 rfl (res_cell (hk 6 _ rfl) (run_loadVar_agg ag37 sz37 (hm.at 2 rfl) (Nat.le_of_ble_eq_true rfl) rfl)) (res_tmp (hk 7 _ rfl))) (fun w hm => ?_)
  exact ⟨by rw [(at_no (l := l) h1).1, (at_no (l := l) h1).2], hm.ext⟩
 ·replace h1 := bnot_f h1
  refine T_skip' ?_
  refine p_seq ?_
  obtain ⟨px, py, rfl, rfl, hpx, hpy⟩ := isP_nat h1
  refine T_seq (T_region ?_)
  refine TL_v (iN py) (s_mv rfl) rfl rfl ?_
  refine TL_v (iN (py * 8)) (s_op r_mul rfl rfl (iw (by omega) (by omega) (by omega))) rfl rfl ?_
  refine TL_v (iN px) (s_mv rfl) rfl rfl ?_
  refine TL_v (iN (py * 8 + px)) (s_op r_add rfl rfl (iw (by omega) (by omega) (by omega))) rfl rfl ?_
  refine TL_v (pt B1 (0 + (py * 8 + px) * 4)) (fun _ _ j _ => r_indexAddrA (i := py * 8 + px) ar39 sz37 (j _ _ rfl) (j _ _ rfl) (by omega)) rfl rfl ?_
  refine TL_v (.agg #[.int .u8 ((get l (py * 8 + px)).r), .int .u8 ((get l (py * 8 + px)).g), .int .u8 ((get l (py * 8 + px)).b), .int .u8 ((get l (py * 8 + px)).a)]) (fun _ _ j hm => r_loadRow (f := C4.cells) (u := (get l (py * 8 + px))) ag37 sz37 (j _ _ rfl) (hm.at 1 rfl) (row_lst C4.cells_len _) (get_some hl (by omega))) rfl rfl ?_
  refine TL_store 2 (.cells #[.int .u8 ((get l (py * 8 + px)).r), .int .u8 ((get l (py * 8 + px)).g), .int .u8 ((get l (py * 8 + px)).b), .int .u8 ((get l (py * 8 + px)).a)] 37) rfl (s_st sz37 rfl rfl 2 rfl rfl rfl rfl rfl) rfl rfl (w_n rfl) ?_
  refine TL_v (.int .i64 0) (s_as rfl) rfl rfl ?_
  refine TL_seq ?_
  refine T_ret' ?_
  refine ret_of rfl (.tuple #[.agg #[.int .u8 ((get l (py * 8 + px)).r), .int .u8 ((get l (py * 8 + px)).g), .int .u8 ((get l (py * 8 + px)).b), .int .u8 ((get l (py * 8 + px)).a)], .int .i64 0]) (fun tmps w hk hm => res2 rfl (res_cell (hk 6 _ rfl) (run_loadVar_agg ag37 sz37 (hm.at 2 rfl) (Nat.le_of_ble_eq_true rfl) rfl)) (res_tmp (hk 7 _ rfl))) (fun w hm => ?_)
  exact ⟨by rw [(at_yes (l := l) hpx hpy).1, (at_yes (l := l) hpx hpy).2], hm.ext⟩

set_option maxHeartbeats 4000000 in
theorem with_c (l : List C4) (c : C4) (ps : List Pt) (a : Option Addr) (cap : Nat) (w : World) (hl : l.length = 64) (hv : SliceAt w a cap 2 Pt.cells ps) (hcap : cap ≤ Go.maxLen) :
  Calls Try.prog 67 #[til l, c.v, .slice a ps.length cap] w fun e w' => e = .returned (.tuple #[withV (withR l c ps), .int .i64 (withE (withR l c ps))]) ∧ Below w.heap.size w w' := by
 have hvl := hv.1
 unfold Go.maxLen at hcap
 refine calls_of_T (l := [.agg (lst C4.cells l), .agg #[.int .u8 c.r, .int .u8 c.g, .int .u8 c.b, .int .u8 c.a], .slice a ps.length cap]) 37 Try.func67 rfl rfl rfl ?_
 show T _ _ _ [(0, .agg (lst C4.cells l)), (1, .agg #[.int .u8 c.r, .int .u8 c.g, .int .u8 c.b, .int .u8 c.a]), (2, .slice a ps.length cap)] []
 refine T_seq (T_region ?_)
 refine TL_new 1 (.cells (lst C4.cells l) 39) (fun B => pt B 0) (fun _ _ j _ => r_box (j _ _ rfl) rfl) rfl rfl rfl (w_n rfl) ?_
 intro B1
 refine TL_new 2 (.cells #[.int .u8 c.r, .int .u8 c.g, .int .u8 c.b, .int .u8 c.a] 37) (fun B => pt B 0) (fun _ _ j _ => r_box (j _ _ rfl) rfl) rfl rfl rfl (w_n rfl) ?_
 intro B2
 refine TL_new 3 (.cells (lst C4.cells zero64) 39) (fun B => pt B 0) (fun _ _ _ _ => r_alloc (v := .agg (lst C4.cells zero64)) (by kernel_rfl) rfl) rfl rfl rfl (w_n rfl) ?_
 intro B3
 refine TL_v (.int .i64 0) (s_as rfl) rfl rfl ?_
 refine TL_seq ?_
 refine T_seq (T_region ?_)
 refine TL_v (.agg (lst C4.cells l)) (fun _ _ j hm => r_loadW ag39 sz39 (j _ _ rfl) (hm.at 1 rfl) (tsz hl)) rfl rfl ?_
 refine TL_v (.agg (lst C4.cells l)) (fun _ _ j _ => r_build (vs := [(0, .agg (lst C4.cells l))]) (build_work (tsz hl) _) (cons2 (pair2 (j _ _ rfl)) rfl)) rfl rfl ?_
 refine TL_new 900 (.cells (lst C4.cells l) 148) (fun B => pt B 0) (fun _ _ j _ => r_box (j _ _ rfl) rfl) rfl rfl rfl (w_n rfl) ?_
 intro B4
 refine TL_v (pt B4 0) (s_as rfl) rfl rfl ?_
 refine TL_seq ?_
 refine T_seq (T_region ?_)
 refine TL_v (pt B4 0) (s_mv rfl) rfl rfl ?_
 refine TL_v (.func (.func 100) #[pt B4 0] #[]) (fun _ _ j _ => r_makeFunc (map_arr (cons2 (j _ _ rfl) rfl)) (by simp)) rfl rfl ?_
 refine TL_v (.func (.func 100) #[pt B4 0] #[]) (s_as rfl) rfl rfl ?_
 refine TL_seq ?_
 refine T_seq ?_
 refine T_seq (T_region ?_)
 refine TL_v (.slice a ps.length cap) (s_mv rfl) rfl rfl ?_
 refine TL_v (iN ps.length) (fun _ _ j _ => r_len sl44 (j _ _ rfl)) rfl rfl ?_
 refine TL_v (.int .i64 0) (s_mv rfl) rfl rfl ?_
 refine TL_seq ?_
 refine T_block ?_
 refine T_loop (ι := Nat) (fun (k : Nat) => k ≤ ps.length ∧ (ps.take k).all Pt.inn = true) (fun (k : Nat) => [(4, pt B2 0), (6, pt B3 0), (8, pt B4 0), (9, .func (.func 100) #[pt B4 0] #[]), (17, .slice a ps.length cap), (18, iN ps.length), (19, iN k)]) (fun (k : Nat) => [(1, .blk B1 (.cells (lst C4.cells l) 39)), (2, .blk B2 (.cells #[.int .u8 c.r, .int .u8 c.g, .int .u8 c.b, .int .u8 c.a] 37)), (3, .blk B3 (.cells (lst C4.cells zero64) 39)), (900, .blk B4 (.cells (lst C4.cells (withL l c (ps.take k))) 148))]) (fun (k : Nat) => ps.length - k) 0 ⟨Nat.zero_le _, rfl⟩ (sc4 rfl rfl rfl rfl (sc rfl (sc rfl (sc rfl sub_nil)))) (sc4 rfl rfl rfl rfl sub_nil) ?_
 rintro k hp
 obtain ⟨hk, hin⟩ := hp
 show T _ _ _ [(4, pt B2 0), (6, pt B3 0), (8, pt B4 0), (9, .func (.func 100) #[pt B4 0] #[]), (17, .slice a ps.length cap), (18, iN ps.length), (19, iN k)] [(1, .blk B1 (.cells (lst C4.cells l) 39)), (2, .blk B2 (.cells #[.int .u8 c.r, .int .u8 c.g, .int .u8 c.b, .int .u8 c.a] 37)), (3, .blk B3 (.cells (lst C4.cells zero64) 39)), (900, .blk B4 (.cells (lst C4.cells (withL l c (ps.take k))) 148))]
 refine T_seq (T_region ?_)
 refine TL_v (.bool (decide (((k : Nat) : Int) < ((ps.length : Nat) : Int)))) (fun _ _ j _ => r_lss (j _ _ rfl) (j _ _ rfl)) rfl rfl ?_
 refine TL_seq ?_
 refine T_seq ?_
 refine T_cond rfl (fun h1 => ?_) (fun h1 => ?_)
 ·replace h1 := of_decide_eq_true h1
  refine T_skip' ?_
  refine p_seq ?_
  refine T_seq ?_
  refine T_block ?_
  obtain ⟨u, hu⟩ : ∃ x, ps[k]? = some x := ⟨_, List.getElem?_eq_getElem (by omega)⟩
  obtain ⟨b5, of5, cs5, T5, fz5, ha5, hq5, hr5⟩ := hv.open (i := k) (by omega)
  subst ha5
  refine T_seq (T_region ?_)
  refine TL_v (pt b5 (of5 + k * 2)) (fun _ _ j _ => r_indexAddrS (i := k) sl44 sz47 (j _ _ rfl) (j _ _ rfl) (by omega)) rfl rfl ?_
  refine TL_v (.agg #[.int .i64 u.x, .int .i64 u.y]) (fun _ _ j hm => r_loadRow (f := Pt.cells) (u := u) ag47 sz47 (j _ _ rfl) (hm.old hq5) hr5 hu) rfl rfl ?_
  refine TL_new 4 (.cells #[.int .i64 0, .int .i64 0] 47) (fun B => pt B 0) (fun _ _ _ _ => r_alloc (v := .agg #[.int .i64 0, .int .i64 0]) (by kernel_rfl) rfl) rfl rfl rfl (w_n rfl) ?_
  intro B6
  refine TL_store 4 (.cells #[.int .i64 u.x, .int .i64 u.y] 47) rfl (s_st sz47 rfl rfl 4 rfl rfl rfl rfl rfl) rfl rfl (w_n rfl) ?_
  refine TL_seq ?_
  refine T_seq (T_region ?_)
  refine TL_v (.func (.func 100) #[pt B4 0] #[]) (s_mv rfl) rfl rfl ?_
  refine TL_v (pt B6 0) (s_fa fl47_0 sz3 rfl) rfl rfl ?_
  refine TL_v (.int .i64 u.x) (s_ld ag3 rfl 4 rfl rfl) rfl rfl ?_
  refine TL_v (pt B6 1) (s_fa fl47_1 sz3 rfl) rfl rfl ?_
  refine TL_v (.int .i64 u.y) (s_ld ag3 rfl 4 rfl rfl) rfl rfl ?_
  refine TL_v (.agg #[.int .u8 c.r, .int .u8 c.g, .int .u8 c.b, .int .u8 c.a]) (s_la ag37 sz37 rfl 2 rfl rfl rfl) rfl rfl ?_
  refine TL_callH _ _ _ (fun _ _ j _ => r_call (args := [.int .i64 u.x, .int .i64 u.y, .agg #[.int .u8 c.r, .int .u8 c.g, .int .u8 c.b, .int .u8 c.a]]) (enters_of Try.func100 (by kernel_rfl) rfl) (j _ _ rfl) ((cons2 (j _ _ rfl) (cons2 (j _ _ rfl) (cons2 (j _ _ rfl) rfl)))) rfl) (fun w hm => put_ht _ _ B4 (withL l c (ps.take k)) u.x u.y c (withL_len hl _) rfl rfl w hm) rfl rfl rfl (w_n rfl) ?_
  intro _ _
  refine TL_v (.bool (!(isP u.x u.y))) (fun _ _ j _ => r_not (b := isP u.x u.y) (j _ _ rfl)) rfl rfl ?_
  refine TL_seq ?_
  refine T_cond rfl (fun h2 => ?_) (fun h2 => ?_)
  ·replace h2 := bnot_t h2
   refine T_seq (T_region ?_)
   refine TL_v (.agg (lst C4.cells zero64)) (fun _ _ _ _ => r_build (vs := []) (by kernel_rfl) rfl) rfl rfl ?_
   refine TL_store 3 (.cells (lst C4.cells zero64) 39) rfl (fun _ _ j hm => r_storeAll sz39 (j _ _ rfl) (j _ _ rfl) (hm.at 3 rfl) (tsz zero64_len) (tsz zero64_len) (lst_one C4.cells_all _)) rfl rfl (w_n rfl) ?_
   refine TL_v (.int .i64 140) (s_as rfl) rfl rfl ?_
   refine TL_seq ?_
   refine T_ret' ?_
   refine p_blk_r ?_
   refine p_then_r ?_
   refine p_then_r ?_
   refine p_blk_r ?_
   refine p_then_r ?_
   refine ret_of rfl (.tuple #[.agg (lst C4.cells zero64), .int .i64 140]) (fun tmps w hk hm => res2 rfl (res_cell (hk 6 _ rfl) (run_loadVar_agg ag39 sz39 (hm.at 3 rfl) (le64 zero64_len) (ex64 zero64_len))) (res_tmp (hk 7 _ rfl))) (fun w hm => ?_)
   exact ⟨by rw [with_no (l := l) (c := c) hu h2]; rfl, hm.ext⟩
  ·replace h2 := bnot_f h2
   refine T_skip' ?_
   refine p_blk_n ?_
   refine p_seq ?_
   refine T_region ?_
   refine TL_v (.int .i64 (((k : Nat) : Int) + 1)) (s_op r_add rfl rfl (int_as (wrap64 (by omega) (by omega)))) rfl rfl ?_
   refine TL_v (.int .i64 (((k : Nat) : Int) + 1)) (s_mv rfl) rfl rfl ?_
   refine TL_nil ?_
   rw [show (putL (withL l c (ps.take k)) u.x u.y c) = withL l c (ps.take (k + 1)) from by rw [with_step hu]]
   exact p_at (k + 1) ⟨⟨by omega, inn_step hu hin h2⟩, by omega⟩ (sc4 rfl rfl rfl rfl (sc rfl (sc rfl (sc rfl sub_nil)))) (sc4 rfl rfl rfl rfl sub_nil)
 ·replace h1 := of_decide_eq_false h1
  refine T_exit' ?_
  refine p_then_x ?_
  refine p_then_x ?_
  refine p_blk_x ?_
  refine p_seq ?_
  refine T_seq (T_region ?_)
  refine TL_v (pt B4 0) (s_mv rfl) rfl rfl ?_
  refine TL_v (pt B4 0) (s_nc rfl rfl) rfl rfl ?_
  refine TL_v (pt B4 0) (s_fa fl148_0 sz39 rfl) rfl rfl ?_
  refine TL_v (.agg (lst C4.cells (withL l c (ps.take k)))) (fun _ _ j hm => r_loadW ag39 sz39 (j _ _ rfl) (hm.at 900 rfl) (tsz (withL_len hl _))) rfl rfl ?_
  refine TL_store 3 (.cells (lst C4.cells (withL l c (ps.take k))) 39) rfl (fun _ _ j hm => r_storeAll sz39 (j _ _ rfl) (j _ _ rfl) (hm.at 3 rfl) (tsz zero64_len) (tsz (withL_len hl _)) (lst_one C4.cells_all _)) rfl rfl (w_n rfl) ?_
  refine TL_v (.int .i64 0) (s_as rfl) rfl rfl ?_
  refine TL_seq ?_
  refine T_ret' ?_
  refine ret_of rfl (.tuple #[.agg (lst C4.cells (withL l c (ps.take k))), .int .i64 0]) (fun tmps w hk hm => res2 rfl (res_cell (hk 6 _ rfl) (run_loadVar_agg ag39 sz39 (hm.at 3 rfl) (le64 (withL_len hl _)) (ex64 (withL_len hl _)))) (res_tmp (hk 7 _ rfl))) (fun w hm => ?_)
  have hkl : k = ps.length := by omega
  subst hkl
  rw [List.take_length] at hin
  exact ⟨by rw [with_all (l := l) (c := c) hin, List.take_length]; rfl, hm.ext⟩
end Go.Proofs.Ytbiapeaghbndoaa
/- Rows of one's own: made, copied into, stored into. Over any program. -/
namespace Go.Proofs.Ytbiapeaghbndoaa
open Go Go.RowKit
section
variable {P : Program} {w : World}
theorem run_storeX {w₀ : World} {L : Heap} (hm : MemOk w₀ L w) {t e : TypeId} {s n cap B k : Nat} {v : Value} {α : Type} {f : α → List Value} {l : List α} {u : α} (i : Nat) (hi : lk L i = some (.row (.slice (some ⟨B, 0, none⟩) n cap) e s n (l.flatMap f))) (hn : n = l.length) (hs : szOf P t = some s) (hf : ∀ x, (f x).length = s)
    (hk : k < l.length) (hv : v.cells = (f u).toArray) (ho : (f u).all isOne = true) :
    ∃ w', (storeVar t ⟨B, 0 + k * s, none⟩ v).run P w = .ok () w' ∧ MemOk w₀ ((i, .row (.slice (some ⟨B, 0, none⟩) n cap) e s n ((l.set k u).flatMap f)) :: L) w' := by
  subst hn
  have hrow := hm.row i hi
  rcases hrow.2 with ⟨h1, _⟩ | ⟨g, cap', cur, h1, hbg, hg, hnc, hcm, hcs, htk⟩
  · cases h1
  · cases h1
    obtain ⟨post, hpost⟩ : ∃ post, cur.toList = l.flatMap f ++ post := ⟨cur.toList.drop (l.length * s), by rw [← htk, List.take_append_drop]⟩
    obtain ⟨pre, xs, po, e1, e2, e3, e4⟩ := flat_set hf hk u
    have hle : k * s + s ≤ l.length * s := by
      have := Nat.mul_le_mul_right s (show k + 1 ≤ l.length from hk)
      rwa [Nat.add_mul, Nat.one_mul] at this
    have hle2 : l.length * s ≤ cap * s := Nat.mul_le_mul_right s hnc
    obtain ⟨w', hr, hu⟩ := run_storeVar (P := P) (t := t) (off := 0 + k * s) hs hg (by rw [hv, List.size_toArray, hf]) (by omega) (by rw [hv]; exact ho)
    have hcur : wrC cur (0 + k * s) v.cells.toList = ((l.set k u).flatMap f ++ post).toArray := by
      have : cur = (pre ++ xs ++ (po ++ post)).toArray := by apply Array.ext'; rw [hpost, e1]; simp
      rw [this, Nat.zero_add, ← e2, hv]
      rw [wrC_list _ _ _ _ (by rw [e3, hf]), e4]; simp
    rw [hcur] at hu
    refine ⟨w', hr, hm.grow (.inl hi) ⟨hu.os, hu.tape, hu.output, by rw [hu.size]; exact Nat.le_refl _, fun j _ hj => hu.other j (fun e => hj (by rw [e]; rfl))⟩ ⟨by rw [flat_len hf, List.length_set], .inr ⟨B, cap, _, rfl, hbg, hu.this, hnc, hcm, ?_, ?_⟩⟩ (.inl rfl)⟩
    · have hc1 : cur.size = (l.flatMap f ++ post).length := by rw [← hpost, Array.length_toList]
      rw [List.size_toArray, List.length_append, flat_len hf, List.length_set]
      rw [List.length_append, flat_len hf] at hc1
      omega
    · have hq : ((l.set k u).flatMap f).length = l.length * s := by rw [flat_len hf, List.length_set]
      rw [← hq]
      exact List.take_left
end
section
variable {C : Cx} {ops : Array Oper} {os : List Oper} {Q : Post} {K : List (Nat × Value)} {L : Heap} {dd : Option Tmp} {ty : TypeId} {ps : String} {af : Array Edge} {g : Option (Nat × Bool)}
theorem TL_storeRow {x y : Operand} {t e : TypeId} {s n cap B k : Nat} {v : Value} {α : Type} {f : α → List Value} {l : List α} {u : α} (i : Nat) (hi : lk L i = some (.row (.slice (some ⟨B, 0, none⟩) n cap) e s n (l.flatMap f))) (hn : n = l.length) (hx : ev K x = some (.pointer (some ⟨B, 0 + k * s, none⟩))) (hy : ev K y = some v) (hs : szOf C.P t = some s)
    (hf : ∀ x, (f x).length = s) (hk : k < l.length) (hv : v.cells = (f u).toArray) (ho : (f u).all isOne = true) (hw : Want ops K (mk none (.store t x y) ty ps af g) true)
    (h : TL C ops os Q K ((i, .row (.slice (some ⟨B, 0, none⟩) n cap) e s n ((l.set k u).flatMap f)) :: L)) : TL C ops (mk none (.store t x y) ty ps af g :: os) Q K L := by
  intro a w hfk hm
  unfold wpListIn
  rw [hw.is hfk, if_pos rfl]
  obtain ⟨w', hr, hm'⟩ := run_storeX (P := C.P) hm i hi hn hs hf hk hv ho
  refine step_skip (w' := w') rfl ?_ (h _ _ hfk hm')
  show (do Instr.storeAt t (a.eval x) (a.eval y); pure Next.skip : Sem Next).run C.P w = _
  rw [hfk.rd _ _ hx, hfk.rd _ _ hy, run_bind_ok (a := ()) (w' := w')]
  · rfl
  · unfold Instr.storeAt
    rw [run_bind_ok (a := ⟨B, 0 + k * s, none⟩) (w' := w) rfl]
    exact hr
end
section
variable {C : Cx} {R : Rg} {Q : Post} {K0 V : List (Nat × Value)} {lo : Nat} {L : Heap} {ty : TypeId} {ps : String} {af : Array Edge} {g : Option (Nat × Bool)}
theorem LOb_storeRow {c : Nat} {x y : Operand} {t e : TypeId} {s n cap B k : Nat} {v : Value} {α : Type} {f : α → List Value} {l : List α} {u : α} (i : Nat) (nws : List (Nat × Value)) (hi : lk L i = some (.row (.slice (some ⟨B, 0, none⟩) n cap) e s n (l.flatMap f))) (hn : n = l.length) (ho1 : R.ops[c]? = some (mk none (.store t x y) ty ps af g)) (hw : WantV V (mk none (.store t x y) ty ps af g) true)
    (hx : ev (kOf K0 V (R.S.getD c [])) x = some (.pointer (some ⟨B, 0 + k * s, none⟩))) (hy : ev (kOf K0 V (R.S.getD c [])) y = some v) (hs : szOf C.P t = some s)
    (hf : ∀ x, (f x).length = s) (hk : k < l.length) (hv : v.cells = (f u).toArray) (ho : (f u).all isOne = true) (hnew : newsOk R c nws = true)
    (h : G C R Q K0 (lo ||| 2 ^ c) (nws ++ (c, undef) :: V) ((i, .row (.slice (some ⟨B, 0, none⟩) n cap) e s n ((l.set k u).flatMap f)) :: L)) : LOb C R Q K0 lo V L c := by
  refine ⟨_, ho1, hw, fun a w next hrd hm _ hnext => ?_⟩
  obtain ⟨w', hr, hm'⟩ := run_storeX (P := C.P) hm i hi hn hs hf hk hv ho
  refine step_skip (w' := w') rfl ?_ ?_
  · show (do Instr.storeAt t (a.eval x) (a.eval y); pure Next.skip : Sem Next).run C.P w = _
    rw [hrd _ _ hx, hrd _ _ hy, run_bind_ok (a := ()) (w' := w')]
    · rfl
    · unfold Instr.storeAt
      rw [run_bind_ok (a := ⟨B, 0 + k * s, none⟩) (w' := w) rfl]
      exact hr
  · simp only [newsOk, Bool.and_eq_true, Bool.not_eq_true'] at hnew
    exact hnext _ _ _ _ (.inr rfl) (extV _ _ _ hnew.1) hm' h
end
end Go.Proofs.Ytbiapeaghbndoaa
/- Rows of one's own, many of them at once: none in another's block. Over any program. -/
namespace Go.Proofs.Ytbiapeaghbndoaa
open Go Go.RowKit
structure RowG (α : Type) where
  a : Option Addr
  cap : Nat
  l : List α
section
variable {α : Type} {e : TypeId} {s : Nat} {f : α → List Value}
abbrev RowG.v (r : RowG α) : Value := .slice r.a r.l.length r.cap
abbrev RowG.cells (r : RowG α) : List Value := [r.v]
theorem RowG.cells_len (r : RowG α) : r.cells.length = 1 := rfl
abbrev RowG.ok (s : Nat) (f : α → List Value) (w : World) (r : RowG α) : Prop := SliceAt w r.a r.cap s f r.l
def apart (r q : RowG α) : Prop := ∀ b, r.v.ownBlock = some b → q.v.ownBlock ≠ some b
def manyH (e : TypeId) (s : Nat) (f : α → List Value) (rs : List (RowG α)) (w : World) : Prop :=
  (∀ r ∈ rs, w.ownsRow 0 e s r.v r.l.length (r.l.flatMap f)) ∧ rs.Pairwise apart
def manyF (rs : List (RowG α)) (b : Nat) : Prop := ∃ r ∈ rs, r.v.ownBlock = some b
abbrev Res.many (e : TypeId) (s : Nat) (f : α → List Value) (rs : List (RowG α)) : Res := .abs (manyF rs) (manyH e s f rs)
theorem many_keep {rs : List (RowG α)} (w1 w2 : World) (h : manyH e s f rs w1) (hb : ∀ b, manyF rs b → hp w2 b = hp w1 b) : manyH e s f rs w2 :=
  ⟨fun r hr => Res.keep (r := .row r.v e s r.l.length (r.l.flatMap f)) (h.1 r hr) fun b hf => hb b ⟨r, hr, hf⟩, h.2⟩
abbrev Res.no : Res := .abs (fun _ => False) (fun _ => True)
theorem MemOk.many {w₀ w : World} {L : Heap} (h : MemOk w₀ L w) (k : Nat) {rs : List (RowG α)} (hk : lk L k = some (.many e s f rs)) : manyH e s f rs w := (h.own k _ hk).1
theorem MemOk.push {w₀ w : World} {L : Heap} (h : MemOk w₀ L w) (k j : Nat) {rs : List (RowG α)} {a : Option Addr} {n cap : Nat} {l : List α} (hk : lk L k = some (.many e s f rs)) (hj : lk L j = some (.row (.slice a n cap) e s n (l.flatMap f))) (hn : n = l.length) (hne : Nat.beq k j = false) :
    MemOk w₀ ((k, .many e s f (rs ++ [⟨a, cap, l⟩])) :: (j, .no) :: L) w := by
  subst hn
  have hkj : k ≠ j := fun e => by subst e; rw [Nat.beq_refl] at hne; cases hne
  have ok1 := h.own k _ hk
  have ok2 := h.own j _ hj
  have h0 : MemOk w₀ ((j, .no) :: L) w := h.set j _ h.ext ⟨trivial, (fun _ hb => hb.elim), fun _ _ _ _ => trivial⟩ (fun _ _ _ _ b _ => ⟨rfl, id⟩)
  refine h0.set k _ h0.ext ⟨⟨fun r hr => ?_, ?_⟩, ?_, many_keep⟩ (fun i r hi hne' b hb => ⟨rfl, ?_⟩)
  · rcases List.mem_append.1 hr with h1 | h1
    · exact ok1.1.1 r h1
    · rw [List.mem_singleton.1 h1]; exact Res.lift (r := .row _ _ _ _ _) ok2 (Nat.zero_le _)
  · refine List.pairwise_append.2 ⟨ok1.1.2, List.pairwise_singleton _ _, fun r hr q hq => ?_⟩
    rw [List.mem_singleton.1 hq]
    exact fun b hb hc => h.sep k j _ _ hk hj hkj b ⟨r, hr, hb⟩ hc
  · rintro b ⟨r, hr, hb⟩
    rcases List.mem_append.1 hr with h1 | h1
    · exact ok1.2.1 b ⟨r, h1, hb⟩
    · rw [List.mem_singleton.1 h1] at hb; exact Res.low ok2 hb
  · rintro ⟨q, hq, hqb⟩
    by_cases e2 : j = i
    · subst e2; rw [lk_cons_same] at hi; cases hi; exact hb
    · rw [lk_cons_other _ _ e2] at hi
      rcases List.mem_append.1 hq with h1 | h1
      · exact h.sep k i _ _ hk hi (Ne.symm hne') b ⟨q, h1, hqb⟩ hb
      · rw [List.mem_singleton.1 h1] at hqb
        exact h.sep j i _ _ hj hi e2 b hqb hb
end
end Go.Proofs.Ytbiapeaghbndoaa
/- canvas: canvases in memory. -/
namespace Go.Proofs.Ytbiapeaghbndoaa
open Go Go.RowKit
abbrev ptrc (q : Nat) : List Value := [.pointer (some ⟨q, 0, none⟩)]
theorem ptrc_len (q : Nat) : (ptrc q).length = 1 := rfl
abbrev tilO (t : T64) : Obj := .cells (lst C4.cells t.l) 39
structure Cv where
  p : Nat
  a : Option Addr
  cap : Nat
  ps : List Nat
  wd : Nat
  hg : Nat
  ts : List T64
def Cv.foot (c : Cv) (b : Nat) : Prop := b = c.p ∨ (∃ x, c.a = some x ∧ x.block = b) ∨ b ∈ c.ps
structure CvAt (w : World) (c : Cv) : Prop where
  blk : hp w c.p = some (.cells #[.int .i64 (c.wd : Int), .int .i64 (c.hg : Int), .slice c.a c.ps.length c.cap] 111)
  row : SliceAt w c.a c.cap 1 ptrc c.ps
  capok : c.cap ≤ Go.maxLen
  tl : ∀ (i : Nat) (q : Nat) (t : T64), c.ps[i]? = some q → c.ts[i]? = some t → hp w q = some (tilO t)
  len : c.ps.length = c.wd * c.hg
  len2 : c.ts.length = c.ps.length
  wd4 : 1 ≤ c.wd ∧ c.wd ≤ 4
  hg4 : 1 ≤ c.hg ∧ c.hg ≤ 4
theorem size4 {m n : Nat} (hm : 1 ≤ m ∧ m ≤ 4) (hn : 1 ≤ n ∧ n ≤ 4) : 1 ≤ m * n ∧ m * n ≤ 16 := ⟨Nat.mul_le_mul hm.1 hn.1, Nat.mul_le_mul hm.2 hn.2⟩
theorem CvAt.keep {w1 w2 : World} {c : Cv} (h : CvAt w1 c) (hb : ∀ b, c.foot b → hp w2 b = hp w1 b) : CvAt w2 c := by
  refine ⟨(hb _ (.inl rfl)).trans h.blk, ⟨h.row.1, h.row.2.1, ?_⟩, h.capok, fun i q t hq ht => (hb q (.inr (.inr (List.mem_of_getElem? hq)))).trans (h.tl i q t hq ht), h.len, h.len2, h.wd4, h.hg4⟩
  rcases h.row.2.2 with h1 | ⟨b, off, cs, T, fz, e1, e2, e3⟩
  · exact .inl h1
  · exact .inr ⟨b, off, cs, T, fz, e1, (hb b (.inr (.inl ⟨_, e1, rfl⟩))).trans e2, e3⟩
theorem CvAt.low {w : World} {c : Cv} (h : CvAt w c) {b : Nat} (hb : c.foot b) : b < w.heap.size := by
  rcases hb with rfl | ⟨x, hx, rfl⟩ | hm
  · exact hp_lt h.blk
  · rcases h.row.2.2 with h1 | ⟨b, off, cs, T, fz, e1, e2, e3⟩
    · have := (size4 h.wd4 h.hg4).1
      rw [← h.len, h1] at this; cases this
    · rw [e1] at hx; cases hx; exact hp_lt e2
  · obtain ⟨i, hi⟩ := List.getElem?_of_mem hm
    have hl := (List.getElem?_eq_some_iff.1 hi).1
    exact hp_lt (h.tl i b _ hi (List.getElem?_eq_getElem (by rw [h.len2]; exact hl)))
theorem CvAt.below {w w' : World} {c : Cv} (h : CvAt w c) (hb : Below w.heap.size w w') : CvAt w' c := h.keep fun b hf => hb.block b (h.low hf)
def cvsF (l : List Cv) (b : Nat) : Prop := ∃ c ∈ l, c.foot b
abbrev Res.cvs (l : List Cv) : Res := .abs (cvsF l) (fun w => ∀ c ∈ l, CvAt w c)
theorem cvs_keep {l : List Cv} (w1 w2 : World) (h : ∀ c ∈ l, CvAt w1 c) (hb : ∀ b, cvsF l b → hp w2 b = hp w1 b) : ∀ c ∈ l, CvAt w2 c := fun c hc => (h c hc).keep fun b hf => hb b ⟨c, hc, hf⟩
theorem MemOk.cv {w₀ w : World} {L : Heap} (h : MemOk w₀ L w) (k : Nat) {l : List Cv} (hk : lk L k = some (.cvs l)) {c : Cv} (hc : c ∈ l) : CvAt w c := (h.own k _ hk).1 c hc
theorem MemOk.cvs0 {w₀ w : World} {L : Heap} (h : MemOk w₀ L w) (k : Nat) : MemOk w₀ ((k, .cvs []) :: L) w :=
  h.set k _ h.ext ⟨(fun r hr => nomatch hr), (fun b hb => by obtain ⟨r, hr, _⟩ := hb; cases hr), cvs_keep⟩ (fun _ _ _ _ b _ => ⟨rfl, fun hb => by obtain ⟨r, hr, _⟩ := hb; cases hr⟩)
theorem MemOk.cvAdd {w₀ w w' : World} {L : Heap} (h : MemOk w₀ L w) (hb : Below w.heap.size w w') (k : Nat) {l : List Cv} (hk : lk L k = some (.cvs l)) {d : Cv} (hd : CvAt w' d) (hf : ∀ b, d.foot b → w.heap.size ≤ b ∨ cvsF l b) : MemOk w₀ ((k, .cvs (d :: l)) :: L) w' := by
  have hm := h.below hb
  have ok := h.own k _ hk
  have ok' := hm.own k _ hk
  refine hm.set k _ hm.ext ⟨fun c hc => ?_, ?_, cvs_keep⟩ (fun i r hi hne b hr => ⟨rfl, ?_⟩)
  · rcases List.mem_cons.1 hc with rfl | hc
    · exact hd
    · exact ok'.1 c hc
  · rintro b ⟨c, hc, hcf⟩
    rcases List.mem_cons.1 hc with rfl | hc
    · refine ⟨?_, hd.low hcf⟩
      rcases hf b hcf with h1 | h1
      · exact Nat.le_trans h.ext.size h1
      · exact (ok.2.1 b h1).1
    · exact ok'.2.1 b ⟨c, hc, hcf⟩
  · rintro ⟨c, hc, hcf⟩
    have hlt := (Res.low (h.own i r hi) hr).2
    rcases List.mem_cons.1 hc with rfl | hc
    · rcases hf b hcf with h1 | h1
      · omega
      · exact h.sep k i _ _ hk hi (Ne.symm hne) b h1 hr
    · exact h.sep k i _ _ hk hi (Ne.symm hne) b ⟨c, hc, hcf⟩ hr
/-! ### plainly -/
def onC (wd hg : Nat) (x y : Int) : Bool := decide (0 ≤ x ∧ 0 ≤ y ∧ x < 8 * wd ∧ y < 8 * hg)
theorem onC_nat {wd hg : Nat} {x y : Int} (h : onC wd hg x y = true) : ∃ u v : Nat, x = u ∧ y = v ∧ u < 8 * wd ∧ v < 8 * hg := by
  have h := of_decide_eq_true h
  exact ⟨x.toNat, y.toNat, by omega, by omega, by omega, by omega⟩
theorem idx_lt {wd hg u v : Nat} (hu : u < 8 * wd) (hv : v < 8 * hg) : v / 8 * wd + u / 8 < wd * hg := by
  have h1 : v / 8 + 1 ≤ hg := by omega
  have h2 := Nat.mul_le_mul_right wd h1
  rw [Nat.add_mul, Nat.one_mul, Nat.mul_comm hg wd] at h2
  omega
abbrev tileAt (ts : List T64) (i : Nat) : T64 := ts.getD i zeroT
theorem tileAt_some {ts : List T64} {i : Nat} {t : T64} (h : ts[i]? = some t) : tileAt ts i = t := by
  show ts.getD i zeroT = t
  rw [List.getD_eq_getElem?_getD, h]; rfl
def colAt (wd : Nat) (ts : List T64) (u v : Nat) : C4 := get (tileAt ts (v / 8 * wd + u / 8)).l (8 * (v % 8) + u % 8)
def colI (wd hg : Nat) (ts : List T64) (x y : Int) : C4 := if onC wd hg x y then colAt wd ts x.toNat y.toNat else zeroC
theorem colI_on {wd hg : Nat} {ts : List T64} {u v : Nat} (hu : u < 8 * wd) (hv : v < 8 * hg) : colI wd hg ts u v = colAt wd ts u v := by
  unfold colI
  rw [if_pos (show onC wd hg u v = true from decide_eq_true ⟨by omega, by omega, by omega, by omega⟩)]; rfl
theorem colI_off {wd hg : Nat} {ts : List T64} {x y : Int} (h : ¬ onC wd hg x y = true) : colI wd hg ts x y = zeroC := if_neg h
end Go.Proofs.Ytbiapeaghbndoaa
/- canvas: sizes, places, At. Printed by a program of this seat's prover. -/
namespace Go.Proofs.Ytbiapeaghbndoaa
open Go Go.RowKit
set_option maxRecDepth 10000
def mayI (w h : Int) : Bool := decide (1 ≤ w ∧ w ≤ 4 ∧ 1 ≤ h ∧ h ≤ 4)
theorem mayI_nat {w h : Int} (e : mayI w h = true) : ∃ m n : Nat, w = m ∧ h = n ∧ (1 ≤ m ∧ m ≤ 4) ∧ 1 ≤ n ∧ n ≤ 4 := by
 have e := of_decide_eq_true e
 exact ⟨w.toNat, h.toNat, by omega, by omega, by omega, by omega⟩
theorem mayI_of {m n : Nat} (hm : 1 ≤ m ∧ m ≤ 4) (hn : 1 ≤ n ∧ n ≤ 4) : mayI m n = true := decide_eq_true (by omega)

theorem may_c (x y : Int) (w : World) : Calls Try.prog 77 #[.agg #[.int .i64 x, .int .i64 y]] w fun e w' => e = .returned (.bool (mayI x y)) ∧ Below w.heap.size w w' := by
 refine calls_of_T (l := [.agg #[.int .i64 x, .int .i64 y]]) 21 Try.func77 rfl rfl rfl ?_
 show T _ _ _ [(0, .agg #[.int .i64 x, .int .i64 y])] []
 refine T_seq (T_region ?_)
 refine TL_new 1 (.cells #[.int .i64 x, .int .i64 y] 109) (fun B => pt B 0) (fun _ _ j _ => r_box (j _ _ rfl) rfl) rfl rfl rfl (w_n rfl) ?_
 intro B1
 refine TL_v (.bool false) (s_as rfl) rfl rfl ?_
 refine TL_seq ?_
 by_cases c1 : (1 : Int) ≤ x
 ·skip
  by_cases c2 : x ≤ 4
  ·skip
   by_cases c3 : (1 : Int) ≤ y
   ·skip
    by_cases c4 : y ≤ 4
    ·skip
     refine T_seq (T_region ?_)
     refine TL_v (pt B1 0) (s_fa fl109_0 sz3 rfl) rfl rfl ?_
     refine TL_v (.int .i64 x) (s_ld ag3 rfl 1 rfl rfl) rfl rfl ?_
     refine TL_v (.bool true) (s_op r_geq rfl rfl (bool_as (decide_eq_true c1))) rfl rfl ?_
     refine TL_v (.bool true) (s_mv rfl) rfl rfl ?_
     refine TL_q (pt B1 0) (s_fa fl109_0 sz3 rfl) rfl rfl rfl (want_y 6 rfl rfl rfl) ?_
     refine TL_q (.int .i64 x) (s_ld ag3 rfl 1 rfl rfl) rfl rfl rfl (want_y 6 rfl rfl rfl) ?_
     refine TL_q (.bool true) (s_op r_leq rfl rfl (bool_as (decide_eq_true c2))) rfl rfl rfl (want_y 6 rfl rfl rfl) ?_
     refine TL_v (.bool true) (s_pt rfl rfl) rfl rfl ?_
     refine TL_v (.bool true) (s_mv rfl) rfl rfl ?_
     refine TL_q (pt B1 1) (s_fa fl109_1 sz3 rfl) rfl rfl rfl (want_y 11 rfl rfl rfl) ?_
     refine TL_q (.int .i64 y) (s_ld ag3 rfl 1 rfl rfl) rfl rfl rfl (want_y 11 rfl rfl rfl) ?_
     refine TL_q (.bool true) (s_op r_geq rfl rfl (bool_as (decide_eq_true c3))) rfl rfl rfl (want_y 11 rfl rfl rfl) ?_
     refine TL_v (.bool true) (s_pt rfl rfl) rfl rfl ?_
     refine TL_v (.bool true) (s_mv rfl) rfl rfl ?_
     refine TL_q (pt B1 1) (s_fa fl109_1 sz3 rfl) rfl rfl rfl (want_y 16 rfl rfl rfl) ?_
     refine TL_q (.int .i64 y) (s_ld ag3 rfl 1 rfl rfl) rfl rfl rfl (want_y 16 rfl rfl rfl) ?_
     refine TL_q (.bool true) (s_op r_leq rfl rfl (bool_as (decide_eq_true c4))) rfl rfl rfl (want_y 16 rfl rfl rfl) ?_
     refine TL_v (.bool true) (s_pt rfl rfl) rfl rfl ?_
     refine TL_v (.bool true) (s_as rfl) rfl rfl ?_
     refine TL_seq ?_
     refine T_ret' ?_
     refine ret_of rfl (.bool true) (fun tmps w hk hm => res1 rfl (res_tmp (hk 2 _ rfl))) (fun w hm => ?_)
     exact ⟨congrArg Ending.returned (bool_as (decide_eq_true (by omega)).symm), hm.ext⟩
    ·skip
     refine T_seq (T_region ?_)
     refine TL_v (pt B1 0) (s_fa fl109_0 sz3 rfl) rfl rfl ?_
     refine TL_v (.int .i64 x) (s_ld ag3 rfl 1 rfl rfl) rfl rfl ?_
     refine TL_v (.bool true) (s_op r_geq rfl rfl (bool_as (decide_eq_true c1))) rfl rfl ?_
     refine TL_v (.bool true) (s_mv rfl) rfl rfl ?_
     refine TL_q (pt B1 0) (s_fa fl109_0 sz3 rfl) rfl rfl rfl (want_y 6 rfl rfl rfl) ?_
     refine TL_q (.int .i64 x) (s_ld ag3 rfl 1 rfl rfl) rfl rfl rfl (want_y 6 rfl rfl rfl) ?_
     refine TL_q (.bool true) (s_op r_leq rfl rfl (bool_as (decide_eq_true c2))) rfl rfl rfl (want_y 6 rfl rfl rfl) ?_
     refine TL_v (.bool true) (s_pt rfl rfl) rfl rfl ?_
     refine TL_v (.bool true) (s_mv rfl) rfl rfl ?_
     refine TL_q (pt B1 1) (s_fa fl109_1 sz3 rfl) rfl rfl rfl (want_y 11 rfl rfl rfl) ?_
     refine TL_q (.int .i64 y) (s_ld ag3 rfl 1 rfl rfl) rfl rfl rfl (want_y 11 rfl rfl rfl) ?_
     refine TL_q (.bool true) (s_op r_geq rfl rfl (bool_as (decide_eq_true c3))) rfl rfl rfl (want_y 11 rfl rfl rfl) ?_
     refine TL_v (.bool true) (s_pt rfl rfl) rfl rfl ?_
     refine TL_v (.bool true) (s_mv rfl) rfl rfl ?_
     refine TL_q (pt B1 1) (s_fa fl109_1 sz3 rfl) rfl rfl rfl (want_y 16 rfl rfl rfl) ?_
     refine TL_q (.int .i64 y) (s_ld ag3 rfl 1 rfl rfl) rfl rfl rfl (want_y 16 rfl rfl rfl) ?_
     refine TL_q (.bool false) (s_op r_leq rfl rfl (bool_as (decide_eq_false c4))) rfl rfl rfl (want_y 16 rfl rfl rfl) ?_
     refine TL_v (.bool false) (s_pt rfl rfl) rfl rfl ?_
     refine TL_v (.bool false) (s_as rfl) rfl rfl ?_
     refine TL_seq ?_
     refine T_ret' ?_
     refine ret_of rfl (.bool false) (fun tmps w hk hm => res1 rfl (res_tmp (hk 2 _ rfl))) (fun w hm => ?_)
     exact ⟨congrArg Ending.returned (bool_as (decide_eq_false (by omega)).symm), hm.ext⟩
   ·skip
    by_cases c4 : y ≤ 4
    ·skip
     refine T_seq (T_region ?_)
     refine TL_v (pt B1 0) (s_fa fl109_0 sz3 rfl) rfl rfl ?_
     refine TL_v (.int .i64 x) (s_ld ag3 rfl 1 rfl rfl) rfl rfl ?_
     refine TL_v (.bool true) (s_op r_geq rfl rfl (bool_as (decide_eq_true c1))) rfl rfl ?_
     refine TL_v (.bool true) (s_mv rfl) rfl rfl ?_
     refine TL_q (pt B1 0) (s_fa fl109_0 sz3 rfl) rfl rfl rfl (want_y 6 rfl rfl rfl) ?_
     refine TL_q (.int .i64 x) (s_ld ag3 rfl 1 rfl rfl) rfl rfl rfl (want_y 6 rfl rfl rfl) ?_
     refine TL_q (.bool true) (s_op r_leq rfl rfl (bool_as (decide_eq_true c2))) rfl rfl rfl (want_y 6 rfl rfl rfl) ?_
     refine TL_v (.bool true) (s_pt rfl rfl) rfl rfl ?_
     refine TL_v (.bool true) (s_mv rfl) rfl rfl ?_
     refine TL_q (pt B1 1) (s_fa fl109_1 sz3 rfl) rfl rfl rfl (want_y 11 rfl rfl rfl) ?_
     refine TL_q (.int .i64 y) (s_ld ag3 rfl 1 rfl rfl) rfl rfl rfl (want_y 11 rfl rfl rfl) ?_
     refine TL_q (.bool false) (s_op r_geq rfl rfl (bool_as (decide_eq_false c3))) rfl rfl rfl (want_y 11 rfl rfl rfl) ?_
     refine TL_v (.bool false) (s_pt rfl rfl) rfl rfl ?_
     refine TL_v (.bool false) (s_mv rfl) rfl rfl ?_
     refine TL_x 16 rfl rfl rfl rfl rfl ?_
     refine TL_x 16 rfl rfl rfl rfl rfl ?_
     refine TL_x 16 rfl rfl rfl rfl rfl ?_
     refine TL_v (.bool false) (s_pf rfl rfl) rfl rfl ?_
     refine TL_v (.bool false) (s_as rfl) rfl rfl ?_
     refine TL_seq ?_
     refine T_ret' ?_
     refine ret_of rfl (.bool false) (fun tmps w hk hm => res1 rfl (res_tmp (hk 2 _ rfl))) (fun w hm => ?_)
     exact ⟨congrArg Ending.returned (bool_as (decide_eq_false (by omega)).symm), hm.ext⟩
    ·skip
     refine T_seq (T_region ?_)
     refine TL_v (pt B1 0) (s_fa fl109_0 sz3 rfl) rfl rfl ?_
     refine TL_v (.int .i64 x) (s_ld ag3 rfl 1 rfl rfl) rfl rfl ?_
     refine TL_v (.bool true) (s_op r_geq rfl rfl (bool_as (decide_eq_true c1))) rfl rfl ?_
     refine TL_v (.bool true) (s_mv rfl) rfl rfl ?_
     refine TL_q (pt B1 0) (s_fa fl109_0 sz3 rfl) rfl rfl rfl (want_y 6 rfl rfl rfl) ?_
     refine TL_q (.int .i64 x) (s_ld ag3 rfl 1 rfl rfl) rfl rfl rfl (want_y 6 rfl rfl rfl) ?_
     refine TL_q (.bool true) (s_op r_leq rfl rfl (bool_as (decide_eq_true c2))) rfl rfl rfl (want_y 6 rfl rfl rfl) ?_
     refine TL_v (.bool true) (s_pt rfl rfl) rfl rfl ?_
     refine TL_v (.bool true) (s_mv rfl) rfl rfl ?_
     refine TL_q (pt B1 1) (s_fa fl109_1 sz3 rfl) rfl rfl rfl (want_y 11 rfl rfl rfl) ?_
     refine TL_q (.int .i64 y) (s_ld ag3 rfl 1 rfl rfl) rfl rfl rfl (want_y 11 rfl rfl rfl) ?_
     refine TL_q (.bool false) (s_op r_geq rfl rfl (bool_as (decide_eq_false c3))) rfl rfl rfl (want_y 11 rfl rfl rfl) ?_
     refine TL_v (.bool false) (s_pt rfl rfl) rfl rfl ?_
     refine TL_v (.bool false) (s_mv rfl) rfl rfl ?_
     refine TL_x 16 rfl rfl rfl rfl rfl ?_
     refine TL_x 16 rfl rfl rfl rfl rfl ?_
     refine TL_x 16 rfl rfl rfl rfl rfl ?_
     refine TL_v (.bool false) (s_pf rfl rfl) rfl rfl ?_
     refine TL_v (.bool false) (s_as rfl) rfl rfl ?_
     refine TL_seq ?_
     refine T_ret' ?_
     refine ret_of rfl (.bool false) (fun tmps w hk hm => res1 rfl (res_tmp (hk 2 _ rfl))) (fun w hm => ?_)
     exact ⟨congrArg Ending.returned (bool_as (decide_eq_false (by omega)).symm), hm.ext⟩
  ·skip
   by_cases c3 : (1 : Int) ≤ y
   ·skip
    by_cases c4 : y ≤ 4
    ·skip
     refine T_seq (T_region ?_)
     refine TL_v (pt B1 0) (s_fa fl109_0 sz3 rfl) rfl rfl ?_
     refine TL_v (.int .i64 x) (s_ld ag3 rfl 1 rfl rfl) rfl rfl ?_
     refine TL_v (.bool true) (s_op r_geq rfl rfl (bool_as (decide_eq_true c1))) rfl rfl ?_
     refine TL_v (.bool true) (s_mv rfl) rfl rfl ?_
     refine TL_q (pt B1 0) (s_fa fl109_0 sz3 rfl) rfl rfl rfl (want_y 6 rfl rfl rfl) ?_
     refine TL_q (.int .i64 x) (s_ld ag3 rfl 1 rfl rfl) rfl rfl rfl (want_y 6 rfl rfl rfl) ?_
     refine TL_q (.bool false) (s_op r_leq rfl rfl (bool_as (decide_eq_false c2))) rfl rfl rfl (want_y 6 rfl rfl rfl) ?_
     refine TL_v (.bool false) (s_pt rfl rfl) rfl rfl ?_
     refine TL_v (.bool false) (s_mv rfl) rfl rfl ?_
     refine TL_x 11 rfl rfl rfl rfl rfl ?_
     refine TL_x 11 rfl rfl rfl rfl rfl ?_
     refine TL_x 11 rfl rfl rfl rfl rfl ?_
     refine TL_v (.bool false) (s_pf rfl rfl) rfl rfl ?_
     refine TL_v (.bool false) (s_mv rfl) rfl rfl ?_
     refine TL_x 16 rfl rfl rfl rfl rfl ?_
     refine TL_x 16 rfl rfl rfl rfl rfl ?_
     refine TL_x 16 rfl rfl rfl rfl rfl ?_
     refine TL_v (.bool false) (s_pf rfl rfl) rfl rfl ?_
     refine TL_v (.bool false) (s_as rfl) rfl rfl ?_
     refine TL_seq ?_
     refine T_ret' ?_
     refine ret_of rfl (.bool false) (fun tmps w hk hm => res1 rfl (res_tmp (hk 2 _ rfl))) (fun w hm => ?_)
     exact ⟨congrArg Ending.returned (bool_as (decide_eq_false (by omega)).symm), hm.ext⟩
    ·skip
     refine T_seq (T_region ?_)
     refine TL_v (pt B1 0) (s_fa fl109_0 sz3 rfl) rfl rfl ?_
     refine TL_v (.int .i64 x) (s_ld ag3 rfl 1 rfl rfl) rfl rfl ?_
     refine TL_v (.bool true) (s_op r_geq rfl rfl (bool_as (decide_eq_true c1))) rfl rfl ?_
     refine TL_v (.bool true) (s_mv rfl) rfl rfl ?_
     refine TL_q (pt B1 0) (s_fa fl109_0 sz3 rfl) rfl rfl rfl (want_y 6 rfl rfl rfl) ?_
     refine TL_q (.int .i64 x) (s_ld ag3 rfl 1 rfl rfl) rfl rfl rfl (want_y 6 rfl rfl rfl) ?_
     refine TL_q (.bool false) (s_op r_leq rfl rfl (bool_as (decide_eq_false c2))) rfl rfl rfl (want_y 6 rfl rfl rfl) ?_
     refine TL_v (.bool false) (s_pt rfl rfl) rfl rfl ?_
     refine TL_v (.bool false) (s_mv rfl) rfl rfl ?_
     refine TL_x 11 rfl rfl rfl rfl rfl ?_
     refine TL_x 11 rfl rfl rfl rfl rfl ?_
     refine TL_x 11 rfl rfl rfl rfl rfl ?_
     refine TL_v (.bool false) (s_pf rfl rfl) rfl rfl ?_
     refine TL_v (.bool false) (s_mv rfl) rfl rfl ?_
     refine TL_x 16 rfl rfl rfl rfl rfl ?_
     refine TL_x 16 rfl rfl rfl rfl rfl ?_
     refine TL_x 16 rfl rfl rfl rfl rfl ?_
     refine TL_v (.bool false) (s_pf rfl rfl) rfl rfl ?_
     refine TL_v (.bool false) (s_as rfl) rfl rfl ?_
     refine TL_seq ?_
     refine T_ret' ?_
     refine ret_of rfl (.bool false) (fun tmps w hk hm => res1 rfl (res_tmp (hk 2 _ rfl))) (fun w hm => ?_)
     exact ⟨congrArg Ending.returned (bool_as (decide_eq_false (by omega)).symm), hm.ext⟩
   ·skip
    by_cases c4 : y ≤ 4
    ·skip
     refine T_seq (T_region ?_)
     refine TL_v (pt B1 0) (s_fa fl109_0 sz3 rfl) rfl rfl ?_
     refine TL_v (.int .i64 x) (s_ld ag3 rfl 1 rfl rfl) rfl rfl ?_
     refine TL_v (.bool true) (s_op r_geq rfl rfl (bool_as (decide_eq_true c1))) rfl rfl ?_
     refine TL_v (.bool true) (s_mv rfl) rfl rfl ?_
     refine TL_q (pt B1 0) (s_fa fl109_0 sz3 rfl) rfl rfl rfl (want_y 6 rfl rfl rfl) ?_
     refine TL_q (.int .i64 x) (s_ld ag3 rfl 1 rfl rfl) rfl rfl rfl (want_y 6 rfl rfl rfl) ?_
     refine TL_q (.bool false) (s_op r_leq rfl rfl (bool_as (decide_eq_false c2))) rfl rfl rfl (want_y 6 rfl rfl rfl) ?_
     refine TL_v (.bool false) (s_pt rfl rfl) rfl rfl ?_
     refine TL_v (.bool false) (s_mv rfl) rfl rfl ?_
     refine TL_x 11 rfl rfl rfl rfl rfl ?_
     refine TL_x 11 rfl rfl rfl rfl rfl ?_
     refine TL_x 11 rfl rfl rfl rfl rfl ?_
     refine TL_v (.bool false) (s_pf rfl rfl) rfl rfl ?_
     refine TL_v (.bool false) (s_mv rfl) rfl rfl ?_
     refine TL_x 16 rfl rfl rfl rfl rfl ?_
     refine TL_x 16 rfl rfl rfl rfl rfl ?_
     refine TL_x 16 rfl rfl rfl rfl rfl ?_
     refine TL_v (.bool false) (s_pf rfl rfl) rfl rfl ?_
     refine TL_v (.bool false) (s_as rfl) rfl rfl ?_
     refine TL_seq ?_
     refine T_ret' ?_
     refine ret_of rfl (.bool false) (fun tmps w hk hm => res1 rfl (res_tmp (hk 2 _ rfl))) (fun w hm => ?_)
     exact ⟨congrArg Ending.returned (bool_as (decide_eq_false (by omega)).symm), hm.ext⟩
    ·skip
     refine T_seq (T_region ?_)
     refine TL_v (pt B1 0) (s_fa fl109_0 sz3 rfl) rfl rfl ?_
     refine TL_v (.int .i64 x) (s_ld ag3 rfl 1 rfl rfl) rfl rfl ?_
     refine TL_v (.bool true) (s_op r_geq rfl rfl (bool_as (decide_eq_true c1))) rfl rfl ?_
     refine TL_v (.bool true) (s_mv rfl) rfl rfl ?_
     refine TL_q (pt B1 0) (s_fa fl109_0 sz3 rfl) rfl rfl rfl (want_y 6 rfl rfl rfl) ?_
     refine TL_q (.int .i64 x) (s_ld ag3 rfl 1 rfl rfl) rfl rfl rfl (want_y 6 rfl rfl rfl) ?_
     refine TL_q (.bool false) (s_op r_leq rfl rfl (bool_as (decide_eq_false c2))) rfl rfl rfl (want_y 6 rfl rfl rfl) ?_
     refine TL_v (.bool false) (s_pt rfl rfl) rfl rfl ?_
     refine TL_v (.bool false) (s_mv rfl) rfl rfl ?_
     refine TL_x 11 rfl rfl rfl rfl rfl ?_
     refine TL_x 11 rfl rfl rfl rfl rfl ?_
     refine TL_x 11 rfl rfl rfl rfl rfl ?_
     refine TL_v (.bool false) (s_pf rfl rfl) rfl rfl ?_
     refine TL_v (.bool false) (s_mv rfl) rfl rfl ?_
     refine TL_x 16 rfl rfl rfl rfl rfl ?_
     refine TL_x 16 rfl rfl rfl rfl rfl ?_
     refine TL_x 16 rfl rfl rfl rfl rfl ?_
     refine TL_v (.bool false) (s_pf rfl rfl) rfl rfl ?_
     refine TL_v (.bool false) (s_as rfl) rfl rfl ?_
     refine TL_seq ?_
     refine T_ret' ?_
     refine ret_of rfl (.bool false) (fun tmps w hk hm => res1 rfl (res_tmp (hk 2 _ rfl))) (fun w hm => ?_)
     exact ⟨congrArg Ending.returned (bool_as (decide_eq_false (by omega)).symm), hm.ext⟩
 ·skip
  by_cases c2 : x ≤ 4
  ·skip
   by_cases c3 : (1 : Int) ≤ y
   ·skip
    by_cases c4 : y ≤ 4
    ·skip
     refine T_seq (T_region ?_)
     refine TL_v (pt B1 0) (s_fa fl109_0 sz3 rfl) rfl rfl ?_
     refine TL_v (.int .i64 x) (s_ld ag3 rfl 1 rfl rfl) rfl rfl ?_
     refine TL_v (.bool false) (s_op r_geq rfl rfl (bool_as (decide_eq_false c1))) rfl rfl ?_
     refine TL_v (.bool false) (s_mv rfl) rfl rfl ?_
     refine TL_x 6 rfl rfl rfl rfl rfl ?_
     refine TL_x 6 rfl rfl rfl rfl rfl ?_
     refine TL_x 6 rfl rfl rfl rfl rfl ?_
     refine TL_v (.bool false) (s_pf rfl rfl) rfl rfl ?_
     refine TL_v (.bool false) (s_mv rfl) rfl rfl ?_
     refine TL_x 11 rfl rfl rfl rfl rfl ?_
     refine TL_x 11 rfl rfl rfl rfl rfl ?_
     refine TL_x 11 rfl rfl rfl rfl rfl ?_
     refine TL_v (.bool false) (s_pf rfl rfl) rfl rfl ?_
     refine TL_v (.bool false) (s_mv rfl) rfl rfl ?_
     refine TL_x 16 rfl rfl rfl rfl rfl ?_
     refine TL_x 16 rfl rfl rfl rfl rfl ?_
     refine TL_x 16 rfl rfl rfl rfl rfl ?_
     refine TL_v (.bool false) (s_pf rfl rfl) rfl rfl ?_
     refine TL_v (.bool false) (s_as rfl) rfl rfl ?_
     refine TL_seq ?_
     refine T_ret' ?_
     refine ret_of rfl (.bool false) (fun tmps w hk hm => res1 rfl (res_tmp (hk 2 _ rfl))) (fun w hm => ?_)
     exact ⟨congrArg Ending.returned (bool_as (decide_eq_false (by omega)).symm), hm.ext⟩
    ·skip
     refine T_seq (T_region ?_)
     refine TL_v (pt B1 0) (s_fa fl109_0 sz3 rfl) rfl rfl ?_
     refine TL_v (.int .i64 x) (s_ld ag3 rfl 1 rfl rfl) rfl rfl ?_
     refine TL_v (.bool false) (s_op r_geq rfl rfl (bool_as (decide_eq_false c1))) rfl rfl ?_
     refine TL_v (.bool false) (s_mv rfl) rfl rfl ?_
     refine TL_x 6 rfl rfl rfl rfl rfl ?_
     refine TL_x 6 rfl rfl rfl rfl rfl ?_
     refine TL_x 6 rfl rfl rfl rfl rfl ?_
     refine TL_v (.bool false) (s_pf rfl rfl) rfl rfl ?_
     refine TL_v (.bool false) (s_mv rfl) rfl rfl ?_
     refine TL_x 11 rfl rfl rfl rfl rfl ?_
     refine TL_x 11 rfl rfl rfl rfl rfl ?_
     refine TL_x 11 rfl rfl rfl rfl rfl ?_
     refine TL_v (.bool false) (s_pf rfl rfl) rfl rfl ?_
     refine TL_v (.bool false) (s_mv rfl) rfl rfl ?_
     refine TL_x 16 rfl rfl rfl rfl rfl ?_
     refine TL_x 16 rfl rfl rfl rfl rfl ?_
     refine TL_x 16 rfl rfl rfl rfl rfl ?_
     refine TL_v (.bool false) (s_pf rfl rfl) rfl rfl ?_
     refine TL_v (.bool false) (s_as rfl) rfl rfl ?_
     refine TL_seq ?_
     refine T_ret' ?_
     refine ret_of rfl (.bool false) (fun tmps w hk hm => res1 rfl (res_tmp (hk 2 _ rfl))) (fun w hm => ?_)
     exact ⟨congrArg Ending.returned (bool_as (decide_eq_false (by omega)).symm), hm.ext⟩
   ·skip
    by_cases c4 : y ≤ 4
    ·skip
     refine T_seq (T_region ?_)
     refine TL_v (pt B1 0) (s_fa fl109_0 sz3 rfl) rfl rfl ?_
     refine TL_v (.int .i64 x) (s_ld ag3 rfl 1 rfl rfl) rfl rfl ?_
     refine TL_v (.bool false) (s_op r_geq rfl rfl (bool_as (decide_eq_false c1))) rfl rfl ?_
     refine TL_v (.bool false) (s_mv rfl) rfl rfl ?_
     refine TL_x 6 rfl rfl rfl rfl rfl ?_
     refine TL_x 6 rfl rfl rfl rfl rfl ?_
     refine TL_x 6 rfl rfl rfl rfl rfl ?_
     refine TL_v (.bool false) (s_pf rfl rfl) rfl rfl ?_
     refine TL_v (.bool false) (s_mv rfl) rfl rfl ?_
     refine TL_x 11 rfl rfl rfl rfl rfl ?_
     refine TL_x 11 rfl rfl rfl rfl rfl ?_
     refine TL_x 11 rfl rfl rfl rfl rfl ?_
     refine TL_v (.bool false) (s_pf rfl rfl) rfl rfl ?_
     refine TL_v (.bool false) (s_mv rfl) rfl rfl ?_
     refine TL_x 16 rfl rfl rfl rfl rfl ?_
     refine TL_x 16 rfl rfl rfl rfl rfl ?_
     refine TL_x 16 rfl rfl rfl rfl rfl ?_
     refine TL_v (.bool false) (s_pf rfl rfl) rfl rfl ?_
     refine TL_v (.bool false) (s_as rfl) rfl rfl ?_
     refine TL_seq ?_
     refine T_ret' ?_
     refine ret_of rfl (.bool false) (fun tmps w hk hm => res1 rfl (res_tmp (hk 2 _ rfl))) (fun w hm => ?_)
     exact ⟨congrArg Ending.returned (bool_as (decide_eq_false (by omega)).symm), hm.ext⟩
    ·skip
     refine T_seq (T_region ?_)
     refine TL_v (pt B1 0) (s_fa fl109_0 sz3 rfl) rfl rfl ?_
     refine TL_v (.int .i64 x) (s_ld ag3 rfl 1 rfl rfl) rfl rfl ?_
     refine TL_v (.bool false) (s_op r_geq rfl rfl (bool_as (decide_eq_false c1))) rfl rfl ?_
     refine TL_v (.bool false) (s_mv rfl) rfl rfl ?_
     refine TL_x 6 rfl rfl rfl rfl rfl ?_
     refine TL_x 6 rfl rfl rfl rfl rfl ?_
     refine TL_x 6 rfl rfl rfl rfl rfl ?_
     refine TL_v (.bool false) (s_pf rfl rfl) rfl rfl ?_
     refine TL_v (.bool false) (s_mv rfl) rfl rfl ?_
     refine TL_x 11 rfl rfl rfl rfl rfl ?_
     refine TL_x 11 rfl rfl rfl rfl rfl ?_
     refine TL_x 11 rfl rfl rfl rfl rfl ?_
     refine TL_v (.bool false) (s_pf rfl rfl) rfl rfl ?_
     refine TL_v (.bool false) (s_mv rfl) rfl rfl ?_
     refine TL_x 16 rfl rfl rfl rfl rfl ?_
     refine TL_x 16 rfl rfl rfl rfl rfl ?_
     refine TL_x 16 rfl rfl rfl rfl rfl ?_
     refine TL_v (.bool false) (s_pf rfl rfl) rfl rfl ?_
     refine TL_v (.bool false) (s_as rfl) rfl rfl ?_
     refine TL_seq ?_
     refine T_ret' ?_
     refine ret_of rfl (.bool false) (fun tmps w hk hm => res1 rfl (res_tmp (hk 2 _ rfl))) (fun w hm => ?_)
     exact ⟨congrArg Ending.returned (bool_as (decide_eq_false (by omega)).symm), hm.ext⟩
  ·skip
   by_cases c3 : (1 : Int) ≤ y
   ·skip
    by_cases c4 : y ≤ 4
    ·skip
     refine T_seq (T_region ?_)
     refine TL_v (pt B1 0) (s_fa fl109_0 sz3 rfl) rfl rfl ?_
     refine TL_v (.int .i64 x) (s_ld ag3 rfl 1 rfl rfl) rfl rfl ?_
     refine TL_v (.bool false) (s_op r_geq rfl rfl (bool_as (decide_eq_false c1))) rfl rfl ?_
     refine TL_v (.bool false) (s_mv rfl) rfl rfl ?_
     refine TL_x 6 rfl rfl rfl rfl rfl ?_
     refine TL_x 6 rfl rfl rfl rfl rfl ?_
     refine TL_x 6 rfl rfl rfl rfl rfl ?_
     refine TL_v (.bool false) (s_pf rfl rfl) rfl rfl ?_
     refine TL_v (.bool false) (s_mv rfl) rfl rfl ?_
     refine TL_x 11 rfl rfl rfl rfl rfl ?_
     refine TL_x 11 rfl rfl rfl rfl rfl ?_
     refine TL_x 11 rfl rfl rfl rfl rfl ?_
     refine TL_v (.bool false) (s_pf rfl rfl) rfl rfl ?_
     refine TL_v (.bool false) (s_mv rfl) rfl rfl ?_
     refine TL_x 16 rfl rfl rfl rfl rfl ?_
     refine TL_x 16 rfl rfl rfl rfl rfl ?_
     refine TL_x 16 rfl rfl rfl rfl rfl ?_
     refine TL_v (.bool false) (s_pf rfl rfl) rfl rfl ?_
     refine TL_v (.bool false) (s_as rfl) rfl rfl ?_
     refine TL_seq ?_
     refine T_ret' ?_
     refine ret_of rfl (.bool false) (fun tmps w hk hm => res1 rfl (res_tmp (hk 2 _ rfl))) (fun w hm => ?_)
     exact ⟨congrArg Ending.returned (bool_as (decide_eq_false (by omega)).symm), hm.ext⟩
    ·skip
     refine T_seq (T_region ?_)
     refine TL_v (pt B1 0) (s_fa fl109_0 sz3 rfl) rfl rfl ?_
     refine TL_v (.int .i64 x) (s_ld ag3 rfl 1 rfl rfl) rfl rfl ?_
     refine TL_v (.bool false) (s_op r_geq rfl rfl (bool_as (decide_eq_false c1))) rfl rfl ?_
     refine TL_v (.bool false) (s_mv rfl) rfl rfl ?_
     refine TL_x 6 rfl rfl rfl rfl rfl ?_
     refine TL_x 6 rfl rfl rfl rfl rfl ?_
     refine TL_x 6 rfl rfl rfl rfl rfl ?_
     refine TL_v (.bool false) (s_pf rfl rfl) rfl rfl ?_
     refine TL_v (.bool false) (s_mv rfl) rfl rfl ?_
     refine TL_x 11 rfl rfl rfl rfl rfl ?_
     refine TL_x 11 rfl rfl rfl rfl rfl ?_
     refine TL_x 11 rfl rfl rfl rfl rfl ?_
     refine TL_v (.bool false) (s_pf rfl rfl) rfl rfl ?_
     refine TL_v (.bool false) (s_mv rfl) rfl rfl ?_
     refine TL_x 16 rfl rfl rfl rfl rfl ?_
     refine TL_x 16 rfl rfl rfl rfl rfl ?_
     refine TL_x 16 rfl rfl rfl rfl rfl ?_
     refine TL_v (.bool false) (s_pf rfl rfl) rfl rfl ?_
     refine TL_v (.bool false) (s_as rfl) rfl rfl ?_
     refine TL_seq ?_
     refine T_ret' ?_
     refine ret_of rfl (.bool false) (fun tmps w hk hm => res1 rfl (res_tmp (hk 2 _ rfl))) (fun w hm => ?_)
     exact ⟨congrArg Ending.returned (bool_as (decide_eq_false (by omega)).symm), hm.ext⟩
   ·skip
    by_cases c4 : y ≤ 4
    ·skip
     refine T_seq (T_region ?_)
     refine TL_v (pt B1 0) (s_fa fl109_0 sz3 rfl) rfl rfl ?_
     refine TL_v (.int .i64 x) (s_ld ag3 rfl 1 rfl rfl) rfl rfl ?_
     refine TL_v (.bool false) (s_op r_geq rfl rfl (bool_as (decide_eq_false c1))) rfl rfl ?_
     refine TL_v (.bool false) (s_mv rfl) rfl rfl ?_
     refine TL_x 6 rfl rfl rfl rfl rfl ?_
     refine TL_x 6 rfl rfl rfl rfl rfl ?_
     refine TL_x 6 rfl rfl rfl rfl rfl ?_
     refine TL_v (.bool false) (s_pf rfl rfl) rfl rfl ?_
     refine TL_v (.bool false) (s_mv rfl) rfl rfl ?_
     refine TL_x 11 rfl rfl rfl rfl rfl ?_
     refine TL_x 11 rfl rfl rfl rfl rfl ?_
     refine TL_x 11 rfl rfl rfl rfl rfl ?_
     refine TL_v (.bool false) (s_pf rfl rfl) rfl rfl ?_
     refine TL_v (.bool false) (s_mv rfl) rfl rfl ?_
     refine TL_x 16 rfl rfl rfl rfl rfl ?_
     refine TL_x 16 rfl rfl rfl rfl rfl ?_
     refine TL_x 16 rfl rfl rfl rfl rfl ?_
     refine TL_v (.bool false) (s_pf rfl rfl) rfl rfl ?_
     refine TL_v (.bool false) (s_as rfl) rfl rfl ?_
     refine TL_seq ?_
     refine T_ret' ?_
     refine ret_of rfl (.bool false) (fun tmps w hk hm => res1 rfl (res_tmp (hk 2 _ rfl))) (fun w hm => ?_)
     exact ⟨congrArg Ending.returned (bool_as (decide_eq_false (by omega)).symm), hm.ext⟩
    ·skip
     refine T_seq (T_region ?_)
     refine TL_v (pt B1 0) (s_fa fl109_0 sz3 rfl) rfl rfl ?_
     refine TL_v (.int .i64 x) (s_ld ag3 rfl 1 rfl rfl) rfl rfl ?_
     refine TL_v (.bool false) (s_op r_geq rfl rfl (bool_as (decide_eq_false c1))) rfl rfl ?_
     refine TL_v (.bool false) (s_mv rfl) rfl rfl ?_
     refine TL_x 6 rfl rfl rfl rfl rfl ?_
     refine TL_x 6 rfl rfl rfl rfl rfl ?_
     refine TL_x 6 rfl rfl rfl rfl rfl ?_
     refine TL_v (.bool false) (s_pf rfl rfl) rfl rfl ?_
     refine TL_v (.bool false) (s_mv rfl) rfl rfl ?_
     refine TL_x 11 rfl rfl rfl rfl rfl ?_
     refine TL_x 11 rfl rfl rfl rfl rfl ?_
     refine TL_x 11 rfl rfl rfl rfl rfl ?_
     refine TL_v (.bool false) (s_pf rfl rfl) rfl rfl ?_
     refine TL_v (.bool false) (s_mv rfl) rfl rfl ?_
     refine TL_x 16 rfl rfl rfl rfl rfl ?_
     refine TL_x 16 rfl rfl rfl rfl rfl ?_
     refine TL_x 16 rfl rfl rfl rfl rfl ?_
     refine TL_v (.bool false) (s_pf rfl rfl) rfl rfl ?_
     refine TL_v (.bool false) (s_as rfl) rfl rfl ?_
     refine TL_seq ?_
     refine T_ret' ?_
     refine ret_of rfl (.bool false) (fun tmps w hk hm => res1 rfl (res_tmp (hk 2 _ rfl))) (fun w hm => ?_)
     exact ⟨congrArg Ending.returned (bool_as (decide_eq_false (by omega)).symm), hm.ext⟩

theorem place_in (wd hg u v : Nat) (w : World) (hwd : 1 ≤ wd ∧ wd ≤ 4) (hhg : 1 ≤ hg ∧ hg ≤ 4) (hu : u < 8 * wd) (hv : v < 8 * hg) : Calls Try.prog 66 #[.agg #[.int .i64 (wd : Int), .int .i64 (hg : Int)], .int .i64 (u : Int), .int .i64 (v : Int)] w fun e w' => e = .returned (.tuple #[.int .i64 ((v / 8 * wd + u / 8 : Nat) : Int), .agg #[.int .i64 ((u % 8 : Nat) : Int), .int .i64 ((v % 8 : Nat) : Int)], .bool true]) ∧ Below w.heap.size w w' := by
 have hix := idx_lt hu hv
 have h16 := size4 hwd hhg
 refine calls_of_T (l := [.agg #[iN wd, iN hg], iN u, iN v]) 46 Try.func66 rfl rfl rfl ?_
 show T _ _ _ [(0, .agg #[iN wd, iN hg]), (1, iN u), (2, iN v)] []
 refine T_seq (T_region ?_)
 refine TL_new 1 (.cells #[iN wd, iN hg] 109) (fun B => pt B 0) (fun _ _ j _ => r_box (j _ _ rfl) rfl) rfl rfl rfl (w_n rfl) ?_
 intro B1
 refine TL_v (.int .i64 0) (s_as rfl) rfl rfl ?_
 refine TL_new 2 (.cells #[.int .i64 0, .int .i64 0] 47) (fun B => pt B 0) (fun _ _ _ _ => r_alloc (v := .agg #[.int .i64 0, .int .i64 0]) (by kernel_rfl) rfl) rfl rfl rfl (w_n rfl) ?_
 intro B2
 refine TL_v (.bool false) (s_as rfl) rfl rfl ?_
 refine TL_seq ?_
 have f1 : (0 : Int) ≤ ((u : Nat) : Int) := by omega
 have f2 : (0 : Int) ≤ ((v : Nat) : Int) := by omega
 have f3 : ((u : Nat) : Int) < ((8 * wd : Nat) : Int) := by omega
 have f4 : ((v : Nat) : Int) < ((8 * hg : Nat) : Int) := by omega
 refine T_seq (T_region ?_)
 refine TL_v (iN u) (s_mv rfl) rfl rfl ?_
 refine TL_v (.bool true) (s_op r_geq rfl rfl (bool_as (decide_eq_true f1))) rfl rfl ?_
 refine TL_v (.bool true) (s_mv rfl) rfl rfl ?_
 refine TL_q (iN v) (s_mv rfl) rfl rfl rfl (want_y 12 rfl rfl rfl) ?_
 refine TL_q (.bool true) (s_op r_geq rfl rfl (bool_as (decide_eq_true f2))) rfl rfl rfl (want_y 12 rfl rfl rfl) ?_
 refine TL_v (.bool true) (s_pt rfl rfl) rfl rfl ?_
 refine TL_v (.bool true) (s_mv rfl) rfl rfl ?_
 refine TL_q (iN u) (s_mv rfl) rfl rfl rfl (want_y 16 rfl rfl rfl) ?_
 refine TL_q (pt B1 0) (s_fa fl109_0 sz3 rfl) rfl rfl rfl (want_y 16 rfl rfl rfl) ?_
 refine TL_q (iN wd) (s_ld ag3 rfl 1 rfl rfl) rfl rfl rfl (want_y 16 rfl rfl rfl) ?_
 refine TL_q (iN (8 * wd)) (s_op r_mul rfl rfl (iw (by omega) (by omega) (by omega))) rfl rfl rfl (want_y 16 rfl rfl rfl) ?_
 refine TL_q (.bool true) (s_op r_lss rfl rfl (bool_as (decide_eq_true f3))) rfl rfl rfl (want_y 16 rfl rfl rfl) ?_
 refine TL_v (.bool true) (s_pt rfl rfl) rfl rfl ?_
 refine TL_v (.bool true) (s_mv rfl) rfl rfl ?_
 refine TL_q (iN v) (s_mv rfl) rfl rfl rfl (want_y 23 rfl rfl rfl) ?_
 refine TL_q (pt B1 1) (s_fa fl109_1 sz3 rfl) rfl rfl rfl (want_y 23 rfl rfl rfl) ?_
 refine TL_q (iN hg) (s_ld ag3 rfl 1 rfl rfl) rfl rfl rfl (want_y 23 rfl rfl rfl) ?_
 refine TL_q (iN (8 * hg)) (s_op r_mul rfl rfl (iw (by omega) (by omega) (by omega))) rfl rfl rfl (want_y 23 rfl rfl rfl) ?_
 refine TL_q (.bool true) (s_op r_lss rfl rfl (bool_as (decide_eq_true f4))) rfl rfl rfl (want_y 23 rfl rfl rfl) ?_
 refine TL_v (.bool true) (s_pt rfl rfl) rfl rfl ?_
 refine TL_v (.bool true) (s_as rfl) rfl rfl ?_
 refine TL_seq ?_
 refine T_seq ?_
 refine T_seq (T_region ?_)
 refine TL_v (.bool true) (s_mv rfl) rfl rfl ?_
 refine TL_v (.bool false) (fun _ _ j _ => r_not (b := true) (j _ _ rfl)) rfl rfl ?_
 refine TL_seq ?_
 refine T_cond_f rfl ?_
 refine T_skip' ?_
 refine p_seq ?_
 refine T_seq (T_region ?_)
 refine TL_v (iN v) (s_mv rfl) rfl rfl ?_
 refine TL_v (iN (v / 8)) (fun _ _ j _ => r_as (r_quo (j _ _ rfl) (j _ _ rfl) (by omega)) (int_as ((quo_i64 (by omega) (by omega) (by omega)).trans (by omega)))) rfl rfl ?_
 refine TL_v (pt B1 0) (s_fa fl109_0 sz3 rfl) rfl rfl ?_
 refine TL_v (iN wd) (s_ld ag3 rfl 1 rfl rfl) rfl rfl ?_
 refine TL_v (iN ((v / 8) * wd)) (s_op r_mul rfl rfl (iw (by omega) (by omega) (by omega))) rfl rfl ?_
 refine TL_v (iN u) (s_mv rfl) rfl rfl ?_
 refine TL_v (iN (u / 8)) (fun _ _ j _ => r_as (r_quo (j _ _ rfl) (j _ _ rfl) (by omega)) (int_as ((quo_i64 (by omega) (by omega) (by omega)).trans (by omega)))) rfl rfl ?_
 refine TL_v (iN (((v / 8) * wd) + (u / 8))) (s_op r_add rfl rfl (iw (by omega) (by omega) (by omega))) rfl rfl ?_
 refine TL_v (iN u) (s_mv rfl) rfl rfl ?_
 refine TL_v (iN (u % 8)) (fun _ _ j _ => r_as (r_rem (j _ _ rfl) (j _ _ rfl) (by omega)) (int_as ((Int.tmod_eq_emod_of_nonneg (by omega)).trans (by omega)))) rfl rfl ?_
 refine TL_v (iN v) (s_mv rfl) rfl rfl ?_
 refine TL_v (iN (v % 8)) (fun _ _ j _ => r_as (r_rem (j _ _ rfl) (j _ _ rfl) (by omega)) (int_as ((Int.tmod_eq_emod_of_nonneg (by omega)).trans (by omega)))) rfl rfl ?_
 refine TL_v (.agg #[iN (u % 8), iN (v % 8)]) (fun _ _ j _ => r_build (vs := [(0, iN (u % 8)), (1, iN (v % 8))]) (by kernel_rfl) (cons2 (pair2 (j _ _ rfl)) (cons2 (pair2 (j _ _ rfl)) rfl))) rfl rfl ?_
 refine TL_v (iN (((v / 8) * wd) + (u / 8))) (s_as rfl) rfl rfl ?_
 refine TL_store 2 (.cells #[iN (u % 8), iN (v % 8)] 47) rfl (s_st sz47 rfl rfl 2 rfl rfl rfl rfl rfl) rfl rfl (w_n rfl) ?_
 refine TL_v (.bool true) (s_as rfl) rfl rfl ?_
 refine TL_seq ?_
 refine T_sub [(7, pt B2 0), (6, iN (((v / 8) * wd) + (u / 8))), (8, .bool true)] [(1, .blk B1 (.cells #[iN wd, iN hg] 109)), (2, .blk B2 (.cells #[iN (u % 8), iN (v % 8)] 47))] (sc rfl (sc rfl (sc rfl sub_nil))) (sc rfl (sc rfl sub_nil)) ?_
 refine T_ret' ?_
 refine ret_of rfl (.tuple #[iN (((v / 8) * wd) + (u / 8)), .agg #[iN (u % 8), iN (v % 8)], .bool true]) (fun tmps w hk hm => res3 rfl (res_tmp (hk 6 _ rfl)) (res_cell (hk 7 _ rfl) (run_loadVar_agg ag47 sz47 (hm.at 2 rfl) (Nat.le_of_ble_eq_true rfl) rfl)) (res_tmp (hk 8 _ rfl))) (fun w hm => ?_)
 exact ⟨rfl, hm.ext⟩

theorem place_out (wd hg : Nat) (x y : Int) (w : World) (hwd : 1 ≤ wd ∧ wd ≤ 4) (hhg : 1 ≤ hg ∧ hg ≤ 4) (hon : ¬ onC wd hg x y = true) : Calls Try.prog 66 #[.agg #[.int .i64 (wd : Int), .int .i64 (hg : Int)], .int .i64 x, .int .i64 y] w fun e w' => e = .returned (.tuple #[.int .i64 0, .agg #[.int .i64 0, .int .i64 0], .bool false]) ∧ Below w.heap.size w w' := by
 have hn : ¬ (0 ≤ x ∧ 0 ≤ y ∧ x < 8 * wd ∧ y < 8 * hg) := fun e => hon (decide_eq_true e)
 refine calls_of_T (l := [.agg #[iN wd, iN hg], .int .i64 x, .int .i64 y]) 46 Try.func66 rfl rfl rfl ?_
 show T _ _ _ [(0, .agg #[iN wd, iN hg]), (1, .int .i64 x), (2, .int .i64 y)] []
 refine T_seq (T_region ?_)
 refine TL_new 1 (.cells #[iN wd, iN hg] 109) (fun B => pt B 0) (fun _ _ j _ => r_box (j _ _ rfl) rfl) rfl rfl rfl (w_n rfl) ?_
 intro B1
 refine TL_v (.int .i64 0) (s_as rfl) rfl rfl ?_
 refine TL_new 2 (.cells #[.int .i64 0, .int .i64 0] 47) (fun B => pt B 0) (fun _ _ _ _ => r_alloc (v := .agg #[.int .i64 0, .int .i64 0]) (by kernel_rfl) rfl) rfl rfl rfl (w_n rfl) ?_
 intro B2
 refine TL_v (.bool false) (s_as rfl) rfl rfl ?_
 refine TL_seq ?_
 by_cases c1 : (0 : Int) ≤ x
 ·skip
  by_cases c2 : (0 : Int) ≤ y
  ·skip
   by_cases c3 : x < ((8 * wd : Nat) : Int)
   ·skip
    have c4 : ¬ y < ((8 * hg : Nat) : Int) := by omega
    refine T_seq (T_region ?_)
    refine TL_v (.int .i64 x) (s_mv rfl) rfl rfl ?_
    refine TL_v (.bool true) (s_op r_geq rfl rfl (bool_as (decide_eq_true c1))) rfl rfl ?_
    refine TL_v (.bool true) (s_mv rfl) rfl rfl ?_
    refine TL_q (.int .i64 y) (s_mv rfl) rfl rfl rfl (want_y 12 rfl rfl rfl) ?_
    refine TL_q (.bool true) (s_op r_geq rfl rfl (bool_as (decide_eq_true c2))) rfl rfl rfl (want_y 12 rfl rfl rfl) ?_
    refine TL_v (.bool true) (s_pt rfl rfl) rfl rfl ?_
    refine TL_v (.bool true) (s_mv rfl) rfl rfl ?_
    refine TL_q (.int .i64 x) (s_mv rfl) rfl rfl rfl (want_y 16 rfl rfl rfl) ?_
    refine TL_q (pt B1 0) (s_fa fl109_0 sz3 rfl) rfl rfl rfl (want_y 16 rfl rfl rfl) ?_
    refine TL_q (iN wd) (s_ld ag3 rfl 1 rfl rfl) rfl rfl rfl (want_y 16 rfl rfl rfl) ?_
    refine TL_q (iN (8 * wd)) (s_op r_mul rfl rfl (iw (by omega) (by omega) (by omega))) rfl rfl rfl (want_y 16 rfl rfl rfl) ?_
    refine TL_q (.bool true) (s_op r_lss rfl rfl (bool_as (decide_eq_true c3))) rfl rfl rfl (want_y 16 rfl rfl rfl) ?_
    refine TL_v (.bool true) (s_pt rfl rfl) rfl rfl ?_
    refine TL_v (.bool true) (s_mv rfl) rfl rfl ?_
    refine TL_q (.int .i64 y) (s_mv rfl) rfl rfl rfl (want_y 23 rfl rfl rfl) ?_
    refine TL_q (pt B1 1) (s_fa fl109_1 sz3 rfl) rfl rfl rfl (want_y 23 rfl rfl rfl) ?_
    refine TL_q (iN hg) (s_ld ag3 rfl 1 rfl rfl) rfl rfl rfl (want_y 23 rfl rfl rfl) ?_
    refine TL_q (iN (8 * hg)) (s_op r_mul rfl rfl (iw (by omega) (by omega) (by omega))) rfl rfl rfl (want_y 23 rfl rfl rfl) ?_
    refine TL_q (.bool false) (s_op r_lss rfl rfl (bool_as (decide_eq_false c4))) rfl rfl rfl (want_y 23 rfl rfl rfl) ?_
    refine TL_v (.bool false) (s_pt rfl rfl) rfl rfl ?_
    refine TL_v (.bool false) (s_as rfl) rfl rfl ?_
    refine TL_seq ?_
    refine T_seq ?_
    refine T_seq (T_region ?_)
    refine TL_v (.bool false) (s_mv rfl) rfl rfl ?_
    refine TL_v (.bool true) (fun _ _ j _ => r_not (b := false) (j _ _ rfl)) rfl rfl ?_
    refine TL_seq ?_
    refine T_cond_t rfl ?_
    refine T_seq (T_region ?_)
    refine TL_v (.agg #[.int .i64 0, .int .i64 0]) (fun _ _ _ _ => r_build (vs := []) (by kernel_rfl) rfl) rfl rfl ?_
    refine TL_v (.int .i64 0) (s_as rfl) rfl rfl ?_
    refine TL_store 2 (.cells #[.int .i64 0, .int .i64 0] 47) rfl (s_st sz47 rfl rfl 2 rfl rfl rfl rfl rfl) rfl rfl (w_n rfl) ?_
    refine TL_v (.bool false) (s_as rfl) rfl rfl ?_
    refine TL_seq ?_
    refine T_sub [(1, .int .i64 x), (2, .int .i64 y), (3, pt B1 0), (7, pt B2 0), (6, .int .i64 0), (8, .bool false)] [(1, .blk B1 (.cells #[iN wd, iN hg] 109)), (2, .blk B2 (.cells #[.int .i64 0, .int .i64 0] 47))] (sc4 rfl rfl rfl rfl (sc rfl (sc rfl sub_nil))) (sc rfl (sc rfl sub_nil)) ?_
    refine T_ret' ?_
    refine p_then_r ?_
    refine ret_of rfl (.tuple #[.int .i64 0, .agg #[.int .i64 0, .int .i64 0], .bool false]) (fun tmps w hk hm => res3 rfl (res_tmp (hk 6 _ rfl)) (res_cell (hk 7 _ rfl) (run_loadVar_agg ag47 sz47 (hm.at 2 rfl) (Nat.le_of_ble_eq_true rfl) rfl)) (res_tmp (hk 8 _ rfl))) (fun w hm => ?_)
    exact ⟨rfl, hm.ext⟩
   ·skip
    refine T_seq (T_region ?_)
    refine TL_v (.int .i64 x) (s_mv rfl) rfl rfl ?_
    refine TL_v (.bool true) (s_op r_geq rfl rfl (bool_as (decide_eq_true c1))) rfl rfl ?_
    refine TL_v (.bool true) (s_mv rfl) rfl rfl ?_
    refine TL_q (.int .i64 y) (s_mv rfl) rfl rfl rfl (want_y 12 rfl rfl rfl) ?_
    refine TL_q (.bool true) (s_op r_geq rfl rfl (bool_as (decide_eq_true c2))) rfl rfl rfl (want_y 12 rfl rfl rfl) ?_
    refine TL_v (.bool true) (s_pt rfl rfl) rfl rfl ?_
    refine TL_v (.bool true) (s_mv rfl) rfl rfl ?_
    refine TL_q (.int .i64 x) (s_mv rfl) rfl rfl rfl (want_y 16 rfl rfl rfl) ?_
    refine TL_q (pt B1 0) (s_fa fl109_0 sz3 rfl) rfl rfl rfl (want_y 16 rfl rfl rfl) ?_
    refine TL_q (iN wd) (s_ld ag3 rfl 1 rfl rfl) rfl rfl rfl (want_y 16 rfl rfl rfl) ?_
    refine TL_q (iN (8 * wd)) (s_op r_mul rfl rfl (iw (by omega) (by omega) (by omega))) rfl rfl rfl (want_y 16 rfl rfl rfl) ?_
    refine TL_q (.bool false) (s_op r_lss rfl rfl (bool_as (decide_eq_false c3))) rfl rfl rfl (want_y 16 rfl rfl rfl) ?_
    refine TL_v (.bool false) (s_pt rfl rfl) rfl rfl ?_
    refine TL_v (.bool false) (s_mv rfl) rfl rfl ?_
    refine TL_x 23 rfl rfl rfl rfl rfl ?_
    refine TL_x 23 rfl rfl rfl rfl rfl ?_
    refine TL_x 23 rfl rfl rfl rfl rfl ?_
    refine TL_x 23 rfl rfl rfl rfl rfl ?_
    refine TL_x 23 rfl rfl rfl rfl rfl ?_
    refine TL_v (.bool false) (s_pf rfl rfl) rfl rfl ?_
    refine TL_v (.bool false) (s_as rfl) rfl rfl ?_
    refine TL_seq ?_
    refine T_seq ?_
    refine T_seq (T_region ?_)
    refine TL_v (.bool false) (s_mv rfl) rfl rfl ?_
    refine TL_v (.bool true) (fun _ _ j _ => r_not (b := false) (j _ _ rfl)) rfl rfl ?_
    refine TL_seq ?_
    refine T_cond_t rfl ?_
    refine T_seq (T_region ?_)
    refine TL_v (.agg #[.int .i64 0, .int .i64 0]) (fun _ _ _ _ => r_build (vs := []) (by kernel_rfl) rfl) rfl rfl ?_
    refine TL_v (.int .i64 0) (s_as rfl) rfl rfl ?_
    refine TL_store 2 (.cells #[.int .i64 0, .int .i64 0] 47) rfl (s_st sz47 rfl rfl 2 rfl rfl rfl rfl rfl) rfl rfl (w_n rfl) ?_
    refine TL_v (.bool false) (s_as rfl) rfl rfl ?_
    refine TL_seq ?_
    refine T_sub [(1, .int .i64 x), (2, .int .i64 y), (3, pt B1 0), (7, pt B2 0), (6, .int .i64 0), (8, .bool false)] [(1, .blk B1 (.cells #[iN wd, iN hg] 109)), (2, .blk B2 (.cells #[.int .i64 0, .int .i64 0] 47))] (sc4 rfl rfl rfl rfl (sc rfl (sc rfl sub_nil))) (sc rfl (sc rfl sub_nil)) ?_
    refine T_ret' ?_
    refine p_then_r ?_
    refine ret_of rfl (.tuple #[.int .i64 0, .agg #[.int .i64 0, .int .i64 0], .bool false]) (fun tmps w hk hm => res3 rfl (res_tmp (hk 6 _ rfl)) (res_cell (hk 7 _ rfl) (run_loadVar_agg ag47 sz47 (hm.at 2 rfl) (Nat.le_of_ble_eq_true rfl) rfl)) (res_tmp (hk 8 _ rfl))) (fun w hm => ?_)
    exact ⟨rfl, hm.ext⟩
  ·skip
   refine T_seq (T_region ?_)
   refine TL_v (.int .i64 x) (s_mv rfl) rfl rfl ?_
   refine TL_v (.bool true) (s_op r_geq rfl rfl (bool_as (decide_eq_true c1))) rfl rfl ?_
   refine TL_v (.bool true) (s_mv rfl) rfl rfl ?_
   refine TL_q (.int .i64 y) (s_mv rfl) rfl rfl rfl (want_y 12 rfl rfl rfl) ?_
   refine TL_q (.bool false) (s_op r_geq rfl rfl (bool_as (decide_eq_false c2))) rfl rfl rfl (want_y 12 rfl rfl rfl) ?_
   refine TL_v (.bool false) (s_pt rfl rfl) rfl rfl ?_
   refine TL_v (.bool false) (s_mv rfl) rfl rfl ?_
   refine TL_x 16 rfl rfl rfl rfl rfl ?_
   refine TL_x 16 rfl rfl rfl rfl rfl ?_
   refine TL_x 16 rfl rfl rfl rfl rfl ?_
   refine TL_x 16 rfl rfl rfl rfl rfl ?_
   refine TL_x 16 rfl rfl rfl rfl rfl ?_
   refine TL_v (.bool false) (s_pf rfl rfl) rfl rfl ?_
   refine TL_v (.bool false) (s_mv rfl) rfl rfl ?_
   refine TL_x 23 rfl rfl rfl rfl rfl ?_
   refine TL_x 23 rfl rfl rfl rfl rfl ?_
   refine TL_x 23 rfl rfl rfl rfl rfl ?_
   refine TL_x 23 rfl rfl rfl rfl rfl ?_
   refine TL_x 23 rfl rfl rfl rfl rfl ?_
   refine TL_v (.bool false) (s_pf rfl rfl) rfl rfl ?_
   refine TL_v (.bool false) (s_as rfl) rfl rfl ?_
   refine TL_seq ?_
   refine T_seq ?_
   refine T_seq (T_region ?_)
   refine TL_v (.bool false) (s_mv rfl) rfl rfl ?_
   refine TL_v (.bool true) (fun _ _ j _ => r_not (b := false) (j _ _ rfl)) rfl rfl ?_
   refine TL_seq ?_
   refine T_cond_t rfl ?_
   refine T_seq (T_region ?_)
   refine TL_v (.agg #[.int .i64 0, .int .i64 0]) (fun _ _ _ _ => r_build (vs := []) (by kernel_rfl) rfl) rfl rfl ?_
   refine TL_v (.int .i64 0) (s_as rfl) rfl rfl ?_
   refine TL_store 2 (.cells #[.int .i64 0, .int .i64 0] 47) rfl (s_st sz47 rfl rfl 2 rfl rfl rfl rfl rfl) rfl rfl (w_n rfl) ?_
   refine TL_v (.bool false) (s_as rfl) rfl rfl ?_
   refine TL_seq ?_
   refine T_sub [(1, .int .i64 x), (2, .int .i64 y), (3, pt B1 0), (7, pt B2 0), (6, .int .i64 0), (8, .bool false)] [(1, .blk B1 (.cells #[iN wd, iN hg] 109)), (2, .blk B2 (.cells #[.int .i64 0, .int .i64 0] 47))] (sc4 rfl rfl rfl rfl (sc rfl (sc rfl sub_nil))) (sc rfl (sc rfl sub_nil)) ?_
   refine T_ret' ?_
   refine p_then_r ?_
   refine ret_of rfl (.tuple #[.int .i64 0, .agg #[.int .i64 0, .int .i64 0], .bool false]) (fun tmps w hk hm => res3 rfl (res_tmp (hk 6 _ rfl)) (res_cell (hk 7 _ rfl) (run_loadVar_agg ag47 sz47 (hm.at 2 rfl) (Nat.le_of_ble_eq_true rfl) rfl)) (res_tmp (hk 8 _ rfl))) (fun w hm => ?_)
   exact ⟨rfl, hm.ext⟩
 ·skip
  refine T_seq (T_region ?_)
  refine TL_v (.int .i64 x) (s_mv rfl) rfl rfl ?_
  refine TL_v (.bool false) (s_op r_geq rfl rfl (bool_as (decide_eq_false c1))) rfl rfl ?_
  refine TL_v (.bool false) (s_mv rfl) rfl rfl ?_
  refine TL_x 12 rfl rfl rfl rfl rfl ?_
  refine TL_x 12 rfl rfl rfl rfl rfl ?_
  refine TL_v (.bool false) (s_pf rfl rfl) rfl rfl ?_
  refine TL_v (.bool false) (s_mv rfl) rfl rfl ?_
  refine TL_x 16 rfl rfl rfl rfl rfl ?_
  refine TL_x 16 rfl rfl rfl rfl rfl ?_
  refine TL_x 16 rfl rfl rfl rfl rfl ?_
  refine TL_x 16 rfl rfl rfl rfl rfl ?_
  refine TL_x 16 rfl rfl rfl rfl rfl ?_
  refine TL_v (.bool false) (s_pf rfl rfl) rfl rfl ?_
  refine TL_v (.bool false) (s_mv rfl) rfl rfl ?_
  refine TL_x 23 rfl rfl rfl rfl rfl ?_
  refine TL_x 23 rfl rfl rfl rfl rfl ?_
  refine TL_x 23 rfl rfl rfl rfl rfl ?_
  refine TL_x 23 rfl rfl rfl rfl rfl ?_
  refine TL_x 23 rfl rfl rfl rfl rfl ?_
  refine TL_v (.bool false) (s_pf rfl rfl) rfl rfl ?_
  refine TL_v (.bool false) (s_as rfl) rfl rfl ?_
  refine TL_seq ?_
  refine T_seq ?_
  refine T_seq (T_region ?_)
  refine TL_v (.bool false) (s_mv rfl) rfl rfl ?_
  refine TL_v (.bool true) (fun _ _ j _ => r_not (b := false) (j _ _ rfl)) rfl rfl ?_
  refine TL_seq ?_
  refine T_cond_t rfl ?_
  refine T_seq (T_region ?_)
  refine TL_v (.agg #[.int .i64 0, .int .i64 0]) (fun _ _ _ _ => r_build (vs := []) (by kernel_rfl) rfl) rfl rfl ?_
  refine TL_v (.int .i64 0) (s_as rfl) rfl rfl ?_
  refine TL_store 2 (.cells #[.int .i64 0, .int .i64 0] 47) rfl (s_st sz47 rfl rfl 2 rfl rfl rfl rfl rfl) rfl rfl (w_n rfl) ?_
  refine TL_v (.bool false) (s_as rfl) rfl rfl ?_
  refine TL_seq ?_
  refine T_sub [(1, .int .i64 x), (2, .int .i64 y), (3, pt B1 0), (7, pt B2 0), (6, .int .i64 0), (8, .bool false)] [(1, .blk B1 (.cells #[iN wd, iN hg] 109)), (2, .blk B2 (.cells #[.int .i64 0, .int .i64 0] 47))] (sc4 rfl rfl rfl rfl (sc rfl (sc rfl sub_nil))) (sc rfl (sc rfl sub_nil)) ?_
  refine T_ret' ?_
  refine p_then_r ?_
  refine ret_of rfl (.tuple #[.int .i64 0, .agg #[.int .i64 0, .int .i64 0], .bool false]) (fun tmps w hk hm => res3 rfl (res_tmp (hk 6 _ rfl)) (res_cell (hk 7 _ rfl) (run_loadVar_agg ag47 sz47 (hm.at 2 rfl) (Nat.le_of_ble_eq_true rfl) rfl)) (res_tmp (hk 8 _ rfl))) (fun w hm => ?_)
  exact ⟨rfl, hm.ext⟩

theorem size_c (c : Cv) (w : World) (hc : CvAt w c) : Calls Try.prog 32 #[.pointer (some ⟨c.p, 0, none⟩)] w fun e w' => e = .returned (.tuple #[.int .i64 ((8 * c.wd : Nat) : Int), .int .i64 ((8 * c.hg : Nat) : Int)]) ∧ Below w.heap.size w w' := by
 obtain ⟨p, a, cap, ps, wd, hg, ts⟩ := c
 have hblk : hp w p = some (.cells #[.int .i64 (wd : Int), .int .i64 (hg : Int), .slice a ps.length cap] 111) := hc.blk
 have hrow : SliceAt w a cap 1 ptrc ps := hc.row
 have hcap : cap ≤ Go.maxLen := hc.capok
 unfold Go.maxLen at hcap
 have htl : ∀ (i q : Nat) (t : T64), ps[i]? = some q → ts[i]? = some t → hp w q = some (tilO t) := hc.tl
 have hlen : ps.length = wd * hg := hc.len
 have hlt : ts.length = ps.length := hc.len2
 have hwd : 1 ≤ wd ∧ wd ≤ 4 := hc.wd4
 have hhg : 1 ≤ hg ∧ hg ≤ 4 := hc.hg4
 have h16 := size4 hwd hhg
 have hrl := hrow.1
 obtain ⟨b, of, cs, TY, fz, ha, hcr, hrr⟩ := hrow.open (i := 0) (by omega)
 subst ha
 refine calls_of_T (l := [pt p 0]) 18 Try.func32 rfl rfl rfl ?_
 show T _ _ _ [(0, pt p 0)] []
 refine T_seq (T_region ?_)
 refine TL_v (.int .i64 0) (s_as rfl) rfl rfl ?_
 refine TL_v (.int .i64 0) (s_as rfl) rfl rfl ?_
 refine TL_seq ?_
 refine T_seq ?_
 refine T_seq (T_region ?_)
 refine TL_v (pt p 0) (s_mv rfl) rfl rfl ?_
 refine TL_v (.bool false) (fun _ _ j _ => r_as (r_eqlPn po28 (j _ _ rfl) (j _ _ rfl)) (by rfl)) rfl rfl ?_
 refine TL_seq ?_
 refine T_cond_f rfl ?_
 refine T_skip' ?_
 refine p_seq ?_
 refine T_seq (T_draw (V := [(0, pt p 0), (1, pt p 0), (2, pt p 0), (3, pt p 0), (4, iN wd), (5, iN (8 * wd)), (6, pt p 0), (7, pt p 0), (8, pt p 0), (9, pt p 1), (10, iN hg), (11, iN (8 * hg)), (12, iN (8 * wd)), (13, iN (8 * hg))]) [0, 1, 3, 7, 15, 31, 0, 64, 192, 448, 960, 1984, 63, 8191] [[(0, none)], [(6, some 0)], [(7, some 1)], [(8, some 2)], [(9, some 3)], [(10, some 4)], [(0, none)], [(12, some 6)], [(13, some 7)], [(14, some 8)], [(15, some 9)], [(16, some 10)], [(11, some 5)], [(17, some 11)]] 0 mixed (by kernel_rfl) ?_)
 refine G_last [0, 1, 2, 3, 4, 5, 6, 7, 8, 9, 10, 11, 12, 13] [(2, iN (8 * wd)), (3, iN (8 * hg))] (by kernel_rfl) (allM (all_cons (q_r (pt p 0) rfl rfl rfl (s_mv rfl)) (all_cons (q_r (pt p 0) rfl rfl rfl (s_nc rfl rfl)) (all_cons (q_r (pt p 0) rfl rfl rfl (s_fa fl111_0 sz109 rfl)) (all_cons (q_r (pt p 0) rfl rfl rfl (s_fa fl109_0 sz3 rfl)) (all_cons (q_r (iN wd) rfl rfl rfl (fun _ _ j hm => r_load ag3 (j _ _ rfl) (hm.old hblk) rfl)) (all_cons (q_r (iN (8 * wd)) rfl rfl rfl (s_op r_mul rfl rfl (iw (by omega) (by omega) (by omega)))) (all_cons (q_r (pt p 0) rfl rfl rfl (s_mv rfl)) (all_cons (q_r (pt p 0) rfl rfl rfl (s_nc rfl rfl)) (all_cons (q_r (pt p 0) rfl rfl rfl (s_fa fl111_0 sz109 rfl)) (all_cons (q_r (pt p 1) rfl rfl rfl (s_fa fl109_1 sz3 rfl)) (all_cons (q_r (iN hg) rfl rfl rfl (fun _ _ j hm => r_load ag3 (j _ _ rfl) (hm.old hblk) rfl)) (all_cons (q_r (iN (8 * hg)) rfl rfl rfl (s_op r_mul rfl rfl (iw (by omega) (by omega) (by omega)))) (all_cons (q_r (iN (8 * wd)) rfl rfl rfl (s_as rfl)) (all_cons (q_r (iN (8 * hg)) rfl rfl rfl (s_as rfl)) all_nil))))))))))))))) (end_new 12 rfl rfl (end_new 13 rfl rfl end_nil)) ?_
 refine T_ret' ?_
 refine ret_of rfl (.tuple #[iN (8 * wd), iN (8 * hg)]) (fun tmps w hk hm => res2 rfl (res_tmp (hk 2 _ rfl)) (res_tmp (hk 3 _ rfl))) (fun w hm => ?_)
 exact ⟨rfl, hm.ext⟩

theorem cat_in (c : Cv) (u v : Nat) (w : World) (hc : CvAt w c) (hu : u < 8 * c.wd) (hv : v < 8 * c.hg) : Calls Try.prog 23 #[.pointer (some ⟨c.p, 0, none⟩), .int .i64 (u : Int), .int .i64 (v : Int)] w fun e w' => e = .returned (.tuple #[(colAt c.wd c.ts u v).v, .bool true]) ∧ Below w.heap.size w w' := by
 obtain ⟨p, a, cap, ps, wd, hg, ts⟩ := c
 have hblk : hp w p = some (.cells #[.int .i64 (wd : Int), .int .i64 (hg : Int), .slice a ps.length cap] 111) := hc.blk
 have hrow : SliceAt w a cap 1 ptrc ps := hc.row
 have hcap : cap ≤ Go.maxLen := hc.capok
 unfold Go.maxLen at hcap
 have htl : ∀ (i q : Nat) (t : T64), ps[i]? = some q → ts[i]? = some t → hp w q = some (tilO t) := hc.tl
 have hlen : ps.length = wd * hg := hc.len
 have hlt : ts.length = ps.length := hc.len2
 have hwd : 1 ≤ wd ∧ wd ≤ 4 := hc.wd4
 have hhg : 1 ≤ hg ∧ hg ≤ 4 := hc.hg4
 have h16 := size4 hwd hhg
 have hrl := hrow.1
 obtain ⟨b, of, cs, TY, fz, ha, hcr, hrr⟩ := hrow.open (i := 0) (by omega)
 subst ha
 have hu : u < 8 * wd := hu
 have hv : v < 8 * hg := hv
 have hix := idx_lt hu hv
 refine calls_of_T (l := [pt p 0, iN u, iN v]) 50 Try.func23 rfl rfl rfl ?_
 show T _ _ _ [(0, pt p 0), (1, iN u), (2, iN v)] []
 refine T_seq (T_region ?_)
 refine TL_new 1 (.cells #[z8, z8, z8, z8] 37) (fun B => pt B 0) (fun _ _ _ _ => r_alloc (v := .agg #[z8, z8, z8, z8]) (by kernel_rfl) rfl) rfl rfl rfl (w_n rfl) ?_
 intro B1
 refine TL_v (.bool false) (s_as rfl) rfl rfl ?_
 refine TL_seq ?_
 refine T_seq ?_
 refine T_seq (T_region ?_)
 refine TL_v (pt p 0) (s_mv rfl) rfl rfl ?_
 refine TL_v (.bool false) (fun _ _ j _ => r_as (r_eqlPn po28 (j _ _ rfl) (j _ _ rfl)) (by rfl)) rfl rfl ?_
 refine TL_seq ?_
 refine T_cond_f rfl ?_
 refine T_skip' ?_
 refine p_seq ?_
 refine T_seq (T_region ?_)
 refine TL_v (pt p 0) (s_mv rfl) rfl rfl ?_
 refine TL_v (pt p 0) (s_nc rfl rfl) rfl rfl ?_
 refine TL_v (pt p 0) (s_fa fl111_0 sz109 rfl) rfl rfl ?_
 refine TL_v (.agg #[iN wd, iN hg]) (fun _ _ j hm => r_loadA ag109 sz109 (j _ _ rfl) (hm.old hblk) rfl rfl) rfl rfl ?_
 refine TL_v (iN u) (s_mv rfl) rfl rfl ?_
 refine TL_v (iN v) (s_mv rfl) rfl rfl ?_
 refine TL_call (.tuple #[iN (v / 8 * wd + u / 8), .agg #[iN (u % 8), iN (v % 8)], .bool true]) (fun _ _ j _ => r_call (args := [.agg #[iN wd, iN hg], iN u, iN v]) (enters_of Try.func66 (by kernel_rfl) rfl) (j _ _ rfl) ((cons2 (j _ _ rfl) (cons2 (j _ _ rfl) (cons2 (j _ _ rfl) rfl)))) rfl) (fun w _ => place_in wd hg u v w hwd hhg hu hv) rfl rfl rfl (w_n rfl) ?_
 refine TL_v (.tuple #[iN (v / 8 * wd + u / 8), .agg #[iN (u % 8), iN (v % 8)], .bool true]) (s_mv rfl) rfl rfl ?_
 refine TL_v (iN (v / 8 * wd + u / 8)) (s_ex rfl rfl) rfl rfl ?_
 refine TL_v (.agg #[iN (u % 8), iN (v % 8)]) (s_ex rfl rfl) rfl rfl ?_
 refine TL_v (.bool true) (s_ex rfl rfl) rfl rfl ?_
 refine TL_new 2 (.cells #[.int .i64 0, .int .i64 0] 47) (fun B => pt B 0) (fun _ _ _ _ => r_alloc (v := .agg #[.int .i64 0, .int .i64 0]) (by kernel_rfl) rfl) rfl rfl rfl (w_n rfl) ?_
 intro B2
 refine TL_v (iN (v / 8 * wd + u / 8)) (s_as rfl) rfl rfl ?_
 refine TL_store 2 (.cells #[iN (u % 8), iN (v % 8)] 47) rfl (s_st sz47 rfl rfl 2 rfl rfl rfl rfl rfl) rfl rfl (w_n rfl) ?_
 refine TL_v (.bool true) (s_as rfl) rfl rfl ?_
 refine TL_seq ?_
 refine T_seq ?_
 refine T_seq (T_region ?_)
 refine TL_v (.bool true) (s_mv rfl) rfl rfl ?_
 refine TL_v (.bool false) (fun _ _ j _ => r_not (b := true) (j _ _ rfl)) rfl rfl ?_
 refine TL_seq ?_
 refine T_cond_f rfl ?_
 refine T_skip' ?_
 refine p_seq ?_
 obtain ⟨q, hqq⟩ : ∃ x, ps[(v / 8 * wd + u / 8)]? = some x := ⟨_, List.getElem?_eq_getElem (by omega)⟩
 obtain ⟨t, hqt⟩ : ∃ x, ts[(v / 8 * wd + u / 8)]? = some x := ⟨_, List.getElem?_eq_getElem (by omega)⟩
 have hbq := htl _ _ _ hqq hqt
 refine T_join (ι := Nat) (fun _ => True) (fun (Bx17 : Nat) => [(6, pt B1 0), (7, .bool false), (11, pt Bx17 0), (12, .int .i64 0)]) (fun (Bx17 : Nat) => [(1, .blk B1 (.cells #[z8, z8, z8, z8] 37)), (2, .blk B2 (.cells #[iN (u % 8), iN (v % 8)] 47)), (3, .blk Bx17 (.cells #[.int .u8 ((get t.l (8 * (v % 8) + u % 8)).r), .int .u8 ((get t.l (8 * (v % 8) + u % 8)).g), .int .u8 ((get t.l (8 * (v % 8) + u % 8)).b), .int .u8 ((get t.l (8 * (v % 8) + u % 8)).a)] 37))]) (T_draw (V := [(0, pt p 0), (1, pt p 0), (2, pt p 2), (3, .slice (some ⟨b, of, none⟩) ps.length cap), (4, iN (v / 8 * wd + u / 8)), (5, pt b (of + (v / 8 * wd + u / 8) * 1)), (6, pt q 0), (7, pt q 0), (8, .agg (lst C4.cells t.l)), (9, pt B2 0), (10, iN (u % 8)), (11, pt B2 1), (12, iN (v % 8))]) [0, 1, 3, 7, 0, 31, 63, 127, 255, 0, 512, 0, 2048, 8191, 16383, 32767, 32767, 0, 196607, 524287] [[(0, none)], [(31, some 0)], [(32, some 1)], [(33, some 2)], [(8, none)], [(34, some 3), (35, some 4)], [(36, some 5)], [(37, some 6)], [(38, some 7)], [(9, none)], [(40, some 9)], [(9, none)], [(42, some 11)], [(39, some 8), (41, some 10), (43, some 12)], [(44, some 13)], [(30, some 14)], [(30, some 14)], [], [(11, some 17), (45, some 15)], [(46, some 16)]] 401408 mixed (by kernel_rfl) ?_) (fun z hz => ?_)
 ·skip
  refine G_step [0, 1, 2, 3, 4, 5, 6, 7, 8, 9, 10, 11, 12] 13 [17] (by kernel_rfl) (allM (all_cons (q_r (pt p 0) rfl rfl rfl (s_mv rfl)) (all_cons (q_r (pt p 0) rfl rfl rfl (s_nc rfl rfl)) (all_cons (q_r (pt p 2) rfl rfl rfl (s_fa fl111_1 sz104 rfl)) (all_cons (q_r (.slice (some ⟨b, of, none⟩) ps.length cap) rfl rfl rfl (fun _ _ j hm => r_load ag104 (j _ _ rfl) (hm.old hblk) rfl)) (all_cons (q_r (iN (v / 8 * wd + u / 8)) rfl rfl rfl (s_mv rfl)) (all_cons (q_r (pt b (of + (v / 8 * wd + u / 8) * 1)) rfl rfl rfl (fun _ _ j _ => r_indexAddrS (i := v / 8 * wd + u / 8) sl104 sz106 (j _ _ rfl) (j _ _ rfl) (by omega))) (all_cons (q_r (pt q 0) rfl rfl rfl (fun _ _ j hm => r_loadRow1 (f := ptrc) (u := q) ag106 (j _ _ rfl) (hm.old hcr) hrr hqq rfl)) (all_cons (q_r (pt q 0) rfl rfl rfl (s_nc rfl rfl)) (all_cons (q_r (.agg (lst C4.cells t.l)) rfl rfl rfl (fun _ _ j hm => r_loadW ag39 sz39 (j _ _ rfl) (hm.old hbq) (tsz t.h))) (all_cons (q_r (pt B2 0) rfl rfl rfl (s_fa fl47_0 sz3 rfl)) (all_cons (q_r (iN (u % 8)) rfl rfl rfl (s_ld ag3 rfl 2 rfl rfl)) (all_cons (q_r (pt B2 1) rfl rfl rfl (s_fa fl47_1 sz3 rfl)) (all_cons (q_r (iN (v % 8)) rfl rfl rfl (s_ld ag3 rfl 2 rfl rfl)) all_nil)))))))))))))) (allM (all_cons ?_ (all_cons ?_ all_nil)))
  ·skip
   refine LOb_call (.tuple #[.agg #[.int .u8 ((get t.l (8 * (v % 8) + u % 8)).r), .int .u8 ((get t.l (8 * (v % 8) + u % 8)).g), .int .u8 ((get t.l (8 * (v % 8) + u % 8)).b), .int .u8 ((get t.l (8 * (v % 8) + u % 8)).a)], .int .i64 0]) [(14, .tuple #[.agg #[.int .u8 ((get t.l (8 * (v % 8) + u % 8)).r), .int .u8 ((get t.l (8 * (v % 8) + u % 8)).g), .int .u8 ((get t.l (8 * (v % 8) + u % 8)).b), .int .u8 ((get t.l (8 * (v % 8) + u % 8)).a)], .int .i64 0]), (15, .agg #[.int .u8 ((get t.l (8 * (v % 8) + u % 8)).r), .int .u8 ((get t.l (8 * (v % 8) + u % 8)).g), .int .u8 ((get t.l (8 * (v % 8) + u % 8)).b), .int .u8 ((get t.l (8 * (v % 8) + u % 8)).a)]), (16, .int .i64 0)] rfl (wv_n rfl) rfl rfl (fun _ _ j _ => r_call (args := [.agg (lst C4.cells t.l), iN (u % 8), iN (v % 8)]) (enters_of Try.func72 (by kernel_rfl) rfl) (j _ _ rfl) ((cons2 (j _ _ rfl) (cons2 (j _ _ rfl) (cons2 (j _ _ rfl) rfl)))) rfl) (fun w _ => (at_c t.l _ _ w t.h).mono fun _ _ h => ⟨h.1.trans (congrArg Ending.returned (by rw [(at_yes (l := t.l) (px := u % 8) (py := v % 8) (by omega) (by omega)).1, (at_yes (l := t.l) (px := u % 8) (py := v % 8) (by omega) (by omega)).2, Nat.mul_comm])), h.2⟩) (by kernel_rfl) ?_
   refine G_step [14, 15, 16] 17 [] (by kernel_rfl) (allM (all_cons (q_r (.tuple #[.agg #[.int .u8 ((get t.l (8 * (v % 8) + u % 8)).r), .int .u8 ((get t.l (8 * (v % 8) + u % 8)).g), .int .u8 ((get t.l (8 * (v % 8) + u % 8)).b), .int .u8 ((get t.l (8 * (v % 8) + u % 8)).a)], .int .i64 0]) rfl rfl rfl (s_mv rfl)) (all_cons (q_r (.agg #[.int .u8 ((get t.l (8 * (v % 8) + u % 8)).r), .int .u8 ((get t.l (8 * (v % 8) + u % 8)).g), .int .u8 ((get t.l (8 * (v % 8) + u % 8)).b), .int .u8 ((get t.l (8 * (v % 8) + u % 8)).a)]) rfl rfl rfl (s_ex rfl rfl)) (all_cons (q_r (.int .i64 0) rfl rfl rfl (s_ex rfl rfl)) all_nil)))) (allM (all_cons ?_ all_nil))
   refine LOb_new 3 (.cells #[z8, z8, z8, z8] 37) (fun B => pt B 0) (fun B => []) rfl (wv_n rfl) rfl rfl (fun _ _ _ _ => r_alloc (v := .agg #[z8, z8, z8, z8]) (by kernel_rfl) rfl) (fun B => by kernel_rfl) ?_
   intro B3
   refine G_step [14, 15, 16] 18 [] (by kernel_rfl) (allM (all_cons (q_r (.tuple #[.agg #[.int .u8 ((get t.l (8 * (v % 8) + u % 8)).r), .int .u8 ((get t.l (8 * (v % 8) + u % 8)).g), .int .u8 ((get t.l (8 * (v % 8) + u % 8)).b), .int .u8 ((get t.l (8 * (v % 8) + u % 8)).a)], .int .i64 0]) rfl rfl rfl (s_mv rfl)) (all_cons (q_r (.agg #[.int .u8 ((get t.l (8 * (v % 8) + u % 8)).r), .int .u8 ((get t.l (8 * (v % 8) + u % 8)).g), .int .u8 ((get t.l (8 * (v % 8) + u % 8)).b), .int .u8 ((get t.l (8 * (v % 8) + u % 8)).a)]) rfl rfl rfl (s_ex rfl rfl)) (all_cons (q_r (.int .i64 0) rfl rfl rfl (s_ex rfl rfl)) all_nil)))) (allM (all_cons ?_ all_nil))
   refine LOb_store 3 (.cells #[.int .u8 ((get t.l (8 * (v % 8) + u % 8)).r), .int .u8 ((get t.l (8 * (v % 8) + u % 8)).g), .int .u8 ((get t.l (8 * (v % 8) + u % 8)).b), .int .u8 ((get t.l (8 * (v % 8) + u % 8)).a)] 37) [(19, .int .i64 0)] rfl (wv_n rfl) rfl rfl rfl (s_st sz37 rfl rfl 3 rfl rfl rfl rfl rfl) (by kernel_rfl) ?_
   exact G_lastQ [16, 19] [(6, pt B1 0), (7, .bool false), (11, pt B3 0), (12, .int .i64 0)] (by kernel_rfl) (allM (all_cons (q_r (.int .i64 0) rfl rfl rfl (s_ex rfl rfl)) (all_cons (q_r (.int .i64 0) rfl rfl rfl (s_as rfl)) all_nil))) (end_old rfl rfl (end_old rfl rfl (end_new 17 rfl rfl (end_new 19 rfl rfl end_nil)))) (fun a w hf hm => At_intro B3 trivial hf hm (sc4 rfl rfl rfl rfl sub_nil) (sc rfl (sc rfl (sc rfl sub_nil))))
  ·skip
   refine LOb_new 3 (.cells #[z8, z8, z8, z8] 37) (fun B => pt B 0) (fun B => []) rfl (wv_n rfl) rfl rfl (fun _ _ _ _ => r_alloc (v := .agg #[z8, z8, z8, z8]) (by kernel_rfl) rfl) (fun B => by kernel_rfl) ?_
   intro B4
   refine G_step [0, 1, 2, 3, 4, 5, 6, 7, 8, 9, 10, 11, 12] 13 [] (by kernel_rfl) (allM (all_cons (q_r (pt p 0) rfl rfl rfl (s_mv rfl)) (all_cons (q_r (pt p 0) rfl rfl rfl (s_nc rfl rfl)) (all_cons (q_r (pt p 2) rfl rfl rfl (s_fa fl111_1 sz104 rfl)) (all_cons (q_r (.slice (some ⟨b, of, none⟩) ps.length cap) rfl rfl rfl (fun _ _ j hm => r_load ag104 (j _ _ rfl) (hm.old hblk) rfl)) (all_cons (q_r (iN (v / 8 * wd + u / 8)) rfl rfl rfl (s_mv rfl)) (all_cons (q_r (pt b (of + (v / 8 * wd + u / 8) * 1)) rfl rfl rfl (fun _ _ j _ => r_indexAddrS (i := v / 8 * wd + u / 8) sl104 sz106 (j _ _ rfl) (j _ _ rfl) (by omega))) (all_cons (q_r (pt q 0) rfl rfl rfl (fun _ _ j hm => r_loadRow1 (f := ptrc) (u := q) ag106 (j _ _ rfl) (hm.old hcr) hrr hqq rfl)) (all_cons (q_r (pt q 0) rfl rfl rfl (s_nc rfl rfl)) (all_cons (q_r (.agg (lst C4.cells t.l)) rfl rfl rfl (fun _ _ j hm => r_loadW ag39 sz39 (j _ _ rfl) (hm.old hbq) (tsz t.h))) (all_cons (q_r (pt B2 0) rfl rfl rfl (s_fa fl47_0 sz3 rfl)) (all_cons (q_r (iN (u % 8)) rfl rfl rfl (s_ld ag3 rfl 2 rfl rfl)) (all_cons (q_r (pt B2 1) rfl rfl rfl (s_fa fl47_1 sz3 rfl)) (all_cons (q_r (iN (v % 8)) rfl rfl rfl (s_ld ag3 rfl 2 rfl rfl)) all_nil)))))))))))))) (allM (all_cons ?_ all_nil))
   refine LOb_call (.tuple #[.agg #[.int .u8 ((get t.l (8 * (v % 8) + u % 8)).r), .int .u8 ((get t.l (8 * (v % 8) + u % 8)).g), .int .u8 ((get t.l (8 * (v % 8) + u % 8)).b), .int .u8 ((get t.l (8 * (v % 8) + u % 8)).a)], .int .i64 0]) [(14, .tuple #[.agg #[.int .u8 ((get t.l (8 * (v % 8) + u % 8)).r), .int .u8 ((get t.l (8 * (v % 8) + u % 8)).g), .int .u8 ((get t.l (8 * (v % 8) + u % 8)).b), .int .u8 ((get t.l (8 * (v % 8) + u % 8)).a)], .int .i64 0]), (15, .agg #[.int .u8 ((get t.l (8 * (v % 8) + u % 8)).r), .int .u8 ((get t.l (8 * (v % 8) + u % 8)).g), .int .u8 ((get t.l (8 * (v % 8) + u % 8)).b), .int .u8 ((get t.l (8 * (v % 8) + u % 8)).a)]), (16, .int .i64 0)] rfl (wv_n rfl) rfl rfl (fun _ _ j _ => r_call (args := [.agg (lst C4.cells t.l), iN (u % 8), iN (v % 8)]) (enters_of Try.func72 (by kernel_rfl) rfl) (j _ _ rfl) ((cons2 (j _ _ rfl) (cons2 (j _ _ rfl) (cons2 (j _ _ rfl) rfl)))) rfl) (fun w _ => (at_c t.l _ _ w t.h).mono fun _ _ h => ⟨h.1.trans (congrArg Ending.returned (by rw [(at_yes (l := t.l) (px := u % 8) (py := v % 8) (by omega) (by omega)).1, (at_yes (l := t.l) (px := u % 8) (py := v % 8) (by omega) (by omega)).2, Nat.mul_comm])), h.2⟩) (by kernel_rfl) ?_
   refine G_step [14, 15, 16] 18 [] (by kernel_rfl) (allM (all_cons (q_r (.tuple #[.agg #[.int .u8 ((get t.l (8 * (v % 8) + u % 8)).r), .int .u8 ((get t.l (8 * (v % 8) + u % 8)).g), .int .u8 ((get t.l (8 * (v % 8) + u % 8)).b), .int .u8 ((get t.l (8 * (v % 8) + u % 8)).a)], .int .i64 0]) rfl rfl rfl (s_mv rfl)) (all_cons (q_r (.agg #[.int .u8 ((get t.l (8 * (v % 8) + u % 8)).r), .int .u8 ((get t.l (8 * (v % 8) + u % 8)).g), .int .u8 ((get t.l (8 * (v % 8) + u % 8)).b), .int .u8 ((get t.l (8 * (v % 8) + u % 8)).a)]) rfl rfl rfl (s_ex rfl rfl)) (all_cons (q_r (.int .i64 0) rfl rfl rfl (s_ex rfl rfl)) all_nil)))) (allM (all_cons ?_ all_nil))
   refine LOb_store 3 (.cells #[.int .u8 ((get t.l (8 * (v % 8) + u % 8)).r), .int .u8 ((get t.l (8 * (v % 8) + u % 8)).g), .int .u8 ((get t.l (8 * (v % 8) + u % 8)).b), .int .u8 ((get t.l (8 * (v % 8) + u % 8)).a)] 37) [(19, .int .i64 0)] rfl (wv_n rfl) rfl rfl rfl (s_st sz37 rfl rfl 3 rfl rfl rfl rfl rfl) (by kernel_rfl) ?_
   exact G_lastQ [16, 19] [(6, pt B1 0), (7, .bool false), (11, pt B4 0), (12, .int .i64 0)] (by kernel_rfl) (allM (all_cons (q_r (.int .i64 0) rfl rfl rfl (s_ex rfl rfl)) (all_cons (q_r (.int .i64 0) rfl rfl rfl (s_as rfl)) all_nil))) (end_old rfl rfl (end_old rfl rfl (end_new 17 rfl rfl (end_new 19 rfl rfl end_nil)))) (fun a w hf hm => At_intro B4 trivial hf hm (sc4 rfl rfl rfl rfl sub_nil) (sc rfl (sc rfl (sc rfl sub_nil))))
 ·skip
  obtain ⟨Bx17, hzz⟩ : ∃ b, b = z := ⟨_, rfl⟩; subst hzz
  show T _ _ _ [(6, pt B1 0), (7, .bool false), (11, pt Bx17 0), (12, .int .i64 0)] [(1, .blk B1 (.cells #[z8, z8, z8, z8] 37)), (2, .blk B2 (.cells #[iN (u % 8), iN (v % 8)] 47)), (3, .blk Bx17 (.cells #[.int .u8 ((get t.l (8 * (v % 8) + u % 8)).r), .int .u8 ((get t.l (8 * (v % 8) + u % 8)).g), .int .u8 ((get t.l (8 * (v % 8) + u % 8)).b), .int .u8 ((get t.l (8 * (v % 8) + u % 8)).a)] 37))]
  refine T_seq (T_region ?_)
  refine TL_v (.agg #[.int .u8 ((get t.l (8 * (v % 8) + u % 8)).r), .int .u8 ((get t.l (8 * (v % 8) + u % 8)).g), .int .u8 ((get t.l (8 * (v % 8) + u % 8)).b), .int .u8 ((get t.l (8 * (v % 8) + u % 8)).a)]) (s_la ag37 sz37 rfl 3 rfl rfl rfl) rfl rfl ?_
  refine TL_v (.int .i64 0) (s_mv rfl) rfl rfl ?_
  refine TL_v (.bool true) (s_op r_eql rfl rfl (by rfl)) rfl rfl ?_
  refine TL_store 1 (.cells #[.int .u8 ((get t.l (8 * (v % 8) + u % 8)).r), .int .u8 ((get t.l (8 * (v % 8) + u % 8)).g), .int .u8 ((get t.l (8 * (v % 8) + u % 8)).b), .int .u8 ((get t.l (8 * (v % 8) + u % 8)).a)] 37) rfl (s_st sz37 rfl rfl 1 rfl rfl rfl rfl rfl) rfl rfl (w_n rfl) ?_
  refine TL_v (.bool true) (s_as rfl) rfl rfl ?_
  refine TL_seq ?_
  refine T_ret' ?_
  refine ret_of rfl (.tuple #[.agg #[.int .u8 ((get t.l (8 * (v % 8) + u % 8)).r), .int .u8 ((get t.l (8 * (v % 8) + u % 8)).g), .int .u8 ((get t.l (8 * (v % 8) + u % 8)).b), .int .u8 ((get t.l (8 * (v % 8) + u % 8)).a)], .bool true]) (fun tmps w hk hm => res2 rfl (res_cell (hk 6 _ rfl) (run_loadVar_agg ag37 sz37 (hm.at 1 rfl) (Nat.le_of_ble_eq_true rfl) rfl)) (res_tmp (hk 7 _ rfl))) (fun w hm => ?_)
  exact ⟨congrArg (fun z : C4 => Ending.returned (.tuple #[z.v, .bool true])) (show get t.l (8 * (v % 8) + u % 8) = colAt wd ts u v from by unfold colAt; rw [tileAt_some hqt]), hm.ext⟩

theorem cat_out (c : Cv) (x y : Int) (w : World) (hc : CvAt w c) (hon : ¬ onC c.wd c.hg x y = true) : Calls Try.prog 23 #[.pointer (some ⟨c.p, 0, none⟩), .int .i64 x, .int .i64 y] w fun e w' => e = .returned (.tuple #[zeroC.v, .bool false]) ∧ Below w.heap.size w w' := by
 obtain ⟨p, a, cap, ps, wd, hg, ts⟩ := c
 have hblk : hp w p = some (.cells #[.int .i64 (wd : Int), .int .i64 (hg : Int), .slice a ps.length cap] 111) := hc.blk
 have hrow : SliceAt w a cap 1 ptrc ps := hc.row
 have hcap : cap ≤ Go.maxLen := hc.capok
 unfold Go.maxLen at hcap
 have htl : ∀ (i q : Nat) (t : T64), ps[i]? = some q → ts[i]? = some t → hp w q = some (tilO t) := hc.tl
 have hlen : ps.length = wd * hg := hc.len
 have hlt : ts.length = ps.length := hc.len2
 have hwd : 1 ≤ wd ∧ wd ≤ 4 := hc.wd4
 have hhg : 1 ≤ hg ∧ hg ≤ 4 := hc.hg4
 have h16 := size4 hwd hhg
 have hrl := hrow.1
 obtain ⟨b, of, cs, TY, fz, ha, hcr, hrr⟩ := hrow.open (i := 0) (by omega)
 subst ha
 refine calls_of_T (l := [pt p 0, .int .i64 x, .int .i64 y]) 50 Try.func23 rfl rfl rfl ?_
 show T _ _ _ [(0, pt p 0), (1, .int .i64 x), (2, .int .i64 y)] []
 refine T_seq (T_region ?_)
 refine TL_new 1 (.cells #[z8, z8, z8, z8] 37) (fun B => pt B 0) (fun _ _ _ _ => r_alloc (v := .agg #[z8, z8, z8, z8]) (by kernel_rfl) rfl) rfl rfl rfl (w_n rfl) ?_
 intro B1
 refine TL_v (.bool false) (s_as rfl) rfl rfl ?_
 refine TL_seq ?_
 refine T_seq ?_
 refine T_seq (T_region ?_)
 refine TL_v (pt p 0) (s_mv rfl) rfl rfl ?_
 refine TL_v (.bool false) (fun _ _ j _ => r_as (r_eqlPn po28 (j _ _ rfl) (j _ _ rfl)) (by rfl)) rfl rfl ?_
 refine TL_seq ?_
 refine T_cond_f rfl ?_
 refine T_skip' ?_
 refine p_seq ?_
 refine T_seq (T_region ?_)
 refine TL_v (pt p 0) (s_mv rfl) rfl rfl ?_
 refine TL_v (pt p 0) (s_nc rfl rfl) rfl rfl ?_
 refine TL_v (pt p 0) (s_fa fl111_0 sz109 rfl) rfl rfl ?_
 refine TL_v (.agg #[iN wd, iN hg]) (fun _ _ j hm => r_loadA ag109 sz109 (j _ _ rfl) (hm.old hblk) rfl rfl) rfl rfl ?_
 refine TL_v (.int .i64 x) (s_mv rfl) rfl rfl ?_
 refine TL_v (.int .i64 y) (s_mv rfl) rfl rfl ?_
 refine TL_call (.tuple #[.int .i64 0, .agg #[.int .i64 0, .int .i64 0], .bool false]) (fun _ _ j _ => r_call (args := [.agg #[iN wd, iN hg], .int .i64 x, .int .i64 y]) (enters_of Try.func66 (by kernel_rfl) rfl) (j _ _ rfl) ((cons2 (j _ _ rfl) (cons2 (j _ _ rfl) (cons2 (j _ _ rfl) rfl)))) rfl) (fun w _ => place_out wd hg x y w hwd hhg hon) rfl rfl rfl (w_n rfl) ?_
 refine TL_v (.tuple #[.int .i64 0, .agg #[.int .i64 0, .int .i64 0], .bool false]) (s_mv rfl) rfl rfl ?_
 refine TL_v (.int .i64 0) (s_ex rfl rfl) rfl rfl ?_
 refine TL_v (.agg #[.int .i64 0, .int .i64 0]) (s_ex rfl rfl) rfl rfl ?_
 refine TL_v (.bool false) (s_ex rfl rfl) rfl rfl ?_
 refine TL_new 2 (.cells #[.int .i64 0, .int .i64 0] 47) (fun B => pt B 0) (fun _ _ _ _ => r_alloc (v := .agg #[.int .i64 0, .int .i64 0]) (by kernel_rfl) rfl) rfl rfl rfl (w_n rfl) ?_
 intro B2
 refine TL_v (.int .i64 0) (s_as rfl) rfl rfl ?_
 refine TL_store 2 (.cells #[.int .i64 0, .int .i64 0] 47) rfl (s_st sz47 rfl rfl 2 rfl rfl rfl rfl rfl) rfl rfl (w_n rfl) ?_
 refine TL_v (.bool false) (s_as rfl) rfl rfl ?_
 refine TL_seq ?_
 refine T_seq ?_
 refine T_seq (T_region ?_)
 refine TL_v (.bool false) (s_mv rfl) rfl rfl ?_
 refine TL_v (.bool true) (fun _ _ j _ => r_not (b := false) (j _ _ rfl)) rfl rfl ?_
 refine TL_seq ?_
 refine T_cond_t rfl ?_
 refine T_seq (T_region ?_)
 refine TL_v (.agg #[z8, z8, z8, z8]) (fun _ _ _ _ => r_build (vs := []) (by kernel_rfl) rfl) rfl rfl ?_
 refine TL_store 1 (.cells #[z8, z8, z8, z8] 37) rfl (s_st sz37 rfl rfl 1 rfl rfl rfl rfl rfl) rfl rfl (w_n rfl) ?_
 refine TL_v (.bool false) (s_as rfl) rfl rfl ?_
 refine TL_seq ?_
 refine T_ret' ?_
 refine p_then_r ?_
 refine ret_of rfl (.tuple #[.agg #[z8, z8, z8, z8], .bool false]) (fun tmps w hk hm => res2 rfl (res_cell (hk 6 _ rfl) (run_loadVar_agg ag37 sz37 (hm.at 1 rfl) (Nat.le_of_ble_eq_true rfl) rfl)) (res_tmp (hk 7 _ rfl))) (fun w hm => ?_)
 exact ⟨rfl, hm.ext⟩

end Go.Proofs.Ytbiapeaghbndoaa
/- A range over a map told by the list of its entries. Over any program. -/
namespace Go.Proofs.Ytbiapeaghbndoaa
open Go Go.RowKit
section
variable {κ μ : Type} {fk : κ → Value} {fv : μ → Value}
def itO (b n : Nat) (seen : List Nat) : Obj := .mapIter (some b) n seen.toArray n
theorem ents_in {l : List (κ × μ)} {e : MapEntry} {n : Nat} (he : e ∈ ents fk fv l n) : ∃ i k v, l[i]? = some (k, v) ∧ e = { key := fk k, val := fv v, born := n + i } := by
  obtain ⟨i, hi⟩ := List.getElem?_of_mem he
  rw [ents_at] at hi
  obtain ⟨⟨k, v⟩, h1, h2⟩ := Option.map_eq_some_iff.1 hi
  exact ⟨i, k, v, h1, h2.symm⟩
variable {P : Program} {w : World} {ρ : Operand → Value} {d : Option Tmp} {ty : TypeId} {ps : String} {af : Array Edge} {g : Option (Nat × Bool)} {x : Operand}
theorem r_rangeMap {t kt e : TypeId} {b : Nat} {l : List (κ × μ)} (ht : mapOf P t = some (kt, e)) (hx : ρ x = .map (some b)) (hb : hp w b = some (mapO fk fv l)) :
    (execOp ρ (mk d (.range t x) ty ps af g)).run P w = .ok (.value (.pointer (some ⟨w.heap.size, 0, none⟩))) (w.alloc (itO b l.length [])) := by
  refine run_v ?_
  rw [hx]
  exact run_range_map w t kt e b _ _ (und_map ht) hb
theorem run_nextM {b r : Nat} {l : List (κ × μ)} {seen : List Nat} (hr : hp w r = some (itO b l.length seen)) (hb : hp w b = some (mapO fk fv l)) :
    ((∀ i, i < l.length → i ∈ seen) ∧ (Instr.next (.pointer (some ⟨r, 0, none⟩)) false ty).run P w = .ok (.tuple #[.bool false]) w) ∨
    ∃ i k v w', l[i]? = some (k, v) ∧ i ∉ seen ∧ (Instr.next (.pointer (some ⟨r, 0, none⟩)) false ty).run P w = .ok (.tuple #[.bool true, fk k, fv v]) w' ∧ Upd w r (itO b l.length (seen ++ [i])) w' := by
  rcases run_next_at (P := P) w ty r b l.length l.length seen.toArray (ents fk fv l 0).toArray l.length hr hb (fun e he => by
      obtain ⟨i, k, v, h1, rfl⟩ := ents_in (by simpa using he)
      have := (List.getElem?_eq_some_iff.1 h1).1
      show 0 + i < _
      omega) (Nat.le_refl _) with ⟨h0, hrun⟩ | ⟨e, he, w1, hal, hrun⟩
  · refine .inl ⟨fun i hi => ?_, hrun⟩
    refine Classical.byContradiction fun hn => ?_
    obtain ⟨⟨k, v⟩, hx⟩ : ∃ x, l[i]? = some x := ⟨_, List.getElem?_eq_getElem hi⟩
    have hm : ({ key := fk k, val := fv v, born := 0 + i } : MapEntry) ∈ ents fk fv l 0 := List.mem_of_getElem? (by rw [ents_at, hx]; rfl)
    have h2 : ({ key := fk k, val := fv v, born := 0 + i } : MapEntry) ∈ leftOf (ents fk fv l 0).toArray seen.toArray := by
      unfold leftOf
      rw [Array.mem_filter]
      refine ⟨by simpa using hm, ?_⟩
      simp only [Nat.zero_add, List.contains_toArray, Bool.not_eq_true', List.contains_eq_mem, decide_eq_false_iff_not]
      exact hn
    have : 0 < (leftOf (ents fk fv l 0).toArray seen.toArray).size := Array.size_pos_of_mem h2
    omega
  · obtain ⟨h1, h2⟩ := mem_left he
    obtain ⟨i, k, v, h3, rfl⟩ := ents_in (by simpa using h1)
    refine .inr ⟨i, k, v, _, h3, ?_, hrun, ?_⟩
    · intro hn
      simp [hn] at h2
    · have hr1 : w1.heap[r]? = some (itO b l.length seen) := by rcases hal with rfl | rfl <;> exact hr
      have e1 : ChangeMaps.setBlock w1 r (.mapIter (some b) l.length (seen.toArray.push (0 + i)) l.length) = w1.putObj r (itO b l.length (seen ++ [i])) := by
        unfold itO
        rw [Nat.zero_add, List.push_toArray]; rfl
      show Upd w r _ (ChangeMaps.setBlock w1 r (.mapIter (some b) l.length (seen.toArray.push (0 + i)) l.length))
      rw [e1]
      have hu := upd_put (o' := itO b l.length (seen ++ [i])) (show hp w1 r = some (itO b l.length seen) from hr1)
      rcases hal with rfl | rfl
      · exact hu
      · exact ⟨hu.os, hu.tape, hu.output, hu.size, hu.this, hu.other⟩
end
section
variable {C : Cx} {ops : Array Oper} {os : List Oper} {Q : Post} {K : List (Nat × Value)} {L : Heap} {κ μ : Type} {fk : κ → Value} {fv : μ → Value} {l : List (κ × μ)} {seen : List Nat} {b r : Nat} {x : Operand} {ty : TypeId} {ps : String} {af : Array Edge} {g : Option (Nat × Bool)}
theorem TL_next {dd : Nat} (i m : Nat) (hi : lk L i = some (.blk r (itO b l.length seen))) (hb : lk L m = some (.blk b (mapO fk fv l))) (hx : ev K x = some (.pointer (some ⟨r, 0, none⟩))) (hN : Nat.blt dd C.N = true)
    (hw : Want ops K (mk (some dd) (.next x false) ty ps af g) true) (hDone : (∀ j, j < l.length → j ∈ seen) → TL C ops os Q ((dd, .tuple #[.bool false]) :: K) L)
    (hMore : ∀ j k v, l[j]? = some (k, v) → j ∉ seen → TL C ops os Q ((dd, .tuple #[.bool true, fk k, fv v]) :: K) ((i, .blk r (itO b l.length (seen ++ [j]))) :: L)) :
    TL C ops (mk (some dd) (.next x false) ty ps af g :: os) Q K L := by
  intro a w hf hm
  unfold wpListIn
  rw [hw.is hf, if_pos rfl]
  rcases run_nextM (P := C.P) (ty := ty) (hm.at i hi) (hm.at m hb) with ⟨h1, h2⟩ | ⟨j, k, v, w', h1, h2, h3, h4⟩
  · refine step_val (v := .tuple #[.bool false]) (w' := w) rfl (run_v ?_) (hDone h1 _ _ (hf.put _ hN) hm)
    rw [hf.rd _ _ hx]; exact h2
  · refine step_val (v := .tuple #[.bool true, fk k, fv v]) (w' := w') rfl (run_v ?_) (hMore j k v h1 h2 _ _ (hf.put _ hN) (hm.upd hi h4))
    rw [hf.rd _ _ hx]; exact h3
end
end Go.Proofs.Ytbiapeaghbndoaa
/- Operations told by what is known of memory before and behind. Over any program. -/
namespace Go.Proofs.Ytbiapeaghbndoaa
open Go Go.RowKit
section
variable {C : Cx} {ops : Array Oper} {os : List Oper} {Q : Post} {K : List (Nat × Value)} {L : Heap} {o : Oper}
theorem TL_op {ι : Type} {d : Nat} (v : ι → Value) (LN : ι → Heap) (hr : ∀ ρ w, Rd K ρ → MemOk C.w₀ L w → ∃ x w', (execOp ρ o).run C.P w = .ok (.value (v x)) w' ∧ MemOk C.w₀ (LN x) w') (hd : o.dst = some d) (hN : Nat.blt d C.N = true) (hn : isDefer o.op = false) (hw : Want ops K o true)
    (h : ∀ x, TL C ops os Q ((d, v x) :: K) (LN x)) : TL C ops (o :: os) Q K L := by
  intro a w hf hm
  unfold wpListIn
  rw [hw.is hf, if_pos rfl]
  obtain ⟨x, w', h1, h2⟩ := hr _ _ hf.rd hm
  refine step_val hn h1 ?_
  rw [hd]
  exact h x _ _ (hf.put _ hN) h2
theorem TL_op1 {d : Nat} (v : Value) (L' : Heap) (hr : ∀ ρ w, Rd K ρ → MemOk C.w₀ L w → ∃ w', (execOp ρ o).run C.P w = .ok (.value v) w' ∧ MemOk C.w₀ L' w') (hd : o.dst = some d) (hN : Nat.blt d C.N = true) (hn : isDefer o.op = false) (hw : Want ops K o true)
    (h : TL C ops os Q ((d, v) :: K) L') : TL C ops (o :: os) Q K L := TL_op (ι := Unit) (fun _ => v) (fun _ => L') (fun ρ w j hm => ⟨(), hr ρ w j hm⟩) hd hN hn hw (fun _ => h)
end
section
variable {C : Cx} {R : Rg} {Q : Post} {K0 V : List (Nat × Value)} {lo : Nat} {L : Heap}
theorem LOb_op {ι : Type} {c d : Nat} {o : Oper} (v : ι → Value) (LN : ι → Heap) (news : ι → List (Nat × Value)) (ho : R.ops[c]? = some o) (hw : WantV V o true) (hd : o.dst = some d) (hn : isDefer o.op = false)
    (hr : ∀ ρ w, Rd (kOf K0 V (R.S.getD c [])) ρ → MemOk C.w₀ L w → ∃ x w', (execOp ρ o).run C.P w = .ok (.value (v x)) w' ∧ MemOk C.w₀ (LN x) w') (hnew : ∀ x, newsOk R c (news x) = true)
    (h : ∀ x, G C R Q K0 (lo ||| 2 ^ c) (news x ++ (c, v x) :: V) (LN x)) : LOb C R Q K0 lo V L c := by
  refine ⟨o, ho, hw, fun a w next hrd hm _ hnext => ?_⟩
  obtain ⟨x, w', h1, h2⟩ := hr _ _ hrd hm
  refine step_val hn h1 ?_
  have hnw := hnew x
  simp only [newsOk, Bool.and_eq_true, Bool.not_eq_true'] at hnw
  exact hnext _ _ _ _ (.inl (lk_app _ _ _ hnw.2)) (extV _ _ _ hnw.1) h2 (h x)
theorem LOb_op1 {c d : Nat} {o : Oper} (v : Value) (L' : Heap) (news : List (Nat × Value)) (ho : R.ops[c]? = some o) (hw : WantV V o true) (hd : o.dst = some d) (hn : isDefer o.op = false)
    (hr : ∀ ρ w, Rd (kOf K0 V (R.S.getD c [])) ρ → MemOk C.w₀ L w → ∃ w', (execOp ρ o).run C.P w = .ok (.value v) w' ∧ MemOk C.w₀ L' w') (hnew : newsOk R c news = true)
    (h : G C R Q K0 (lo ||| 2 ^ c) (news ++ (c, v) :: V) L') : LOb C R Q K0 lo V L c :=
  LOb_op (ι := Unit) (fun _ => v) (fun _ => L') (fun _ => news) ho hw hd hn (fun ρ w j hm => ⟨(), hr ρ w j hm⟩) (fun _ => hnew) (fun _ => h)
theorem LOb_opS {c : Nat} {o : Oper} (L' : Heap) (news : List (Nat × Value)) (ho : R.ops[c]? = some o) (hw : WantV V o true) (hd : o.dst = none) (hn : isDefer o.op = false)
    (hr : ∀ ρ w, Rd (kOf K0 V (R.S.getD c [])) ρ → MemOk C.w₀ L w → ∃ w', (execOp ρ o).run C.P w = .ok .skip w' ∧ MemOk C.w₀ L' w') (hnew : newsOk R c news = true)
    (h : G C R Q K0 (lo ||| 2 ^ c) (news ++ (c, undef) :: V) L') : LOb C R Q K0 lo V L c := by
  refine ⟨o, ho, hw, fun a w next hrd hm _ hnext => ?_⟩
  obtain ⟨w', h1, h2⟩ := hr _ _ hrd hm
  refine step_skip hn h1 ?_
  simp only [newsOk, Bool.and_eq_true, Bool.not_eq_true'] at hnew
  exact hnext _ _ _ _ (.inr hd) (extV _ _ _ hnew.1) h2 h
end
section
variable {C : Cx} {Q : Post} {K : List (Nat × Value)} {L : Heap}
theorem p_mem {e : Exit} (L' : Heap) (hL : ∀ w, MemOk C.w₀ L w → MemOk C.w₀ L' w) (h : POk C Q e K L') : POk C Q e K L := fun a w hf hm => h a w hf (hL w hm)
end
theorem row_cap {w : World} {base n s cap : Nat} {e : TypeId} {a : Option Addr} {xs : List Value} (h : w.ownsRow base e s (.slice a n cap) n xs) : cap ≤ Go.maxLen := by
  rcases h.2 with ⟨h1, _⟩ | ⟨g, cap', cur, h1, _, _, _, h5, _⟩
  · cases h1; decide
  · cases h1; exact h5
/-! ### rows of elements of any size: made, copied into, stored into -/
section
variable {P : Program} {w₀ w : World} {L : Heap} {ρ : Operand → Value} {d : Option Tmp} {ty : TypeId} {ps : String} {af : Array Edge} {g : Option (Nat × Bool)}
theorem made_toList {z : Array Value} {s : Nat} (hz : z.size = s) (hs : 0 < s) : ∀ n, (madeCells z (n * s)).toList = (List.replicate n z.toList).flatten
  | 0 => by simp [madeCells]
  | n + 1 => by
    apply List.ext_getElem?
    intro i
    rw [List.replicate_succ, List.flatten_cons]
    by_cases h : i < s
    · rw [List.getElem?_append_left (by rw [Array.length_toList, hz]; exact h)]
      unfold madeCells
      have h2 : i < (n + 1) * s := by rw [Nat.add_mul, Nat.one_mul]; omega
      simp [h2, hz, Nat.mod_eq_of_lt h, h]
    · rw [List.getElem?_append_right (by rw [Array.length_toList, hz]; omega), Array.length_toList, hz, ← made_toList hz hs n]
      unfold madeCells
      by_cases h2 : i < (n + 1) * s
      · have h3 : i - s < n * s := by rw [Nat.add_mul, Nat.one_mul] at h2; omega
        have h4 : i % s = (i - s) % s := by rw [← Nat.mod_eq_sub_mod (by omega)]
        simp [h2, h3, hz, h4]
      · have h3 : ¬ i - s < n * s := by rw [Nat.add_mul, Nat.one_mul] at h2; omega
        simp [h2, h3]
theorem flat_repl {α : Type} {f : α → List Value} {u : α} {xs : List Value} (hf : f u = xs) (n : Nat) : (List.replicate n u).flatMap f = (List.replicate n xs).flatten := by
  rw [List.flatMap_def, List.map_replicate, hf]
theorem o_make {x y : Operand} {t e : TypeId} {n cap by' s : Nat} {z : Value} {α : Type} {f : α → List Value} {u : α} (i : Nat) (hfr : lk L i = none) (hx : ρ x = .int .i64 (n : Nat)) (hy : ρ y = .int .i64 (cap : Nat)) (ht : sliOf P t = some e) (hby : byOf P e = some by') (hs : szOf P e = some s) (hs0 : Nat.blt 0 s = true)
    (hz : zeroOf P e = some z) (hzc : z.cells.toList = f u) (hfl : ∀ x, (f x).length = s) (hnc : n ≤ cap) (h63 : cap ≤ 4611686018427387904) (hb : by' * cap ≤ 140737488355328) (hm : MemOk w₀ L w) :
    ∃ B w', (execOp ρ (mk d (.makeSlice t x y) ty ps af g)).run P w = .ok (.value (.slice (some ⟨B, 0, none⟩) n cap)) w' ∧ MemOk w₀ ((i, .row (.slice (some ⟨B, 0, none⟩) n cap) e s n ((List.replicate n u).flatMap f)) :: L) w' := by
  obtain ⟨ti, hi, hsz⟩ := Option.map_eq_some_iff.1 hs
  obtain ⟨ti', hi', hbz⟩ := Option.map_eq_some_iff.1 hby
  rw [hi] at hi'; cases hi'
  have hzz : ti.zero = some z := by simpa [zeroOf, hi] using hz
  have hs1 : 0 < s := by rw [Nat.blt_eq] at hs0; exact hs0
  have hb' : (ti.bytes : Int) * (cap : Int) ≤ 281474976710656 := by
    have h : ((ti.bytes * cap : Nat) : Int) ≤ 281474976710656 := by rw [hbz]; omega
    rwa [Int.natCast_mul] at h
  have hr := run_make (P := P) w t e ti z (und_sli ht) hi hzz .i64 .i64 n cap (by omega) (by omega) hb' (by omega)
  simp only [Int.toNat_natCast] at hr
  refine ⟨w.heap.size, _, run_v (by rw [hx, hy]; exact hr), ?_⟩
  have hzs : z.cells.size = s := by rw [← Array.length_toList, hzc, hfl]
  refine hm.grow (n := 0) (xs := []) (.inr ⟨hfr, (rfl : (Value.slice none 0 0).ownBlock = none)⟩) (World.grownBy_alloc w _ none) ⟨?_, .inr ⟨w.heap.size, cap, _, rfl, hm.ext.size, Go.heap_alloc_new w _, hnc, by unfold Go.maxLen; omega, ?_, ?_⟩⟩ (.inr rfl)
  · rw [flat_len hfl, List.length_replicate]
  · rw [hsz]; simp [madeCells]
  · rw [hsz, made_toList hzs hs1, hzc, ← flat_repl rfl]
    have : ((List.replicate cap u).flatMap f).take (n * s) = ((List.replicate cap u).take n).flatMap f := by
      have h1 : List.replicate cap u = List.replicate n u ++ List.replicate (cap - n) u := by rw [List.replicate_append_replicate]; congr 1; omega
      rw [h1, List.flatMap_append, List.take_left' (by rw [flat_len hfl, List.length_replicate]), List.take_left' (by rw [List.length_replicate])]
    rw [this, List.take_replicate, Nat.min_eq_left hnc]
theorem o_copy {x y : Operand} {t t2 e : TypeId} {ats : Array TypeId} {n cap B s : Nat} {v2 : Value} {xs news : List Value} (i : Nat) (hi : lk L i = some (.row (.slice (some ⟨B, 0, none⟩) n cap) e s n xs)) (hx : ρ x = .slice (some ⟨B, 0, none⟩) n cap) (hy : ρ y = v2) (hat : ats = #[t, t2])
    (ht : sliOf P t = some e) (hs : szOf P e = some s) (hsrc : Src w v2 s n news) (hone : ∀ u ∈ news, u.oneCell' = true) (hm : MemOk w₀ L w) :
    ∃ w', (execOp ρ (mk d (.call { callee := .builtin .copy, args := #[x, y], argTypes := ats }) ty ps af g)).run P w = .ok (.value (.int .i64 (n : Nat))) w' ∧ MemOk w₀ ((i, .row (.slice (some ⟨B, 0, none⟩) n cap) e s n news) :: L) w' := by
  subst hat
  have hrow := hm.row i hi
  obtain ⟨ti, hti, hsz⟩ := Option.map_eq_some_iff.1 hs
  suffices hg : ∃ w', (Builtin.copy_ #[t, t2] ty #[.slice (some ⟨B, 0, none⟩) n cap, v2]).run P w = .ok (.int .i64 (n : Nat)) w' ∧ MemOk w₀ ((i, .row (.slice (some ⟨B, 0, none⟩) n cap) e s n news) :: L) w' by
    obtain ⟨w', h1, h2⟩ := hg
    refine ⟨w', ?_, h2⟩
    rw [run_builtin]
    simp only [List.map_toArray, List.map_cons, List.map_nil, hx, hy]
    exact run_v h1
  have same : n = 0 → news = [] → MemOk w₀ ((i, .row (.slice (some ⟨B, 0, none⟩) n cap) e s n news) :: L) w := by
    intro h0 hn
    have hx : xs = [] := List.eq_nil_of_length_eq_zero (by rw [hrow.1, h0, Nat.zero_mul])
    subst hn hx
    exact hm.of (lk_dup hi)
  have hl0 : ∀ (x : Addr), (loadCells x 0).run P w = .ok #[] w := fun x => by simpa using run_loadCells_list (P := P) w x [] (by simp)
  rcases hsrc with ⟨rfl, h0, hn⟩ | ⟨x, c, rfl, h0, hn⟩ | ⟨b, off, c, rfl, hl, hcell⟩
  · refine ⟨w, ?_, same h0 hn⟩
    subst h0
    simp [Builtin.copy_, run_underlying (und_sli ht), Builtin.lenOf, Builtin.firstCells, sizeOf, typeInfo, hti, storeCells, goInt]
  · refine ⟨w, ?_, same h0 hn⟩
    subst h0
    simp [Builtin.copy_, run_underlying (und_sli ht), Builtin.lenOf, Builtin.firstCells, sizeOf, typeInfo, hti, storeCells, goInt, hl0]
  · rcases hrow.2 with ⟨h1, _⟩ | ⟨g, cap', cur, h1, hbg, hg, hnc, hcm, hcs, htk⟩
    · cases h1
    · cases h1
      have hle := Nat.mul_le_mul_right s hnc
      have hld := run_loadCells_list (P := P) w ⟨b, off, none⟩ news (fun j u hu => by rw [addr_add]; exact hcell j u hu)
      have hst := run_storeCells_at P B 0 e news 0 cur w hg (by omega) hone
      have hr : (Builtin.copy_ #[t, t2] ty #[.slice (some ⟨B, 0, none⟩) n cap, .slice (some ⟨b, off, none⟩) n c]).run P w = .ok (.int .i64 (n : Nat)) (w.setRow B (cur.toList.take 0 ++ news ++ cur.toList.drop (0 + news.length)).toArray) := by
        simp only [Nat.add_zero] at hst
        simp [Builtin.copy_, run_underlying (und_sli ht), Builtin.lenOf, Builtin.firstCells, sizeOf, typeInfo, hti, hsz, goInt, ← hl, hld]
        simp at hst
        rw [hst]
        rfl
      refine ⟨_, hr, ?_⟩
      refine hm.grow (.inl hi) ⟨rfl, rfl, rfl, by simp, fun k _ hk => setRow_other w B k _ (fun e => hk (by simp [Value.ownBlock, e]))⟩ ⟨hl, .inr ⟨B, cap, _, rfl, hbg, setRow_heap w B cur _ e _ hg, hnc, hcm, ?_, ?_⟩⟩ (.inl rfl)
      · simp only [List.size_toArray, List.length_append, List.length_take, List.length_drop, Array.length_toList]
        omega
      · rw [List.take_zero, List.nil_append, ← hl]
        exact List.take_left
theorem o_storeC {x y : Operand} {t e : TypeId} {s n cap B off q : Nat} {v : Value} {xs xs' : List Value} (i : Nat) (hi : lk L i = some (.row (.slice (some ⟨B, 0, none⟩) n cap) e s n xs)) (hx : ρ x = .pointer (some ⟨B, off, none⟩)) (hy : ρ y = v) (hs : szOf P t = some q) (hv : v.cells.size = q)
    (ho : v.cells.toList.all isOne = true) (hoff : off + q ≤ n * s) (hlen : xs'.length = n * s) (hxs : ∀ post, wrC (xs ++ post).toArray off v.cells.toList = (xs' ++ post).toArray) (hm : MemOk w₀ L w) :
    ∃ w', (execOp ρ (mk none (.store t x y) ty ps af g)).run P w = .ok .skip w' ∧ MemOk w₀ ((i, .row (.slice (some ⟨B, 0, none⟩) n cap) e s n xs') :: L) w' := by
  have hrow := hm.row i hi
  rcases hrow.2 with ⟨h1, _⟩ | ⟨g', cap', cur, h1, hbg, hg, hnc, hcm, hcs, htk⟩
  · cases h1
  · cases h1
    have hle2 : n * s ≤ cap * s := Nat.mul_le_mul_right s hnc
    obtain ⟨post, hpost⟩ : ∃ post, cur.toList = xs ++ post := ⟨cur.toList.drop (n * s), by rw [← htk, List.take_append_drop]⟩
    obtain ⟨w', hr, hu⟩ := run_storeVar (P := P) (t := t) (off := off) hs hg hv (by omega) ho
    have hcur : wrC cur off v.cells.toList = (xs' ++ post).toArray := by
      rw [← hxs post]; congr 1; apply Array.ext'; rw [hpost]
    rw [hcur] at hu
    have hxl : xs.length = n * s := hrow.1
    refine ⟨w', ?_, hm.grow (.inl hi) ⟨hu.os, hu.tape, hu.output, by rw [hu.size]; exact Nat.le_refl _, fun j _ hj => hu.other j (fun e => hj (by rw [e]; rfl))⟩ ⟨hlen, .inr ⟨B, cap, _, rfl, hbg, hu.this, hnc, hcm, ?_, ?_⟩⟩ (.inl rfl)⟩
    · show (do Instr.storeAt t (ρ x) (ρ y); pure Next.skip : Sem Next).run P w = _
      rw [hx, hy, run_bind_ok (a := ()) (w' := w')]
      · rfl
      · unfold Instr.storeAt
        rw [run_bind_ok (a := ⟨B, off, none⟩) (w' := w) rfl]
        exact hr
    · have hc1 : cur.size = (xs ++ post).length := by rw [← hpost, Array.length_toList]
      rw [List.length_append] at hc1
      rw [List.size_toArray, List.length_append]
      omega
    · show (xs' ++ post).take (n * s) = xs'
      rw [← hlen]
      exact List.take_left
theorem wr_part {α : Type} {f : α → List Value} {s : Nat} (hf : ∀ x, (f x).length = s) {l : List α} {k : Nat} {u u' : α} {pre mid suf vs : List Value} (hu : l[k]? = some u) (h1 : f u = pre ++ mid ++ suf) (h2 : f u' = pre ++ vs ++ suf) (hl : mid.length = vs.length) (off : Nat) (hoff : off = k * s + pre.length) (post : List Value) :
    wrC (l.flatMap f ++ post).toArray off vs = ((l.set k u').flatMap f ++ post).toArray := by
  have hk := (List.getElem?_eq_some_iff.1 hu).1
  obtain ⟨p, x, q, e1, e2, e3, e4⟩ := flat_set hf hk u'
  have ex : x = f u := by
    have h5 : (l.flatMap f).drop (k * s) = f u ++ (l.drop (k + 1)).flatMap f := by
      rw [flat_drop hf, List.drop_eq_getElem_cons hk, List.flatMap_cons]
      congr 2
      rw [List.getElem?_eq_getElem hk] at hu
      exact Option.some.inj hu
    rw [e1, ← e2, List.append_assoc, List.drop_left] at h5
    have := congrArg (List.take s) h5
    rwa [List.take_left' e3, List.take_left' (hf u)] at this
  rw [e1, e4, ex, h1, h2, hoff, ← e2]
  have := wrC_list vs mid (p ++ pre) (suf ++ q ++ post) hl
  rw [List.length_append] at this
  simpa using this
theorem o_storeAbs {x y : Operand} {t : TypeId} {q n : Nat} {v : Value} {cs cs' : Array Value} {T : TypeId} (i : Nat) {F : Nat → Prop} {H H' : World → Prop} (hi : lk L i = some (.abs F H)) (hx : ρ x = .pointer (some ⟨q, 0, none⟩)) (hy : ρ y = v) (hs : szOf P t = some n) (hF : F q) (hb : hp w q = some (.cells cs T (0, 0)))
    (hc : cs.size = n) (hv : v.cells = cs') (hc' : cs'.size = n) (ho : cs'.toList.all isOne = true) (hH : ∀ w', H w → Upd w q (.cells cs' T (0, 0)) w' → H' w') (hk : ∀ w1 w2, H' w1 → (∀ b, F b → hp w2 b = hp w1 b) → H' w2) (hm : MemOk w₀ L w) :
    ∃ w', (execOp ρ (mk none (.store t x y) ty ps af g)).run P w = .ok .skip w' ∧ MemOk w₀ ((i, .abs F H') :: L) w' := by
  obtain ⟨w', hr, hu⟩ := run_storeVar (P := P) (t := t) (off := 0) hs hb (v := v) (by rw [hv]; exact hc') (by omega) (by rw [hv]; exact ho)
  have e : wrC cs 0 v.cells.toList = cs' := by
    have := wrC_list cs'.toList cs.toList [] [] (by simp [hc, hc'])
    rw [hv]; simpa using this
  rw [e] at hu
  have ok := hm.own i _ hi
  refine ⟨w', ?_, ?_⟩
  · show (do Instr.storeAt t (ρ x) (ρ y); pure Next.skip : Sem Next).run P w = _
    rw [hx, hy, run_bind_ok (a := ()) (w' := w')]
    · rfl
    · unfold Instr.storeAt
      rw [run_bind_ok (a := ⟨q, 0, none⟩) (w' := w) rfl]
      exact hr
  · have hlo := ok.2.1 q hF
    refine hm.set i _ ⟨hu.os.trans hm.ext.os, hu.tape.trans hm.ext.tape, hu.output.trans hm.ext.output, by rw [hu.size]; exact hm.ext.size, fun k hk => (hu.other k (by omega)).trans (hm.ext.block k hk)⟩ ⟨hH w' ok.1 hu, fun b hb => ?_, hk⟩ (fun j r hl hne b hr2 => ⟨hu.other b (fun e => ?_), fun hFb => hm.sep i j _ _ hi hl (Ne.symm hne) b hFb hr2⟩)
    · rw [hu.size]; exact ok.2.1 b hb
    · subst e
      exact hm.sep i j _ _ hi hl (Ne.symm hne) b hF hr2
end
/-! ### maps: an entry laid, an entry that has come -/
section
variable {κ μ : Type} {fk : κ → Value} {fv : μ → Value} [DecidableEq κ] {P : Program} {w : World} {kt : TypeId} {ρ : Operand → Value} {d : Option Tmp} {ty : TypeId} {ps : String} {af : Array Edge} {g : Option (Nat × Bool)} {x y v : Operand} {t e : TypeId}
theorem put_none (u : μ) (c : κ) : ∀ (l : List (κ × μ)) (i : Nat), fndM c l i = none → putM c u l = l ++ [(c, u)]
  | [], _, _ => rfl
  | (k, v) :: l, i, h => by
    unfold fndM at h
    unfold putM
    by_cases hc : c = k
    · rw [if_pos hc] at h; cases h
    · rw [if_neg hc] at h ⊢
      rw [put_none u c l (i + 1) h]; rfl
theorem r_mapUpdate {b : Nat} {c : κ} {z u : μ} {l : List (κ × μ)} (K : KeyOk P kt fk) (ht : mapOf P t = some (kt, e)) (hx : ρ x = .map (some b)) (hy : ρ y = fk c) (hv : ρ v = fv u) (hb : hp w b = some (mapO fk fv l)) :
    ∃ w', (execOp ρ (mk d (.mapUpdate t x y v) ty ps af g)).run P w = .ok .skip w' ∧ Upd w b (mapO fk fv (putM c u l)) w' := by
  refine ⟨w.putObj b (mapO fk fv (putM c u l)), ?_, upd_put hb⟩
  show (do Instr.mapUpdate t (ρ x) (ρ y) (ρ v); pure Next.skip : Sem Next).run P w = _
  rw [hx, hy, hv, run_bind_ok (a := ()) (w' := w.putObj b (mapO fk fv (putM c u l)))]
  · rfl
  · unfold Instr.mapUpdate
    rw [run_underlying (und_map ht)]
    dsimp only
    rw [run_bind_ok (run_getMap hb)]
    unfold mapO
    dsimp only
    rw [run_bind_ok (K.chk _ c w), run_bind_ok (run_findKey K c l)]
    obtain ⟨h1, h2, h3, h4⟩ := fnd_get z c l 0
    cases h : fndM c l 0 with
    | none =>
      simp only [Option.map_none]
      rw [put_none u c l 0 h]
      have : (ents fk fv l 0).toArray.push ({ key := fk c, val := fv u, born := l.length } : MapEntry) = (ents fk fv (l ++ [(c, u)]) 0).toArray := by
        rw [ents_app, List.push_toArray]
        show _ = (_ ++ [({ key := fk c, val := fv u, born := 0 + l.length } : MapEntry)]).toArray
        rw [Nat.zero_add]
      rw [this, List.length_append, List.length_singleton]
      exact run_setMap _ hb
    | some q =>
      obtain ⟨i, u'⟩ := q
      obtain ⟨h5, h6, h7, h8⟩ := h3 i u' h
      rw [Nat.zero_add] at h5
      subst h5
      simp only [Option.map_some]
      have hk : (Instr.keyThatStays ((((ents fk fv l 0).toArray[idxM c l]?).map (·.key)).getD (fk c)) (fk c)).run P w = .ok (fk c) w := by
        rw [List.getElem?_toArray, ents_at, h8]
        unfold Instr.keyThatStays
        show (if Instr.sameBits 10000 (fk c) (fk c) = true then pure (fk c) else _ : Sem Value).run P w = _
        rw [if_pos (K.same c)]; rfl
      rw [run_bind_ok hk]
      have e1 : setM (idxM c l) u l = putM c u l := by
        have := set_ent z u c l
        rwa [h7] at this
      have e2 : (ents fk fv l 0).toArray.modify (idxM c l) (fun e => { e with key := fk c, val := fv u }) = (ents fk fv (putM c u l) 0).toArray := by
        apply Array.ext_getElem?
        intro j
        rw [← e1, Array.getElem?_modify, List.getElem?_toArray, List.getElem?_toArray, ents_set]
        by_cases hj : idxM c l = j
        · subst hj
          rw [if_pos rfl, if_pos rfl, ents_at, h8]; rfl
        · rw [if_neg hj, if_neg hj]
      rw [e2, ← e1, setM_len]
      exact run_setMap _ hb
omit [DecidableEq κ] in
omit [DecidableEq κ] in
theorem r_entry {b r j : Nat} {k : κ} {u : μ} {l : List (κ × μ)} {seen : List Nat} (hx : ρ x = .pointer (some ⟨r, 0, none⟩)) (hr : hp w r = some (itO b l.length (seen ++ [j]))) (hb : hp w b = some (mapO fk fv l)) (hj : l[j]? = some (k, u)) :
    (execOp ρ (mk d (.entry x) ty ps af g)).run P w = .ok (.value (.tuple #[fk k, fv u])) w := by
  refine run_v ?_
  rw [hx]
  have hm : ({ key := fk k, val := fv u, born := j } : MapEntry) ∈ (ents fk fv l 0) := List.mem_of_getElem? (i := j) (by rw [ents_at, hj]; simp)
  have hn : ((ents fk fv l 0).map (·.born)).Nodup := by
    have : ∀ (l : List (κ × μ)) (n : Nat), (ents fk fv l n).map (·.born) = List.range' n l.length := by
      intro l
      induction l with
      | nil => intro n; rfl
      | cons z l ih => intro n; obtain ⟨a, b⟩ := z; unfold ents; rw [List.map_cons, ih, List.length_cons, List.range'_succ]
    rw [this]
    exact List.nodup_range'
  have hr' : w.heap[r]? = some (.mapIter (some b) l.length (seen.toArray.push j) l.length) := by
    have : hp w r = some (itO b l.length (seen ++ [j])) := hr
    unfold itO at this
    rw [List.push_toArray]; exact this
  exact run_entry_at (P := P) w r b l.length seen.toArray (ents fk fv l 0).toArray l.length _ hr' hb (by simpa using hm) (by simpa using hn)
end
end Go.Proofs.Ytbiapeaghbndoaa
/- canvas: tiles in memory, many of them; what is new. -/
namespace Go.Proofs.Ytbiapeaghbndoaa
open Go Go.RowKit
section
variable {α : Type} {f : α → Nat × T64}
def tlsF (f : α → Nat × T64) (l : List α) (b : Nat) : Prop := ∃ x ∈ l, (f x).1 = b
def tlsH (f : α → Nat × T64) (l : List α) (w : World) : Prop := (∀ x ∈ l, hp w (f x).1 = some (tilO (f x).2)) ∧ l.Pairwise fun x y => (f x).1 ≠ (f y).1
abbrev Res.tls (f : α → Nat × T64) (l : List α) : Res := .abs (tlsF f l) (tlsH f l)
theorem tls_keep {l : List α} (w1 w2 : World) (h : tlsH f l w1) (hb : ∀ b, tlsF f l b → hp w2 b = hp w1 b) : tlsH f l w2 := ⟨fun x hx => (hb _ ⟨x, hx, rfl⟩).trans (h.1 x hx), h.2⟩
theorem MemOk.tls0 {w₀ w : World} {L : Heap} (h : MemOk w₀ L w) (k : Nat) (f : α → Nat × T64) : MemOk w₀ ((k, .tls f []) :: L) w :=
  h.set k _ h.ext ⟨⟨(fun x hx => nomatch hx), List.Pairwise.nil⟩, (fun b hb => by obtain ⟨r, hr, _⟩ := hb; cases hr), tls_keep⟩ (fun _ _ _ _ b _ => ⟨rfl, fun hb => by obtain ⟨r, hr, _⟩ := hb; cases hr⟩)
theorem MemOk.tl {w₀ w : World} {L : Heap} (h : MemOk w₀ L w) (k : Nat) {l : List α} (hk : lk L k = some (.tls f l)) {x : α} (hx : x ∈ l) : hp w (f x).1 = some (tilO (f x).2) := (h.own k _ hk).1.1 x hx
theorem MemOk.tlPush {w₀ w : World} {L : Heap} (h : MemOk w₀ L w) (k j : Nat) {l : List α} {q : Nat} {o : Obj} (x : α) (hk : lk L k = some (.tls f l)) (hj : lk L j = some (.blk q o)) (hq : (f x).1 = q) (ho : tilO (f x).2 = o) (hne : Nat.beq k j = false) :
    MemOk w₀ ((k, .tls f (l ++ [x])) :: (j, .no) :: L) w := by
  have hkj : k ≠ j := fun e => by subst e; rw [Nat.beq_refl] at hne; cases hne
  have ok1 := h.own k _ hk
  have ok2 := h.own j _ hj
  have h0 : MemOk w₀ ((j, .no) :: L) w := h.set j _ h.ext ⟨trivial, (fun _ hb => hb.elim), fun _ _ _ _ => trivial⟩ (fun _ _ _ _ b _ => ⟨rfl, id⟩)
  subst hq ho
  refine h0.set k _ h0.ext ⟨⟨fun y hy => ?_, ?_⟩, ?_, tls_keep⟩ (fun i r hi hne' b hb => ⟨rfl, ?_⟩)
  · rcases List.mem_append.1 hy with h1 | h1
    · exact ok1.1.1 y h1
    · rw [List.mem_singleton.1 h1]; exact ok2.2
  · refine List.pairwise_append.2 ⟨ok1.1.2, List.pairwise_singleton _ _, fun y hy z hz => ?_⟩
    rw [List.mem_singleton.1 hz]
    exact fun e => h.sep k j _ _ hk hj hkj (f x).1 ⟨y, hy, e⟩ rfl
  · rintro b ⟨y, hy, hb⟩
    rcases List.mem_append.1 hy with h1 | h1
    · exact ok1.2.1 b ⟨y, h1, hb⟩
    · rw [List.mem_singleton.1 h1] at hb; subst hb; exact ⟨ok2.1, hp_lt ok2.2⟩
  · rintro ⟨y, hy, hyb⟩
    by_cases e2 : j = i
    · subst e2; rw [lk_cons_same] at hi; cases hi; exact hb
    · rw [lk_cons_other _ _ e2] at hi
      rcases List.mem_append.1 hy with h1 | h1
      · exact h.sep k i _ _ hk hi (Ne.symm hne') b ⟨y, h1, hyb⟩ hb
      · rw [List.mem_singleton.1 h1] at hyb
        subst hyb
        exact h.sep j i _ _ hj hi e2 (f x).1 rfl hb
end
abbrev BT := Nat × T64
abbrev BT.ptr (x : BT) : List Value := [.pointer (some ⟨x.1, 0, none⟩)]
theorem bt_flat : ∀ l : List BT, l.flatMap BT.ptr = (l.map (·.1)).flatMap ptrc
  | [] => rfl
  | x :: l => by rw [List.flatMap_cons, List.map_cons, List.flatMap_cons, bt_flat l]
theorem bt_at {l : List BT} {ts : List T64} {i q : Nat} {t : T64} (h : l.map (·.2) = ts) (hq : (l.map (·.1))[i]? = some q) (ht : ts[i]? = some t) : (q, t) ∈ l := by
  subst h
  rw [List.getElem?_map] at hq ht
  obtain ⟨x, hx, rfl⟩ := Option.map_eq_some_iff.1 hq
  rw [hx] at ht
  cases ht
  exact List.mem_of_getElem? hx
theorem snd_step {α β : Type} {l : List (α × β)} {ts : List β} {k : Nat} {a : α} {t : β} (h : l.map (·.2) = ts.take k) (ht : ts[k]? = some t) : (l ++ [(a, t)]).map (·.2) = ts.take (k + 1) := by
  rw [List.map_append, h, List.take_add_one, ht]; rfl
theorem snd_all {α β : Type} {l : List (α × β)} {ts : List β} (h : l.map (·.2) = ts.take ts.length) : l.map (·.2) = ts := by rw [h, List.take_length]
theorem map_len {α β : Type} {l : List (α × β)} {ts : List β} (h : l.map (·.2) = ts) : l.length = ts.length := by rw [← h, List.length_map]
theorem map_len' {α β : Type} {l : List (α × β)} {ts : List β} {k : Nat} (h : l.map (·.2) = ts.take k) (hk : k ≤ ts.length) : l.length = k := by
  have := congrArg List.length h
  rw [List.length_map, List.length_take] at this; omega
abbrev optc (q : Option Nat) : List Value := [.pointer (q.map fun b => ⟨b, 0, none⟩)]
theorem optc_len (q : Option Nat) : (optc q).length = 1 := rfl
theorem ptr_flat : ∀ l : List Nat, (l.map some).flatMap optc = l.flatMap ptrc
  | [] => rfl
  | x :: l => by rw [List.map_cons, List.flatMap_cons, List.flatMap_cons, ptr_flat l]; rfl
theorem ptrc_one1 : ∀ {l : List Nat}, ∀ u ∈ l.flatMap ptrc, u.oneCell' = true := by
  intro l u hu
  obtain ⟨x, _, hx⟩ := List.mem_flatMap.1 hu
  rw [List.mem_singleton.1 hx]; rfl
theorem tile_one1 : ∀ {l : List T64}, ∀ u ∈ l.flatMap T64.cells, u.oneCell' = true := by
  intro l u hu
  obtain ⟨x, _, hx⟩ := List.mem_flatMap.1 hu
  exact T64.cells_one x u hx
structure CvNew (w w' : World) (l : List Cv) (d : Cv) : Prop where
  below : Below w.heap.size w w'
  at' : CvAt w' d
  foot : ∀ b, d.foot b → w.heap.size ≤ b ∨ cvsF l b
theorem MemOk.cvGet {w₀ w w' : World} {L : Heap} (h : MemOk w₀ L w) (k : Nat) {l m : List Cv} (hk : lk L k = some (.cvs l)) {d : Cv} (hd : CvNew w w' m d) (hml : ∀ c ∈ m, c ∈ l) : MemOk w₀ ((k, .cvs (d :: l)) :: L) w' :=
  h.cvAdd hd.below k hk hd.at' fun b hb => (hd.foot b hb).imp id fun ⟨c, hc, hcf⟩ => ⟨c, hml c hc, hcf⟩
theorem run_build1 {P : Program} {t e : TypeId} {s : Nat} {z : Value} {cs : Array Value} (w : World) (ht : sliOf P t = some e) (hs : szOf P e = some s) (hz : zeroOf P e = some z) (h0 : Nat.blt 0 s = true) (hb : Nat.ble s 16777216 = true) (hc : cs.size = s) :
    (Instr.buildSlice t 1 #[(0, .agg cs)]).run P w = .ok (.slice (some ⟨w.heap.size, 0, none⟩) 1 1) (w.alloc (.cells cs e)) := by
  have hs0 : 0 < s := by rw [Nat.blt_eq] at h0; exact h0
  have hb' := Nat.le_of_ble_eq_true hb
  have hn : ¬ s = 0 := by omega
  have hn2 : ¬ 16777216 < s := by omega
  unfold Instr.buildSlice
  rw [run_underlying (und_sli ht)]
  dsimp only
  rw [run_bind_ok (run_sizeOf hs)]
  rw [Nat.one_mul, if_neg (by simpa using hn2)]
  simp only [if_neg hn]
  have hzr := run_zero (w := w) hz
  have hf : Instr.fill (fun i => some (i * s, s)) ((Array.range s).map (z.cells[· % z.cells.size]!)) [(0, .agg cs)] = some cs := fill_one (by simp) (by simp) hc
  simp [hzr, hf, newRow, hn, hc, Result.andThen]
theorem build_one {t : T64} (w : World) : (Instr.buildSlice 22 1 #[(0, til t.l)]).run Try.prog w = .ok (.slice (some ⟨w.heap.size, 0, none⟩) 1 1) (w.alloc (.cells (lst C4.cells t.l) 39)) :=
  run_build1 (z := .agg (lst C4.cells zero64)) w sl22 sz39 (by kernel_rfl) rfl rfl (tsz t.h)
end Go.Proofs.Ytbiapeaghbndoaa
/- canvas: New. Printed by a program of this seat's prover. -/
namespace Go.Proofs.Ytbiapeaghbndoaa
open Go Go.RowKit
set_option maxRecDepth 10000
theorem rep_set {n k : Nat} {x : Option Nat} (hk : k < n) : (List.replicate k x ++ List.replicate (n - k) none).set k x = List.replicate (k + 1) x ++ List.replicate (n - (k + 1)) none := by
 rw [List.set_append_right _ _ (by simp), List.length_replicate, Nat.sub_self, show n - k = (n - (k + 1)) + 1 by omega, List.replicate_succ, List.set_cons_zero, List.replicate_succ', List.append_assoc]; rfl

theorem new_c (m n : Nat) (w : World) (hm4 : 1 ≤ m ∧ m ≤ 4) (hn4 : 1 ≤ n ∧ n ≤ 4) : Calls Try.prog 29 #[.int .i64 (m : Int), .int .i64 (n : Int)] w fun e w' => ∃ c : Cv, e = .returned (.tuple #[.pointer (some ⟨c.p, 0, none⟩), .int .i64 0]) ∧ CvNew w w' [] c ∧ c.wd = m ∧ c.hg = n ∧ c.ts = List.replicate (m * n) zeroT := by
 have h16 := size4 hm4 hn4
 refine calls_of_T (l := [iN m, iN n]) 42 Try.func29 rfl rfl rfl ?_
 show T _ _ _ [(0, iN m), (1, iN n)] []
 refine T_seq (T_region ?_)
 refine TL_v (.pointer none) (s_as rfl) rfl rfl ?_
 refine TL_v (.int .i64 0) (s_as rfl) rfl rfl ?_
 refine TL_seq ?_
 refine T_seq (T_region ?_)
 refine TL_v (iN m) (s_mv rfl) rfl rfl ?_
 refine TL_v (iN n) (s_mv rfl) rfl rfl ?_
 refine TL_v (.agg #[iN m, iN n]) (fun _ _ j _ => r_build (vs := [(0, iN m), (1, iN n)]) (by kernel_rfl) (cons2 (pair2 (j _ _ rfl)) (cons2 (pair2 (j _ _ rfl)) rfl))) rfl rfl ?_
 refine TL_new 1 (.cells #[.int .i64 0, .int .i64 0] 109) (fun B => pt B 0) (fun _ _ _ _ => r_alloc (v := .agg #[.int .i64 0, .int .i64 0]) (by kernel_rfl) rfl) rfl rfl rfl (w_n rfl) ?_
 intro B1
 refine TL_store 1 (.cells #[iN m, iN n] 109) rfl (s_st sz109 rfl rfl 1 rfl rfl rfl rfl rfl) rfl rfl (w_n rfl) ?_
 refine TL_seq ?_
 refine T_seq ?_
 refine T_seq (T_region ?_)
 refine TL_v (.agg #[iN m, iN n]) (s_la ag109 sz109 rfl 1 rfl rfl rfl) rfl rfl ?_
 refine TL_call (.bool true) (fun _ _ j _ => r_call (args := [.agg #[iN m, iN n]]) (enters_of Try.func77 (by kernel_rfl) rfl) (j _ _ rfl) ((cons2 (j _ _ rfl) rfl)) rfl) (fun w _ => (may_c ((m : Nat) : Int) ((n : Nat) : Int) w).mono fun _ _ h => ⟨h.1.trans (congrArg Ending.returned (bool_as (mayI_of hm4 hn4))), h.2⟩) rfl rfl rfl (w_n rfl) ?_
 refine TL_v (.bool false) (fun _ _ j _ => r_not (b := true) (j _ _ rfl)) rfl rfl ?_
 refine TL_seq ?_
 refine T_cond_f rfl ?_
 refine T_skip' ?_
 refine p_seq ?_
 refine T_seq (T_draw (V := [(0, .agg #[iN m, iN n]), (1, iN m), (2, iN n), (3, iN (m * n))]) [0, 0, 0, 6, 14, 31, 63, 127] [[(6, none)], [(0, none)], [(1, none)], [(17, some 1), (18, some 2)], [(19, some 3)], [(16, some 0), (20, some 4)], [(21, some 5)], [(22, some 6)]] 80 mixed (by kernel_rfl) ?_)
 refine G_step [0, 1, 2, 3] 4 [] (by kernel_rfl) (allM (all_cons (q_r (.agg #[iN m, iN n]) rfl rfl rfl (s_la ag109 sz109 rfl 1 rfl rfl rfl)) (all_cons (q_r (iN m) rfl rfl rfl (s_mv rfl)) (all_cons (q_r (iN n) rfl rfl rfl (s_mv rfl)) (all_cons (q_r (iN (m * n)) rfl rfl rfl (s_op r_mul rfl rfl (iw (by omega) (by omega) (by omega)))) all_nil))))) (allM (all_cons ?_ all_nil))
 refine LOb_op (ι := Nat) (fun B => .slice (some ⟨B, 0, none⟩) (m * n) (m * n)) _ (fun B => [(5, .agg #[iN m, iN n, .slice (some ⟨B, 0, none⟩) (m * n) (m * n)])]) rfl (wv_n rfl) rfl rfl (fun _ _ j hm => o_make (n := m * n) (cap := m * n) (z := .pointer none) (f := optc) (u := none) 901 rfl (j _ _ rfl) (j _ _ rfl) sl104 by106 sz106 rfl (by kernel_rfl) rfl optc_len (by omega) (by omega) (by omega) hm) (fun B => by kernel_rfl) ?_
 intro B2
 refine G_step [0, 5] 6 [] (by kernel_rfl) (allM (all_cons (q_r (.agg #[iN m, iN n]) rfl rfl rfl (s_la ag109 sz109 rfl 1 rfl rfl rfl)) (all_cons (q_r (.agg #[iN m, iN n, .slice (some ⟨B2, 0, none⟩) (m * n) (m * n)]) rfl rfl rfl (fun _ _ j _ => r_build (vs := [(0, .agg #[iN m, iN n]), (1, .slice (some ⟨B2, 0, none⟩) (m * n) (m * n))]) (by kernel_rfl) (cons2 (pair2 (j _ _ rfl)) (cons2 (pair2 (j _ _ rfl)) rfl)))) all_nil))) (allM (all_cons ?_ all_nil))
 refine LOb_new 902 (.cells #[iN m, iN n, .slice (some ⟨B2, 0, none⟩) (m * n) (m * n)] 111) (fun B => pt B 0) (fun B => [(7, pt B 0)]) rfl (wv_n rfl) rfl rfl (fun _ _ j _ => r_box (j _ _ rfl) rfl) (fun B => by kernel_rfl) ?_
 intro B3
 refine G_last [7] [(4, .pointer none), (5, .int .i64 0), (7, pt B3 0)] (by kernel_rfl) (allM (all_cons (q_r (pt B3 0) rfl rfl rfl (s_as rfl)) all_nil)) (end_old rfl rfl (end_old rfl rfl (end_new 7 rfl rfl end_nil))) ?_
 refine T_seq (T_region ?_)
 refine TL_v (.agg (lst C4.cells zero64)) (fun _ _ _ _ => r_build (vs := []) (by kernel_rfl) rfl) rfl rfl ?_
 refine TL_new 903 (.cells (lst C4.cells zero64) 39) (fun B => pt B 0) (fun _ _ j _ => r_box (j _ _ rfl) rfl) rfl rfl rfl (w_n rfl) ?_
 intro B4
 refine TL_v (pt B4 0) (s_as rfl) rfl rfl ?_
 refine TL_seq ?_
 refine T_seq ?_
 refine T_seq (T_region ?_)
 refine TL_v (pt B3 0) (s_mv rfl) rfl rfl ?_
 refine TL_v (pt B3 0) (s_nc rfl rfl) rfl rfl ?_
 refine TL_v (pt B3 2) (s_fa fl111_1 sz104 rfl) rfl rfl ?_
 refine TL_v (.slice (some ⟨B2, 0, none⟩) (m * n) (m * n)) (s_ld ag104 rfl 902 rfl rfl) rfl rfl ?_
 refine TL_v (iN (m * n)) (fun _ _ j _ => r_len sl104 (j _ _ rfl)) rfl rfl ?_
 refine TL_v (.int .i64 0) (s_mv rfl) rfl rfl ?_
 refine TL_seq ?_
 refine T_block ?_
 refine T_loop (ι := Nat) (fun (k : Nat) => k ≤ m * n) (fun (k : Nat) => [(4, .pointer none), (5, .int .i64 0), (7, pt B3 0), (8, pt B4 0), (29, iN (m * n)), (30, iN k)]) (fun (k : Nat) => [(1, .blk B1 (.cells #[iN m, iN n] 109)), (902, .blk B3 (.cells #[iN m, iN n, .slice (some ⟨B2, 0, none⟩) (m * n) (m * n)] 111)), (903, .blk B4 (.cells (lst C4.cells zero64) 39)), (901, .row (.slice (some ⟨B2, 0, none⟩) (m * n) (m * n)) 106 1 (m * n) ((List.replicate k (some B4) ++ List.replicate (m * n - k) none).flatMap optc))]) (fun (k : Nat) => m * n - k) 0 (Nat.zero_le _) (sc4 rfl rfl rfl rfl (sc rfl (sc rfl sub_nil))) (sc4 rfl rfl rfl rfl sub_nil) ?_
 rintro k hp
 show T _ _ _ [(4, .pointer none), (5, .int .i64 0), (7, pt B3 0), (8, pt B4 0), (29, iN (m * n)), (30, iN k)] [(1, .blk B1 (.cells #[iN m, iN n] 109)), (902, .blk B3 (.cells #[iN m, iN n, .slice (some ⟨B2, 0, none⟩) (m * n) (m * n)] 111)), (903, .blk B4 (.cells (lst C4.cells zero64) 39)), (901, .row (.slice (some ⟨B2, 0, none⟩) (m * n) (m * n)) 106 1 (m * n) ((List.replicate k (some B4) ++ List.replicate (m * n - k) none).flatMap optc))]
 refine T_seq (T_region ?_)
 refine TL_v (.bool (decide (((k : Nat) : Int) < ((m * n : Nat) : Int)))) (fun _ _ j _ => r_lss (j _ _ rfl) (j _ _ rfl)) rfl rfl ?_
 refine TL_seq ?_
 refine T_seq ?_
 refine T_cond rfl (fun h1 => ?_) (fun h1 => ?_)
 ·replace h1 := of_decide_eq_true h1
  refine T_skip' ?_
  refine p_seq ?_
  refine T_seq ?_
  refine T_block ?_
  refine T_seq (T_region ?_)
  refine TL_v (iN k) (s_mv rfl) rfl rfl ?_
  refine TL_v (iN k) (s_as rfl) rfl rfl ?_
  refine TL_seq ?_
  refine T_region ?_
  refine TL_v (pt B3 0) (s_mv rfl) rfl rfl ?_
  refine TL_v (pt B3 0) (s_nc rfl rfl) rfl rfl ?_
  refine TL_v (pt B3 2) (s_fa fl111_1 sz104 rfl) rfl rfl ?_
  refine TL_v (.slice (some ⟨B2, 0, none⟩) (m * n) (m * n)) (s_ld ag104 rfl 902 rfl rfl) rfl rfl ?_
  refine TL_v (iN k) (s_mv rfl) rfl rfl ?_
  refine TL_v (pt B4 0) (s_mv rfl) rfl rfl ?_
  refine TL_v (pt B2 (0 + k * 1)) (fun _ _ j _ => r_indexAddrS (i := k) sl104 sz106 (j _ _ rfl) (j _ _ rfl) (by omega)) rfl rfl ?_
  refine TL_storeRow (f := optc) (l := (List.replicate k (some B4) ++ List.replicate (m * n - k) none)) (u := (some B4)) 901 rfl (by simp; omega) rfl rfl sz106 optc_len (by simp; omega) rfl rfl (w_n rfl) ?_
  refine TL_nil ?_
  refine p_blk_n ?_
  refine p_seq ?_
  refine T_region ?_
  refine TL_v (iN (k + 1)) (s_op r_add rfl rfl (iw (by omega) (by omega) (by omega))) rfl rfl ?_
  refine TL_v (iN (k + 1)) (s_mv rfl) rfl rfl ?_
  refine TL_nil ?_
  rw [rep_set (n := m * n) (k := k) (x := some B4) (by omega)]
  exact p_at (k + 1) ⟨by omega, by omega⟩ (sc4 rfl rfl rfl rfl (sc rfl (sc rfl sub_nil))) (sc4 rfl rfl rfl rfl sub_nil)
 ·replace h1 := of_decide_eq_false h1
  refine T_exit' ?_
  refine p_then_x ?_
  refine p_then_x ?_
  refine p_blk_x ?_
  refine p_seq ?_
  refine T_seq (T_region ?_)
  refine TL_v (pt B3 0) (s_mv rfl) rfl rfl ?_
  refine TL_v (pt B3 0) (s_as rfl) rfl rfl ?_
  refine TL_v (.int .i64 0) (s_as rfl) rfl rfl ?_
  refine TL_seq ?_
  refine T_ret' ?_
  refine ret_of rfl (.tuple #[pt B3 0, .int .i64 0]) (fun tmps w hk hm => res2 rfl (res_tmp (hk 4 _ rfl)) (res_tmp (hk 5 _ rfl))) (fun w hm => ?_)
  have hk : k = m * n := by omega
  subst hk
  have hrow := hm.row 901 rfl
  rw [Nat.sub_self, List.replicate_zero, List.append_nil, show List.replicate (m * n) (some B4) = (List.replicate (m * n) B4).map some from (List.map_replicate).symm, ptr_flat] at hrow
  have h16 := size4 hm4 hn4
  refine ⟨⟨B3, some ⟨B2, 0, none⟩, m * n, List.replicate (m * n) B4, m, n, List.replicate (m * n) zeroT⟩, rfl, ⟨hm.ext, ⟨?_, ?_, ?_, ?_, ?_, ?_, hm4, hn4⟩, ?_⟩, rfl, rfl, rfl⟩
  ·have := hm.at 902 rfl; simpa using this
  ·exact SliceAt.own ptrc_len hrow (by simp) rfl
  ·show m * n ≤ Go.maxLen; unfold Go.maxLen; omega
  ·intro i x t hx ht
   have h1 := List.mem_of_getElem? hx; have h2 := List.mem_of_getElem? ht
   have h1 := (List.mem_replicate.1 h1).2; have h2 := (List.mem_replicate.1 h2).2
   rw [h1, h2]
   exact hm.at 903 rfl
  ·simp
  ·simp
  ·rintro b (rfl | ⟨x, hx, rfl⟩ | hb)
   ·exact .inl (hm.own 902 _ rfl).1
   ·cases hx; exact .inl (Res.low (hm.own 901 _ rfl) (rfl : (Value.slice (some ⟨B2, 0, none⟩) (m * n) (m * n)).ownBlock = some B2)).1
   ·rw [(List.mem_replicate.1 hb).2]; exact .inl (hm.own 903 _ rfl).1

end Go.Proofs.Ytbiapeaghbndoaa
/- canvas: Of, Check. Printed by a program of this seat's prover. -/
namespace Go.Proofs.Ytbiapeaghbndoaa
open Go Go.RowKit
set_option maxRecDepth 10000
theorem of1_c (t : T64) (w : World) : Calls Try.prog 65 #[til t.l] w fun e w' => ∃ q, e = .returned (.pointer (some ⟨q, 0, none⟩)) ∧ Below w.heap.size w w' ∧ (Res.blk q (tilO t)).ok w.heap.size w' := by
 refine calls_of_T (l := [.agg (lst C4.cells t.l)]) 3 Try.func65 rfl rfl rfl ?_
 show T _ _ _ [(0, .agg (lst C4.cells t.l))] []
 refine T_seq (T_region ?_)
 refine TL_new 1 (.cells (lst C4.cells t.l) 39) (fun B => pt B 0) (fun _ _ j _ => r_box (j _ _ rfl) rfl) rfl rfl rfl (w_n rfl) ?_
 intro B1
 refine TL_v (.pointer none) (s_as rfl) rfl rfl ?_
 refine TL_seq ?_
 refine T_seq (T_region ?_)
 refine TL_v (pt B1 0) (s_as rfl) rfl rfl ?_
 refine TL_seq ?_
 refine T_ret' ?_
 refine ret_of rfl (pt B1 0) (fun tmps w hk hm => res1 rfl (res_tmp (hk 2 _ rfl))) (fun w hm => ?_)
 exact ⟨B1, rfl, hm.ext, hm.own 1 _ rfl⟩

set_option maxHeartbeats 1000000 in
theorem made_of (ts : List T64) (a : Option Addr) (cap : Nat) (w : World) (hv : SliceAt w a cap 256 T64.cells ts) (h16 : ts.length ≤ 64) : Calls Try.prog 64 #[.slice a ts.length cap, .func (.func 65) #[] #[]] w fun e w' => ∃ (l : List BT) (a' : Option Addr) (cap' : Nat), e = .returned (.slice a' l.length cap') ∧ l.map (·.2) = ts ∧ Below w.heap.size w w' ∧ (Res.row (.slice a' l.length cap') 106 1 l.length (l.flatMap BT.ptr)).ok w.heap.size w' ∧ (Res.tls (fun x : BT => x) l).ok w.heap.size w' ∧ ∀ b, (Res.row (.slice a' l.length cap') 106 1 l.length (l.flatMap BT.ptr)).foot b → ¬ (Res.tls (fun x : BT => x) l).foot b := by
 refine calls_of_T (l := [.slice a ts.length cap, .func (.func 65) #[] #[]]) 22 Try.func64 rfl rfl rfl ?_
 show T _ _ _ [(0, .slice a ts.length cap), (1, .func (.func 65) #[] #[])] []
 refine T_seq (T_region ?_)
 refine TL_v (.slice none 0 0) (s_as rfl) rfl rfl ?_
 refine TL_seq ?_
 refine T_seq (T_region ?_)
 refine TL_v (.slice none 0 0) (s_as rfl) rfl rfl ?_
 refine TL_seq ?_
 refine T_seq ?_
 refine T_seq (T_region ?_)
 refine TL_v (.slice a ts.length cap) (s_mv rfl) rfl rfl ?_
 refine TL_v (iN ts.length) (fun _ _ j _ => r_len sl22 (j _ _ rfl)) rfl rfl ?_
 refine TL_v (.int .i64 0) (s_mv rfl) rfl rfl ?_
 refine TL_seq ?_
 refine T_block ?_
 refine T_mem [(951, .tls (fun x : BT => x) []), (950, .row (.slice none 0 0) 106 1 0 [])] (fun _ hm => (hm.nilRow 950 106 1).tls0 951 _) ?_
 refine T_loop (ι := Nat × List BT × Option Addr × Nat) (fun (z : Nat × List BT × Option Addr × Nat) => match z with | (k, l, a2, cap2) => k ≤ ts.length ∧ l.map (·.2) = ts.take k) (fun (z : Nat × List BT × Option Addr × Nat) => match z with | (k, l, a2, cap2) => [(1, .func (.func 65) #[] #[]), (4, .slice none 0 0), (8, .slice a ts.length cap), (9, iN ts.length), (10, iN k), (5, .slice a2 l.length cap2)]) (fun (z : Nat × List BT × Option Addr × Nat) => match z with | (k, l, a2, cap2) => [(951, .tls (fun x : BT => x) l), (950, .row (.slice a2 l.length cap2) 106 1 l.length (l.flatMap BT.ptr))]) (fun (z : Nat × List BT × Option Addr × Nat) => match z with | (k, l, a2, cap2) => ts.length - k) (0, [], none, 0) ⟨Nat.zero_le _, rfl⟩ (sc4 rfl rfl rfl rfl (sc rfl (sc rfl sub_nil))) (sc rfl (sc rfl sub_nil)) ?_
 rintro ⟨k, l, a2, cap2⟩ hp
 obtain ⟨hk, hl⟩ := hp
 have hlk := map_len' hl hk
 show T _ _ _ [(1, .func (.func 65) #[] #[]), (4, .slice none 0 0), (8, .slice a ts.length cap), (9, iN ts.length), (10, iN k), (5, .slice a2 l.length cap2)] [(951, .tls (fun x : BT => x) l), (950, .row (.slice a2 l.length cap2) 106 1 l.length (l.flatMap BT.ptr))]
 refine T_seq (T_region ?_)
 refine TL_v (.bool (decide (((k : Nat) : Int) < ((ts.length : Nat) : Int)))) (fun _ _ j _ => r_lss (j _ _ rfl) (j _ _ rfl)) rfl rfl ?_
 refine TL_seq ?_
 refine T_seq ?_
 refine T_cond rfl (fun h1 => ?_) (fun h1 => ?_)
 ·replace h1 := of_decide_eq_true h1
  refine T_skip' ?_
  refine p_seq ?_
  refine T_seq ?_
  refine T_block ?_
  obtain ⟨t, ht⟩ : ∃ x, ts[k]? = some x := ⟨_, List.getElem?_eq_getElem (by omega)⟩
  obtain ⟨b1, of1, cs1, T1, fz1, ha1, hq1, hr1⟩ := hv.open (i := k) (by omega)
  subst ha1
  refine T_seq (T_region ?_)
  refine TL_v (pt b1 (of1 + k * 256)) (fun _ _ j _ => r_indexAddrS (i := k) sl22 sz39 (j _ _ rfl) (j _ _ rfl) (by omega)) rfl rfl ?_
  refine TL_v (.agg (lst C4.cells t.l)) (fun _ _ j hm => r_loadRow (f := T64.cells) (u := t) ag39 sz39 (j _ _ rfl) (hm.old hq1) hr1 ht) rfl rfl ?_
  refine TL_new 1 (.cells (lst C4.cells zero64) 39) (fun B => pt B 0) (fun _ _ _ _ => r_alloc (v := .agg (lst C4.cells zero64)) (by kernel_rfl) rfl) rfl rfl rfl (w_n rfl) ?_
  intro B2
  refine TL_store 1 (.cells (lst C4.cells t.l) 39) rfl (fun _ _ j hm => r_storeAll sz39 (j _ _ rfl) (j _ _ rfl) (hm.at 1 rfl) (tsz zero64_len) (tsz t.h) (lst_one C4.cells_all _)) rfl rfl (w_n rfl) ?_
  refine TL_seq ?_
  refine T_region ?_
  refine TL_v (.slice a2 l.length cap2) (s_mv rfl) rfl rfl ?_
  refine TL_v (.func (.func 65) #[] #[]) (s_mv rfl) rfl rfl ?_
  refine TL_v (.agg (lst C4.cells t.l)) (fun _ _ j hm => r_loadW ag39 sz39 (j _ _ rfl) (hm.at 1 rfl) (tsz t.h)) rfl rfl ?_
  refine TL_callN (fun (_ : Nat) => True) (fun q3 => pt q3 0) (fun q3 => [(2, .blk q3 (.cells (lst C4.cells t.l) 39))]) (fun _ _ j _ => r_call (args := [.agg (lst C4.cells t.l)]) (enters_of Try.func65 (by kernel_rfl) rfl) (j _ _ rfl) ((cons2 (j _ _ rfl) rfl)) rfl) (fun w _ => (of1_c t w).mono fun e w' ⟨q, he, hb, hr⟩ => ⟨q, trivial, he, hb, newOk1 2 hr⟩) rfl rfl rfl (w_n rfl) ?_
  intro q3 _
  refine TL_new 3 (.cells #[pt q3 0] 106) (fun B => .slice (some ⟨B, 0, none⟩) 1 1) (fun _ _ j _ => r_buildSlice (vs := [(0, pt q3 0)]) (by kernel_rfl) (cons2 (pair2 (j _ _ rfl)) rfl)) rfl rfl rfl (w_n rfl) ?_
  intro B4
  refine TL_append (n := l.length) (m := 1) (xs := (l.flatMap BT.ptr)) (news := [pt q3 0]) (z := .pointer none) 950 rfl rfl rfl sl104 sz106 by106 (by kernel_rfl) rfl rfl (.inl rfl) (fun _ hm => src_blk (news := [pt q3 0]) (hm.at 3 rfl) rfl) (by first | exact T64.cells_one _ | simp [Value.oneCell']) (by omega) (by omega) rfl (w_n rfl) ?_
  intro a5 cap5
  refine TL_v (.slice a5 (l.length + 1) cap5) (s_as rfl) rfl rfl ?_
  refine TL_nil ?_
  refine p_blk_n ?_
  refine p_seq ?_
  refine T_region ?_
  refine TL_v (iN (k + 1)) (s_op r_add rfl rfl (iw (by omega) (by omega) (by omega))) rfl rfl ?_
  refine TL_v (iN (k + 1)) (s_mv rfl) rfl rfl ?_
  refine TL_nil ?_
  have hn6 : (l.length + 1) = (l ++ [(q3, t)]).length := by simp
  have hx6 : ((l.flatMap BT.ptr) ++ [.pointer (some ⟨q3, 0, none⟩)]) = (l ++ [(q3, t)]).flatMap BT.ptr := by simp [BT.ptr]
  rw [hx6, hn6]
  refine p_mem [(951, .tls (fun x : BT => x) (l ++ [(q3, t)])), (950, .row (.slice a5 ((l ++ [(q3, t)]).length) cap5) 106 1 ((l ++ [(q3, t)]).length) ((l ++ [(q3, t)]).flatMap BT.ptr))] (fun _ hm => (hm.tlPush 951 2 (q3, t) rfl rfl rfl rfl rfl).sub (sc rfl (sc rfl sub_nil))) ?_
  exact p_at (k + 1, l ++ [(q3, t)], a5, cap5) ⟨⟨by omega, snd_step hl ht⟩, by dsimp only; omega⟩ (sc4 rfl rfl rfl rfl (sc rfl (sc rfl sub_nil))) (sc rfl (sc rfl sub_nil))
 ·replace h1 := of_decide_eq_false h1
  refine T_exit' ?_
  refine p_then_x ?_
  refine p_then_x ?_
  refine p_blk_x ?_
  refine p_seq ?_
  refine T_seq (T_region ?_)
  refine TL_v (.slice a2 l.length cap2) (s_mv rfl) rfl rfl ?_
  refine TL_v (.slice a2 l.length cap2) (s_as rfl) rfl rfl ?_
  refine TL_seq ?_
  refine T_ret' ?_
  refine ret_of rfl (.slice a2 l.length cap2) (fun tmps w hk hm => res1 rfl (res_tmp (hk 4 _ rfl))) (fun w hm => ?_)
  have hk : k = ts.length := by omega
  subst hk
  exact ⟨l, a2, cap2, rfl, snd_all hl, hm.ext, hm.own 950 _ rfl, hm.own 951 _ rfl, hm.sep 950 951 _ _ rfl rfl (by decide)⟩

def rightI (x y : Int) (n : Nat) : Bool := decide (mayI x y = true ∧ (n : Int) = x * y)
theorem rightI_nat {x y : Int} {n : Nat} (e : rightI x y n = true) : ∃ p q : Nat, x = p ∧ y = q ∧ (1 ≤ p ∧ p ≤ 4) ∧ (1 ≤ q ∧ q ≤ 4) ∧ n = p * q := by
 obtain ⟨h1, h2⟩ := of_decide_eq_true e
 obtain ⟨p, q, rfl, rfl, h3, h4⟩ := mayI_nat h1
 exact ⟨p, q, rfl, rfl, h3, h4, by exact_mod_cast h2⟩
theorem rightI_of {p q n : Nat} (hp : 1 ≤ p ∧ p ≤ 4) (hq : 1 ≤ q ∧ q ≤ 4) (hn : n = p * q) : rightI p q n = true := decide_eq_true ⟨mayI_of hp hq, by rw [hn]; simp⟩

theorem check_no (x y : Int) (a : Option Addr) (n cap : Nat) (w : World) (hno : ¬ mayI x y = true) : Calls Try.prog 26 #[.agg #[.int .i64 x, .int .i64 y, .slice a n cap]] w fun e w' => e = .returned (.int .i64 150) ∧ Below w.heap.size w w' := by
 refine calls_of_T (l := [.agg #[.int .i64 x, .int .i64 y, .slice a n cap]]) 23 Try.func26 rfl rfl rfl ?_
 show T _ _ _ [(0, .agg #[.int .i64 x, .int .i64 y, .slice a n cap])] []
 refine T_seq (T_region ?_)
 refine TL_new 1 (.cells #[.int .i64 x, .int .i64 y, .slice a n cap] 24) (fun B => pt B 0) (fun _ _ j _ => r_box (j _ _ rfl) rfl) rfl rfl rfl (w_n rfl) ?_
 intro B1
 refine TL_v (.int .i64 0) (s_as rfl) rfl rfl ?_
 refine TL_seq ?_
 refine T_seq ?_
 refine T_seq (T_region ?_)
 refine TL_v (pt B1 0) (s_fa fl24_0 sz3 rfl) rfl rfl ?_
 refine TL_v (.int .i64 x) (s_ld ag3 rfl 1 rfl rfl) rfl rfl ?_
 refine TL_v (pt B1 1) (s_fa fl24_1 sz3 rfl) rfl rfl ?_
 refine TL_v (.int .i64 y) (s_ld ag3 rfl 1 rfl rfl) rfl rfl ?_
 refine TL_v (.agg #[.int .i64 x, .int .i64 y]) (fun _ _ j _ => r_build (vs := [(0, .int .i64 x), (1, .int .i64 y)]) (by kernel_rfl) (cons2 (pair2 (j _ _ rfl)) (cons2 (pair2 (j _ _ rfl)) rfl))) rfl rfl ?_
 refine TL_new 2 (.cells #[.int .i64 0, .int .i64 0] 109) (fun B => pt B 0) (fun _ _ _ _ => r_alloc (v := .agg #[.int .i64 0, .int .i64 0]) (by kernel_rfl) rfl) rfl rfl rfl (w_n rfl) ?_
 intro B2
 refine TL_store 2 (.cells #[.int .i64 x, .int .i64 y] 109) rfl (s_st sz109 rfl rfl 2 rfl rfl rfl rfl rfl) rfl rfl (w_n rfl) ?_
 refine TL_seq ?_
 refine T_seq (T_region ?_)
 refine TL_v (.agg #[.int .i64 x, .int .i64 y]) (s_la ag109 sz109 rfl 2 rfl rfl rfl) rfl rfl ?_
 refine TL_call (.bool false) (fun _ _ j _ => r_call (args := [.agg #[.int .i64 x, .int .i64 y]]) (enters_of Try.func77 (by kernel_rfl) rfl) (j _ _ rfl) ((cons2 (j _ _ rfl) rfl)) rfl) (fun w _ => (may_c x y w).mono fun _ _ h => ⟨h.1.trans (congrArg Ending.returned (bool_as (eq_false_of_ne_true hno))), h.2⟩) rfl rfl rfl (w_n rfl) ?_
 refine TL_v (.bool true) (fun _ _ j _ => r_not (b := false) (j _ _ rfl)) rfl rfl ?_
 refine TL_v (.bool true) (s_mv rfl) rfl rfl ?_
 refine TL_x 12 rfl rfl rfl rfl rfl ?_
 refine TL_x 12 rfl rfl rfl rfl rfl ?_
 refine TL_x 12 rfl rfl rfl rfl rfl ?_
 refine TL_x 12 rfl rfl rfl rfl rfl ?_
 refine TL_x 12 rfl rfl rfl rfl rfl ?_
 refine TL_x 12 rfl rfl rfl rfl rfl ?_
 refine TL_x 12 rfl rfl rfl rfl rfl ?_
 refine TL_x 12 rfl rfl rfl rfl rfl ?_
 refine TL_x 12 rfl rfl rfl rfl rfl ?_
 refine TL_v (.bool true) (s_pt rfl rfl) rfl rfl ?_
 refine TL_seq ?_
 refine T_cond_t rfl ?_
 refine T_seq (T_region ?_)
 refine TL_v (.int .i64 150) (s_as rfl) rfl rfl ?_
 refine TL_seq ?_
 refine T_ret' ?_
 refine p_then_r ?_
 refine ret_of rfl (.int .i64 150) (fun tmps w hk hm => res1 rfl (res_tmp (hk 2 _ rfl))) (fun w hm => ?_)
 exact ⟨rfl, hm.ext⟩

theorem check_in (p q : Nat) (a : Option Addr) (n cap : Nat) (w : World) (hp4 : 1 ≤ p ∧ p ≤ 4) (hq4 : 1 ≤ q ∧ q ≤ 4) : Calls Try.prog 26 #[.agg #[.int .i64 (p : Int), .int .i64 (q : Int), .slice a n cap]] w fun e w' => e = .returned (.int .i64 (if n = p * q then 0 else 150)) ∧ Below w.heap.size w w' := by
 have h16 := size4 hp4 hq4
 refine calls_of_T (l := [.agg #[iN p, iN q, .slice a n cap]]) 23 Try.func26 rfl rfl rfl ?_
 show T _ _ _ [(0, .agg #[iN p, iN q, .slice a n cap])] []
 refine T_seq (T_region ?_)
 refine TL_new 1 (.cells #[iN p, iN q, .slice a n cap] 24) (fun B => pt B 0) (fun _ _ j _ => r_box (j _ _ rfl) rfl) rfl rfl rfl (w_n rfl) ?_
 intro B1
 refine TL_v (.int .i64 0) (s_as rfl) rfl rfl ?_
 refine TL_seq ?_
 refine T_seq ?_
 refine T_seq (T_region ?_)
 refine TL_v (pt B1 0) (s_fa fl24_0 sz3 rfl) rfl rfl ?_
 refine TL_v (iN p) (s_ld ag3 rfl 1 rfl rfl) rfl rfl ?_
 refine TL_v (pt B1 1) (s_fa fl24_1 sz3 rfl) rfl rfl ?_
 refine TL_v (iN q) (s_ld ag3 rfl 1 rfl rfl) rfl rfl ?_
 refine TL_v (.agg #[iN p, iN q]) (fun _ _ j _ => r_build (vs := [(0, iN p), (1, iN q)]) (by kernel_rfl) (cons2 (pair2 (j _ _ rfl)) (cons2 (pair2 (j _ _ rfl)) rfl))) rfl rfl ?_
 refine TL_new 2 (.cells #[.int .i64 0, .int .i64 0] 109) (fun B => pt B 0) (fun _ _ _ _ => r_alloc (v := .agg #[.int .i64 0, .int .i64 0]) (by kernel_rfl) rfl) rfl rfl rfl (w_n rfl) ?_
 intro B2
 refine TL_store 2 (.cells #[iN p, iN q] 109) rfl (s_st sz109 rfl rfl 2 rfl rfl rfl rfl rfl) rfl rfl (w_n rfl) ?_
 refine TL_seq ?_
 refine T_seq (T_region ?_)
 refine TL_v (.agg #[iN p, iN q]) (s_la ag109 sz109 rfl 2 rfl rfl rfl) rfl rfl ?_
 refine TL_call (.bool true) (fun _ _ j _ => r_call (args := [.agg #[iN p, iN q]]) (enters_of Try.func77 (by kernel_rfl) rfl) (j _ _ rfl) ((cons2 (j _ _ rfl) rfl)) rfl) (fun w _ => (may_c ((p : Nat) : Int) ((q : Nat) : Int) w).mono fun _ _ h => ⟨h.1.trans (congrArg Ending.returned (bool_as (mayI_of hp4 hq4))), h.2⟩) rfl rfl rfl (w_n rfl) ?_
 refine TL_v (.bool false) (fun _ _ j _ => r_not (b := true) (j _ _ rfl)) rfl rfl ?_
 refine TL_v (.bool false) (s_mv rfl) rfl rfl ?_
 refine TL_q (pt B1 2) (s_fa fl24_2 sz22 rfl) rfl rfl rfl (want_y 12 rfl rfl rfl) ?_
 refine TL_q (.slice a n cap) (s_ld ag22 rfl 1 rfl rfl) rfl rfl rfl (want_y 12 rfl rfl rfl) ?_
 refine TL_q (iN n) (fun _ _ j _ => r_len sl22 (j _ _ rfl)) rfl rfl rfl (want_y 12 rfl rfl rfl) ?_
 refine TL_q (pt B2 0) (s_fa fl109_0 sz3 rfl) rfl rfl rfl (want_y 12 rfl rfl rfl) ?_
 refine TL_q (iN p) (s_ld ag3 rfl 2 rfl rfl) rfl rfl rfl (want_y 12 rfl rfl rfl) ?_
 refine TL_q (pt B2 1) (s_fa fl109_1 sz3 rfl) rfl rfl rfl (want_y 12 rfl rfl rfl) ?_
 refine TL_q (iN q) (s_ld ag3 rfl 2 rfl rfl) rfl rfl rfl (want_y 12 rfl rfl rfl) ?_
 refine TL_q (iN (p * q)) (s_op r_mul rfl rfl (iw (by omega) (by omega) (by omega))) rfl rfl rfl (want_y 12 rfl rfl rfl) ?_
 refine TL_q (.bool (!decide (((n : Nat) : Int) = ((p * q : Nat) : Int)))) (fun _ _ j _ => r_neq (j _ _ rfl) (j _ _ rfl)) rfl rfl rfl (want_y 12 rfl rfl rfl) ?_
 refine TL_v (.bool (!decide (((n : Nat) : Int) = ((p * q : Nat) : Int)))) (s_pf rfl rfl) rfl rfl ?_
 refine TL_seq ?_
 refine T_cond rfl (fun h1 => ?_) (fun h1 => ?_)
 ·replace h1 := of_decide_eq_false (bnot_t h1)
  refine T_seq (T_region ?_)
  refine TL_v (.int .i64 150) (s_as rfl) rfl rfl ?_
  refine TL_seq ?_
  refine T_ret' ?_
  refine p_then_r ?_
  refine ret_of rfl (.int .i64 150) (fun tmps w hk hm => res1 rfl (res_tmp (hk 2 _ rfl))) (fun w hm => ?_)
  exact ⟨by rw [if_neg (by omega)], hm.ext⟩
 ·replace h1 := of_decide_eq_true (bnot_f h1)
  refine T_skip' ?_
  refine p_seq ?_
  refine T_seq (T_region ?_)
  refine TL_v (.int .i64 0) (s_as rfl) rfl rfl ?_
  refine TL_seq ?_
  refine T_ret' ?_
  refine ret_of rfl (.int .i64 0) (fun tmps w hk hm => res1 rfl (res_tmp (hk 2 _ rfl))) (fun w hm => ?_)
  exact ⟨by rw [if_pos (by omega)], hm.ext⟩

theorem check_c (x y : Int) (a : Option Addr) (n cap : Nat) (w : World) : Calls Try.prog 26 #[.agg #[.int .i64 x, .int .i64 y, .slice a n cap]] w fun e w' => e = .returned (.int .i64 (if rightI x y n then 0 else 150)) ∧ Below w.heap.size w w' := by
 by_cases h : mayI x y = true
 ·obtain ⟨p, q, rfl, rfl, hp4, hq4⟩ := mayI_nat h
  refine (check_in p q a n cap w hp4 hq4).mono fun e w' ⟨h1, h2⟩ => ⟨h1.trans ?_, h2⟩
  by_cases e : n = p * q
  ·rw [if_pos e, if_pos (rightI_of hp4 hq4 e)]
  ·rw [if_neg e, if_neg]
   intro h3
   have := (of_decide_eq_true h3).2
   exact e (by exact_mod_cast this)
 ·refine (check_no x y a n cap w h).mono fun e w' ⟨h1, h2⟩ => ⟨h1.trans ?_, h2⟩
  rw [if_neg]
  intro h3
  exact h (of_decide_eq_true h3).1

theorem own_foot {w : World} {base n cap s : Nat} {e : TypeId} {x : Addr} {xs : List Value} (h : w.ownsRow base e s (.slice (some x) n cap) n xs) (hn : 0 < n) : (Value.slice (some x) n cap).ownBlock = some x.block := by
 rcases h.2 with ⟨h1, _⟩ | ⟨g, cap', cur, h1, _⟩
 ·cases h1
 ·cases h1; rfl

theorem of_ok (wd hg : Nat) (ts : List T64) (a : Option Addr) (cap : Nat) (w : World) (hv : SliceAt w a cap 256 T64.cells ts) (hwd : 1 ≤ wd ∧ wd ≤ 4) (hhg : 1 ≤ hg ∧ hg ≤ 4) (hlen : ts.length = wd * hg) : Calls Try.prog 15 #[.agg #[.int .i64 (wd : Int), .int .i64 (hg : Int), .slice a ts.length cap]] w fun e w' => ∃ c : Cv, e = .returned (.tuple #[.pointer (some ⟨c.p, 0, none⟩), .int .i64 0]) ∧ CvNew w w' [] c ∧ c.wd = wd ∧ c.hg = hg ∧ c.ts = ts := by
 have h16 := size4 hwd hhg
 refine calls_of_T (l := [.agg #[iN wd, iN hg, .slice a ts.length cap]]) 22 Try.func15 rfl rfl rfl ?_
 show T _ _ _ [(0, .agg #[iN wd, iN hg, .slice a ts.length cap])] []
 refine T_seq (T_region ?_)
 refine TL_new 1 (.cells #[iN wd, iN hg, .slice a ts.length cap] 24) (fun B => pt B 0) (fun _ _ j _ => r_box (j _ _ rfl) rfl) rfl rfl rfl (w_n rfl) ?_
 intro B1
 refine TL_v (.pointer none) (s_as rfl) rfl rfl ?_
 refine TL_v (.int .i64 0) (s_as rfl) rfl rfl ?_
 refine TL_seq ?_
 refine T_seq ?_
 refine T_seq (T_region ?_)
 refine TL_v (.agg #[iN wd, iN hg, .slice a ts.length cap]) (s_la ag24 sz24 rfl 1 rfl rfl rfl) rfl rfl ?_
 refine TL_call (.int .i64 0) (fun _ _ j _ => r_call (args := [.agg #[iN wd, iN hg, .slice a ts.length cap]]) (enters_of Try.func26 (by kernel_rfl) rfl) (j _ _ rfl) ((cons2 (j _ _ rfl) rfl)) rfl) (fun w _ => (check_c ((wd : Nat) : Int) ((hg : Nat) : Int) a ts.length cap w).mono fun _ _ h => ⟨h.1.trans (congrArg Ending.returned (int_as (if_pos (rightI_of hwd hhg hlen)))), h.2⟩) rfl rfl rfl (w_n rfl) ?_
 refine TL_v (.int .i64 0) (s_as rfl) rfl rfl ?_
 refine TL_seq ?_
 refine T_seq (T_region ?_)
 refine TL_v (.int .i64 0) (s_mv rfl) rfl rfl ?_
 refine TL_v (.bool false) (s_op r_neq rfl rfl (by rfl)) rfl rfl ?_
 refine TL_seq ?_
 refine T_cond_f rfl ?_
 refine T_skip' ?_
 refine p_seq ?_
 refine T_seq (T_region ?_)
 refine TL_v (pt B1 2) (s_fa fl24_2 sz22 rfl) rfl rfl ?_
 refine TL_v (.slice a ts.length cap) (s_ld ag22 rfl 1 rfl rfl) rfl rfl ?_
 refine TL_callN (fun (z : List BT × Option Addr × Nat) => z.1.map (·.2) = ts) (fun (lb2, ab2, cb2) => .slice ab2 lb2.length cb2) (fun (lb2, ab2, cb2) => [(2, .row (.slice ab2 lb2.length cb2) 106 1 lb2.length (lb2.flatMap BT.ptr)), (3, .tls (fun x : BT => x) lb2)]) (fun _ _ j _ => r_call (args := [.slice a ts.length cap, .func (.func 65) #[] #[]]) (enters_of Try.func64 (by kernel_rfl) rfl) (j _ _ rfl) ((cons2 (j _ _ rfl) (cons2 (j _ _ rfl) rfl))) rfl) (fun w hm => (made_of ts a cap w (hv.keep hm.ext) (by omega)).mono fun e w' ⟨l, a', cap', he, hl, hb, h1, h2, h3⟩ => ⟨(l, a', cap'), hl, he, hb, newOk2 2 3 h1 h2 h3⟩) rfl rfl rfl (w_n rfl) ?_
 rintro ⟨lb2, ab2, cb2⟩ hbt2
 dsimp only at hbt2
 refine TL_v (.slice ab2 lb2.length cb2) (s_as rfl) rfl rfl ?_
 refine TL_seq ?_
 refine T_seq (T_region ?_)
 refine TL_v (pt B1 0) (s_fa fl24_0 sz3 rfl) rfl rfl ?_
 refine TL_v (iN wd) (s_ld ag3 rfl 1 rfl rfl) rfl rfl ?_
 refine TL_v (pt B1 1) (s_fa fl24_1 sz3 rfl) rfl rfl ?_
 refine TL_v (iN hg) (s_ld ag3 rfl 1 rfl rfl) rfl rfl ?_
 refine TL_v (.agg #[iN wd, iN hg]) (fun _ _ j _ => r_build (vs := [(0, iN wd), (1, iN hg)]) (by kernel_rfl) (cons2 (pair2 (j _ _ rfl)) (cons2 (pair2 (j _ _ rfl)) rfl))) rfl rfl ?_
 refine TL_v (.slice ab2 lb2.length cb2) (s_mv rfl) rfl rfl ?_
 refine TL_v (.agg #[iN wd, iN hg, .slice ab2 lb2.length cb2]) (fun _ _ j _ => r_build (vs := [(0, .agg #[iN wd, iN hg]), (1, .slice ab2 lb2.length cb2)]) (by kernel_rfl) (cons2 (pair2 (j _ _ rfl)) (cons2 (pair2 (j _ _ rfl)) rfl))) rfl rfl ?_
 refine TL_new 4 (.cells #[iN wd, iN hg, .slice ab2 lb2.length cb2] 111) (fun B => pt B 0) (fun _ _ j _ => r_box (j _ _ rfl) rfl) rfl rfl rfl (w_n rfl) ?_
 intro B3
 refine TL_v (pt B3 0) (s_as rfl) rfl rfl ?_
 refine TL_v (.int .i64 0) (s_as rfl) rfl rfl ?_
 refine TL_seq ?_
 refine T_ret' ?_
 refine ret_of rfl (.tuple #[pt B3 0, .int .i64 0]) (fun tmps w hk hm => res2 rfl (res_tmp (hk 2 _ rfl)) (res_tmp (hk 3 _ rfl))) (fun w hm => ?_)
 have hlb := map_len hbt2
 have hrow := hm.row 2 rfl
 rw [bt_flat] at hrow
 refine ⟨⟨B3, ab2, cb2, lb2.map (·.1), wd, hg, ts⟩, rfl, ⟨hm.ext, ⟨?_, ?_, row_cap hrow, ?_, ?_, ?_, hwd, hhg⟩, ?_⟩, rfl, rfl, rfl⟩
 ·have := hm.at 4 rfl; simpa using this
 ·exact SliceAt.own ptrc_len hrow (by simp) rfl
 ·intro i q t hq ht; exact hm.tl 3 rfl (bt_at hbt2 hq ht)
 ·show (lb2.map (·.1)).length = wd * hg; rw [List.length_map]; omega
 ·show ts.length = (lb2.map (·.1)).length; rw [List.length_map]; omega
 ·rintro b (rfl | ⟨x, hx, rfl⟩ | hb)
  ·exact .inl (hm.own 4 _ rfl).1
  ·cases hx; exact .inl (Res.low (hm.own 2 _ rfl) (own_foot (hm.row 2 rfl) (by omega))).1
  ·obtain ⟨x, hx, rfl⟩ := List.mem_map.1 hb
   exact .inl ((hm.own 3 _ rfl).2.1 x.1 ⟨x, hx, rfl⟩).1

theorem of_no (x y : Int) (a : Option Addr) (n cap : Nat) (w : World) (hno : ¬ rightI x y n = true) : Calls Try.prog 15 #[.agg #[.int .i64 x, .int .i64 y, .slice a n cap]] w fun e w' => e = .returned (.tuple #[.pointer none, .int .i64 150]) ∧ Below w.heap.size w w' := by
 refine calls_of_T (l := [.agg #[.int .i64 x, .int .i64 y, .slice a n cap]]) 22 Try.func15 rfl rfl rfl ?_
 show T _ _ _ [(0, .agg #[.int .i64 x, .int .i64 y, .slice a n cap])] []
 refine T_seq (T_region ?_)
 refine TL_new 1 (.cells #[.int .i64 x, .int .i64 y, .slice a n cap] 24) (fun B => pt B 0) (fun _ _ j _ => r_box (j _ _ rfl) rfl) rfl rfl rfl (w_n rfl) ?_
 intro B1
 refine TL_v (.pointer none) (s_as rfl) rfl rfl ?_
 refine TL_v (.int .i64 0) (s_as rfl) rfl rfl ?_
 refine TL_seq ?_
 refine T_seq ?_
 refine T_seq (T_region ?_)
 refine TL_v (.agg #[.int .i64 x, .int .i64 y, .slice a n cap]) (s_la ag24 sz24 rfl 1 rfl rfl rfl) rfl rfl ?_
 refine TL_call (.int .i64 150) (fun _ _ j _ => r_call (args := [.agg #[.int .i64 x, .int .i64 y, .slice a n cap]]) (enters_of Try.func26 (by kernel_rfl) rfl) (j _ _ rfl) ((cons2 (j _ _ rfl) rfl)) rfl) (fun w _ => (check_c x y a n cap w).mono fun _ _ h => ⟨h.1.trans (congrArg Ending.returned (int_as (if_neg hno))), h.2⟩) rfl rfl rfl (w_n rfl) ?_
 refine TL_v (.int .i64 150) (s_as rfl) rfl rfl ?_
 refine TL_seq ?_
 refine T_seq (T_region ?_)
 refine TL_v (.int .i64 150) (s_mv rfl) rfl rfl ?_
 refine TL_v (.bool true) (s_op r_neq rfl rfl (by rfl)) rfl rfl ?_
 refine TL_seq ?_
 refine T_cond_t rfl ?_
 refine T_seq (T_region ?_)
 refine TL_v (.int .i64 150) (s_mv rfl) rfl rfl ?_
 refine TL_v (.pointer none) (s_as rfl) rfl rfl ?_
 refine TL_v (.int .i64 150) (s_as rfl) rfl rfl ?_
 refine TL_seq ?_
 refine T_ret' ?_
 refine p_then_r ?_
 refine ret_of rfl (.tuple #[.pointer none, .int .i64 150]) (fun tmps w hk hm => res2 rfl (res_tmp (hk 2 _ rfl)) (res_tmp (hk 3 _ rfl))) (fun w hm => ?_)
 exact ⟨rfl, hm.ext⟩
end Go.Proofs.Ytbiapeaghbndoaa
