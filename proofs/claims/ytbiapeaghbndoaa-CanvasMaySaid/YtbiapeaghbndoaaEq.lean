/- Comparing: slices and pointers with nil, and what is made of plain cells. Over any program. -/
import Derived.Test.YtbiapeaghbndoaaCall
namespace Go.Proofs.Ytbiapeaghbndoaa
open Go Go.RowKit
section
variable {P : Program} {w : World} {ρ : Operand → Value} {d : Option Tmp} {ty : TypeId} {ps : String} {af : Array Edge} {g : Option (Nat × Bool)} {x y : Operand}
theorem run_eqv {op : BinOp} {t t' : TypeId} {a b : Value} {r : Bool} (hg : (eqGuard op t x y a b).run P w = .ok () w) (hx : ρ x = a) (hy : ρ y = b) (h : (binOp op t a b).run P w = .ok (.bool r) w) :
    (execOp ρ (mk d (.binOp op t x y t') ty ps af g)).run P w = .ok (.value (.bool r)) w := by
  refine run_v ?_
  show (do eqGuard op t x y (ρ x) (ρ y); binOp op t (ρ x) (ρ y) : Sem Value).run P w = _
  rw [hx, hy, run_bind_ok hg]
  exact h
theorem run_eql {t : TypeId} {a b : Value} {r : Bool} (h : (Op.equal t a b).run P w = .ok r w) : (do pure (.bool (← Op.equal t a b)) : Sem Value).run P w = .ok (.bool r) w := by rw [run_bind_ok h]; rfl
theorem run_neq {t : TypeId} {a b : Value} {r : Bool} (h : (Op.equal t a b).run P w = .ok r w) : (do pure (.bool (!(← Op.equal t a b))) : Sem Value).run P w = .ok (.bool !r) w := by rw [run_bind_ok h]; rfl
theorem run_eqS {t e : TypeId} {a : Option Addr} {n c : Nat} (ht : sliOf P t = some e) : (Op.equal t (.slice a n c) (.slice none 0 0)).run P w = .ok a.isNone w := by
  unfold Op.equal Op.maxDepth Op.equalIn
  rw [run_underlying (und_sli ht)]
  cases a <;> rfl
theorem r_eqlSn {t t' e : TypeId} {a : Option Addr} {n c : Nat} (ht : sliOf P t = some e) (hx : ρ x = .slice a n c) (hy : ρ y = .slice none 0 0) : (execOp ρ (mk d (.binOp .eql t x y t') ty ps af g)).run P w = .ok (.value (.bool a.isNone)) w :=
  run_eqv (a := .slice a n c) (b := .slice none 0 0) rfl hx hy (run_eql (run_eqS ht))
/-- What is made of cells. -/
theorem guardA {op : BinOp} {t : TypeId} {xs ys : Array Value} (hg : P.eqGuardType P.depth t = false) : (eqGuard op t x y (.agg xs) (.agg ys)).run P w = .ok () w := by
  unfold eqGuard
  cases op <;> first | rfl | (simp only [Bool.not_true, Bool.false_eq_true, if_false]; rw [run_bind_ok (a := ()) (w' := w) rfl, run_bind_ok (a := P) (w' := w) rfl]; simp only [hg]; rfl) | skip
  all_goals
    simp [program, hg, bind, Sem.bind, Sem.run, pure]
theorem r_eqlA {t t' : TypeId} {xs ys : Array Value} {r : Bool} (hg : P.eqGuardType P.depth t = false) (hx : ρ x = .agg xs) (hy : ρ y = .agg ys) (h : (Op.equal t (.agg xs) (.agg ys)).run P w = .ok r w) :
    (execOp ρ (mk d (.binOp .eql t x y t') ty ps af g)).run P w = .ok (.value (.bool r)) w := run_eqv (guardA hg) hx hy (run_eql h)
theorem r_neqA {t t' : TypeId} {xs ys : Array Value} {r : Bool} (hg : P.eqGuardType P.depth t = false) (hx : ρ x = .agg xs) (hy : ρ y = .agg ys) (h : (Op.equal t (.agg xs) (.agg ys)).run P w = .ok r w) :
    (execOp ρ (mk d (.binOp .neq t x y t') ty ps af g)).run P w = .ok (.value (.bool !r)) w := run_eqv (guardA hg) hx hy (run_neq h)
end

/-! ### what is made of integers alone -/
/-- A loop that stops at the first 'no'. -/
theorem run_forAll {P : Program} {w : World} {α : Type} (f : α → Sem (ForInStep (Option Bool × Unit))) (p : α → Bool) : ∀ (l : List α), (∀ a ∈ l, (f a).run P w = .ok (if p a then .yield (none, ()) else .done (some false, ())) w) →
    (forIn l ((none, ()) : Option Bool × Unit) (fun a _ => f a)).run P w = .ok (if l.all p then (none, ()) else (some false, ())) w
  | [], _ => rfl
  | a :: l, h => by
    rw [List.forIn_cons, run_bind_ok (h a (by simp))]
    cases hp : p a with
    | true =>
      simp only [if_true, List.all_cons, hp, Bool.true_and]
      exact run_forAll f p l (fun b hb => h b (by simp [hb]))
    | false => simp [List.all_cons, hp, pure, Sem.run]
section
variable {P : Program} {w : World}
theorem run_eqStruct {d : Nat} {t : TypeId} {fs : Array Field} {xs ys : Array Value} (p : Field → Bool) (hu : P.underlying t = some (.struct fs)) (hs : P.stoodInHeld t = false)
    (hf : ∀ f ∈ fs.toList, f.name ≠ "_" ∧ ∃ u v, (part f.type xs f.offset).run P w = .ok u w ∧ (part f.type ys f.offset).run P w = .ok v w ∧ (Op.equalIn d f.type u v).run P w = .ok (p f) w) :
    (Op.equalIn (d + 1) t (.agg xs) (.agg ys)).run P w = .ok (fs.toList.all p) w := by
  unfold Op.equalIn
  rw [run_underlying hu]
  dsimp only
  rw [run_bind_ok (a := P) (w' := w) rfl]
  simp only [hs, Bool.false_eq_true, if_false]
  rw [← Array.forIn_toList]
  rw [run_bind_ok (run_forAll _ p fs.toList ?_)]
  · cases fs.toList.all p <;> rfl
  · intro f hfm
    obtain ⟨hn, u, v, h1, h2, h3⟩ := hf f hfm
    simp only [ne_eq, hn, not_false_eq_true, if_true]
    rw [run_bind_ok h1, run_bind_ok h2, run_bind_ok h3]
    cases p f <;> rfl
theorem run_eqArr {d n s : Nat} {t e : TypeId} {xs ys : Array Value} (p : Nat → Bool) (hu : arrOf P t = some (n, e)) (hs : szOf P e = some s)
    (hf : ∀ i, i < n → ∃ u v, (part e xs (i * s)).run P w = .ok u w ∧ (part e ys (i * s)).run P w = .ok v w ∧ (Op.equalIn d e u v).run P w = .ok (p i) w) :
    (Op.equalIn (d + 1) t (.agg xs) (.agg ys)).run P w = .ok ((List.range n).all p) w := by
  unfold Op.equalIn
  rw [run_underlying (und_arr hu)]
  dsimp only
  rw [run_bind_ok (run_sizeOf hs)]
  rw [Std.Legacy.Range.forIn_eq_forIn_range']
  have e1 : List.range' (Std.Legacy.Range.mk 0 n 1 Nat.zero_lt_one).start (Std.Legacy.Range.mk 0 n 1 Nat.zero_lt_one).size (Std.Legacy.Range.mk 0 n 1 Nat.zero_lt_one).step = List.range n := by
    simp [Std.Legacy.Range.size, List.range_eq_range']
  rw [e1, run_bind_ok (run_forAll _ p (List.range n) ?_)]
  · cases (List.range n).all p <;> rfl
  · intro i hi
    obtain ⟨u, v, h1, h2, h3⟩ := hf i (List.mem_range.1 hi)
    rw [run_bind_ok h1, run_bind_ok h2, run_bind_ok h3]
    cases p i <;> rfl
/-- A struct of integers: where they lie, and their kinds. -/
def intStr (P : Program) (t : TypeId) : Option (List (Nat × IntKind)) :=
  if P.stoodInHeld t then none else
  match P.underlying t with
  | some (.struct fs) => fs.toList.foldr (fun f acc => match acc, intOf? P f.type with | some l, some k => if f.name == "_" then none else some ((f.offset, k) :: l) | _, _ => none) (some [])
  | _ => none
def intAt (cs : Array Value) (o : Nat) : Int := match cs[o]? with | some (.int _ n) => n | _ => 0
def fitI (cs : Array Value) : List (Nat × IntKind) → Bool
  | [] => true
  | (o, k) :: r => (match cs[o]? with | some (.int k' _) => decide (k' = k) | _ => false) && fitI cs r
def eqI (xs ys : Array Value) : List (Nat × IntKind) → Bool
  | [] => true
  | (o, _) :: r => decide (intAt xs o = intAt ys o) && eqI xs ys r
theorem eqI_self (xs : Array Value) : ∀ (l : List (Nat × IntKind)), eqI xs xs l = true
  | [] => rfl
  | (o, k) :: r => by simp [eqI, eqI_self xs r]
theorem fit_at {cs : Array Value} : ∀ {l : List (Nat × IntKind)}, fitI cs l = true → ∀ o k, (o, k) ∈ l → cs[o]? = some (.int k (intAt cs o))
  | [], _, _, _, h => by cases h
  | (o', k') :: r, h, o, k, hm => by
    simp only [fitI, Bool.and_eq_true] at h
    rcases List.mem_cons.1 hm with e | hm
    · cases e
      have h1 := h.1
      unfold intAt
      split at h1
      · rename_i k2 n hc
        have : k2 = k' := by simpa using h1
        subst this
        simp only [hc]
      · cases h1
    · exact fit_at h.2 o k hm
theorem intStr_spec {t : TypeId} {l : List (Nat × IntKind)} (h : intStr P t = some l) : P.stoodInHeld t = false ∧ ∃ fs : Array Field, P.underlying t = some (.struct fs) ∧
    (∀ xs ys : Array Value, eqI xs ys l = fs.toList.all fun f => decide (intAt xs f.offset = intAt ys f.offset)) ∧ ∀ f ∈ fs.toList, f.name ≠ "_" ∧ ∃ k, intOf? P f.type = some k ∧ (f.offset, k) ∈ l := by
  unfold intStr at h
  split at h
  · cases h
  · rename_i hs
    refine ⟨by simpa using hs, ?_⟩
    split at h
    · rename_i fs hfs
      refine ⟨fs, hfs, ?_⟩
      generalize fs.toList = fl at h
      clear hfs
      induction fl generalizing l with
      | nil => cases h; exact ⟨fun _ _ => rfl, fun f hf => by cases hf⟩
      | cons f fl ih =>
        rw [List.foldr_cons] at h
        split at h
        · rename_i l' k hl' hk
          split at h
          · cases h
          · rename_i hn
            cases h
            obtain ⟨h1, h2⟩ := ih hl'
            refine ⟨fun xs ys => by simp only [eqI, List.all_cons, h1], fun f' hf' => ?_⟩
            rcases List.mem_cons.1 hf' with e | hf'
            · subst e
              exact ⟨by simpa using hn, k, hk, by simp⟩
            · obtain ⟨h3, k', h4, h5⟩ := h2 f' hf'
              exact ⟨h3, k', h4, by simp [h5]⟩
        · cases h
    · cases h
theorem run_eqIntS {d : Nat} {t : TypeId} {l : List (Nat × IntKind)} {xs ys : Array Value} (h : intStr P t = some l) (hx : fitI xs l = true) (hy : fitI ys l = true) : (Op.equalIn (d + 2) t (.agg xs) (.agg ys)).run P w = .ok (eqI xs ys l) w := by
  obtain ⟨hs, fs, hu, he, hf⟩ := intStr_spec h
  rw [he]
  refine run_eqStruct (fun f => decide (intAt xs f.offset = intAt ys f.offset)) hu hs ?_
  intro f hfm
  obtain ⟨hn, k, hk, hm⟩ := hf f hfm
  have ha : aggOf P f.type = some false := by simp only [aggOf, und_int hk, Option.map_some]
  refine ⟨hn, _, _, run_part_one ha (fit_at hx _ _ hm), run_part_one ha (fit_at hy _ _ hm), ?_⟩
  unfold Op.equalIn
  rw [run_underlying (und_int hk)]
  simp only [if_true]
  rfl
theorem run_equalI {t : TypeId} {l : List (Nat × IntKind)} {xs ys : Array Value} (h : intStr P t = some l) (hx : fitI xs l = true) (hy : fitI ys l = true) : (Op.equal t (.agg xs) (.agg ys)).run P w = .ok (eqI xs ys l) w := run_eqIntS h hx hy
end
end Go.Proofs.Ytbiapeaghbndoaa
