/- Maps told by the list of their entries. Over any program. -/
import Derived.Test.YtbiapeaghbndoaaLst
namespace Go.Proofs.Ytbiapeaghbndoaa
open Go Go.RowKit

def mapOf (P : Program) (t : TypeId) : Option (TypeId × TypeId) := (P.underlying t).bind fun | .map k e => some (k, e) | _ => none
theorem und_map {P : Program} {t k e : TypeId} (h : mapOf P t = some (k, e)) : P.underlying t = some (.map k e) := by
  simp only [mapOf, Option.bind_eq_some_iff] at h
  obtain ⟨i, hi, h⟩ := h
  cases i <;> simp at h
  obtain ⟨rfl, rfl⟩ := h
  exact hi
section
variable {κ μ : Type} {fk : κ → Value} {fv : μ → Value}
/-- The entries, in the order in which they came; none has gone. -/
def ents (fk : κ → Value) (fv : μ → Value) : List (κ × μ) → Nat → List MapEntry
  | [], _ => []
  | (k, v) :: l, n => { key := fk k, val := fv v, born := n } :: ents fk fv l (n + 1)
def mapO (fk : κ → Value) (fv : μ → Value) (l : List (κ × μ)) : Obj := .map (ents fk fv l 0).toArray l.length
theorem ents_at : ∀ (l : List (κ × μ)) (n i : Nat), (ents fk fv l n)[i]? = (l[i]?).map fun z => { key := fk z.1, val := fv z.2, born := n + i }
  | [], _, _ => rfl
  | (k, v) :: l, n, 0 => rfl
  | (k, v) :: l, n, i + 1 => by
    unfold ents
    rw [List.getElem?_cons_succ, List.getElem?_cons_succ, ents_at l (n + 1) i, show n + 1 + i = n + (i + 1) by omega]
theorem ents_app : ∀ (l m : List (κ × μ)) (n : Nat), ents fk fv (l ++ m) n = ents fk fv l n ++ ents fk fv m (n + l.length)
  | [], _, _ => rfl
  | (k, v) :: l, m, n => by
    show _ :: ents fk fv (l ++ m) (n + 1) = _
    rw [ents_app l m (n + 1), List.length_cons, show n + 1 + l.length = n + (l.length + 1) by omega]
    rfl
variable [DecidableEq κ]
/-- Where a key is, and what stands there. -/
def fndM (c : κ) : List (κ × μ) → Nat → Option (Nat × μ)
  | [], _ => none
  | (k, v) :: l, i => if c = k then some (i, v) else fndM c l (i + 1)
def getM (z : μ) (c : κ) : List (κ × μ) → μ
  | [] => z
  | (k, v) :: l => if c = k then v else getM z c l
def hasM (c : κ) : List (κ × μ) → Bool
  | [] => false
  | (k, _) :: l => if c = k then true else hasM c l
def idxM (c : κ) : List (κ × μ) → Nat
  | [] => 0
  | (k, _) :: l => if c = k then 0 else idxM c l + 1
/-- With an entry for it. -/
def entM (z : μ) (c : κ) : List (κ × μ) → List (κ × μ)
  | [] => [(c, z)]
  | (k, v) :: l => if c = k then (k, v) :: l else (k, v) :: entM z c l
def setM : Nat → μ → List (κ × μ) → List (κ × μ)
  | _, _, [] => []
  | 0, u, (k, _) :: l => (k, u) :: l
  | n + 1, u, x :: l => x :: setM n u l
def putM (c : κ) (u : μ) : List (κ × μ) → List (κ × μ)
  | [] => [(c, u)]
  | (k, v) :: l => if c = k then (k, u) :: l else (k, v) :: putM c u l
theorem set_ent (z u : μ) (c : κ) : ∀ l : List (κ × μ), setM (idxM c l) u (entM z c l) = putM c u l
  | [] => rfl
  | (k, v) :: l => by
    unfold idxM entM putM
    by_cases h : c = k
    · rw [if_pos h, if_pos h, if_pos h]; rfl
    · rw [if_neg h, if_neg h, if_neg h]
      show (k, v) :: setM (idxM c l) u (entM z c l) = _
      rw [set_ent z u c l]
theorem fnd_get (z : μ) (c : κ) : ∀ (l : List (κ × μ)) (i : Nat), (match fndM c l i with | some (_, v) => v | none => z) = getM z c l ∧ (fndM c l i).isSome = hasM c l ∧ (∀ j v, fndM c l i = some (j, v) → j = i + idxM c l ∧ idxM c l < l.length ∧ entM z c l = l ∧ l[idxM c l]? = some (c, v)) ∧ (fndM c l i = none → idxM c l = l.length ∧ entM z c l = l ++ [(c, z)])
  | [], i => ⟨rfl, rfl, (fun _ _ h => by cases h), fun _ => ⟨rfl, rfl⟩⟩
  | (k, v) :: l, i => by
    unfold fndM getM hasM idxM entM
    by_cases h : c = k
    · simp only [if_pos h]
      refine ⟨trivial, rfl, ?_, fun e => by cases e⟩
      intro j v' e
      cases e
      exact ⟨by omega, by simp, trivial, by subst h; rfl⟩
    · simp only [if_neg h]
      obtain ⟨h1, h2, h3, h4⟩ := fnd_get z c l (i + 1)
      refine ⟨h1, h2, ?_, ?_⟩
      · intro j v' e
        obtain ⟨a, b, d, f⟩ := h3 j v' e
        exact ⟨by omega, by rw [List.length_cons]; omega, by rw [d], by rw [List.getElem?_cons_succ]; exact f⟩
      · intro e
        obtain ⟨a, b⟩ := h4 e
        exact ⟨by rw [a]; rfl, by rw [b]; rfl⟩

/-- What is asked of the keys' type. -/
structure KeyOk (P : Program) (kt : TypeId) (fk : κ → Value) : Prop where
  und : ∃ d, P.underlying kt = some d ∧ ((∀ x y, Instr.sameNow d (fk x) (fk y) = none) ∨ (∀ x y, Instr.sameNow d (fk x) (fk y) = some (decide (x = y))))
  eq : ∀ x y w, (Op.equal kt (fk x) (fk y)).run P w = .ok (decide (x = y)) w
  chk : ∀ b x w, (Instr.checkKey b 10000 kt (fk x)).run P w = .ok () w
  same : ∀ x, Instr.sameBits 10000 (fk x) (fk x) = true
variable {P : Program} {w : World} {kt : TypeId}
theorem run_findAsking (K : KeyOk P kt fk) (c : κ) : ∀ (l : List (κ × μ)) (n i : Nat), (Instr.findAsking kt (fk c) (ents fk fv l n) i).run P w = .ok ((fndM c l i).map fun z => (z.1, fv z.2)) w
  | [], _, _ => rfl
  | (k, v) :: l, n, i => by
    show ((do if ← Op.equal kt (fk c) (fk k) then pure (some (i, fv v)) else Instr.findAsking kt (fk c) (ents fk fv l (n + 1)) (i + 1)) : Sem (Option (Nat × Value))).run P w = _
    rw [run_bind_ok (K.eq c k w)]
    unfold fndM
    by_cases h : c = k
    · rw [decide_eq_true h, if_pos h]; rfl
    · rw [decide_eq_false h, if_neg h]
      exact run_findAsking K c l (n + 1) (i + 1)
theorem findNow_some {d : TypeDesc} (hd : ∀ x y, Instr.sameNow d (fk x) (fk y) = some (decide (x = y))) (c : κ) : ∀ (l : List (κ × μ)) (n i : Nat), Instr.findNow d (fk c) (ents fk fv l n) i = some ((fndM c l i).map fun z => (z.1, fv z.2))
  | [], _, _ => rfl
  | (k, v) :: l, n, i => by
    unfold ents Instr.findNow fndM
    dsimp only
    rw [hd]
    by_cases h : c = k
    · rw [decide_eq_true h, if_pos h]; rfl
    · rw [decide_eq_false h, if_neg h]
      exact findNow_some hd c l (n + 1) (i + 1)
theorem run_findKey (K : KeyOk P kt fk) (c : κ) (l : List (κ × μ)) : (Instr.findKey kt (fk c) (ents fk fv l 0)).run P w = .ok ((fndM c l 0).map fun z => (z.1, fv z.2)) w := by
  obtain ⟨d, hd, hk⟩ := K.und
  unfold Instr.findKey
  rw [run_underlying hd]
  rcases hk with hk | hk
  · cases l with
    | nil => rfl
    | cons z l =>
      have : Instr.findNow d (fk c) (ents fk fv (z :: l) 0) 0 = none := by
        obtain ⟨k, v⟩ := z
        unfold ents Instr.findNow
        dsimp only
        rw [hk]
      rw [this]
      exact run_findAsking K c _ 0 0
  · rw [findNow_some hk]
    rfl
theorem run_zero {e : TypeId} {z : Value} (hz : zeroOf P e = some z) : (zeroValue e).run P w = .ok z w := by
  simp only [zeroOf, Option.bind_eq_some_iff] at hz
  obtain ⟨i, hi, hz⟩ := hz
  simp [zeroValue, typeInfo, program, Sem.bind, Sem.run, bind, pure, hi, hz]
theorem run_getMap {b n : Nat} {es : Array MapEntry} (h : hp w b = some (.map es n)) : (getObj b).run P w = .ok (.map es n) w := by
  simp only [getObj, Sem.run]
  have : w.heap[b]? = some (.map es n) := h
  rw [this]
theorem run_setMap {b n : Nat} {es : Array MapEntry} (o : Obj) (h : hp w b = some (.map es n)) : (setObj b o).run P w = .ok () (w.putObj b o) := by
  have : w.heap[b]? = some (.map es n) := h
  simp [setObj, Sem.run, this, World.putObj]
variable {ρ : Operand → Value} {d : Option Tmp} {ty : TypeId} {ps : String} {af : Array Edge} {g : Option (Nat × Bool)} {x y v : Operand} {t e : TypeId}
theorem r_makeMap : (execOp ρ (mk d (.makeMap t none) ty ps af g)).run P w = .ok (.value (.map (some w.heap.size))) (w.alloc (.map #[] 0)) := rfl
theorem r_lookup {b : Nat} {c : κ} {z : μ} {l : List (κ × μ)} (K : KeyOk P kt fk) (ht : mapOf P t = some (kt, e)) (hz : zeroOf P e = some (fv z)) (hx : ρ x = .map (some b)) (hy : ρ y = fk c) (hb : hp w b = some (mapO fk fv l)) :
    (execOp ρ (mk d (.lookup t x y false) ty ps af g)).run P w = .ok (.value (fv (getM z c l))) w := by
  refine run_v ?_
  rw [hx, hy]
  unfold Instr.lookup
  rw [run_underlying (und_map ht)]
  dsimp only
  rw [run_bind_ok (run_getMap hb)]
  dsimp only
  rw [run_bind_ok (a := (ents fk fv l 0).toArray) (w' := w) rfl, run_bind_ok (K.chk _ c w)]
  rw [run_bind_ok (run_findKey K c l)]
  obtain ⟨h1, h2, _, _⟩ := fnd_get z c l 0
  cases h : fndM c l 0 with
  | none =>
    rw [h] at h1 h2
    simp only [Option.map_some, Option.map_none] at h1 ⊢
    rw [run_bind_ok (run_zero hz), ← h1]; rfl
  | some q =>
    obtain ⟨i, u⟩ := q
    rw [h] at h1 h2
    simp only [Option.map_some, Option.map_none] at h1 ⊢
    rw [← h1]; rfl
theorem upd_put {b : Nat} {o o' : Obj} (h : hp w b = some o) : Upd w b o' (w.putObj b o') :=
  ⟨rfl, rfl, rfl, by simp, World.putObj_heap_same (hp_lt h), fun k hk => hp_putObj _ _ _ hk⟩
omit [DecidableEq κ] in
omit [DecidableEq κ] in
theorem ents_set : ∀ (l : List (κ × μ)) (n i : Nat) (u : μ) (j : Nat), (ents fk fv (setM i u l) n)[j]? = if i = j then ((ents fk fv l n)[j]?).map (fun e => { e with val := fv u }) else (ents fk fv l n)[j]?
  | [], n, i, u, j => by unfold setM ents; simp
  | (k, v) :: l, n, 0, u, 0 => rfl
  | (k, v) :: l, n, 0, u, j + 1 => by
    rw [if_neg (by omega)]
    unfold setM ents
    rw [List.getElem?_cons_succ, List.getElem?_cons_succ]
  | (k, v) :: l, n, i + 1, u, 0 => by
    rw [if_neg (by omega)]
    rfl
  | (k, v) :: l, n, i + 1, u, j + 1 => by
    unfold setM ents
    rw [List.getElem?_cons_succ, List.getElem?_cons_succ, ents_set l (n + 1) i u j]
    by_cases h : i = j
    · rw [if_pos h, if_pos (by omega)]
    · rw [if_neg h, if_neg (by omega)]
omit [DecidableEq κ] in
theorem setM_len : ∀ (l : List (κ × μ)) (i : Nat) (u : μ), (setM i u l).length = l.length
  | [], _, _ => by unfold setM; rfl
  | (_, _) :: _, 0, _ => rfl
  | x :: l, i + 1, u => by unfold setM; rw [List.length_cons, List.length_cons, setM_len l i u]
omit [DecidableEq κ] in
end
/-! ### an operation that answers, and writes a block of one's own -/
section
variable {C : Cx} {ops : Array Oper} {os : List Oper} {Q : Post} {K : List (Nat × Value)} {L : Heap} {o : Oper}
end
section
variable {C : Cx} {R : Rg} {Q : Post} {K0 V : List (Nat × Value)} {lo : Nat} {L : Heap}
end
end Go.Proofs.Ytbiapeaghbndoaa
