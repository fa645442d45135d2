/- Maps told by the list of their entries. Over any program. -/
import Derived.Test.YtbiapeaghbndoaaLst
namespace Go.Proofs.Ytbiapeaghbndoaa
open Go Go.RowKit

def mapOf (P : Program) (t : TypeId) : Option (TypeId × TypeId) := (P.underlying t).bind fun | .map k e => some (k, e) | _ => none
theorem und_map {P : Program} {t k e : TypeId} (h : mapOf P t = some (k, e)) : P.underlying t = some (.map k e) := by
  simp only [mapOf, Option.bind_eq_some_iff] at h
  obtain ⟨i, hi, h⟩ := h
  cases i <;> simp at h
  obtain ⟨rfl, rfl⟩ := h
  exact hi
section
variable {κ μ : Type} {fk : κ → Value} {fv : μ → Value}
/-- The entries, in the order in which they came; none has gone. -/
def ents (fk : κ → Value) (fv : μ → Value) : List (κ × μ) → Nat → List MapEntry
  | [], _ => []
  | (k, v) :: l, n => { key := fk k, val := fv v, born := n } :: ents fk fv l (n + 1)
def mapO (fk : κ → Value) (fv : μ → Value) (l : List (κ × μ)) : Obj := .map (ents fk fv l 0).toArray l.length
theorem ents_len : ∀ (l : List (κ × μ)) (n : Nat), (ents fk fv l n).length = l.length
  | [], _ => rfl
  | (_, _) :: l, n => by unfold ents; rw [List.length_cons, List.length_cons, ents_len l]
theorem ents_at : ∀ (l : List (κ × μ)) (n i : Nat), (ents fk fv l n)[i]? = (l[i]?).map fun z => { key := fk z.1, val := fv z.2, born := n + i }
  | [], _, _ => rfl
  | (k, v) :: l, n, 0 => rfl
  | (k, v) :: l, n, i + 1 => by
    unfold ents
    rw [List.getElem?_cons_succ, List.getElem?_cons_succ, ents_at l (n + 1) i, show n + 1 + i = n + (i + 1) by omega]
theorem ents_app : ∀ (l m : List (κ × μ)) (n : Nat), ents fk fv (l ++ m) n = ents fk fv l n ++ ents fk fv m (n + l.length)
  | [], _, _ => rfl
  | (k, v) :: l, m, n => by
    show _ :: ents fk fv (l ++ m) (n + 1) = _
    rw [ents_app l m (n + 1), List.length_cons, show n + 1 + l.length = n + (l.length + 1) by omega]
    rfl
theorem ents_born : ∀ (l : List (κ × μ)) (n i : Nat), i < l.length → (ents fk fv l n).findIdx? (fun e => (e.born : Int) == ((n + i : Nat) : Int)) = some i
  | [], _, _, h => absurd h (Nat.not_lt_zero _)
  | (k, v) :: l, n, 0, _ => by unfold ents; rw [List.findIdx?_cons]; simp
  | (k, v) :: l, n, i + 1, h => by
    unfold ents
    rw [List.findIdx?_cons, if_neg (by simp; omega)]
    have := ents_born l (n + 1) i (by simpa using h)
    rw [show n + 1 + i = n + (i + 1) by omega] at this
    rw [this]; rfl
variable [DecidableEq κ]
/-- Where a key is, and what stands there. -/
def fndM (c : κ) : List (κ × μ) → Nat → Option (Nat × μ)
  | [], _ => none
  | (k, v) :: l, i => if c = k then some (i, v) else fndM c l (i + 1)
def getM (z : μ) (c : κ) : List (κ × μ) → μ
  | [] => z
  | (k, v) :: l => if c = k then v else getM z c l
def hasM (c : κ) : List (κ × μ) → Bool
  | [] => false
  | (k, _) :: l => if c = k then true else hasM c l
def idxM (c : κ) : List (κ × μ) → Nat
  | [] => 0
  | (k, _) :: l => if c = k then 0 else idxM c l + 1
/-- With an entry for it. -/
def entM (z : μ) (c : κ) : List (κ × μ) → List (κ × μ)
  | [] => [(c, z)]
  | (k, v) :: l => if c = k then (k, v) :: l else (k, v) :: entM z c l
def setM : Nat → μ → List (κ × μ) → List (κ × μ)
  | _, _, [] => []
  | 0, u, (k, _) :: l => (k, u) :: l
  | n + 1, u, x :: l => x :: setM n u l
def putM (c : κ) (u : μ) : List (κ × μ) → List (κ × μ)
  | [] => [(c, u)]
  | (k, v) :: l => if c = k then (k, u) :: l else (k, v) :: putM c u l
theorem set_ent (z u : μ) (c : κ) : ∀ l : List (κ × μ), setM (idxM c l) u (entM z c l) = putM c u l
  | [] => rfl
  | (k, v) :: l => by
    unfold idxM entM putM
    by_cases h : c = k
    · rw [if_pos h, if_pos h, if_pos h]; rfl
    · rw [if_neg h, if_neg h, if_neg h]
      show (k, v) :: setM (idxM c l) u (entM z c l) = _
      rw [set_ent z u c l]
theorem idx_ent (z : μ) (c : κ) : ∀ l : List (κ × μ), idxM c l < (entM z c l).length
  | [] => Nat.one_pos
  | (k, v) :: l => by
    unfold idxM entM
    by_cases h : c = k
    · rw [if_pos h, if_pos h]; simp
    · rw [if_neg h, if_neg h, List.length_cons]
      have := idx_ent z c l
      omega
theorem get_put (z u : μ) (c c' : κ) : ∀ l : List (κ × μ), getM z c' (putM c u l) = if c' = c then u else getM z c' l
  | [] => by unfold putM getM; rfl
  | (k, v) :: l => by
    unfold putM
    by_cases h : c = k
    · rw [if_pos h]
      unfold getM
      subst h
      by_cases h2 : c' = c
      · rw [if_pos h2, if_pos h2]
      · rw [if_neg h2, if_neg h2, if_neg h2]
    · rw [if_neg h]
      unfold getM
      by_cases h2 : c' = k
      · rw [if_pos h2, if_pos h2, if_neg (fun e => h (e.symm.trans h2))]
      · rw [if_neg h2, if_neg h2, get_put z u c c' l]
theorem has_put (u : μ) (c c' : κ) : ∀ l : List (κ × μ), hasM c' (putM c u l) = if c' = c then true else hasM c' l
  | [] => by unfold putM hasM; rfl
  | (k, v) :: l => by
    unfold putM
    by_cases h : c = k
    · rw [if_pos h]
      unfold hasM
      subst h
      by_cases h2 : c' = c
      · rw [if_pos h2, if_pos h2]
      · simp only [if_neg h2]
    · rw [if_neg h]
      unfold hasM
      by_cases h2 : c' = k
      · rw [if_pos h2, if_pos h2, if_neg (fun e => h (e.symm.trans h2))]
      · rw [if_neg h2, if_neg h2, has_put u c c' l]
theorem fnd_get (z : μ) (c : κ) : ∀ (l : List (κ × μ)) (i : Nat), (match fndM c l i with | some (_, v) => v | none => z) = getM z c l ∧ (fndM c l i).isSome = hasM c l ∧ (∀ j v, fndM c l i = some (j, v) → j = i + idxM c l ∧ idxM c l < l.length ∧ entM z c l = l ∧ l[idxM c l]? = some (c, v)) ∧ (fndM c l i = none → idxM c l = l.length ∧ entM z c l = l ++ [(c, z)])
  | [], i => ⟨rfl, rfl, (fun _ _ h => by cases h), fun _ => ⟨rfl, rfl⟩⟩
  | (k, v) :: l, i => by
    unfold fndM getM hasM idxM entM
    by_cases h : c = k
    · simp only [if_pos h]
      refine ⟨trivial, rfl, ?_, fun e => by cases e⟩
      intro j v' e
      cases e
      exact ⟨by omega, by simp, trivial, by subst h; rfl⟩
    · simp only [if_neg h]
      obtain ⟨h1, h2, h3, h4⟩ := fnd_get z c l (i + 1)
      refine ⟨h1, h2, ?_, ?_⟩
      · intro j v' e
        obtain ⟨a, b, d, f⟩ := h3 j v' e
        exact ⟨by omega, by rw [List.length_cons]; omega, by rw [d], by rw [List.getElem?_cons_succ]; exact f⟩
      · intro e
        obtain ⟨a, b⟩ := h4 e
        exact ⟨by rw [a]; rfl, by rw [b]; rfl⟩

/-- What is asked of the keys' type. -/
structure KeyOk (P : Program) (kt : TypeId) (fk : κ → Value) : Prop where
  und : ∃ d, P.underlying kt = some d ∧ ((∀ x y, Instr.sameNow d (fk x) (fk y) = none) ∨ (∀ x y, Instr.sameNow d (fk x) (fk y) = some (decide (x = y))))
  eq : ∀ x y w, (Op.equal kt (fk x) (fk y)).run P w = .ok (decide (x = y)) w
  chk : ∀ b x w, (Instr.checkKey b 10000 kt (fk x)).run P w = .ok () w
  same : ∀ x, Instr.sameBits 10000 (fk x) (fk x) = true
variable {P : Program} {w : World} {kt : TypeId}
theorem run_findAsking (K : KeyOk P kt fk) (c : κ) : ∀ (l : List (κ × μ)) (n i : Nat), (Instr.findAsking kt (fk c) (ents fk fv l n) i).run P w = .ok ((fndM c l i).map fun z => (z.1, fv z.2)) w
  | [], _, _ => rfl
  | (k, v) :: l, n, i => by
    show ((do if ← Op.equal kt (fk c) (fk k) then pure (some (i, fv v)) else Instr.findAsking kt (fk c) (ents fk fv l (n + 1)) (i + 1)) : Sem (Option (Nat × Value))).run P w = _
    rw [run_bind_ok (K.eq c k w)]
    unfold fndM
    by_cases h : c = k
    · rw [decide_eq_true h, if_pos h]; rfl
    · rw [decide_eq_false h, if_neg h]
      exact run_findAsking K c l (n + 1) (i + 1)
theorem findNow_some {d : TypeDesc} (hd : ∀ x y, Instr.sameNow d (fk x) (fk y) = some (decide (x = y))) (c : κ) : ∀ (l : List (κ × μ)) (n i : Nat), Instr.findNow d (fk c) (ents fk fv l n) i = some ((fndM c l i).map fun z => (z.1, fv z.2))
  | [], _, _ => rfl
  | (k, v) :: l, n, i => by
    unfold ents Instr.findNow fndM
    dsimp only
    rw [hd]
    by_cases h : c = k
    · rw [decide_eq_true h, if_pos h]; rfl
    · rw [decide_eq_false h, if_neg h]
      exact findNow_some hd c l (n + 1) (i + 1)
theorem run_findKey (K : KeyOk P kt fk) (c : κ) (l : List (κ × μ)) : (Instr.findKey kt (fk c) (ents fk fv l 0)).run P w = .ok ((fndM c l 0).map fun z => (z.1, fv z.2)) w := by
  obtain ⟨d, hd, hk⟩ := K.und
  unfold Instr.findKey
  rw [run_underlying hd]
  rcases hk with hk | hk
  · cases l with
    | nil => rfl
    | cons z l =>
      have : Instr.findNow d (fk c) (ents fk fv (z :: l) 0) 0 = none := by
        obtain ⟨k, v⟩ := z
        unfold ents Instr.findNow
        dsimp only
        rw [hk]
      rw [this]
      exact run_findAsking K c _ 0 0
  · rw [findNow_some hk]
    rfl
theorem run_zero {e : TypeId} {z : Value} (hz : zeroOf P e = some z) : (zeroValue e).run P w = .ok z w := by
  simp only [zeroOf, Option.bind_eq_some_iff] at hz
  obtain ⟨i, hi, hz⟩ := hz
  simp [zeroValue, typeInfo, program, Sem.bind, Sem.run, bind, pure, hi, hz]
theorem run_getMap {b n : Nat} {es : Array MapEntry} (h : hp w b = some (.map es n)) : (getObj b).run P w = .ok (.map es n) w := by
  simp only [getObj, Sem.run]
  have : w.heap[b]? = some (.map es n) := h
  rw [this]
theorem run_setMap {b n : Nat} {es : Array MapEntry} (o : Obj) (h : hp w b = some (.map es n)) : (setObj b o).run P w = .ok () (w.putObj b o) := by
  have : w.heap[b]? = some (.map es n) := h
  simp [setObj, Sem.run, this, World.putObj]
variable {ρ : Operand → Value} {d : Option Tmp} {ty : TypeId} {ps : String} {af : Array Edge} {g : Option (Nat × Bool)} {x y v : Operand} {t e : TypeId}
theorem r_makeMap : (execOp ρ (mk d (.makeMap t none) ty ps af g)).run P w = .ok (.value (.map (some w.heap.size))) (w.alloc (.map #[] 0)) := rfl
theorem r_lookup {b : Nat} {c : κ} {z : μ} {l : List (κ × μ)} (K : KeyOk P kt fk) (ht : mapOf P t = some (kt, e)) (hz : zeroOf P e = some (fv z)) (hx : ρ x = .map (some b)) (hy : ρ y = fk c) (hb : hp w b = some (mapO fk fv l)) :
    (execOp ρ (mk d (.lookup t x y false) ty ps af g)).run P w = .ok (.value (fv (getM z c l))) w := by
  refine run_v ?_
  rw [hx, hy]
  unfold Instr.lookup
  rw [run_underlying (und_map ht)]
  dsimp only
  rw [run_bind_ok (run_getMap hb)]
  dsimp only
  rw [run_bind_ok (a := (ents fk fv l 0).toArray) (w' := w) rfl, run_bind_ok (K.chk _ c w)]
  rw [run_bind_ok (run_findKey K c l)]
  obtain ⟨h1, h2, _, _⟩ := fnd_get z c l 0
  cases h : fndM c l 0 with
  | none =>
    rw [h] at h1 h2
    simp only [Option.map_some, Option.map_none] at h1 ⊢
    rw [run_bind_ok (run_zero hz), ← h1]; rfl
  | some q =>
    obtain ⟨i, u⟩ := q
    rw [h] at h1 h2
    simp only [Option.map_some, Option.map_none] at h1 ⊢
    rw [← h1]; rfl
theorem r_lookupNil {z : Value} {k : Value} (hck : (Instr.checkKey true 10000 kt k).run P w = .ok () w) (hu : ∃ d, P.underlying kt = some d) (ht : mapOf P t = some (kt, e)) (hz : zeroOf P e = some z) (hx : ρ x = .map none) (hy : ρ y = k) :
    (execOp ρ (mk d (.lookup t x y false) ty ps af g)).run P w = .ok (.value z) w := by
  refine run_v ?_
  rw [hx, hy]
  unfold Instr.lookup
  rw [run_underlying (und_map ht)]
  dsimp only
  rw [run_bind_ok (a := (#[] : Array MapEntry)) (w' := w) rfl, run_bind_ok (show (Instr.checkKey (#[] : Array MapEntry).isEmpty 10000 kt k).run P w = .ok () w from hck)]
  obtain ⟨d, hd⟩ := hu
  rw [run_bind_ok (a := none) (w' := w) (by unfold Instr.findKey; rw [run_underlying hd]; rfl)]
  dsimp only
  rw [run_bind_ok (run_zero hz)]; rfl
theorem upd_put {b : Nat} {o o' : Obj} (h : hp w b = some o) : Upd w b o' (w.putObj b o') :=
  ⟨rfl, rfl, rfl, by simp, World.putObj_heap_same (hp_lt h), fun k hk => hp_putObj _ _ _ hk⟩
omit [DecidableEq κ] in
theorem ents_key {l : List (κ × μ)} {c : κ} {u : μ} {i : Nat} (h : l[i]? = some (c, u)) : (ents fk fv l 0).toArray.modify i (fun e => { e with key := fk c }) = (ents fk fv l 0).toArray := by
  apply Array.ext_getElem?
  intro j
  rw [Array.getElem?_modify]
  by_cases hj : i = j
  · subst hj
    rw [if_pos rfl, List.getElem?_toArray, ents_at, h]; rfl
  · rw [if_neg hj]
theorem r_mapEntry {b : Nat} {c : κ} {z : μ} {l : List (κ × μ)} (K : KeyOk P kt fk) (ht : mapOf P t = some (kt, e)) (hz : zeroOf P e = some (fv z)) (hx : ρ x = .map (some b)) (hy : ρ y = fk c) (hb : hp w b = some (mapO fk fv l)) :
    ∃ w', (execOp ρ (mk d (.mapEntry t x y) ty ps af g)).run P w = .ok (.value (.tuple #[fv (getM z c l), .int .i64 (idxM c l : Nat)])) w' ∧ Upd w b (mapO fk fv (entM z c l)) w' := by
  refine ⟨w.putObj b (mapO fk fv (entM z c l)), run_v ?_, upd_put hb⟩
  rw [hx, hy]
  unfold Instr.mapEntry
  rw [run_underlying (und_map ht)]
  dsimp only
  rw [run_bind_ok (run_getMap hb)]
  unfold mapO
  dsimp only
  rw [run_bind_ok (K.chk _ c w), run_bind_ok (run_findKey K c l)]
  obtain ⟨h1, h2, h3, h4⟩ := fnd_get z c l 0
  cases h : fndM c l 0 with
  | none =>
    rw [h] at h1
    obtain ⟨h5, h6⟩ := h4 h
    simp only [Option.map_some, Option.map_none] at h1 ⊢
    rw [run_bind_ok (run_zero hz), ← h1, h5, h6, run_bind_ok (run_setMap _ hb)]
    have : (ents fk fv l 0).toArray.push ({ key := fk c, val := fv z, born := l.length } : MapEntry) = (ents fk fv (l ++ [(c, z)]) 0).toArray := by
      rw [ents_app, List.push_toArray]
      show _ = (_ ++ [({ key := fk c, val := fv z, born := 0 + l.length } : MapEntry)]).toArray
      rw [Nat.zero_add]
    rw [this, List.length_append, List.length_singleton]
    rfl
  | some q =>
    obtain ⟨i, u⟩ := q
    rw [h] at h1
    obtain ⟨h5, h6, h7, h8⟩ := h3 i u h
    rw [Nat.zero_add] at h5
    subst h5
    simp only [Option.map_some, Option.map_none] at h1 ⊢
    have hk : (Instr.keyThatStays ((((ents fk fv l 0).toArray[idxM c l]?).map (·.key)).getD (fk c)) (fk c)).run P w = .ok (fk c) w := by
      rw [List.getElem?_toArray, ents_at, h8]
      unfold Instr.keyThatStays
      show (if Instr.sameBits 10000 (fk c) (fk c) = true then pure (fk c) else _ : Sem Value).run P w = _
      rw [if_pos (K.same c)]; rfl
    rw [run_bind_ok hk, ents_key h8, ← h1, h7]
    have hborn : ((((ents fk fv l 0).toArray[idxM c l]?).map (fun x => (x.born : Int))).getD 0) = ((idxM c l : Nat) : Int) := by
      rw [List.getElem?_toArray, ents_at, h8]
      show ((0 + idxM c l : Nat) : Int) = _
      rw [Nat.zero_add]
    rw [hborn, run_bind_ok (run_setMap _ hb)]
    rfl
omit [DecidableEq κ] in
theorem ents_set : ∀ (l : List (κ × μ)) (n i : Nat) (u : μ) (j : Nat), (ents fk fv (setM i u l) n)[j]? = if i = j then ((ents fk fv l n)[j]?).map (fun e => { e with val := fv u }) else (ents fk fv l n)[j]?
  | [], n, i, u, j => by unfold setM ents; simp
  | (k, v) :: l, n, 0, u, 0 => rfl
  | (k, v) :: l, n, 0, u, j + 1 => by
    rw [if_neg (by omega)]
    unfold setM ents
    rw [List.getElem?_cons_succ, List.getElem?_cons_succ]
  | (k, v) :: l, n, i + 1, u, 0 => by
    rw [if_neg (by omega)]
    rfl
  | (k, v) :: l, n, i + 1, u, j + 1 => by
    unfold setM ents
    rw [List.getElem?_cons_succ, List.getElem?_cons_succ, ents_set l (n + 1) i u j]
    by_cases h : i = j
    · rw [if_pos h, if_pos (by omega)]
    · rw [if_neg h, if_neg (by omega)]
omit [DecidableEq κ] in
theorem setM_len : ∀ (l : List (κ × μ)) (i : Nat) (u : μ), (setM i u l).length = l.length
  | [], _, _ => by unfold setM; rfl
  | (_, _) :: _, 0, _ => rfl
  | x :: l, i + 1, u => by unfold setM; rw [List.length_cons, List.length_cons, setM_len l i u]
omit [DecidableEq κ] in
theorem r_entryStore {b i : Nat} {u : μ} {l : List (κ × μ)} {s : Operand} (hx : ρ x = .map (some b)) (hs : ρ s = .int .i64 (i : Nat)) (hy : ρ y = fv u) (hb : hp w b = some (mapO fk fv l)) (hi : i < l.length) :
    ∃ w', (execOp ρ (mk d (.entryStore t x s y) ty ps af g)).run P w = .ok .skip w' ∧ Upd w b (mapO fk fv (setM i u l)) w' := by
  refine ⟨w.putObj b (mapO fk fv (setM i u l)), ?_, upd_put hb⟩
  show (do Instr.entryStore t (ρ x) (ρ s) (ρ y); pure Next.skip : Sem Next).run P w = _
  rw [hx, hs, hy, run_bind_ok (a := ()) (w' := w.putObj b (mapO fk fv (setM i u l)))]
  · rfl
  · unfold Instr.entryStore
    dsimp only
    rw [run_bind_ok (run_getMap hb)]
    unfold mapO
    dsimp only
    rw [run_bind_ok (a := (i : Int)) (w' := w) rfl]
    have hf : (ents fk fv l 0).toArray.findIdx? (fun e => (e.born : Int) == ((i : Nat) : Int)) = some i := by
      have := ents_born (fk := fk) (fv := fv) l 0 i hi
      rw [Nat.zero_add] at this
      rw [List.findIdx?_toArray]
      exact this
    rw [hf]
    have hm : (ents fk fv l 0).toArray.modify i (fun e => { e with val := fv u }) = (ents fk fv (setM i u l) 0).toArray := by
      apply Array.ext_getElem?
      intro j
      rw [Array.getElem?_modify, List.getElem?_toArray, List.getElem?_toArray, ents_set]
    dsimp only
    rw [hm, setM_len]
    exact run_setMap _ hb
theorem r_entryPut {b : Nat} {c : κ} {z u : μ} {l : List (κ × μ)} {s : Operand} (hx : ρ x = .map (some b)) (hs : ρ s = .int .i64 (idxM c l : Nat)) (hy : ρ y = fv u) (hb : hp w b = some (mapO fk fv (entM z c l))) :
    ∃ w', (execOp ρ (mk d (.entryStore t x s y) ty ps af g)).run P w = .ok .skip w' ∧ Upd w b (mapO fk fv (putM c u l)) w' := by
  have := r_entryStore (P := P) (d := d) (ty := ty) (ps := ps) (af := af) (g := g) (t := t) hx hs hy hb (idx_ent z c l)
  rwa [set_ent] at this
theorem get_ent (z : μ) (c c' : κ) : ∀ l : List (κ × μ), getM z c' (entM z c l) = getM z c' l
  | [] => by unfold entM getM; split <;> rfl
  | (k, v) :: l => by
    unfold entM
    by_cases h : c = k
    · rw [if_pos h]
    · rw [if_neg h]
      unfold getM
      rw [get_ent z c c' l]
end
/-! ### an operation that answers, and writes a block of one's own -/
section
variable {C : Cx} {ops : Array Oper} {os : List Oper} {Q : Post} {K : List (Nat × Value)} {L : Heap} {o : Oper}
theorem TL_upd {dd : Nat} (i : Nat) {b : Nat} {ob : Obj} (v : Value) (obj : Obj) (hi : lk L i = some (.blk b ob)) (hr : ∀ ρ w, Rd K ρ → MemOk C.w₀ L w → ∃ w', (execOp ρ o).run C.P w = .ok (.value v) w' ∧ Upd w b obj w') (hd : o.dst = some dd) (hN : Nat.blt dd C.N = true) (hn : isDefer o.op = false) (hw : Want ops K o true)
    (h : TL C ops os Q ((dd, v) :: K) ((i, .blk b obj) :: L)) : TL C ops (o :: os) Q K L := by
  intro a w hf hm
  unfold wpListIn
  rw [hw.is hf, if_pos rfl]
  obtain ⟨w', hrun, hu⟩ := hr _ _ hf.rd hm
  refine step_val hn hrun ?_
  rw [hd]
  exact h _ _ (hf.put v hN) (hm.upd hi hu)
end
section
variable {C : Cx} {R : Rg} {Q : Post} {K0 V : List (Nat × Value)} {lo : Nat} {L : Heap}
theorem LOb_upd {c dd : Nat} {o : Oper} (i : Nat) {b : Nat} {ob : Obj} (v : Value) (obj : Obj) (news : List (Nat × Value)) (ho : R.ops[c]? = some o) (hw : WantV V o true) (hd : o.dst = some dd) (hn : isDefer o.op = false) (hi : lk L i = some (.blk b ob))
    (hr : ∀ ρ w, Rd (kOf K0 V (R.S.getD c [])) ρ → MemOk C.w₀ L w → ∃ w', (execOp ρ o).run C.P w = .ok (.value v) w' ∧ Upd w b obj w') (hnew : newsOk R c news = true)
    (h : G C R Q K0 (lo ||| 2 ^ c) (news ++ (c, v) :: V) ((i, .blk b obj) :: L)) : LOb C R Q K0 lo V L c := by
  refine ⟨o, ho, hw, fun a w next hrd hm _ hnext => ?_⟩
  obtain ⟨w', hrun, hu⟩ := hr _ _ hrd hm
  refine step_val hn hrun ?_
  simp only [newsOk, Bool.and_eq_true, Bool.not_eq_true'] at hnew
  exact hnext _ _ _ _ (.inl (lk_app _ _ _ hnew.2)) (extV _ _ _ hnew.1) (hm.upd hi hu) h
end
end Go.Proofs.Ytbiapeaghbndoaa
