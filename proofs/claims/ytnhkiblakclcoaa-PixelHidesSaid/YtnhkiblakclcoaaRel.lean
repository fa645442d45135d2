/- The same where an operation's value hangs on the world (a new slice's place): what is said of each slot is a word on the value and the world, which memory that only grows keeps. Over any program. -/
import Derived.Test.YtnhkiblakclcoaaReg
namespace Go.Proofs.Ytnhkiblakclcoaa
open Go Go.RowKit

section
variable {F : Fence} {n : Nat} {P : Program} {Q : Exit → Act → World → Prop}

/-- Memory has only grown. -/
def Ext (W W' : World) : Prop := Below W.heap.size W W'
theorem Ext.refl (W : World) : Ext W W := Below.refl _ _
theorem Ext.trans {A B C : World} (h : Ext A B) (k : Ext B C) : Ext A C := Below.trans h (Below.mono k h.size)
theorem Ext.drew {A B : World} (h : Ext A B) : Ext A B.drew := Below.drew h

abbrev Phi := Value → World → Prop
/-- It is v. -/
def isV (v : Value) : Phi := fun u _ => u = v
def allPhi : List Phi → List Value → World → Prop
  | [], [], _ => True
  | p :: ps, u :: us, W => p u W ∧ allPhi ps us W
  | _, _, _ => False
def keepsPhi : List Phi → Prop
  | [] => True
  | p :: ps => (∀ v W W', Ext W W' → p v W → p v W') ∧ keepsPhi ps
theorem isV_keeps (v : Value) : ∀ u W W', Ext W W' → isV v u W → isV v u W' := fun _ _ _ _ h => h
/-- What is known of slot t. -/
def slotP (ops : Array Oper) (ps : List Phi) (a : Act) (t : Tmp) : Phi :=
  match (List.range ps.length).find? fun j => dstAt ops j == some t with
  | some j => ps.getD j fun _ _ => True
  | none => fun u _ => u = a.eval (.tmp t)
def factsR (a' : Act) (W : World) (V : Tmp → Phi) : List Tmp → Prop
  | [] => True
  | t :: ts => V t (a'.eval (.tmp t)) W ∧ factsR a' W V ts
theorem factsR_of {a' : Act} {W : World} {V : Tmp → Phi} : ∀ {ts : List Tmp}, (∀ t ∈ ts, V t (a'.eval (.tmp t)) W) → factsR a' W V ts
  | [], _ => trivial
  | t :: ts, h => ⟨h t (by simp), factsR_of fun u hu => h u (by simp [hu])⟩

/-- ONE OPERATION that comes up. -/
def stepR (F : Fence) (n : Nat) (P : Program) (Q : Exit → Act → World → Prop) (W0 : World) (V : Tmp → Phi) (o : Oper) (p : Phi) : Prop :=
  ∀ (a' : Act) (W : World), Ext W0 W → factsR a' W V (opTmps o) → ∀ K : Act → World → Prop, (∀ v W', Ext W W' → p v W' → K (a'.put o.dst v) W') → o.wpIn F n P a' W K Q
/-- By its guard. -/
def stepG (F : Fence) (n : Nat) (P : Program) (Q : Exit → Act → World → Prop) (W0 : World) (V : Tmp → Phi) (ps : List Phi) (o : Oper) (p : Phi) : Prop :=
  match o.guard with
  | none => stepR F n P Q W0 V o p
  | some (j, want) =>
    ((∀ v W, ps.getD j (fun _ _ => True) v W → v = .bool want) ∧ stepR F n P Q W0 V o p) ∨
    ((∀ v W, ps.getD j (fun _ _ => True) v W → v = .bool (!want)) ∧ ∀ W, p undef W)
def stepsR (F : Fence) (n : Nat) (P : Program) (Q : Exit → Act → World → Prop) (W0 : World) (V : Tmp → Phi) (ps : List Phi) : List Oper → List Phi → Prop
  | _, [] => True
  | [], _ :: _ => False
  | o :: os, p :: qs => stepG F n P Q W0 V ps o p ∧ stepsR F n P Q W0 V ps os qs
theorem stepsR_at {W0 : World} {V : Tmp → Phi} {ps : List Phi} : ∀ {os : List Oper} {qs : List Phi}, stepsR F n P Q W0 V ps os qs →
    ∀ (i : Nat) (o : Oper), i < qs.length → os[i]? = some o → stepG F n P Q W0 V ps o (qs.getD i fun _ _ => True)
  | _, [], _, i, o, hi, _ => by simp at hi
  | [], _ :: _, h, _, _, _, _ => h.elim
  | p :: os, v :: vs, h, 0, o, _, ho => by simp at ho; subst ho; exact h.1
  | p :: os, v :: vs, h, i + 1, o, hi, ho => by
    have := stepsR_at h.2 i o (by simpa using hi) (by simpa using ho)
    simpa using this
theorem keepsPhi_at : ∀ {ps : List Phi}, keepsPhi ps → ∀ j v W W', Ext W W' → ps.getD j (fun _ _ => True) v W → ps.getD j (fun _ _ => True) v W'
  | [], _, j, v, W, W', _, _ => by simp
  | p :: ps, h, 0, v, W, W', he, hp => h.1 v W W' he hp
  | p :: ps, h, j + 1, v, W, W', he, hp => by
    have := keepsPhi_at h.2 j v W W' he (by simpa using hp)
    simpa using this
theorem allPhi_of : ∀ {ps : List Phi} {us : List Value} {W : World}, us.length = ps.length → (∀ j, j < ps.length → ps.getD j (fun _ _ => True) (us.getD j undef) W) → allPhi ps us W
  | [], [], _, _, _ => trivial
  | [], _ :: _, _, h, _ => by simp at h
  | _ :: _, [], _, h, _ => by simp at h
  | p :: ps, u :: us, W, h, hj => ⟨hj 0 (by simp), allPhi_of (by simpa using h) fun j hl => by have := hj (j + 1) (by simpa using hl); simpa using this⟩
theorem allPhi_at : ∀ {ps : List Phi} {us : List Value} {W : World}, allPhi ps us W → ∀ j, j < ps.length → ps.getD j (fun _ _ => True) (us.getD j undef) W
  | [], _, _, _, _, hj => by simp at hj
  | _ :: _, [], _, h, _, _ => h.elim
  | p :: ps, u :: us, W, h, 0, _ => h.1
  | p :: ps, u :: us, W, h, j + 1, hj => by
    have := allPhi_at h.2 j (by simpa using hj)
    simpa using this
theorem stepG_plain {W0 : World} {V : Tmp → Phi} {ps : List Phi} {o : Oper} {p : Phi} (hg : o.guard = none) (h : stepR F n P Q W0 V o p) : stepG F n P Q W0 V ps o p := by
  unfold stepG; rw [hg]; exact h
theorem stepG_want {W0 : World} {V : Tmp → Phi} {ps : List Phi} {o : Oper} {p : Phi} {j : Nat} {want : Bool} (hg : o.guard = some (j, want)) (hv : ∀ v W, ps.getD j (fun _ _ => True) v W → v = .bool want)
    (h : stepR F n P Q W0 V o p) : stepG F n P Q W0 V ps o p := by
  unfold stepG; rw [hg]; exact .inl ⟨hv, h⟩
theorem stepG_skip {W0 : World} {V : Tmp → Phi} {ps : List Phi} {o : Oper} {p : Phi} {j : Nat} {want : Bool} (hg : o.guard = some (j, want)) (hv : ∀ v W, ps.getD j (fun _ _ => True) v W → v = .bool (!want))
    (h : ∀ W, p undef W) : stepG F n P Q W0 V ps o p := by
  unfold stepG; rw [hg]; exact .inr ⟨hv, h⟩
/-- Each of the body's operations has a slot. -/
def dstsOk (ops : Array Oper) (m : Nat) : Bool := (List.range m).all fun i => (dstAt ops i).isSome

theorem wpIn_region_rel {ops : Array Oper} {id : Nat} {a : Act} {w : World} (ps : List Phi) (hF : ∀ f, F.fn f) (hmx : P.follows .mixedOrders = true)
    (he : edgesOk ops ps.length a.tmps.size = true) (hds : dstsOk ops ps.length = true) (hkeep : keepsPhi ps)
    (hsteps : ∀ V, V = slotP ops ps a → stepsR F n P Q w.drew V ps ops.toList ps)
    (hrest : ∀ (us : List Value) (W : World), Ext w.drew W → allPhi ps us W → ∀ A, A = bodyAct ops (fun j => us.getD j undef) a ps.length → wpListIn F n P ops Q (ops.toList.drop ps.length) A W) :
    (Code.region id ops true).wpIn F n P Q a w := by
  have hrest : ∀ (us : List Value) (W : World), Ext w.drew W → allPhi ps us W → wpOpsIn F n P ops Q (List.range' ps.length (ops.size - ps.length)) (bodyAct ops (fun j => us.getD j undef) a ps.length) W :=
    fun us W hS hp => tail_list _ _ (fun j => by rw [List.getElem?_drop, Array.getElem?_toList]) _ (by simp) _ _ (hrest us W hS hp _ rfl)
  have hsteps := hsteps _ rfl
  obtain ⟨m, hm⟩ : ∃ m, ps.length = m := ⟨_, rfl⟩
  have hds' : ∀ i, i < m → ∃ t, dstAt ops i = some t := by
    intro i hi
    rw [dstsOk, List.all_eq_true] at hds
    exact Option.isSome_iff_exists.1 (hds i (List.mem_range.2 (by omega)))
  rw [hm] at hrest
  rw [hm] at he
  have he0 := he
  simp only [edgesOk, Bool.and_eq_true] at he
  obtain ⟨⟨hms, hbody⟩, _⟩ := he
  have hms : m ≤ ops.size := by simpa using hms
  rw [List.all_eq_true] at hbody
  -- what the check says of each of the body's operations
  have hB : ∀ i, i < m → ∃ o, ops[i]? = some o ∧ (∀ t, dstAt ops i = some t → t < a.tmps.size ∧ ∀ j, j < m → j ≠ i → dstAt ops j ≠ some t) ∧
      (∀ t ∈ opTmps o, ∀ j, j < m → dstAt ops j = some t → (o.after.any fun e => e.on == j && Region.binds .any e) = true) ∧
      (∀ e ∈ o.after, Region.binds .any e = true → e.on < i) ∧
      (∀ j want, o.guard = some (j, want) → j < m ∧ (dstAt ops j).isSome = true ∧ (o.after.any fun e => e.on == j && Region.binds .any e) = true) := by
    intro i hi
    have h := hbody i (List.mem_range.2 hi)
    rw [Bool.and_eq_true] at h
    obtain ⟨h1, h2⟩ := h
    have ho : ops[i]? = some (ops[i]'(by omega)) := Array.getElem?_eq_getElem (by omega)
    refine ⟨_, ho, ?_, ?_, ?_, ?_⟩
    · intro t ht
      rw [ht] at h1
      simp only [Bool.and_eq_true, decide_eq_true_eq, List.all_eq_true, List.mem_range, Bool.or_eq_true, beq_iff_eq, bne_iff_ne] at h1
      exact ⟨h1.1, fun j hj hne => (h1.2 j hj).resolve_left hne⟩
    · rw [ho] at h2
      simp only [Bool.and_eq_true, List.all_eq_true, List.mem_range, Bool.or_eq_true, bne_iff_ne] at h2
      exact fun t ht j hj hd => (h2.1.2 t ht j hj).resolve_left (fun hh => hh hd)
    · rw [ho] at h2
      simp only [Bool.and_eq_true] at h2
      have h3 := h2.1.1
      intro e hme hb
      rw [Array.all_eq_true] at h3
      obtain ⟨q, hq, hqe⟩ := Array.getElem_of_mem hme
      have := h3 q hq
      rw [hqe, hb] at this
      simpa using this
    · rw [ho] at h2
      simp only [Bool.and_eq_true] at h2
      intro j want hg
      have h3 := h2.2
      rw [hg] at h3
      simp only [Bool.and_eq_true, decide_eq_true_eq] at h3
      exact ⟨h3.1.1, h3.1.2, h3.2⟩
  -- the frame behind all of the body
  have bsize : ∀ (vals : Nat → Value) k, (bodyAct ops vals a k).tmps.size = a.tmps.size := by
    intro vals k; induction k with
    | zero => rfl
    | succ k ih => rw [bodyAct, put_tmps_size, ih]
  have bdefers : ∀ (vals : Nat → Value) k, (bodyAct ops vals a k).defers = a.defers := by
    intro vals k; induction k with
    | zero => rfl
    | succ k ih => rw [bodyAct, put_defers, ih]
  have bslot : ∀ (vals : Nat → Value) k, k ≤ m → ∀ t, (∀ j, j < k → dstAt ops j ≠ some t) → (bodyAct ops vals a k).tmps[t]? = a.tmps[t]? := by
    intro vals k hk t ht
    induction k with
    | zero => rfl
    | succ k ih =>
      rw [bodyAct]
      have h1 := ih (by omega) (fun j hj => ht j (by omega))
      have h2 := ht k (by omega)
      cases hd : dstAt ops k with
      | none => exact h1
      | some d =>
        have hne : d ≠ t := fun e => h2 (by rw [hd, e])
        simp only [Act.put, Array.getElem?_setIfInBounds, if_neg hne]; exact h1
  have bval : ∀ (vals : Nat → Value) k, k ≤ m → ∀ j, j < k → ∀ t, dstAt ops j = some t → (bodyAct ops vals a k).tmps[t]? = some (vals j) := by
    intro vals k hk j hj t hd
    induction k with
    | zero => omega
    | succ k ih =>
      rw [bodyAct]
      obtain ⟨_, _, hd1, _, _, _⟩ := hB j (by omega)
      obtain ⟨hts, hun⟩ := hd1 t hd
      by_cases hjk : j = k
      · subst hjk
        rw [hd]
        simp [Act.put, bsize vals, hts]
      · have h1 := ih (by omega) (by omega)
        have h2 := hun k (by omega) (fun e => hjk e.symm)
        cases hd' : dstAt ops k with
        | none => exact h1
        | some d =>
          have hne : d ≠ t := fun e => h2 (by rw [hd', e])
          simp only [Act.put, Array.getElem?_setIfInBounds, if_neg hne]; exact h1
  have htail : ∀ i, m ≤ i → i < ops.size → ∃ o, ops[i]? = some o ∧ (∀ j, j < i → anc ops 4 i j = true) := by
    intro i hm hi
    have h := he0
    simp only [edgesOk, Bool.and_eq_true] at h
    have h := h.2
    rw [List.all_eq_true] at h
    have h := h i (List.mem_range.2 hi)
    rw [Bool.or_eq_true] at h
    rcases h with h | h
    · simp at h; omega
    · have ho : ops[i]? = some ops[i] := Array.getElem?_eq_getElem hi
      rw [ho] at h
      simp only [Bool.and_eq_true, List.all_eq_true, List.mem_range] at h
      exact ⟨_, ho, h.1⟩
  -- the body is over
  have done : ∀ (fuel : Nat) (listed : Array Bool) (a' : Act) (W : World), listed.size = ops.size → fuel = ((List.range ops.size).filter fun i => !listed.getD i true).length →
      (∀ i, m ≤ i → i < ops.size → listed.getD i true = false) → a'.defers = a.defers → a'.tmps.size = a.tmps.size →
      (∀ j, j < m → listed.getD j false = true → ∀ t, dstAt ops j = some t → ∃ v, a'.tmps[t]? = some v ∧ ps.getD j (fun _ _ => True) v W) →
      (∀ t, (∀ j, j < m → listed.getD j false = true → dstAt ops j ≠ some t) → a'.tmps[t]? = a.tmps[t]?) → Ext w.drew W →
      (∀ j, j < m → listed.getD j true = true) → wpAnyIn F n P .any ops Q fuel listed a' W := by
    intro fuel listed a' W hsz hf htl hdf hts hv ho hS hall
    have hl : ∀ j, j < ops.size → listed.getD j true = decide (j < m) := fun j hj => by
      by_cases h : j < m
      · rw [hall j h]; simp [h]
      · rw [htl j (by omega) hj]; simp [h]
    have hget : ∀ j, j < m → listed.getD j false = true := fun j hj => by
      have := hall j hj
      rw [Array.getD_eq_getD_getElem?, Array.getElem?_eq_getElem (show j < listed.size by omega)] at this ⊢
      exact this
    obtain ⟨vals, hvals⟩ : ∃ vals : Nat → Value, ∀ j, j < m → ∀ t, dstAt ops j = some t → a'.tmps[t]? = some (vals j) ∧ ps.getD j (fun _ _ => True) (vals j) W := by
      refine ⟨fun j => match dstAt ops j with | some t => a'.tmps.getD t undef | none => undef, fun j hj t ht => ?_⟩
      obtain ⟨v, h1, h2⟩ := hv j hj (hget j hj) t ht
      simp only [ht, Array.getD_eq_getD_getElem?, h1, Option.getD_some]
      exact ⟨trivial, h2⟩
    have hgu : ∀ j, j < m → ((List.range m).map vals).getD j undef = vals j := fun j hj => by simp [List.getD, hj]
    have hact : a' = bodyAct ops (fun j => ((List.range m).map vals).getD j undef) a m := by
      refine act_ext ?_ (hdf.trans (bdefers _ m).symm)
      apply Array.ext_getElem?
      intro t
      by_cases hx : ∃ j, j < m ∧ dstAt ops j = some t
      · obtain ⟨j, hj, hd⟩ := hx
        rw [(hvals j hj t hd).1, bval _ m (Nat.le_refl _) j hj t hd, hgu j hj]
      · rw [ho t (fun j hj _ e => hx ⟨j, hj, e⟩), bslot _ m (Nat.le_refl _) t (fun j hj e => hx ⟨j, hj, e⟩)]
    have hfk : fuel = ops.size - m := by
      rw [hf, ← count_tail m ops.size]
      congr 1
      apply List.filter_congr
      intro j hj
      rw [hl j (List.mem_range.1 hj)]
    rw [hact]
    exact tail_any he0 fuel m listed _ W hfk (Nat.le_refl _) hsz hl (hrest _ W hS (allPhi_of (by simp [hm]) fun j hj => by
      rw [hm] at hj
      rw [hgu j hj]
      obtain ⟨t, ht⟩ := hds' j hj
      exact (hvals j hj t ht).2))
  -- the induction
  have key : ∀ (fuel : Nat) (listed : Array Bool) (a' : Act) (W : World), listed.size = ops.size → fuel = ((List.range ops.size).filter fun i => !listed.getD i true).length →
      (∀ i, m ≤ i → i < ops.size → listed.getD i true = false) → a'.defers = a.defers → a'.tmps.size = a.tmps.size →
      (∀ j, j < m → listed.getD j false = true → ∀ t, dstAt ops j = some t → ∃ v, a'.tmps[t]? = some v ∧ ps.getD j (fun _ _ => True) v W) →
      (∀ t, (∀ j, j < m → listed.getD j false = true → dstAt ops j ≠ some t) → a'.tmps[t]? = a.tmps[t]?) → Ext w.drew W → closed ops listed →
      wpAnyIn F n P .any ops Q fuel listed a' W := by
    intro fuel
    induction fuel with
    | zero =>
      intro listed a' W hsz hf htl hdf hts hv ho hS _
      exact done 0 listed a' W hsz hf htl hdf hts hv ho hS (fun j hj => by
        have h0 := List.eq_nil_of_length_eq_zero hf.symm
        have := List.filter_eq_nil_iff.1 h0 j (List.mem_range.2 (by omega))
        simpa using this)
    | succ fuel ih =>
      intro listed a' W hsz hf htl hdf hts hv ho hS hcl
      by_cases hall : ∀ j, j < m → listed.getD j true = true
      · exact done (fuel + 1) listed a' W hsz hf htl hdf hts hv ho hS hall
      · have hgetD : ∀ j, j < ops.size → listed.getD j false = listed.getD j true := fun j hj => by
          simp [Array.getD_eq_getD_getElem?, Array.getElem?_eq_getElem (show j < listed.size by omega)]
        -- the least that is not over yet may come up
        have hleast : ∃ i, i < m ∧ listed.getD i true = false ∧ ∀ j, j < i → listed.getD j true = true := by
          have : ∃ j, j < m ∧ listed.getD j true = false := by
            apply Classical.byContradiction
            intro hno
            exact hall fun j hj => by
              cases hh : listed.getD j true with
              | true => rfl
              | false => exact absurd ⟨j, hj, hh⟩ hno
          obtain ⟨j, hj, hjf⟩ := this
          have hind : ∀ d j, j < m → listed.getD j true = false → d = j → ∃ i, i < m ∧ listed.getD i true = false ∧ ∀ j, j < i → listed.getD j true = true := by
            intro d
            induction d using Nat.strongRecOn with
            | _ d ihd =>
              intro j hj hjf hd
              by_cases hex : ∃ j', j' < j ∧ listed.getD j' true = false
              · obtain ⟨j', hj', hf'⟩ := hex
                exact ihd j' (by omega) j' (by omega) hf' rfl
              · exact ⟨j, hj, hjf, fun j' hj' => by
                  cases hh : listed.getD j' true with
                  | true => rfl
                  | false => exact absurd ⟨j', hj', hh⟩ hex⟩
          exact hind j j hj hjf rfl
        obtain ⟨i0, hi0, hi0f, hi0l⟩ := hleast
        constructor
        · intro hr
          obtain ⟨o, hoo, _, _, hlt, _⟩ := hB i0 hi0
          have : i0 ∈ Region.ready .any ops listed := mem_ready (by omega) hi0f hoo (fun e hme hb => by
            have := hlt e hme hb
            rw [hgetD _ (by omega)]; exact hi0l _ this)
          rw [hr] at this; simp at this
        · intro i hi
          obtain ⟨h1, h2, o, hoi, hr⟩ := ready_mem hi
          have him : i < m := by
            rcases Nat.lt_or_ge i m with h | h
            · exact h
            · obtain ⟨o2, ho2, hall2⟩ := htail i h h1
              rw [hoi] at ho2; cases ho2
              have := anc_listed hcl 4 i i0 o hoi hr (hall2 i0 (by omega))
              rw [hgetD i0 (by omega), hi0f] at this; cases this
          obtain ⟨o2, ho2, hd, hdat, _, hgd⟩ := hB i him
          rw [hoi] at ho2; cases ho2
          have hst := stepsR_at hsteps i o (by omega) (by rw [Array.getElem?_toList]; exact hoi)
          -- what is known behind it
          have next : ∀ v W', Ext W W' → ps.getD i (fun _ _ => True) v W' → wpAnyIn F n P .any ops Q fuel (listed.setIfInBounds i true) (a'.put o.dst v) W' := by
            intro v W' hS' hpv
            have hod : dstAt ops i = o.dst := by simp [dstAt, hoi]
            refine ih _ _ _ (by simpa using hsz) ?_ ?_ ?_ ?_ ?_ ?_ (hS.trans hS') ?_
            · have hnd : ((List.range ops.size).filter fun i => !listed.getD i true).Nodup := List.nodup_range.filter _
              have hmem : i ∈ (List.range ops.size).filter fun i => !listed.getD i true := List.mem_filter.2 ⟨List.mem_range.2 h1, by simp [h2]⟩
              have e1 : ((List.range ops.size).filter fun j => !(listed.setIfInBounds i true).getD j true) = ((List.range ops.size).filter fun i => !listed.getD i true).erase i := by
                rw [hnd.erase_eq_filter, List.filter_filter]
                apply List.filter_congr
                intro j _
                rw [getD_set _ _ _ _ _ (by omega)]
                by_cases hji : j = i
                · subst hji; simp
                · simp [hji]
              rw [e1, List.length_erase_of_mem hmem]
              omega
            · intro j hj hjs
              rw [getD_set _ _ _ _ _ (by omega), if_neg (by omega)]
              exact htl j hj hjs
            · rw [put_defers]; exact hdf
            · rw [put_tmps_size]; exact hts
            · intro j hj hl t ht
              rw [getD_set _ _ _ _ _ (by omega)] at hl
              by_cases hji : j = i
              · subst hji
                rw [← hod, ht]
                exact ⟨v, by simp [Act.put, hts, (hd t ht).1], hpv⟩
              · rw [if_neg hji] at hl
                obtain ⟨u, h3, h3p⟩ := hv j hj hl t ht
                refine ⟨u, ?_, keepsPhi_at hkeep j u W W' hS' h3p⟩
                cases hd' : o.dst with
                | none => exact h3
                | some d =>
                  have hne : d ≠ t := fun e => (hd d (by rw [hod, hd'])).2 j hj hji (by rw [e]; exact ht)
                  simp only [Act.put, Array.getElem?_setIfInBounds, if_neg hne]; exact h3
            · intro t ht
              have h3 := ho t (fun j hj hl => ht j hj (by
                rw [getD_set _ _ _ _ _ (by omega)]
                by_cases hji : j = i
                · rw [if_pos hji]
                · rw [if_neg hji]; exact hl))
              cases hd' : o.dst with
              | none => exact h3
              | some d =>
                have hne : d ≠ t := fun e => ht i him (by rw [getD_set _ _ _ _ _ (by omega), if_pos rfl]) (by rw [hod, hd', e])
                simp only [Act.put, Array.getElem?_setIfInBounds, if_neg hne]; exact h3
            · intro q oq hoq hlq e hme hb
              have hup : ∀ x, listed.getD x false = true → (listed.setIfInBounds i true).getD x false = true := fun x hx => by
                rw [getD_set _ _ _ _ _ (by omega)]
                by_cases hxi : x = i
                · rw [if_pos hxi]
                · rw [if_neg hxi]; exact hx
              rw [getD_set _ _ _ _ _ (by omega)] at hlq
              by_cases hqi : q = i
              · subst hqi
                rw [hoi] at hoq; cases hoq
                exact hup _ (hr e hme hb)
              · rw [if_neg hqi] at hlq
                exact hup _ (hcl q oq hoq hlq e hme hb)
          have facts : factsR a' W (slotP ops ps a) (opTmps o) := by
            refine factsR_of ?_
            intro t ht
            unfold slotP
            rw [hm]
            cases hfd : (List.range m).find? fun j => dstAt ops j == some t with
            | some j =>
              have hj1 := List.find?_some hfd
              have hj2 := List.mem_range.1 (List.mem_of_find?_eq_some hfd)
              have hj1 : dstAt ops j = some t := by simpa using hj1
              obtain ⟨u, h3, h3p⟩ := hv j hj2 (after_any (hdat t ht j hj2 hj1) hr) t hj1
              have e3 : a'.eval (.tmp t) = u := by simp [Act.eval, Array.getD_eq_getD_getElem?, h3]
              rw [e3]
              exact h3p
            | none =>
              have hno : ∀ j, j < m → dstAt ops j ≠ some t := by
                intro j hj e
                have := List.find?_eq_none.1 hfd j (List.mem_range.2 hj)
                simp [e] at this
              simp [Act.eval, Array.getD_eq_getD_getElem?, ho t (fun j hj _ => hno j hj)]
          unfold wpOpIn
          rw [hoi]
          simp only []
          unfold stepG at hst
          cases hg : o.guard with
          | none =>
            rw [hg] at hst
            have hw : Region.wanted o (yielded ops a'.tmps) = true := by simp [Region.wanted, hg]
            rw [if_pos hw]
            exact hst a' W hS facts _ next
          | some jw =>
            obtain ⟨j, want⟩ := jw
            rw [hg] at hst
            simp only [] at hst
            obtain ⟨hjm, hjs, hja⟩ := hgd j want hg
            obtain ⟨t, ht⟩ := Option.isSome_iff_exists.1 hjs
            obtain ⟨u, h3, h3p⟩ := hv j hjm (after_any hja hr) t ht
            have hy : yielded ops a'.tmps j = match u with | .bool b => some b | _ => none := by
              have ht' : (ops[j]?).bind (·.dst) = some t := ht
              simp only [yielded, ht', Option.bind_some, h3]
              cases u <;> rfl
            rcases hst with ⟨h4, h5⟩ | ⟨h4, h5⟩
            · have e4 := h4 u W h3p
              subst e4
              have hw : Region.wanted o (yielded ops a'.tmps) = true := by simp [Region.wanted, hg, hy]
              rw [if_pos hw]
              exact h5 a' W hS facts _ next
            · have e4 := h4 u W h3p
              subst e4
              have hw : Region.wanted o (yielded ops a'.tmps) = false := by simp only [Region.wanted, hg, hy]; cases want <;> rfl
              rw [hw]
              exact ⟨fun f _ => hF f, next undef W (Ext.refl W) (h5 W)⟩
  refine wpIn_region_any hmx ?_
  refine key ops.size (Array.replicate ops.size false) a _ (by simp) ?_ ?_ rfl rfl ?_ ?_ (Ext.refl _) ?_
  · have : ((List.range ops.size).filter fun i => !(Array.replicate ops.size false).getD i true) = List.range ops.size := by
      apply List.filter_eq_self.2
      intro i hi
      have := List.mem_range.1 hi
      simp [Array.getD_eq_getD_getElem?, this]
    rw [this, List.length_range]
  · intro i _ hi
    simp [Array.getD_eq_getD_getElem?, hi]
  · intro j _ hl
    simp [Array.getD_eq_getD_getElem?, Array.getElem?_replicate] at hl
    split at hl <;> simp at hl
  · intro t _; rfl
  · intro q _ _ hl
    simp [Array.getD_eq_getD_getElem?, Array.getElem?_replicate] at hl
    split at hl <;> simp at hl

/-- The same for a plain frame. -/
theorem wp_region_rel {ops : Array Oper} {id : Nat} {a : Act} {w : World} (ps : List Phi) (hmx : P.follows .mixedOrders = true)
    (he : edgesOk ops ps.length a.tmps.size = true) (hds : dstsOk ops ps.length = true) (hkeep : keepsPhi ps)
    (hsteps : ∀ V, V = slotP ops ps a → stepsR Fence.wide 0 P Q w.drew V ps ops.toList ps)
    (hrest : ∀ (us : List Value) (W : World), Ext w.drew W → allPhi ps us W → ∀ A, A = bodyAct ops (fun j => us.getD j undef) a ps.length → wpListIn Fence.wide 0 P ops Q (ops.toList.drop ps.length) A W) :
    (Code.region id ops true).wp P Q a w :=
  wpIn_wide.1 (wpIn_region_rel ps (fun _ => trivial) hmx he hds hkeep hsteps hrest)
end
end Go.Proofs.Ytnhkiblakclcoaa
