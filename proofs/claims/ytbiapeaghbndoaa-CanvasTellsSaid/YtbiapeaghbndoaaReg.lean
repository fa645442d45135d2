/- A region that draws its order, each of whose operations (but the last few, which stand in a forced order) comes to one value in every world of which S holds, and keeps S: whatever order is drawn, the slots hold these values behind it. Over any program. -/
import Derived.Test.YtbiapeaghbndoaaLib
import Derived.OrdersIn
namespace Go.Proofs.Ytbiapeaghbndoaa
open Go Go.RowKit

section
variable {F : Fence} {n : Nat} {P : Program} {Q : Exit → Act → World → Prop}

def dstAt (ops : Array Oper) (j : Nat) : Option Tmp := (ops[j]?).bind (·.dst)
/-- The slots that an operation looks at. -/
def opTmps (o : Oper) : List Tmp := o.op.operands.toList.filterMap fun | .tmp t => some t | _ => none
/-- May the operation come up by its guard? -/
def wantV (vals : Nat → Value) (o : Oper) : Bool :=
  match o.guard with
  | none => true
  | some (j, want) => match vals j with | .bool b => b == want | _ => false
def evalFacts (a' : Act) (V : Tmp → Value) : List Tmp → Prop
  | [] => True
  | t :: ts => a'.eval (.tmp t) = V t ∧ evalFacts a' V ts

/-- These are over, and i too. -/
def upd (D : Nat → Bool) (i : Nat) : Nat → Bool := fun j => if j = i then true else D j
/-- ONE OPERATION: where it comes up it comes to v and leads S (which may hang on what is over, D) on. -/
def stepOkD (F : Fence) (n : Nat) (P : Program) (Q : Exit → Act → World → Prop) (S : (Nat → Bool) → World → Prop) (V : Tmp → Value) (want : Bool) (i : Nat) (o : Oper) (v : Value) : Prop :=
  ∀ D : Nat → Bool, D i = false →
  if want = true then ∀ (a' : Act) (W : World), S D W → evalFacts a' V (opTmps o) → ∀ K : Act → World → Prop, (∀ W', S (upd D i) W' → K (a'.put o.dst v) W') → o.wpIn F n P a' W K Q
  else v = undef ∧ ∀ W, S D W → S (upd D i) W
def stepsOkD (F : Fence) (n : Nat) (P : Program) (Q : Exit → Act → World → Prop) (S : (Nat → Bool) → World → Prop) (V : Tmp → Value) (vals : Nat → Value) : Nat → List Oper → List Value → Prop
  | _, _, [] => True
  | _, [], _ :: _ => False
  | i, o :: os, v :: vs => stepOkD F n P Q S V (wantV vals o) i o v ∧ stepsOkD F n P Q S V vals (i + 1) os vs

theorem stepsOkD_at {S : (Nat → Bool) → World → Prop} {V : Tmp → Value} {vals : Nat → Value} : ∀ {b : Nat} {os : List Oper} {vs : List Value}, stepsOkD F n P Q S V vals b os vs →
    ∀ (i : Nat) (o : Oper), i < vs.length → os[i]? = some o → stepOkD F n P Q S V (wantV vals o) (b + i) o (vs.getD i undef)
  | _, _, [], _, i, o, hi, _ => by simp at hi
  | _, [], _ :: _, h, _, _, _, _ => h.elim
  | _, p :: os, v :: vs, h, 0, o, _, ho => by simp at ho; subst ho; exact h.1
  | b, p :: os, v :: vs, h, i + 1, o, hi, ho => by
    have := stepsOkD_at h.2 i o (by simpa using hi) (by simpa using ho)
    rw [show b + (i + 1) = b + 1 + i by omega]
    simpa using this

/-- ONE OPERATION: where it comes up it comes to v and keeps S. -/
def stepOk (F : Fence) (n : Nat) (P : Program) (Q : Exit → Act → World → Prop) (S : World → Prop) (V : Tmp → Value) (want : Bool) (o : Oper) (v : Value) : Prop :=
  if want = true then ∀ (a' : Act) (W : World), S W → evalFacts a' V (opTmps o) → ∀ K : Act → World → Prop, (∀ W', S W' → K (a'.put o.dst v) W') → o.wpIn F n P a' W K Q
  else v = undef
def stepsOk (F : Fence) (n : Nat) (P : Program) (Q : Exit → Act → World → Prop) (S : World → Prop) (V : Tmp → Value) (vals : Nat → Value) : List Oper → List Value → Prop
  | _, [] => True
  | [], _ :: _ => False
  | o :: os, v :: vs => stepOk F n P Q S V (wantV vals o) o v ∧ stepsOk F n P Q S V vals os vs
theorem stepsOk_D {S : World → Prop} {V : Tmp → Value} {vals : Nat → Value} : ∀ {b : Nat} {os : List Oper} {vs : List Value}, stepsOk F n P Q S V vals os vs → stepsOkD F n P Q (fun _ => S) V vals b os vs
  | _, [], [], _ => trivial
  | _, _ :: _, [], _ => trivial
  | _, [], _ :: _, h => h.elim
  | _, o :: os, v :: vs, h => ⟨fun _ _ => by
      have h1 := h.1
      unfold stepOk at h1
      by_cases hw : wantV vals o = true
      · rw [if_pos hw] at h1 ⊢; exact h1
      · rw [if_neg hw] at h1 ⊢; exact ⟨h1, fun _ h => h⟩, stepsOk_D h.2⟩

theorem evalFacts_of {a' : Act} {V : Tmp → Value} : ∀ {ts : List Tmp}, (∀ t ∈ ts, a'.eval (.tmp t) = V t) → evalFacts a' V ts
  | [], _ => trivial
  | t :: ts, h => ⟨h t (by simp), evalFacts_of fun u hu => h u (by simp [hu])⟩

theorem stepOk_plain {S : World → Prop} {V : Tmp → Value} {vals : Nat → Value} {o : Oper} {v : Value} (hg : o.guard = none)
    (h : ∀ (a' : Act) (W : World), S W → evalFacts a' V (opTmps o) → ∀ K : Act → World → Prop, (∀ W', S W' → K (a'.put o.dst v) W') → o.wpIn F n P a' W K Q) :
    stepOk F n P Q S V (wantV vals o) o v := by
  unfold stepOk wantV
  rw [hg]
  exact h
theorem stepOk_want {S : World → Prop} {V : Tmp → Value} {vals : Nat → Value} {o : Oper} {v : Value} {j : Nat} {want : Bool} (hg : o.guard = some (j, want)) (hv : vals j = .bool want)
    (h : ∀ (a' : Act) (W : World), S W → evalFacts a' V (opTmps o) → ∀ K : Act → World → Prop, (∀ W', S W' → K (a'.put o.dst v) W') → o.wpIn F n P a' W K Q) :
    stepOk F n P Q S V (wantV vals o) o v := by
  unfold stepOk wantV
  rw [hg]
  simp only [hv, beq_self_eq_true, if_true]
  exact h
theorem stepOk_skip {S : World → Prop} {V : Tmp → Value} {vals : Nat → Value} {o : Oper} {j : Nat} {want b : Bool} (hg : o.guard = some (j, want)) (hv : vals j = .bool b) (hne : (b == want) = false) :
    stepOk F n P Q S V (wantV vals o) o undef := by
  unfold stepOk wantV
  rw [hg]
  simp [hv, hne]
/-- Does operation i wait, through others, for j? -/
def anc (ops : Array Oper) : Nat → Nat → Nat → Bool
  | 0, _, _ => false
  | k + 1, i, j => match ops[i]? with
    | some o => o.after.any fun e => Region.binds .any e && (e.on == j || anc ops k e.on j)
    | none => false
def closed (ops : Array Oper) (listed : Array Bool) : Prop :=
  ∀ (i : Nat) (o : Oper), ops[i]? = some o → listed.getD i false = true → ∀ e ∈ o.after, Region.binds .any e = true → listed.getD e.on false = true
theorem anc_listed {ops : Array Oper} {listed : Array Bool} (hcl : closed ops listed) : ∀ (k i j : Nat) (o : Oper), ops[i]? = some o →
    (∀ e ∈ o.after, Region.binds .any e = true → listed.getD e.on false = true) → anc ops k i j = true → listed.getD j false = true := by
  intro k
  induction k with
  | zero => intro i j o _ _ h; simp [anc] at h
  | succ k ih =>
    intro i j o ho hr h
    rw [anc, ho] at h
    obtain ⟨q, hq, hb⟩ := Array.any_eq_true.1 h
    simp only [Bool.and_eq_true, Bool.or_eq_true, beq_iff_eq] at hb
    have hl := hr _ (Array.getElem_mem hq) hb.1
    rcases hb.2 with h1 | h1
    · rwa [h1] at hl
    · cases hoe : ops[o.after[q].on]? with
      | none =>
        cases k with
        | zero => simp [anc] at h1
        | succ k => rw [anc, hoe] at h1; cases h1
      | some o2 => exact ih _ j o2 hoe (hcl _ o2 hoe hl) h1
/-- What is asked of the region's edges: by the kernel. -/
def edgesOk (ops : Array Oper) (m size : Nat) : Bool :=
  m ≤ ops.size &&
  (List.range m).all (fun i =>
    (match dstAt ops i with | some t => t < size && (List.range m).all (fun j => j == i || dstAt ops j != some t) | none => true) &&
    (match ops[i]? with
      | some o =>
        (o.after.all fun e => !Region.binds .any e || e.on < i) && (opTmps o).all (fun t => (List.range m).all fun j => dstAt ops j != some t || o.after.any fun e => e.on == j && Region.binds .any e) &&
        (match o.guard with | none => true | some (j, _) => j < m && (dstAt ops j).isSome && o.after.any fun e => e.on == j && Region.binds .any e)
      | none => false)) &&
  (List.range ops.size).all (fun i => i < m ||
    (match ops[i]? with
      | some o => (List.range i).all (fun j => anc ops 4 i j) && o.after.all fun e => !Region.binds .any e || e.on < i
      | none => false))

/-- The frame behind the body's operations. -/
def bodyAct (ops : Array Oper) (vals : Nat → Value) (a : Act) : Nat → Act
  | 0 => a
  | k + 1 => (bodyAct ops vals a k).put (dstAt ops k) (vals k)

theorem ready_mem {ops : Array Oper} {listed : Array Bool} {i : Nat} (h : i ∈ Region.ready .any ops listed) :
    i < ops.size ∧ listed.getD i true = false ∧ ∃ o, ops[i]? = some o ∧ ∀ e ∈ o.after, Region.binds .any e = true → listed.getD e.on false = true := by
  simp only [Region.ready, List.mem_filter, List.mem_range, Bool.and_eq_true] at h
  obtain ⟨h1, h2, h3⟩ := h
  refine ⟨h1, by simpa using h2, ?_⟩
  have ho : ops[i]? = some ops[i] := Array.getElem?_eq_getElem h1
  refine ⟨ops[i], ho, fun e he hb => ?_⟩
  rw [ho] at h3
  simp only [Option.map_some, Option.getD_some, Array.all_eq_true] at h3
  obtain ⟨k, hk, hke⟩ := Array.getElem_of_mem he
  have := h3 k hk
  rw [hke] at this
  simpa [hb] using this

theorem mem_ready {ops : Array Oper} {listed : Array Bool} {i : Nat} (h1 : i < ops.size) (h2 : listed.getD i true = false) {o : Oper} (ho : ops[i]? = some o)
    (h : ∀ e ∈ o.after, Region.binds .any e = true → listed.getD e.on false = true) : i ∈ Region.ready .any ops listed := by
  simp only [Region.ready, List.mem_filter, List.mem_range, Bool.and_eq_true]
  refine ⟨h1, by simpa using h2, ?_⟩
  rw [ho]
  simp only [Option.map_some, Option.getD_some, Array.all_eq_true]
  intro k hk
  by_cases hb : Region.binds .any o.after[k] = true
  · simp [h _ (Array.getElem_mem hk) hb]
  · simp [hb]

theorem after_any {o : Oper} {j : Nat} {listed : Array Bool} (h : (o.after.any fun e => e.on == j && Region.binds .any e) = true)
    (hr : ∀ e ∈ o.after, Region.binds .any e = true → listed.getD e.on false = true) : listed.getD j false = true := by
  obtain ⟨k, hk, hb⟩ := Array.any_eq_true.1 h
  simp only [Bool.and_eq_true, beq_iff_eq] at hb
  have := hr _ (Array.getElem_mem hk) hb.2
  rwa [hb.1] at this

theorem getD_set (l : Array Bool) (i j : Nat) (b d : Bool) (hi : i < l.size) : (l.setIfInBounds i b).getD j d = if j = i then b else l.getD j d := by
  simp only [Array.getD_eq_getD_getElem?, Array.getElem?_setIfInBounds]
  by_cases h : j = i
  · subst h; simp [hi]
  · rw [if_neg (fun e => h e.symm), if_neg h]

theorem put_tmps_size (a : Act) (d : Option Tmp) (v : Value) : (a.put d v).tmps.size = a.tmps.size := by cases d <;> simp [Act.put]
theorem put_defers (a : Act) (d : Option Tmp) (v : Value) : (a.put d v).defers = a.defers := by cases d <;> rfl

theorem edges_low {ops : Array Oper} {m size : Nat} (he : edgesOk ops m size = true) : ∀ i o, ops[i]? = some o → ∀ e ∈ o.after, Region.binds .any e = true → e.on < i := by
  intro i o ho e hme hb
  have hi : i < ops.size := (Array.getElem?_eq_some_iff.1 ho).1
  simp only [edgesOk, Bool.and_eq_true] at he
  obtain ⟨⟨_, h1⟩, h2⟩ := he
  rw [List.all_eq_true] at h1 h2
  have fin : (o.after.all fun e => !Region.binds .any e || e.on < i) = true → e.on < i := by
    intro h3
    rw [Array.all_eq_true] at h3
    obtain ⟨q, hq, hqe⟩ := Array.getElem_of_mem hme
    have := h3 q hq
    rw [hqe, hb] at this
    simpa using this
  by_cases him : i < m
  · have h := h1 i (List.mem_range.2 him)
    rw [Bool.and_eq_true, ho] at h
    simp only [Bool.and_eq_true] at h
    exact fin h.2.1.1
  · have h := h2 i (List.mem_range.2 hi)
    rw [Bool.or_eq_true] at h
    rcases h with h | h
    · simp at h; omega
    · rw [ho] at h
      simp only [Bool.and_eq_true] at h
      exact fin h.2

/-- The tail, in its forced order. -/
theorem tail_any {ops : Array Oper} {m size : Nat} (he : edgesOk ops m size = true) : ∀ (k i : Nat) (listed : Array Bool) (a : Act) (w : World),
    k = ops.size - i → m ≤ i → listed.size = ops.size → (∀ j, j < ops.size → listed.getD j true = decide (j < i)) →
    wpOpsIn F n P ops Q (List.range' i (ops.size - i)) a w → wpAnyIn F n P .any ops Q k listed a w := by
  have hlow : ∀ i o, ops[i]? = some o → ∀ e ∈ o.after, Region.binds .any e = true → e.on < i := edges_low he
  have htail : ∀ i, m ≤ i → i < ops.size → ∃ o, ops[i]? = some o ∧ (∀ j, j < i → anc ops 4 i j = true) ∧
      ∀ e ∈ o.after, Region.binds .any e = true → e.on < i := by
    intro i hm hi
    simp only [edgesOk, Bool.and_eq_true] at he
    have h := he.2
    rw [List.all_eq_true] at h
    have h := h i (List.mem_range.2 hi)
    rw [Bool.or_eq_true] at h
    rcases h with h | h
    · simp at h; omega
    · have ho : ops[i]? = some ops[i] := Array.getElem?_eq_getElem hi
      rw [ho] at h
      simp only [Bool.and_eq_true, List.all_eq_true, List.mem_range] at h
      refine ⟨_, ho, h.1, fun e hme hb => ?_⟩
      have h2 := h.2
      rw [Array.all_eq_true] at h2
      obtain ⟨q, hq, hqe⟩ := Array.getElem_of_mem hme
      have := h2 q hq
      rw [hqe, hb] at this
      simpa using this
  intro k
  induction k with
  | zero =>
    intro i listed a w hk hm hsz hl h
    have h0 : ops.size - i = 0 := by omega
    rw [h0] at h
    refine ⟨?_, by simpa [wpOpsIn] using h⟩
    cases hr : Region.ready .any ops listed with
    | nil => rfl
    | cons x xs =>
      obtain ⟨h1, h2, _⟩ := ready_mem (i := x) (by rw [hr]; simp)
      rw [hl x h1] at h2
      simp at h2
      omega
  | succ k ih =>
    intro i listed a w hk hm hsz hl h
    have hi : i < ops.size := by omega
    obtain ⟨o, ho, hall, hlt⟩ := htail i hm hi
    have hget : ∀ j, j < ops.size → listed.getD j false = decide (j < i) := fun j hj => by
      rw [← hl j hj]
      simp [Array.getD_eq_getD_getElem?, Array.getElem?_eq_getElem (show j < listed.size by omega)]
    constructor
    · intro hr
      have : i ∈ Region.ready .any ops listed := mem_ready hi (by rw [hl i hi]; simp) ho (fun e hme hb => by
        have := hlt e hme hb
        rw [hget _ (by omega)]; simpa using this)
      rw [hr] at this; simp at this
    · intro x hx
      obtain ⟨h1, h2, o', ho', hr⟩ := ready_mem hx
      rw [hl x h1] at h2
      have hxi : i ≤ x := by simpa using h2
      have : x = i := by
        obtain ⟨o2, ho2, hall2, _⟩ := htail x (by omega) h1
        rw [ho'] at ho2; cases ho2
        rcases Nat.lt_or_ge i x with hlt' | hge
        · have hcl : closed ops listed := fun q oq hoq hlq e hme hb => by
            have hq : q < ops.size := (Array.getElem?_eq_some_iff.1 hoq).1
            have h1 := hlow q oq hoq e hme hb
            rw [hget q hq] at hlq
            rw [hget _ (by omega)]
            have : q < i := by simpa using hlq
            simp; omega
          have := anc_listed hcl 4 x i o' ho' hr (hall2 i hlt')
          rw [hget i hi] at this
          simp at this
        · omega
      subst this
      have e1 : ops.size - x = (ops.size - (x + 1)) + 1 := by omega
      rw [e1, List.range'_succ, wpOpsIn_cons] at h
      refine wpOpIn_mono (fun a' w' h' => ih (x + 1) _ a' w' (by omega) (by omega) (by simpa using hsz) ?_ h') h
      intro j hj
      rw [getD_set _ _ _ _ _ (by omega)]
      by_cases hjx : j = x
      · subst hjx; simp
      · rw [if_neg hjx, hl j hj]
        simp; omega

theorem count_tail (m : Nat) : ∀ s, ((List.range s).filter fun i => !decide (i < m)).length = s - m
  | 0 => by simp
  | s + 1 => by
    rw [List.range_succ, List.filter_append, List.length_append, count_tail m s]
    by_cases h : s < m
    · simp [h]; omega
    · simp [h]; omega
theorem act_ext {x y : Act} (h1 : x.tmps = y.tmps) (h2 : x.defers = y.defers) : x = y := by
  cases x; cases y; simp only at h1 h2; rw [h1, h2]

theorem tail_list {ops : Array Oper} : ∀ (os : List Oper) (k : Nat), (∀ j, os[j]? = ops[k + j]?) → ∀ (l : Nat), l = os.length → ∀ (a : Act) (w : World), wpListIn F n P ops Q os a w → wpOpsIn F n P ops Q (List.range' k l) a w := by
  intro os k h l hl a w hh
  subst hl
  rw [wpOpsIn_eq_wpListIn os k h]
  exact hh

theorem wpIn_region_detD {ops : Array Oper} {id : Nat} {a : Act} {w : World} (S : (Nat → Bool) → World → Prop) (vs : List Value) (hF : ∀ f, F.fn f) (hmx : P.follows .mixedOrders = true)
    (he : edgesOk ops vs.length a.tmps.size = true) (hS : S (fun _ => false) w.drew)
    (hsteps : ∀ A, A = bodyAct ops (fun j => vs.getD j undef) a vs.length → stepsOkD F n P Q S (fun t => A.eval (.tmp t)) (fun j => vs.getD j undef) 0 ops.toList vs)
    (hrest : ∀ A, A = bodyAct ops (fun j => vs.getD j undef) a vs.length → ∀ W, S (fun j => decide (j < vs.length)) W → wpListIn F n P ops Q (ops.toList.drop vs.length) A W) :
    (Code.region id ops true).wpIn F n P Q a w := by
  have hrest : ∀ W, S (fun j => decide (j < vs.length)) W → wpOpsIn F n P ops Q (List.range' vs.length (ops.size - vs.length)) (bodyAct ops (fun j => vs.getD j undef) a vs.length) W :=
    fun W hS => tail_list _ _ (fun j => by rw [List.getElem?_drop, Array.getElem?_toList]) _ (by simp) _ _ (hrest _ rfl W hS)
  obtain ⟨m, hm⟩ : ∃ m, vs.length = m := ⟨_, rfl⟩
  obtain ⟨vals, hvals⟩ : ∃ vals : Nat → Value, (fun j => vs.getD j undef) = vals := ⟨_, rfl⟩
  have hsteps := hsteps _ rfl
  rw [hvals, hm] at hsteps hrest
  rw [hm] at he
  have he0 := he
  simp only [edgesOk, Bool.and_eq_true] at he
  obtain ⟨⟨hms, hbody⟩, _⟩ := he
  have hms : m ≤ ops.size := by simpa using hms
  rw [List.all_eq_true] at hbody
  -- what the check says of each of the body's operations
  have hB : ∀ i, i < m → ∃ o, ops[i]? = some o ∧ (∀ t, dstAt ops i = some t → t < a.tmps.size ∧ ∀ j, j < m → j ≠ i → dstAt ops j ≠ some t) ∧
      (∀ t ∈ opTmps o, ∀ j, j < m → dstAt ops j = some t → (o.after.any fun e => e.on == j && Region.binds .any e) = true) ∧
      (∀ e ∈ o.after, Region.binds .any e = true → e.on < i) ∧
      (∀ j want, o.guard = some (j, want) → j < m ∧ (dstAt ops j).isSome = true ∧ (o.after.any fun e => e.on == j && Region.binds .any e) = true) := by
    intro i hi
    have h := hbody i (List.mem_range.2 hi)
    rw [Bool.and_eq_true] at h
    obtain ⟨h1, h2⟩ := h
    have ho : ops[i]? = some (ops[i]'(by omega)) := Array.getElem?_eq_getElem (by omega)
    refine ⟨_, ho, ?_, ?_, ?_, ?_⟩
    · intro t ht
      rw [ht] at h1
      simp only [Bool.and_eq_true, decide_eq_true_eq, List.all_eq_true, List.mem_range, Bool.or_eq_true, beq_iff_eq, bne_iff_ne] at h1
      exact ⟨h1.1, fun j hj hne => (h1.2 j hj).resolve_left hne⟩
    · rw [ho] at h2
      simp only [Bool.and_eq_true, List.all_eq_true, List.mem_range, Bool.or_eq_true, bne_iff_ne] at h2
      exact fun t ht j hj hd => (h2.1.2 t ht j hj).resolve_left (fun hh => hh hd)
    · rw [ho] at h2
      simp only [Bool.and_eq_true] at h2
      have h3 := h2.1.1
      intro e hme hb
      rw [Array.all_eq_true] at h3
      obtain ⟨q, hq, hqe⟩ := Array.getElem_of_mem hme
      have := h3 q hq
      rw [hqe, hb] at this
      simpa using this
    · rw [ho] at h2
      simp only [Bool.and_eq_true] at h2
      intro j want hg
      have h3 := h2.2
      rw [hg] at h3
      simp only [Bool.and_eq_true, decide_eq_true_eq] at h3
      exact ⟨h3.1.1, h3.1.2, h3.2⟩
  -- the frame behind all of the body
  have bsize : ∀ k, (bodyAct ops vals a k).tmps.size = a.tmps.size := by
    intro k; induction k with
    | zero => rfl
    | succ k ih => rw [bodyAct, put_tmps_size, ih]
  have bdefers : ∀ k, (bodyAct ops vals a k).defers = a.defers := by
    intro k; induction k with
    | zero => rfl
    | succ k ih => rw [bodyAct, put_defers, ih]
  have bslot : ∀ k, k ≤ m → ∀ t, (∀ j, j < k → dstAt ops j ≠ some t) → (bodyAct ops vals a k).tmps[t]? = a.tmps[t]? := by
    intro k hk t ht
    induction k with
    | zero => rfl
    | succ k ih =>
      rw [bodyAct]
      have h1 := ih (by omega) (fun j hj => ht j (by omega))
      have h2 := ht k (by omega)
      cases hd : dstAt ops k with
      | none => exact h1
      | some d =>
        have hne : d ≠ t := fun e => h2 (by rw [hd, e])
        simp only [Act.put, Array.getElem?_setIfInBounds, if_neg hne]; exact h1
  have bval : ∀ k, k ≤ m → ∀ j, j < k → ∀ t, dstAt ops j = some t → (bodyAct ops vals a k).tmps[t]? = some (vals j) := by
    intro k hk j hj t hd
    induction k with
    | zero => omega
    | succ k ih =>
      rw [bodyAct]
      obtain ⟨_, _, hd1, _, _, _⟩ := hB j (by omega)
      obtain ⟨hts, hun⟩ := hd1 t hd
      by_cases hjk : j = k
      · subst hjk
        rw [hd]
        simp [Act.put, bsize, hts]
      · have h1 := ih (by omega) (by omega)
        have h2 := hun k (by omega) (fun e => hjk e.symm)
        cases hd' : dstAt ops k with
        | none => exact h1
        | some d =>
          have hne : d ≠ t := fun e => h2 (by rw [hd', e])
          simp only [Act.put, Array.getElem?_setIfInBounds, if_neg hne]; exact h1
  have htail : ∀ i, m ≤ i → i < ops.size → ∃ o, ops[i]? = some o ∧ (∀ j, j < i → anc ops 4 i j = true) := by
    intro i hm hi
    have h := he0
    simp only [edgesOk, Bool.and_eq_true] at h
    have h := h.2
    rw [List.all_eq_true] at h
    have h := h i (List.mem_range.2 hi)
    rw [Bool.or_eq_true] at h
    rcases h with h | h
    · simp at h; omega
    · have ho : ops[i]? = some ops[i] := Array.getElem?_eq_getElem hi
      rw [ho] at h
      simp only [Bool.and_eq_true, List.all_eq_true, List.mem_range] at h
      exact ⟨_, ho, h.1⟩
  -- the body is over
  have done : ∀ (fuel : Nat) (listed : Array Bool) (a' : Act) (W : World), listed.size = ops.size → fuel = ((List.range ops.size).filter fun i => !listed.getD i true).length →
      (∀ i, m ≤ i → i < ops.size → listed.getD i true = false) → a'.defers = a.defers → a'.tmps.size = a.tmps.size →
      (∀ j, j < m → listed.getD j false = true → ∀ t, dstAt ops j = some t → a'.tmps[t]? = some (vals j)) →
      (∀ t, (∀ j, j < m → listed.getD j false = true → dstAt ops j ≠ some t) → a'.tmps[t]? = a.tmps[t]?) → S (fun j => listed.getD j false) W →
      (∀ j, j < m → listed.getD j true = true) → wpAnyIn F n P .any ops Q fuel listed a' W := by
    intro fuel listed a' W hsz hf htl hdf hts hv ho hS hall
    have hl : ∀ j, j < ops.size → listed.getD j true = decide (j < m) := fun j hj => by
      by_cases h : j < m
      · rw [hall j h]; simp [h]
      · rw [htl j (by omega) hj]; simp [h]
    have hget : ∀ j, j < m → listed.getD j false = true := fun j hj => by
      have := hall j hj
      rw [Array.getD_eq_getD_getElem?, Array.getElem?_eq_getElem (show j < listed.size by omega)] at this ⊢
      exact this
    have hact : a' = bodyAct ops vals a m := by
      refine act_ext ?_ (hdf.trans (bdefers m).symm)
      apply Array.ext_getElem?
      intro t
      by_cases hx : ∃ j, j < m ∧ dstAt ops j = some t
      · obtain ⟨j, hj, hd⟩ := hx
        rw [hv j hj (hget j hj) t hd, bval m (Nat.le_refl _) j hj t hd]
      · rw [ho t (fun j hj _ e => hx ⟨j, hj, e⟩), bslot m (Nat.le_refl _) t (fun j hj e => hx ⟨j, hj, e⟩)]
    have hfk : fuel = ops.size - m := by
      rw [hf, ← count_tail m ops.size]
      congr 1
      apply List.filter_congr
      intro j hj
      rw [hl j (List.mem_range.1 hj)]
    have hD : (fun j => listed.getD j false) = fun j => decide (j < m) := by
      funext j
      by_cases hj : j < ops.size
      · rw [← hl j hj]
        simp [Array.getD_eq_getD_getElem?, Array.getElem?_eq_getElem (show j < listed.size by omega)]
      · have : ¬ j < listed.size := by omega
        simp [Array.getD_eq_getD_getElem?, this, show ¬ j < m by omega]
    rw [hD] at hS
    rw [hact]
    exact tail_any he0 fuel m listed _ W hfk (Nat.le_refl _) hsz hl (hrest W hS)
  -- the induction
  have key : ∀ (fuel : Nat) (listed : Array Bool) (a' : Act) (W : World), listed.size = ops.size → fuel = ((List.range ops.size).filter fun i => !listed.getD i true).length →
      (∀ i, m ≤ i → i < ops.size → listed.getD i true = false) → a'.defers = a.defers → a'.tmps.size = a.tmps.size →
      (∀ j, j < m → listed.getD j false = true → ∀ t, dstAt ops j = some t → a'.tmps[t]? = some (vals j)) →
      (∀ t, (∀ j, j < m → listed.getD j false = true → dstAt ops j ≠ some t) → a'.tmps[t]? = a.tmps[t]?) → S (fun j => listed.getD j false) W → closed ops listed →
      wpAnyIn F n P .any ops Q fuel listed a' W := by
    intro fuel
    induction fuel with
    | zero =>
      intro listed a' W hsz hf htl hdf hts hv ho hS _
      exact done 0 listed a' W hsz hf htl hdf hts hv ho hS (fun j hj => by
        have h0 := List.eq_nil_of_length_eq_zero hf.symm
        have := List.filter_eq_nil_iff.1 h0 j (List.mem_range.2 (by omega))
        simpa using this)
    | succ fuel ih =>
      intro listed a' W hsz hf htl hdf hts hv ho hS hcl
      by_cases hall : ∀ j, j < m → listed.getD j true = true
      · exact done (fuel + 1) listed a' W hsz hf htl hdf hts hv ho hS hall
      · have hgetD : ∀ j, j < ops.size → listed.getD j false = listed.getD j true := fun j hj => by
          simp [Array.getD_eq_getD_getElem?, Array.getElem?_eq_getElem (show j < listed.size by omega)]
        -- the least that is not over yet may come up
        have hleast : ∃ i, i < m ∧ listed.getD i true = false ∧ ∀ j, j < i → listed.getD j true = true := by
          have : ∃ j, j < m ∧ listed.getD j true = false := by
            apply Classical.byContradiction
            intro hno
            exact hall fun j hj => by
              cases hh : listed.getD j true with
              | true => rfl
              | false => exact absurd ⟨j, hj, hh⟩ hno
          obtain ⟨j, hj, hjf⟩ := this
          have hind : ∀ d j, j < m → listed.getD j true = false → d = j → ∃ i, i < m ∧ listed.getD i true = false ∧ ∀ j, j < i → listed.getD j true = true := by
            intro d
            induction d using Nat.strongRecOn with
            | _ d ihd =>
              intro j hj hjf hd
              by_cases hex : ∃ j', j' < j ∧ listed.getD j' true = false
              · obtain ⟨j', hj', hf'⟩ := hex
                exact ihd j' (by omega) j' (by omega) hf' rfl
              · exact ⟨j, hj, hjf, fun j' hj' => by
                  cases hh : listed.getD j' true with
                  | true => rfl
                  | false => exact absurd ⟨j', hj', hh⟩ hex⟩
          exact hind j j hj hjf rfl
        obtain ⟨i0, hi0, hi0f, hi0l⟩ := hleast
        constructor
        · intro hr
          obtain ⟨o, hoo, _, _, hlt, _⟩ := hB i0 hi0
          have : i0 ∈ Region.ready .any ops listed := mem_ready (by omega) hi0f hoo (fun e hme hb => by
            have := hlt e hme hb
            rw [hgetD _ (by omega)]; exact hi0l _ this)
          rw [hr] at this; simp at this
        · intro i hi
          obtain ⟨h1, h2, o, hoi, hr⟩ := ready_mem hi
          have him : i < m := by
            rcases Nat.lt_or_ge i m with h | h
            · exact h
            · obtain ⟨o2, ho2, hall2⟩ := htail i h h1
              rw [hoi] at ho2; cases ho2
              have := anc_listed hcl 4 i i0 o hoi hr (hall2 i0 (by omega))
              rw [hgetD i0 (by omega), hi0f] at this; cases this
          obtain ⟨o2, ho2, hd, hdat, _, hgd⟩ := hB i him
          rw [hoi] at ho2; cases ho2
          have hst := stepsOkD_at hsteps i o (by omega) (by rw [Array.getElem?_toList]; exact hoi) (fun j => listed.getD j false) (by rw [Nat.zero_add, hgetD i h1]; exact h2)
          have hvi : vs.getD i undef = vals i := by rw [← hvals]
          rw [hvi, Nat.zero_add] at hst
          -- what is known behind it
          have hupd : (fun j => (listed.setIfInBounds i true).getD j false) = upd (fun j => listed.getD j false) i := by
            funext j
            rw [getD_set _ _ _ _ _ (by omega)]
            rfl
          have next : ∀ W', S (upd (fun j => listed.getD j false) i) W' → wpAnyIn F n P .any ops Q fuel (listed.setIfInBounds i true) (a'.put o.dst (vals i)) W' := by
            intro W' hS'
            have hod : dstAt ops i = o.dst := by simp [dstAt, hoi]
            refine ih _ _ _ (by simpa using hsz) ?_ ?_ ?_ ?_ ?_ ?_ (by rw [hupd]; exact hS') ?_
            · have hnd : ((List.range ops.size).filter fun i => !listed.getD i true).Nodup := List.nodup_range.filter _
              have hmem : i ∈ (List.range ops.size).filter fun i => !listed.getD i true := List.mem_filter.2 ⟨List.mem_range.2 h1, by simp [h2]⟩
              have e1 : ((List.range ops.size).filter fun j => !(listed.setIfInBounds i true).getD j true) = ((List.range ops.size).filter fun i => !listed.getD i true).erase i := by
                rw [hnd.erase_eq_filter, List.filter_filter]
                apply List.filter_congr
                intro j _
                rw [getD_set _ _ _ _ _ (by omega)]
                by_cases hji : j = i
                · subst hji; simp
                · simp [hji]
              rw [e1, List.length_erase_of_mem hmem]
              omega
            · intro j hj hjs
              rw [getD_set _ _ _ _ _ (by omega), if_neg (by omega)]
              exact htl j hj hjs
            · rw [put_defers]; exact hdf
            · rw [put_tmps_size]; exact hts
            · intro j hj hl t ht
              rw [getD_set _ _ _ _ _ (by omega)] at hl
              by_cases hji : j = i
              · subst hji
                rw [← hod, ht]
                simp [Act.put, hts, (hd t ht).1]
              · rw [if_neg hji] at hl
                have h3 := hv j hj hl t ht
                cases hd' : o.dst with
                | none => exact h3
                | some d =>
                  have hne : d ≠ t := fun e => (hd d (by rw [hod, hd'])).2 j hj hji (by rw [e]; exact ht)
                  simp only [Act.put, Array.getElem?_setIfInBounds, if_neg hne]; exact h3
            · intro t ht
              have h3 := ho t (fun j hj hl => ht j hj (by
                rw [getD_set _ _ _ _ _ (by omega)]
                by_cases hji : j = i
                · rw [if_pos hji]
                · rw [if_neg hji]; exact hl))
              cases hd' : o.dst with
              | none => exact h3
              | some d =>
                have hne : d ≠ t := fun e => ht i him (by rw [getD_set _ _ _ _ _ (by omega), if_pos rfl]) (by rw [hod, hd', e])
                simp only [Act.put, Array.getElem?_setIfInBounds, if_neg hne]; exact h3
            · intro q oq hoq hlq e hme hb
              have hup : ∀ x, listed.getD x false = true → (listed.setIfInBounds i true).getD x false = true := fun x hx => by
                rw [getD_set _ _ _ _ _ (by omega)]
                by_cases hxi : x = i
                · rw [if_pos hxi]
                · rw [if_neg hxi]; exact hx
              rw [getD_set _ _ _ _ _ (by omega)] at hlq
              by_cases hqi : q = i
              · subst hqi
                rw [hoi] at hoq; cases hoq
                exact hup _ (hr e hme hb)
              · rw [if_neg hqi] at hlq
                exact hup _ (hcl q oq hoq hlq e hme hb)
          -- is it wanted?
          have hwant : Region.wanted o (yielded ops a'.tmps) = wantV vals o := by
            cases hg : o.guard with
            | none => simp [Region.wanted, wantV, hg]
            | some jw =>
              obtain ⟨j, want⟩ := jw
              obtain ⟨hjm, hjs, hja⟩ := hgd j want hg
              obtain ⟨t, ht⟩ := Option.isSome_iff_exists.1 hjs
              have h3 := hv j hjm (after_any hja hr) t ht
              have hy : yielded ops a'.tmps j = match vals j with | .bool b => some b | _ => none := by
                have ht' : (ops[j]?).bind (·.dst) = some t := ht
                simp only [yielded, ht', Option.bind_some, h3]
                cases vals j <;> rfl
              simp only [Region.wanted, wantV, hg, hy]
              cases vals j <;> simp <;> rfl
          unfold wpOpIn
          rw [hoi]
          simp only [hwant]
          by_cases hw : wantV vals o = true
          · rw [if_pos hw] at hst ⊢
            refine hst a' W hS (evalFacts_of ?_) _ next
            intro t ht
            by_cases hx : ∃ j, j < m ∧ dstAt ops j = some t
            · obtain ⟨j, hj, hdj⟩ := hx
              have h3 := hv j hj (after_any (hdat t ht j hj hdj) hr) t hdj
              simp [Act.eval, Array.getD_eq_getD_getElem?, h3, bval m (Nat.le_refl _) j hj t hdj]
            · simp [Act.eval, Array.getD_eq_getD_getElem?, ho t (fun j hj _ e => hx ⟨j, hj, e⟩), bslot m (Nat.le_refl _) t (fun j hj e => hx ⟨j, hj, e⟩)]
          · rw [if_neg hw] at hst ⊢
            rw [← hst.1]
            exact ⟨fun f _ => hF f, next W (hst.2 W hS)⟩
  have hrep : (fun j => (Array.replicate ops.size false).getD j false) = fun _ => false := by
    funext j
    simp [Array.getD_eq_getD_getElem?, Array.getElem?_replicate]
    split <;> rfl
  refine wpIn_region_any hmx ?_
  refine key ops.size (Array.replicate ops.size false) a _ (by simp) ?_ ?_ rfl rfl ?_ ?_ (by rw [hrep]; exact hS) ?_
  · have : ((List.range ops.size).filter fun i => !(Array.replicate ops.size false).getD i true) = List.range ops.size := by
      apply List.filter_eq_self.2
      intro i hi
      have := List.mem_range.1 hi
      simp [Array.getD_eq_getD_getElem?, this]
    rw [this, List.length_range]
  · intro i _ hi
    simp [Array.getD_eq_getD_getElem?, hi]
  · intro j _ hl
    simp [Array.getD_eq_getD_getElem?, Array.getElem?_replicate] at hl
    split at hl <;> simp at hl
  · intro t _; rfl
  · intro q _ _ hl
    simp [Array.getD_eq_getD_getElem?, Array.getElem?_replicate] at hl
    split at hl <;> simp at hl

theorem wpIn_region_det {ops : Array Oper} {id : Nat} {a : Act} {w : World} (S : World → Prop) (vs : List Value) (hF : ∀ f, F.fn f) (hmx : P.follows .mixedOrders = true)
    (he : edgesOk ops vs.length a.tmps.size = true) (hS : S w.drew)
    (hsteps : ∀ A, A = bodyAct ops (fun j => vs.getD j undef) a vs.length → stepsOk F n P Q S (fun t => A.eval (.tmp t)) (fun j => vs.getD j undef) ops.toList vs)
    (hrest : ∀ A, A = bodyAct ops (fun j => vs.getD j undef) a vs.length → ∀ W, S W → wpListIn F n P ops Q (ops.toList.drop vs.length) A W) :
    (Code.region id ops true).wpIn F n P Q a w :=
  wpIn_region_detD (fun _ => S) vs hF hmx he hS (fun A hA => stepsOk_D (hsteps A hA)) hrest

/-- The same for a plain frame. -/
theorem wp_region_det {ops : Array Oper} {id : Nat} {a : Act} {w : World} (S : World → Prop) (vs : List Value) (hmx : P.follows .mixedOrders = true)
    (he : edgesOk ops vs.length a.tmps.size = true) (hS : S w.drew)
    (hsteps : ∀ A, A = bodyAct ops (fun j => vs.getD j undef) a vs.length → stepsOk Fence.wide 0 P Q S (fun t => A.eval (.tmp t)) (fun j => vs.getD j undef) ops.toList vs)
    (hrest : ∀ A, A = bodyAct ops (fun j => vs.getD j undef) a vs.length → ∀ W, S W → wpListIn Fence.wide 0 P ops Q (ops.toList.drop vs.length) A W) :
    (Code.region id ops true).wp P Q a w :=
  wpIn_wide.1 (wpIn_region_det S vs (fun _ => trivial) hmx he hS hsteps hrest)
theorem wp_region_detD {ops : Array Oper} {id : Nat} {a : Act} {w : World} (S : (Nat → Bool) → World → Prop) (vs : List Value) (hmx : P.follows .mixedOrders = true)
    (he : edgesOk ops vs.length a.tmps.size = true) (hS : S (fun _ => false) w.drew)
    (hsteps : ∀ A, A = bodyAct ops (fun j => vs.getD j undef) a vs.length → stepsOkD Fence.wide 0 P Q S (fun t => A.eval (.tmp t)) (fun j => vs.getD j undef) 0 ops.toList vs)
    (hrest : ∀ A, A = bodyAct ops (fun j => vs.getD j undef) a vs.length → ∀ W, S (fun j => decide (j < vs.length)) W → wpListIn Fence.wide 0 P ops Q (ops.toList.drop vs.length) A W) :
    (Code.region id ops true).wp P Q a w :=
  wpIn_wide.1 (wpIn_region_detD S vs (fun _ => trivial) hmx he hS hsteps hrest)
theorem stepOkD_plain {S : (Nat → Bool) → World → Prop} {V : Tmp → Value} {vals : Nat → Value} {i : Nat} {o : Oper} {v : Value} (hg : o.guard = none)
    (h : ∀ (D : Nat → Bool), D i = false → ∀ (a' : Act) (W : World), S D W → evalFacts a' V (opTmps o) → ∀ K : Act → World → Prop, (∀ W', S (upd D i) W' → K (a'.put o.dst v) W') → o.wpIn F n P a' W K Q) :
    stepOkD F n P Q S V (wantV vals o) i o v := by
  unfold stepOkD wantV
  rw [hg]
  exact h
end
end Go.Proofs.Ytbiapeaghbndoaa
