/- The judgement's rule for a region that draws its order: its loud operations one behind the other (or in few orders), its quiet ones floating among them. Over any program. -/
import Derived.Test.YtbiapeaghbndoaaStep
import Derived.Test.YtbiapeaghbndoaaReg
namespace Go.Proofs.Ytbiapeaghbndoaa
open Go Go.RowKit

/-! ### what is looked at of the region itself, once, by the kernel -/
/-- All that this operation waits for, by masks of those ahead. -/
def waits (Ms : List Nat) (o : Oper) : Nat := o.after.toList.foldl (fun s e => if Region.binds .any e then s ||| (2 ^ e.on) ||| Ms.getD e.on 0 else s) 0
def sub (x y : Nat) : Bool := x &&& y == x
def allUpto (n : Nat) (f : Nat → Bool) : Bool := (List.range n).all f
theorem allUpto_at {n : Nat} {f : Nat → Bool} (h : allUpto n f = true) {i : Nat} (hi : i < n) : f i = true := List.all_eq_true.1 h i (List.mem_range.2 hi)
def opAt (ops : Array Oper) (i : Nat) (f : Oper → Bool) : Bool := match ops[i]? with | some o => f o | none => false
/-- The table's row fits operation i: each slot that it looks at comes from that operation, or from none. -/
def rowOk (ops : Array Oper) (Ms : List Nat) (i : Nat) (row : List (Nat × Option Nat)) : Bool :=
  row.all fun (t, s) => match s with
    | some j => dstAt ops j == some t && (Ms.getD i 0).testBit j
    | none => allUpto ops.size fun j => dstAt ops j != some t || j == i || (Ms.getD j 0).testBit i
def statOk (ops : Array Oper) (Ms : List Nat) (S : List (List (Nat × Option Nat))) (N : Nat) : Bool :=
  allUpto ops.size fun i => opAt ops i fun o =>
    sub (Ms.getD i 0) (waits Ms o) && (o.after.all fun e => !Region.binds .any e || e.on < i) &&
    (match o.dst with | none => true | some t => Nat.blt t N && allUpto ops.size fun j => j == i || dstAt ops j != some t) &&
    rowOk ops Ms i (S.getD i []) &&
    (match o.guard with | none => true | some (j, _) => (Ms.getD i 0).testBit j && (dstAt ops j).isSome)
/-- What is known of the slots that operation i looks at. -/
def kOf (K0 V : List (Nat × Value)) : List (Nat × Option Nat) → List (Nat × Value)
  | [] => []
  | (t, s) :: r => match (match s with | some j => lk V j | none => lk K0 t) with
    | some v => (t, v) :: kOf K0 V r
    | none => kOf K0 V r
def WantV (V : List (Nat × Value)) (o : Oper) (b : Bool) : Prop :=
  match o.guard with
  | none => b = true
  | some (j, want) => (b = true ∧ lk V j = some (.bool want)) ∨ (b = false ∧ lk V j = some (.bool !want)) ∨ (b = false ∧ lk V j = some undef)

structure RgOk (C : Cx) (ops : Array Oper) (loud lo : Nat) (K0 V : List (Nat × Value)) (listed : Array Bool) (a : Act) : Prop where
  size : listed.size = ops.size
  shut : closed ops listed
  loud : ∀ i, i < ops.size → loud.testBit i = true → listed.getD i false = lo.testBit i
  asize : a.tmps.size = C.N
  defers : a.defers = C.D
  old : ∀ t v, lk K0 t = some v → (∀ j, listed.getD j false = true → dstAt ops j ≠ some t) → a.tmps.getD t undef = v
  new : ∀ j t v, listed.getD j false = true → dstAt ops j = some t → lk V j = some v → a.tmps.getD t undef = v
structure Rg where
  ops : Array Oper
  Ms : List Nat
  S : List (List (Nat × Option Nat))
  loud : Nat
def left (ops : Array Oper) (listed : Array Bool) : Nat := ((List.range ops.size).filter fun i => !listed.getD i true).length
def G (C : Cx) (R : Rg) (Q : Post) (K0 : List (Nat × Value)) (lo : Nat) (V : List (Nat × Value)) (L : Heap) : Prop :=
  statOk R.ops R.Ms R.S C.N = true → ∀ listed a w, RgOk C R.ops R.loud lo K0 V listed a → MemOk C.w₀ L w → wpAnyIn (FW C.ro) 0 C.P .any R.ops Q (left R.ops listed) listed a w

section
variable {C : Cx} {R : Rg} {Q : Post} {K0 V : List (Nat × Value)} {lo : Nat} {L : Heap}

theorem sub_bit {x y : Nat} (h : sub x y = true) {j : Nat} (hj : x.testBit j = true) : y.testBit j = true := by
  have : x &&& y = x := by simpa [sub] using h
  rw [← this, Nat.testBit_and] at hj
  simp at hj
  exact hj.2
theorem waits_bit {Ms : List Nat} : ∀ (l : List Edge) (s j : Nat), (l.foldl (fun s e => if Region.binds .any e then s ||| (2 ^ e.on) ||| Ms.getD e.on 0 else s) s).testBit j = true →
    s.testBit j = true ∨ ∃ e ∈ l, Region.binds .any e = true ∧ (e.on = j ∨ (Ms.getD e.on 0).testBit j = true)
  | [], s, j, h => .inl h
  | e :: l, s, j, h => by
    rw [List.foldl_cons] at h
    rcases waits_bit l _ j h with h1 | ⟨e', he', h2⟩
    · by_cases hb : Region.binds .any e = true
      · rw [if_pos hb, Nat.testBit_or, Nat.testBit_or] at h1
        simp only [Bool.or_eq_true] at h1
        rcases h1 with (h1 | h1) | h1
        · exact .inl h1
        · refine .inr ⟨e, by simp, hb, .inl ?_⟩
          rw [Nat.testBit_two_pow] at h1
          simpa using h1
        · exact .inr ⟨e, by simp, hb, .inr h1⟩
      · rw [if_neg hb] at h1; exact .inl h1
    · exact .inr ⟨e', by simp [he'], h2⟩

structure Stat (ops : Array Oper) (Ms : List Nat) (S : List (List (Nat × Option Nat))) (N i : Nat) (o : Oper) : Prop where
  mask : sub (Ms.getD i 0) (waits Ms o) = true
  low : ∀ e ∈ o.after, Region.binds .any e = true → e.on < i
  dst : ∀ t, o.dst = some t → Nat.blt t N = true ∧ ∀ j, j < ops.size → j ≠ i → dstAt ops j ≠ some t
  row : rowOk ops Ms i (S.getD i []) = true
  guard : ∀ j want, o.guard = some (j, want) → (Ms.getD i 0).testBit j = true ∧ (dstAt ops j).isSome = true
theorem stat_at {ops : Array Oper} {Ms : List Nat} {S : List (List (Nat × Option Nat))} {N : Nat} (h : statOk ops Ms S N = true) {i : Nat} {o : Oper} (ho : ops[i]? = some o) : Stat ops Ms S N i o := by
  have hi : i < ops.size := (Array.getElem?_eq_some_iff.1 ho).1
  have h := allUpto_at h hi
  unfold opAt at h
  rw [ho] at h
  simp only [Bool.and_eq_true] at h
  obtain ⟨⟨⟨⟨h1, h2⟩, h3⟩, h4⟩, h5⟩ := h
  refine ⟨h1, ?_, ?_, h4, ?_⟩
  · intro e he hb
    rw [Array.all_eq_true] at h2
    obtain ⟨q, hq, hqe⟩ := Array.getElem_of_mem he
    have := h2 q hq
    rw [hqe, hb] at this
    simpa using this
  · intro t ht
    rw [ht] at h3
    simp only [Bool.and_eq_true] at h3
    refine ⟨h3.1, fun j hj hne => ?_⟩
    have := allUpto_at h3.2 hj
    simp only [Bool.or_eq_true, beq_iff_eq, bne_iff_ne] at this
    exact this.resolve_left hne
  · intro j want hg
    rw [hg] at h5
    simpa using h5
theorem mask_listed {ops : Array Oper} {Ms : List Nat} {S : List (List (Nat × Option Nat))} {N : Nat} (h : statOk ops Ms S N = true) {listed : Array Bool} (hcl : closed ops listed) : ∀ (i : Nat) (o : Oper), ops[i]? = some o →
    (∀ e ∈ o.after, Region.binds .any e = true → listed.getD e.on false = true) → ∀ j, (Ms.getD i 0).testBit j = true → listed.getD j false = true := by
  intro i
  induction i using Nat.strongRecOn with
  | _ i ih =>
    intro o ho hr j hj
    have hs := stat_at h ho
    rcases waits_bit _ 0 j (sub_bit hs.mask hj) with h0 | ⟨e, he, hb, h1⟩
    · simp at h0
    · have he : e ∈ o.after := by simpa using he
      have hle := hr e he hb
      rcases h1 with rfl | h1
      · exact hle
      · have hlt := hs.low e he hb
        have hi : i < ops.size := (Array.getElem?_eq_some_iff.1 ho).1
        have hoe : ops[e.on]? = some (ops[e.on]'(by omega)) := Array.getElem?_eq_getElem (by omega)
        exact ih e.on hlt _ hoe (hcl e.on _ hoe hle) j h1
theorem left_set {ops : Array Oper} {listed : Array Bool} (hs : listed.size = ops.size) {i : Nat} (hi : i < ops.size) (h2 : listed.getD i true = false) : left ops listed = left ops (listed.setIfInBounds i true) + 1 := by
  unfold left
  have hnd : ((List.range ops.size).filter fun i => !listed.getD i true).Nodup := List.nodup_range.filter _
  have hmem : i ∈ (List.range ops.size).filter fun i => !listed.getD i true := List.mem_filter.2 ⟨List.mem_range.2 hi, by simp [h2]⟩
  have e1 : ((List.range ops.size).filter fun j => !(listed.setIfInBounds i true).getD j true) = ((List.range ops.size).filter fun i => !listed.getD i true).erase i := by
    rw [hnd.erase_eq_filter, List.filter_filter]
    apply List.filter_congr
    intro j _
    rw [getD_set _ _ _ _ _ (by omega)]
    by_cases hji : j = i
    · subst hji; simp
    · simp [hji]
  rw [e1, List.length_erase_of_mem hmem]
  have := List.length_pos_of_mem hmem
  omega
theorem kOf_lk : ∀ {row : List (Nat × Option Nat)} {t : Nat} {v : Value}, lk (kOf K0 V row) t = some v → ∃ s, (t, s) ∈ row ∧ (match s with | some j => lk V j | none => lk K0 t) = some v
  | [], _, _, h => by cases h
  | (u, s) :: r, t, v, h => by
    unfold kOf at h
    split at h
    · rename_i x hx
      by_cases e : u = t
      · subst e
        rw [lk_cons_same] at h
        cases h
        exact ⟨s, by simp, hx⟩
      · rw [lk_cons_other _ _ e] at h
        obtain ⟨s', h1, h2⟩ := kOf_lk h
        exact ⟨s', by simp [h1], h2⟩
    · obtain ⟨s', h1, h2⟩ := kOf_lk h
      exact ⟨s', by simp [h1], h2⟩
theorem getD_ft {listed : Array Bool} {i : Nat} (h : i < listed.size) : listed.getD i false = listed.getD i true := by
  simp [Array.getD_eq_getD_getElem?, Array.getElem?_eq_getElem h]
theorem shut_set {ops : Array Oper} {listed : Array Bool} (hcl : closed ops listed) (hs : listed.size = ops.size) {i : Nat} {o : Oper} (hi : ops[i]? = some o) (hr : ∀ e ∈ o.after, Region.binds .any e = true → listed.getD e.on false = true) :
    closed ops (listed.setIfInBounds i true) := by
  have hlt : i < ops.size := (Array.getElem?_eq_some_iff.1 hi).1
  intro q oq hoq hlq e hme hb
  have hup : ∀ x, listed.getD x false = true → (listed.setIfInBounds i true).getD x false = true := fun x hx => by
    rw [getD_set _ _ _ _ _ (by omega)]
    by_cases hxi : x = i
    · rw [if_pos hxi]
    · rw [if_neg hxi]; exact hx
  rw [getD_set _ _ _ _ _ (by omega)] at hlq
  by_cases hqi : q = i
  · subst hqi
    rw [hi] at hoq; cases hoq
    exact hup _ (hr e hme hb)
  · rw [if_neg hqi] at hlq
    exact hup _ (hcl q oq hoq hlq e hme hb)

/-- What operation i reads is what is known of its slots. -/
theorem RgOk.rd {listed : Array Bool} {a : Act} (hst : statOk R.ops R.Ms R.S C.N = true) (h : RgOk C R.ops R.loud lo K0 V listed a) {i : Nat} {o : Oper} (ho : R.ops[i]? = some o) (h2 : listed.getD i true = false)
    (hr : ∀ e ∈ o.after, Region.binds .any e = true → listed.getD e.on false = true) : Rd (kOf K0 V (R.S.getD i [])) a.eval := by
  intro x v hx
  cases x with
  | const u => cases hx; rfl
  | global g => cases hx; rfl
  | func f => cases hx; rfl
  | tmp t =>
    obtain ⟨s, hm, hs⟩ := kOf_lk hx
    have hst' := stat_at hst ho
    have hrow := List.all_eq_true.1 hst'.row _ hm
    have hi : i < R.ops.size := (Array.getElem?_eq_some_iff.1 ho).1
    cases s with
    | some j =>
      simp only [Bool.and_eq_true, beq_iff_eq] at hrow
      exact h.new j t v (mask_listed hst h.shut i o ho hr j hrow.2) hrow.1 hs
    | none =>
      refine h.old t v hs (fun j hj hd => ?_)
      have hjs : j < R.ops.size := by
        have : j < listed.size := by
          rcases Nat.lt_or_ge j listed.size with hlt | hge
          · exact hlt
          · rw [Array.getD_eq_getD_getElem?, Array.getElem?_eq_none hge] at hj; cases hj
        have := h.size; omega
      have := allUpto_at hrow hjs
      simp only [Bool.or_eq_true, bne_iff_ne, beq_iff_eq] at this
      rcases this with (h1 | h1) | h1
      · exact h1 hd
      · subst h1
        rw [getD_ft (by rw [h.size]; exact hi), h2] at hj; cases hj
      · have hoj : R.ops[j]? = some R.ops[j] := Array.getElem?_eq_getElem hjs
        have := mask_listed hst h.shut j _ hoj (h.shut j _ hoj hj) i h1
        rw [getD_ft (by rw [h.size]; exact hi), h2] at this; cases this

/-- Behind operation i. -/
theorem RgOk.put {listed : Array Bool} {a : Act} (hst : statOk R.ops R.Ms R.S C.N = true) (h : RgOk C R.ops R.loud lo K0 V listed a) {i : Nat} {o : Oper} (ho : R.ops[i]? = some o)
    (hr : ∀ e ∈ o.after, Region.binds .any e = true → listed.getD e.on false = true) (v : Value) (lo' : Nat) (V' : List (Nat × Value))
    (hlo : ∀ j, j < R.ops.size → R.loud.testBit j = true → lo'.testBit j = (if j = i then true else lo.testBit j)) (hV : lk V' i = some v ∨ o.dst = none) (hV' : ∀ j u, listed.getD j false = true → j ≠ i → lk V' j = some u → lk V j = some u) :
    RgOk C R.ops R.loud lo' K0 V' (listed.setIfInBounds i true) (a.put o.dst v) := by
  have hi : i < R.ops.size := (Array.getElem?_eq_some_iff.1 ho).1
  have hod : dstAt R.ops i = o.dst := by simp [dstAt, ho]
  have hs := stat_at hst ho
  have hget : ∀ j, (listed.setIfInBounds i true).getD j false = if j = i then true else listed.getD j false := fun j => getD_set _ _ _ _ _ (by rw [h.size]; exact hi)
  refine ⟨by simpa using h.size, shut_set h.shut h.size ho hr, ?_, by rw [put_tmps_size]; exact h.asize, by rw [put_defers]; exact h.defers, ?_, ?_⟩
  · intro j hj hl
    rw [hget, hlo j hj hl]
    by_cases hji : j = i
    · simp [hji]
    · rw [if_neg hji, if_neg hji]; exact h.loud j hj hl
  · intro t u ht hno
    have h1 : o.dst ≠ some t := by have := hno i (by rw [hget]; simp); rwa [hod] at this
    have h2 := h.old t u ht (fun j hj => hno j (by rw [hget]; by_cases hji : j = i <;> simp [hji, hj]))
    rw [← h2]
    cases hd : o.dst with
    | none => rfl
    | some d =>
      have hne : d ≠ t := fun e => h1 (by rw [hd, e])
      simp [Act.put, Array.getD_eq_getD_getElem?, Array.getElem?_setIfInBounds, hne]
  · intro j t u hj hd hu
    rw [hget] at hj
    by_cases hji : j = i
    · subst hji
      rw [hod] at hd
      rcases hV with hV | hV
      · rw [hV] at hu
        cases hu
        have hb := (hs.dst t hd).1
        rw [Nat.blt_eq] at hb
        rw [hd]
        simp [Act.put, Array.getD_eq_getD_getElem?, h.asize, hb]
      · rw [hV] at hd; cases hd
    · rw [if_neg hji] at hj
      have h2 := h.new j t u hj hd (hV' j u hj hji hu)
      rw [← h2]
      cases hd' : o.dst with
      | none => rfl
      | some d =>
        have hjs : j < R.ops.size := by
          unfold dstAt at hd
          rcases Nat.lt_or_ge j R.ops.size with hlt | hge
          · exact hlt
          · rw [Array.getElem?_eq_none hge] at hd; cases hd
        have hne : d ≠ t := fun e => (hs.dst d hd').2 j hjs hji (by rw [e]; exact hd)
        simp [Act.put, Array.getD_eq_getD_getElem?, Array.getElem?_setIfInBounds, hne]
end
end Go.Proofs.Ytbiapeaghbndoaa
