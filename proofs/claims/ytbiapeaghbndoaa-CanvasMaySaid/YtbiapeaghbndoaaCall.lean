/- Calls whose answers lie in new memory; loops of a known number of rounds. Over any program. -/
import Derived.Test.YtbiapeaghbndoaaSl
namespace Go.Proofs.Ytbiapeaghbndoaa
open Go Go.RowKit

/-- These things are new in w'. -/
structure NewOk (w w' : World) (N : Heap) : Prop where
  own : ∀ i r, lk N i = some r → r.ok w.heap.size w'
  sep : ∀ i j r s, lk N i = some r → lk N j = some s → i ≠ j → ∀ b, r.foot b → ¬ s.foot b
theorem newOk1 {w w' : World} {r : Res} (i : Nat) (h : r.ok w.heap.size w') : NewOk w w' [(i, r)] := by
  refine ⟨fun j s hj => ?_, fun j k r1 s hj hk hne => ?_⟩
  · by_cases e : i = j
    · subst e; rw [lk_cons_same] at hj; cases hj; exact h
    · rw [lk_cons_other _ _ e] at hj; cases hj
  · by_cases e : i = j
    · subst e
      rw [lk_cons_other _ _ hne] at hk
      cases hk
    · rw [lk_cons_other _ _ e] at hj; cases hj
theorem newOk2 {w w' : World} {r s : Res} (i j : Nat) (h : r.ok w.heap.size w') (k : s.ok w.heap.size w') (hs : ∀ b, r.foot b → ¬ s.foot b) : NewOk w w' [(i, r), (j, s)] := by
  refine ⟨fun l q hl => ?_, fun l m r1 s1 hl hm hne => ?_⟩
  · by_cases e : i = l
    · subst e; rw [lk_cons_same] at hl; cases hl; exact h
    · rw [lk_cons_other _ _ e] at hl
      by_cases e2 : j = l
      · subst e2; rw [lk_cons_same] at hl; cases hl; exact k
      · rw [lk_cons_other _ _ e2] at hl; cases hl
  · by_cases e : i = l
    · subst e
      rw [lk_cons_same] at hl; cases hl
      rw [lk_cons_other _ _ hne] at hm
      by_cases e2 : j = m
      · subst e2; rw [lk_cons_same] at hm; cases hm; exact hs
      · rw [lk_cons_other _ _ e2] at hm; cases hm
    · rw [lk_cons_other _ _ e] at hl
      by_cases e2 : j = l
      · subst e2
        rw [lk_cons_same] at hl; cases hl
        by_cases e3 : i = m
        · subst e3; rw [lk_cons_same] at hm; cases hm; exact fun b hb hc => hs b hc hb
        · rw [lk_cons_other _ _ e3, lk_cons_other _ _ hne] at hm; cases hm
      · rw [lk_cons_other _ _ e2] at hl; cases hl
theorem lk_append {α : Type} : ∀ (N L : List (Nat × α)) (i : Nat), lk (N ++ L) i = match lk N i with | some r => some r | none => lk L i
  | [], L, i => rfl
  | (j, r) :: N, L, i => by
    by_cases e : j = i
    · subst e; rw [List.cons_append, lk_cons_same, lk_cons_same]
    · rw [List.cons_append, lk_cons_other _ _ e, lk_cons_other _ _ e, lk_append N L i]
theorem MemOk.news {w₀ w w' : World} {L N : Heap} (h : MemOk w₀ L w) (hb : Below w.heap.size w w') (hn : NewOk w w' N) : MemOk w₀ (N ++ L) w' := by
  have k := h.below hb
  have low : ∀ {r : Res} {b : Nat}, r.ok w.heap.size w' → r.foot b → w.heap.size ≤ b := fun hr hf => (Res.low hr hf).1
  have lift : ∀ {r : Res}, r.ok w.heap.size w' → r.ok w₀.heap.size w' := fun {r} hr => Res.lift hr h.ext.size
  refine ⟨k.ext, fun i r hi => ?_, fun i j r s hi hj hne b hf => ?_⟩
  · rw [lk_append] at hi
    cases hN : lk N i with
    | some q => rw [hN] at hi; cases hi; exact lift (hn.own i _ hN)
    | none => rw [hN] at hi; exact k.own i r hi
  · rw [lk_append] at hi hj
    cases hN : lk N i with
    | some q =>
      rw [hN] at hi; cases hi
      cases hM : lk N j with
      | some p => rw [hM] at hj; cases hj; exact hn.sep i j _ _ hN hM hne b hf
      | none =>
        rw [hM] at hj
        intro hs
        have h1 := low (hn.own i _ hN) hf
        have h2 := (Res.low (h.own j s hj) hs).2
        omega
    | none =>
      rw [hN] at hi
      cases hM : lk N j with
      | some p =>
        rw [hM] at hj; cases hj
        intro hs
        have h1 := low (hn.own j _ hM) hs
        have h2 := (Res.low (h.own i r hi) hf).2
        omega
      | none => rw [hM] at hj; exact h.sep i j r s hi hj hne b hf
/-- A block that a slice's value names is its row. -/
theorem MemOk.toRow {w₀ w : World} {L : Heap} (h : MemOk w₀ L w) (i : Nat) {b n cap s : Nat} {cs : Array Value} {e : TypeId} (hi : lk L i = some (.blk b (.cells cs e (0, 0)))) (hn : Nat.ble n cap = true) (hc : cap ≤ 4611686018427387904) (hs : cs.size = cap * s) (xs : List Value) (hx : cs.toList.take (n * s) = xs) :
    MemOk w₀ ((i, .row (.slice (some ⟨b, 0, none⟩) n cap) e s n xs) :: L) w := by
  have hb := h.own i _ hi
  have hn' := Nat.le_of_ble_eq_true hn
  refine h.set i _ h.ext ⟨?_, .inr ⟨b, cap, cs, rfl, hb.1, hb.2, hn', by unfold Go.maxLen; omega, hs, hx⟩⟩ (fun j r hl hne c hc' => ⟨rfl, fun ev => ?_⟩)
  · rw [← hx, List.length_take, Array.length_toList, hs, Nat.min_eq_left (Nat.mul_le_mul_right _ hn')]
  · cases ev
    exact h.sep j i r _ hl hi hne b hc' rfl
/-- nil owns its row. -/
theorem MemOk.nilRow {w₀ w : World} {L : Heap} (h : MemOk w₀ L w) (i : Nat) (e : TypeId) (s : Nat) : MemOk w₀ ((i, .row (.slice none 0 0) e s 0 []) :: L) w :=
  h.set i _ h.ext (World.ownsRow_nil _ _ _ _) (fun _ _ _ _ _ _ => ⟨rfl, fun e => by cases e⟩)
/-- A function answers one of a family, with new things in memory; all that was there is as it was. -/
def Ans {ι : Type} (p : ι → Prop) (v : ι → Value) (N : ι → Heap) (w : World) (e : Ending) (w' : World) : Prop := ∃ x, p x ∧ e = .returned (v x) ∧ Below w.heap.size w w' ∧ NewOk w w' (N x)
section
variable {C : Cx} {ops : Array Oper} {os : List Oper} {Q : Post} {K : List (Nat × Value)} {L : Heap} {o : Oper}
theorem TL_callN {ι : Type} {d f : Nat} {args : Array Value} (p : ι → Prop) (v : ι → Value) (N : ι → Heap) (hr : ∀ ρ w, Rd K ρ → MemOk C.w₀ L w → (execOp ρ o).run C.P w = .ok (.enter f args) w)
    (hc : ∀ w, MemOk C.w₀ L w → Calls C.P f args w (Ans p v N w))
    (hd : o.dst = some d) (hN : Nat.blt d C.N = true) (hn : isDefer o.op = false) (hw : Want ops K o true)
    (h : ∀ x, p x → TL C ops os Q ((d, v x) :: K) (N x ++ L)) : TL C ops (o :: os) Q K L := by
  intro a w hf hm
  unfold wpListIn
  rw [hw.is hf, if_pos rfl]
  refine step_enter hn (hr _ _ hf.rd hm) (hc w hm) ?_
  rintro e w' ⟨x, hx, rfl, hb, hnew⟩
  show wpListIn _ _ _ _ _ _ _ _
  rw [hd]
  exact h x hx _ _ (hf.put _ hN) (hm.news hb hnew)
end
section
variable {C : Cx} {R : Rg} {Q : Post} {K0 V : List (Nat × Value)} {lo : Nat} {L : Heap}
theorem LOb_callN {ι : Type} {c d f : Nat} {o : Oper} {args : Array Value} (p : ι → Prop) (v : ι → Value) (N : ι → Heap) (news : ι → List (Nat × Value)) (ho : R.ops[c]? = some o) (hw : WantV V o true) (hd : o.dst = some d) (hn : isDefer o.op = false)
    (hr : ∀ ρ w, Rd (kOf K0 V (R.S.getD c [])) ρ → MemOk C.w₀ L w → (execOp ρ o).run C.P w = .ok (.enter f args) w)
    (hc : ∀ w, MemOk C.w₀ L w → Calls C.P f args w (Ans p v N w)) (hnew : ∀ x, newsOk R c (news x) = true)
    (h : ∀ x, p x → G C R Q K0 (lo ||| 2 ^ c) (news x ++ (c, v x) :: V) (N x ++ L)) : LOb C R Q K0 lo V L c := by
  refine ⟨o, ho, hw, fun a w next hrd hm _ hnext => ?_⟩
  refine step_enter hn (hr _ _ hrd hm) (hc w hm) ?_
  rintro e w' ⟨x, hx, rfl, hb, hnw⟩
  have hnw2 := hnew x
  simp only [newsOk, Bool.and_eq_true, Bool.not_eq_true'] at hnw2
  exact hnext _ _ _ _ (.inl (lk_app _ _ _ hnw2.2)) (extV _ _ _ hnw2.1) (hm.news hb hnw) (h x hx)
end

/-! ### memory, told otherwise -/
section
variable {C : Cx} {Q : Post} {K : List (Nat × Value)} {L : Heap}
theorem T_mem {c : Code} (L' : Heap) (hL : ∀ w, MemOk C.w₀ L w → MemOk C.w₀ L' w) (h : T C c Q K L') : T C c Q K L := fun a w hf hm => h a w hf (hL w hm)
theorem TL_mem {ops : Array Oper} {os : List Oper} (L' : Heap) (hL : ∀ w, MemOk C.w₀ L w → MemOk C.w₀ L' w) (h : TL C ops os Q K L') : TL C ops os Q K L := fun a w hf hm => h a w hf (hL w hm)
end
/-! ### a row of one's own, read -/
theorem row_at {w : World} {base : Nat} {e : TypeId} {s n cap g : Nat} {xs : List Value} (h : w.ownsRow base e s (.slice (some ⟨g, 0, none⟩) n cap) n xs) : ∃ cur, hp w g = some (.cells cur e (0, 0)) ∧ cur.toList.take (n * s) = xs := by
  rcases h.2 with ⟨h1, _⟩ | ⟨g', cap', cur, h1, h2, h3, h4, h5, h6, h7⟩
  · cases h1
  · cases h1; exact ⟨cur, h3, h7⟩
section
variable {C : Cx} {Q : Post} {K : List (Nat × Value)} {L : Heap}
theorem T_row {c : Code} (i : Nat) {a : Option Addr} {n cap s : Nat} {e : TypeId} {xs : List Value} (hi : lk L i = some (.row (.slice a n cap) e s n xs)) (hn : 0 < n) (h : ∀ g, a = some ⟨g, 0, none⟩ → T C c Q K L) : T C c Q K L := by
  intro ac w hf hm
  rcases (hm.row i hi).2 with ⟨h1, h2⟩ | ⟨g, cap', cur, h1, _⟩
  · omega
  · cases h1; exact h g rfl ac w hf hm
theorem row_le {w : World} {base n s cap : Nat} {e : TypeId} {a : Option Addr} {xs : List Value} (h : w.ownsRow base e s (.slice a n cap) n xs) : n ≤ cap := by
  rcases h.2 with ⟨h1, h2⟩ | ⟨g', cap', cur, h1, h2, h3, h4, h5, h6, h7⟩
  · cases h1; omega
  · cases h1; exact h4
theorem T_rowcap {c : Code} (i : Nat) {a : Option Addr} {n cap s : Nat} {e : TypeId} {xs : List Value} (hi : lk L i = some (.row (.slice a n cap) e s n xs)) (h : n ≤ cap → T C c Q K L) : T C c Q K L := fun ac w hf hm =>
  h (row_le (hm.row i hi)) ac w hf hm
variable {P : Program} {w : World} {ρ : Operand → Value} {d : Option Tmp} {ty : TypeId} {ps : String} {af : Array Edge} {gd : Option (Nat × Bool)} {x : Operand}
end
section
variable {C : Cx} {Q : Post} {K : List (Nat × Value)} {L : Heap} {c : Code}
end
end Go.Proofs.Ytbiapeaghbndoaa
