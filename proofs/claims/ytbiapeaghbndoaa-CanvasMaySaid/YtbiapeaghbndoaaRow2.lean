/- Rows of one's own: made, copied into, stored into. Over any program. -/
import Derived.Test.YtbiapeaghbndoaaLst
import Derived.Laws.MakeOwn
import Derived.Laws.CopyOwn
import Derived.Laws.IdiomCopy
namespace Go.Proofs.Ytbiapeaghbndoaa
open Go Go.RowKit
section
variable {P : Program} {w : World}
/-- An element of a row of one's own, stored. -/
theorem run_storeX {w₀ : World} {L : Heap} (hm : MemOk w₀ L w) {t e : TypeId} {s n cap B k : Nat} {v : Value} {α : Type} {f : α → List Value} {l : List α} {u : α} (i : Nat) (hi : lk L i = some (.row (.slice (some ⟨B, 0, none⟩) n cap) e s n (l.flatMap f))) (hn : n = l.length) (hs : szOf P t = some s) (hf : ∀ x, (f x).length = s)
    (hk : k < l.length) (hv : v.cells = (f u).toArray) (ho : (f u).all isOne = true) :
    ∃ w', (storeVar t ⟨B, 0 + k * s, none⟩ v).run P w = .ok () w' ∧ MemOk w₀ ((i, .row (.slice (some ⟨B, 0, none⟩) n cap) e s n ((l.set k u).flatMap f)) :: L) w' := by
  subst hn
  have hrow := hm.row i hi
  rcases hrow.2 with ⟨h1, _⟩ | ⟨g, cap', cur, h1, hbg, hg, hnc, hcm, hcs, htk⟩
  · cases h1
  · cases h1
    obtain ⟨post, hpost⟩ : ∃ post, cur.toList = l.flatMap f ++ post := ⟨cur.toList.drop (l.length * s), by rw [← htk, List.take_append_drop]⟩
    obtain ⟨pre, xs, po, e1, e2, e3, e4⟩ := flat_set hf hk u
    have hle : k * s + s ≤ l.length * s := by
      have := Nat.mul_le_mul_right s (show k + 1 ≤ l.length from hk)
      rwa [Nat.add_mul, Nat.one_mul] at this
    have hle2 : l.length * s ≤ cap * s := Nat.mul_le_mul_right s hnc
    obtain ⟨w', hr, hu⟩ := run_storeVar (P := P) (t := t) (off := 0 + k * s) hs hg (by rw [hv, List.size_toArray, hf]) (by omega) (by rw [hv]; exact ho)
    have hcur : wrC cur (0 + k * s) v.cells.toList = ((l.set k u).flatMap f ++ post).toArray := by
      have : cur = (pre ++ xs ++ (po ++ post)).toArray := by apply Array.ext'; rw [hpost, e1]; simp
      rw [this, Nat.zero_add, ← e2, hv]
      rw [wrC_list _ _ _ _ (by rw [e3, hf]), e4]; simp
    rw [hcur] at hu
    refine ⟨w', hr, hm.grow (.inl hi) ⟨hu.os, hu.tape, hu.output, by rw [hu.size]; exact Nat.le_refl _, fun j _ hj => hu.other j (fun e => hj (by rw [e]; rfl))⟩ ⟨by rw [flat_len hf, List.length_set], .inr ⟨B, cap, _, rfl, hbg, hu.this, hnc, hcm, ?_, ?_⟩⟩ (.inl rfl)⟩
    · have hc1 : cur.size = (l.flatMap f ++ post).length := by rw [← hpost, Array.length_toList]
      rw [List.size_toArray, List.length_append, flat_len hf, List.length_set]
      rw [List.length_append, flat_len hf] at hc1
      omega
    · have hq : ((l.set k u).flatMap f).length = l.length * s := by rw [flat_len hf, List.length_set]
      rw [← hq]
      exact List.take_left
end
section
variable {C : Cx} {ops : Array Oper} {os : List Oper} {Q : Post} {K : List (Nat × Value)} {L : Heap} {dd : Option Tmp} {ty : TypeId} {ps : String} {af : Array Edge} {g : Option (Nat × Bool)}
theorem TL_storeRow {x y : Operand} {t e : TypeId} {s n cap B k : Nat} {v : Value} {α : Type} {f : α → List Value} {l : List α} {u : α} (i : Nat) (hi : lk L i = some (.row (.slice (some ⟨B, 0, none⟩) n cap) e s n (l.flatMap f))) (hn : n = l.length) (hx : ev K x = some (.pointer (some ⟨B, 0 + k * s, none⟩))) (hy : ev K y = some v) (hs : szOf C.P t = some s)
    (hf : ∀ x, (f x).length = s) (hk : k < l.length) (hv : v.cells = (f u).toArray) (ho : (f u).all isOne = true) (hw : Want ops K (mk none (.store t x y) ty ps af g) true)
    (h : TL C ops os Q K ((i, .row (.slice (some ⟨B, 0, none⟩) n cap) e s n ((l.set k u).flatMap f)) :: L)) : TL C ops (mk none (.store t x y) ty ps af g :: os) Q K L := by
  intro a w hfk hm
  unfold wpListIn
  rw [hw.is hfk, if_pos rfl]
  obtain ⟨w', hr, hm'⟩ := run_storeX (P := C.P) hm i hi hn hs hf hk hv ho
  refine step_skip (w' := w') rfl ?_ (h _ _ hfk hm')
  show (do Instr.storeAt t (a.eval x) (a.eval y); pure Next.skip : Sem Next).run C.P w = _
  rw [hfk.rd _ _ hx, hfk.rd _ _ hy, run_bind_ok (a := ()) (w' := w')]
  · rfl
  · unfold Instr.storeAt
    rw [run_bind_ok (a := ⟨B, 0 + k * s, none⟩) (w' := w) rfl]
    exact hr
end
section
variable {C : Cx} {R : Rg} {Q : Post} {K0 V : List (Nat × Value)} {lo : Nat} {L : Heap} {ty : TypeId} {ps : String} {af : Array Edge} {g : Option (Nat × Bool)}
end
end Go.Proofs.Ytbiapeaghbndoaa
