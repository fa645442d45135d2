/- A range over a map told by the list of its entries. Over any program. -/
import Derived.Test.YtbiapeaghbndoaaMap
import Derived.Maps.RangeRun
namespace Go.Proofs.Ytbiapeaghbndoaa
open Go Go.RowKit
section
variable {κ μ : Type} {fk : κ → Value} {fv : μ → Value}
/-- An iterator over a map of n entries: which of them have come. -/
def itO (b n : Nat) (seen : List Nat) : Obj := .mapIter (some b) n seen.toArray n
theorem ents_in {l : List (κ × μ)} {e : MapEntry} {n : Nat} (he : e ∈ ents fk fv l n) : ∃ i k v, l[i]? = some (k, v) ∧ e = { key := fk k, val := fv v, born := n + i } := by
  obtain ⟨i, hi⟩ := List.getElem?_of_mem he
  rw [ents_at] at hi
  obtain ⟨⟨k, v⟩, h1, h2⟩ := Option.map_eq_some_iff.1 hi
  exact ⟨i, k, v, h1, h2.symm⟩
variable {P : Program} {w : World} {ρ : Operand → Value} {d : Option Tmp} {ty : TypeId} {ps : String} {af : Array Edge} {g : Option (Nat × Bool)} {x : Operand}
theorem r_rangeMap {t kt e : TypeId} {b : Nat} {l : List (κ × μ)} (ht : mapOf P t = some (kt, e)) (hx : ρ x = .map (some b)) (hb : hp w b = some (mapO fk fv l)) :
    (execOp ρ (mk d (.range t x) ty ps af g)).run P w = .ok (.value (.pointer (some ⟨w.heap.size, 0, none⟩))) (w.alloc (itO b l.length [])) := by
  refine run_v ?_
  rw [hx]
  exact run_range_map w t kt e b _ _ (und_map ht) hb
theorem run_nextM {b r : Nat} {l : List (κ × μ)} {seen : List Nat} (hr : hp w r = some (itO b l.length seen)) (hb : hp w b = some (mapO fk fv l)) :
    ((∀ i, i < l.length → i ∈ seen) ∧ (Instr.next (.pointer (some ⟨r, 0, none⟩)) false ty).run P w = .ok (.tuple #[.bool false]) w) ∨
    ∃ i k v w', l[i]? = some (k, v) ∧ i ∉ seen ∧ (Instr.next (.pointer (some ⟨r, 0, none⟩)) false ty).run P w = .ok (.tuple #[.bool true, fk k, fv v]) w' ∧ Upd w r (itO b l.length (seen ++ [i])) w' := by
  rcases run_next_at (P := P) w ty r b l.length l.length seen.toArray (ents fk fv l 0).toArray l.length hr hb (fun e he => by
      obtain ⟨i, k, v, h1, rfl⟩ := ents_in (by simpa using he)
      have := (List.getElem?_eq_some_iff.1 h1).1
      show 0 + i < _
      omega) (Nat.le_refl _) with ⟨h0, hrun⟩ | ⟨e, he, w1, hal, hrun⟩
  · refine .inl ⟨fun i hi => ?_, hrun⟩
    refine Classical.byContradiction fun hn => ?_
    obtain ⟨⟨k, v⟩, hx⟩ : ∃ x, l[i]? = some x := ⟨_, List.getElem?_eq_getElem hi⟩
    have hm : ({ key := fk k, val := fv v, born := 0 + i } : MapEntry) ∈ ents fk fv l 0 := List.mem_of_getElem? (by rw [ents_at, hx]; rfl)
    have h2 : ({ key := fk k, val := fv v, born := 0 + i } : MapEntry) ∈ leftOf (ents fk fv l 0).toArray seen.toArray := by
      unfold leftOf
      rw [Array.mem_filter]
      refine ⟨by simpa using hm, ?_⟩
      simp only [Nat.zero_add, List.contains_toArray, Bool.not_eq_true', List.contains_eq_mem, decide_eq_false_iff_not]
      exact hn
    have : 0 < (leftOf (ents fk fv l 0).toArray seen.toArray).size := Array.size_pos_of_mem h2
    omega
  · obtain ⟨h1, h2⟩ := mem_left he
    obtain ⟨i, k, v, h3, rfl⟩ := ents_in (by simpa using h1)
    refine .inr ⟨i, k, v, _, h3, ?_, hrun, ?_⟩
    · intro hn
      simp [hn] at h2
    · have hr1 : w1.heap[r]? = some (itO b l.length seen) := by rcases hal with rfl | rfl <;> exact hr
      have e1 : ChangeMaps.setBlock w1 r (.mapIter (some b) l.length (seen.toArray.push (0 + i)) l.length) = w1.putObj r (itO b l.length (seen ++ [i])) := by
        unfold itO
        rw [Nat.zero_add, List.push_toArray]; rfl
      show Upd w r _ (ChangeMaps.setBlock w1 r (.mapIter (some b) l.length (seen.toArray.push (0 + i)) l.length))
      rw [e1]
      have hu := upd_put (o' := itO b l.length (seen ++ [i])) (show hp w1 r = some (itO b l.length seen) from hr1)
      rcases hal with rfl | rfl
      · exact hu
      · exact ⟨hu.os, hu.tape, hu.output, hu.size, hu.this, hu.other⟩
end
section
variable {C : Cx} {ops : Array Oper} {os : List Oper} {Q : Post} {K : List (Nat × Value)} {L : Heap} {κ μ : Type} {fk : κ → Value} {fv : μ → Value} {l : List (κ × μ)} {seen : List Nat} {b r : Nat} {x : Operand} {ty : TypeId} {ps : String} {af : Array Edge} {g : Option (Nat × Bool)}
/-- What comes next: nothing, for all have come; or one that has not come, whichever. -/
theorem TL_next {dd : Nat} (i m : Nat) (hi : lk L i = some (.blk r (itO b l.length seen))) (hb : lk L m = some (.blk b (mapO fk fv l))) (hx : ev K x = some (.pointer (some ⟨r, 0, none⟩))) (hN : Nat.blt dd C.N = true)
    (hw : Want ops K (mk (some dd) (.next x false) ty ps af g) true) (hDone : (∀ j, j < l.length → j ∈ seen) → TL C ops os Q ((dd, .tuple #[.bool false]) :: K) L)
    (hMore : ∀ j k v, l[j]? = some (k, v) → j ∉ seen → TL C ops os Q ((dd, .tuple #[.bool true, fk k, fv v]) :: K) ((i, .blk r (itO b l.length (seen ++ [j]))) :: L)) :
    TL C ops (mk (some dd) (.next x false) ty ps af g :: os) Q K L := by
  intro a w hf hm
  unfold wpListIn
  rw [hw.is hf, if_pos rfl]
  rcases run_nextM (P := C.P) (ty := ty) (hm.at i hi) (hm.at m hb) with ⟨h1, h2⟩ | ⟨j, k, v, w', h1, h2, h3, h4⟩
  · refine step_val (v := .tuple #[.bool false]) (w' := w) rfl (run_v ?_) (hDone h1 _ _ (hf.put _ hN) hm)
    rw [hf.rd _ _ hx]; exact h2
  · refine step_val (v := .tuple #[.bool true, fk k, fv v]) (w' := w') rfl (run_v ?_) (hMore j k v h1 h2 _ _ (hf.put _ hN) (hm.upd hi h4))
    rw [hf.rd _ _ hx]; exact h3
end
end Go.Proofs.Ytbiapeaghbndoaa
