/- Rows of one's own, many of them at once: none in another's block. Over any program. -/
import Derived.Test.YtbiapeaghbndoaaRow2
namespace Go.Proofs.Ytbiapeaghbndoaa
open Go Go.RowKit
/-- A row: where it lies, its room, its elements. -/
structure RowG (α : Type) where
  a : Option Addr
  cap : Nat
  l : List α
section
variable {α : Type} {e : TypeId} {s : Nat} {f : α → List Value}
abbrev RowG.v (r : RowG α) : Value := .slice r.a r.l.length r.cap
abbrev RowG.cells (r : RowG α) : List Value := [r.v]
theorem RowG.cells_len (r : RowG α) : r.cells.length = 1 := rfl
/-- In memory as it is told. -/
abbrev RowG.ok (s : Nat) (f : α → List Value) (w : World) (r : RowG α) : Prop := SliceAt w r.a r.cap s f r.l
def apart (r q : RowG α) : Prop := ∀ b, r.v.ownBlock = some b → q.v.ownBlock ≠ some b
/-- All of them are one's own. -/
def manyH (e : TypeId) (s : Nat) (f : α → List Value) (rs : List (RowG α)) (w : World) : Prop :=
  (∀ r ∈ rs, w.ownsRow 0 e s r.v r.l.length (r.l.flatMap f)) ∧ rs.Pairwise apart
def manyF (rs : List (RowG α)) (b : Nat) : Prop := ∃ r ∈ rs, r.v.ownBlock = some b
abbrev Res.many (e : TypeId) (s : Nat) (f : α → List Value) (rs : List (RowG α)) : Res := .abs (manyF rs) (manyH e s f rs)
theorem many_keep {rs : List (RowG α)} (w1 w2 : World) (h : manyH e s f rs w1) (hb : ∀ b, manyF rs b → hp w2 b = hp w1 b) : manyH e s f rs w2 :=
  ⟨fun r hr => Res.keep (r := .row r.v e s r.l.length (r.l.flatMap f)) (h.1 r hr) fun b hf => hb b ⟨r, hr, hf⟩, h.2⟩
/-- Nothing. -/
abbrev Res.no : Res := .abs (fun _ => False) (fun _ => True)
theorem MemOk.many {w₀ w : World} {L : Heap} (h : MemOk w₀ L w) (k : Nat) {rs : List (RowG α)} (hk : lk L k = some (.many e s f rs)) : manyH e s f rs w := (h.own k _ hk).1
/-- A row of one's own goes to the others. -/
theorem MemOk.push {w₀ w : World} {L : Heap} (h : MemOk w₀ L w) (k j : Nat) {rs : List (RowG α)} {a : Option Addr} {n cap : Nat} {l : List α} (hk : lk L k = some (.many e s f rs)) (hj : lk L j = some (.row (.slice a n cap) e s n (l.flatMap f))) (hn : n = l.length) (hne : Nat.beq k j = false) :
    MemOk w₀ ((k, .many e s f (rs ++ [⟨a, cap, l⟩])) :: (j, .no) :: L) w := by
  subst hn
  have hkj : k ≠ j := fun e => by subst e; rw [Nat.beq_refl] at hne; cases hne
  have ok1 := h.own k _ hk
  have ok2 := h.own j _ hj
  have h0 : MemOk w₀ ((j, .no) :: L) w := h.set j _ h.ext ⟨trivial, (fun _ hb => hb.elim), fun _ _ _ _ => trivial⟩ (fun _ _ _ _ b _ => ⟨rfl, id⟩)
  refine h0.set k _ h0.ext ⟨⟨fun r hr => ?_, ?_⟩, ?_, many_keep⟩ (fun i r hi hne' b hb => ⟨rfl, ?_⟩)
  · rcases List.mem_append.1 hr with h1 | h1
    · exact ok1.1.1 r h1
    · rw [List.mem_singleton.1 h1]; exact Res.lift (r := .row _ _ _ _ _) ok2 (Nat.zero_le _)
  · refine List.pairwise_append.2 ⟨ok1.1.2, List.pairwise_singleton _ _, fun r hr q hq => ?_⟩
    rw [List.mem_singleton.1 hq]
    exact fun b hb hc => h.sep k j _ _ hk hj hkj b ⟨r, hr, hb⟩ hc
  · rintro b ⟨r, hr, hb⟩
    rcases List.mem_append.1 hr with h1 | h1
    · exact ok1.2.1 b ⟨r, h1, hb⟩
    · rw [List.mem_singleton.1 h1] at hb; exact Res.low ok2 hb
  · rintro ⟨q, hq, hqb⟩
    by_cases e2 : j = i
    · subst e2; rw [lk_cons_same] at hi; cases hi; exact hb
    · rw [lk_cons_other _ _ e2] at hi
      rcases List.mem_append.1 hq with h1 | h1
      · exact h.sep k i _ _ hk hi (Ne.symm hne') b ⟨q, h1, hqb⟩ hb
      · rw [List.mem_singleton.1 h1] at hqb
        exact h.sep j i _ _ hj hi e2 b hqb hb
end
end Go.Proofs.Ytbiapeaghbndoaa
