/- A row that is one's own, or is another one. Over any program. -/
import Derived.Test.YtbiapeaghbndoaaOpx
namespace Go.Proofs.Ytbiapeaghbndoaa
open Go Go.RowKit
abbrev Res.rowB (t : Bool) (v : Value) (e : TypeId) (s n : Nat) (xs : List Value) : Res := .abs (fun b => t = true ∧ v.ownBlock = some b) (fun w => t = true → w.ownsRow 0 e s v n xs)
theorem rowB_keep {t : Bool} {v : Value} {e : TypeId} {s n : Nat} {xs : List Value} (w1 w2 : World) (h : t = true → w1.ownsRow 0 e s v n xs) (hb : ∀ b, t = true ∧ v.ownBlock = some b → hp w2 b = hp w1 b) : t = true → w2.ownsRow 0 e s v n xs :=
  fun ht => Res.keep (r := .row v e s n xs) (h ht) fun b hf => hb b ⟨ht, hf⟩
theorem rowB_own {base : Nat} {w : World} {v : Value} {e : TypeId} {s n : Nat} {xs : List Value} (h : w.ownsRow base e s v n xs) : (Res.rowB true v e s n xs).ok base w :=
  ⟨fun _ => Res.lift (r := .row v e s n xs) h (Nat.zero_le _), fun _ hb => Res.low (r := .row v e s n xs) h hb.2, rowB_keep⟩
theorem rowB_no {base : Nat} {w : World} {v : Value} {e : TypeId} {s n : Nat} {xs : List Value} : (Res.rowB false v e s n xs).ok base w :=
  ⟨(fun h => by cases h), (fun _ hb => by cases hb.1), rowB_keep⟩
theorem MemOk.rowB0 {w₀ w : World} {L : Heap} (h : MemOk w₀ L w) (i : Nat) (v : Value) (e : TypeId) (s n : Nat) (xs : List Value) : MemOk w₀ ((i, .rowB false v e s n xs) :: L) w :=
  h.set i _ h.ext rowB_no (fun _ _ _ _ _ _ => ⟨rfl, fun hb => by cases hb.1⟩)
theorem MemOk.rowB2 {w₀ w : World} {L : Heap} (h : MemOk w₀ L w) (i j : Nat) {t1 t2 : Bool} {v1 v2 : Value} {e : TypeId} {s n1 n : Nat} {xs1 xs2 : List Value} (hi : lk L i = some (.rowB t1 v1 e s n1 xs1)) (hj : lk L j = some (.rowB t2 v2 e s n xs2)) (hs : t2 = false → v2 = v1 ∧ n = n1 ∧ xs2 = xs1) (hij : Nat.beq i j = false) :
    MemOk w₀ ((i, .rowB (t1 || t2) v2 e s n xs2) :: (j, .no) :: L) w := by
  have hne : i ≠ j := fun e => by subst e; rw [Nat.beq_refl] at hij; cases hij
  have ok1 := h.own i _ hi
  have ok2 := h.own j _ hj
  have h0 : MemOk w₀ ((j, .no) :: L) w := h.set j _ h.ext ⟨trivial, (fun _ hb => hb.elim), fun _ _ _ _ => trivial⟩ (fun _ _ _ _ b _ => ⟨rfl, id⟩)
  cases t2 with
  | false =>
    obtain ⟨rfl, rfl, rfl⟩ := hs rfl
    rw [Bool.or_false]
    exact h0.set i _ h0.ext ok1 (fun k r hk hki b hb => ⟨rfl, fun hF => by
      by_cases e2 : j = k
      · subst e2; rw [lk_cons_same] at hk; cases hk; exact hb
      · rw [lk_cons_other _ _ e2] at hk
        exact h.sep i k _ _ hi hk (Ne.symm hki) b hF hb⟩)
  | true =>
    rw [Bool.or_true]
    exact h0.set i _ h0.ext ok2 (fun k r hk hki b hb => ⟨rfl, fun hF => by
      by_cases e2 : j = k
      · subst e2; rw [lk_cons_same] at hk; cases hk; exact hb
      · rw [lk_cons_other _ _ e2] at hk
        exact h.sep j k _ _ hj hk e2 b hF hb⟩)
theorem MemOk.rowB {w₀ w : World} {L : Heap} (h : MemOk w₀ L w) (i : Nat) {t : Bool} {v : Value} {e : TypeId} {s n : Nat} {xs : List Value} (hi : lk L i = some (.rowB t v e s n xs)) : t = true → w.ownsRow 0 e s v n xs := (h.own i _ hi).1
theorem rowB_at {α : Type} {s : Nat} {f : α → List Value} {t : Bool} {a a' : Option Addr} {cap cap' n : Nat} {e : TypeId} {l l' : List α} {w : World} (hf : ∀ x, (f x).length = s) (h : t = true → w.ownsRow 0 e s (.slice a' n cap') n (l'.flatMap f)) (hn : n = l'.length) (ho : t = false → a' = a ∧ cap' = cap ∧ l' = l) (hv : SliceAt w a cap s f l) : SliceAt w a' cap' s f l' := by
  cases t with
  | false => obtain ⟨rfl, rfl, rfl⟩ := ho rfl; exact hv
  | true => exact SliceAt.own hf (h rfl) hn rfl
theorem rowB_cap {s : Nat} {t : Bool} {a a' : Option Addr} {cap cap' n : Nat} {e : TypeId} {xs : List Value} {w : World} (h : t = true → w.ownsRow 0 e s (.slice a' n cap') n xs) (ho : t = false → a' = a ∧ cap' = cap) (hc : cap ≤ Go.maxLen) : cap' ≤ Go.maxLen := by
  cases t with
  | false => rw [(ho rfl).2]; exact hc
  | true => exact row_cap (h rfl)
end Go.Proofs.Ytbiapeaghbndoaa
