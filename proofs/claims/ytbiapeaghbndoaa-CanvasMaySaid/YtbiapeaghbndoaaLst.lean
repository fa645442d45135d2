/- Arrays told by the list of their elements. Over any program. -/
import Derived.Test.YtbiapeaghbndoaaHeap
namespace Go.Proofs.Ytbiapeaghbndoaa
open Go Go.RowKit

/-- The cells of the elements, one behind the other. -/
def lst {α : Type} (f : α → List Value) (l : List α) : Array Value := (l.flatMap f).toArray
section
variable {α : Type} {s : Nat} {f : α → List Value} {l : List α}
theorem flat_len (hf : ∀ x, (f x).length = s) : ∀ l : List α, (l.flatMap f).length = l.length * s
  | [] => by simp
  | x :: l => by rw [List.flatMap_cons, List.length_append, hf, flat_len hf l, List.length_cons, Nat.add_mul, Nat.one_mul, Nat.add_comm]
theorem lst_size (hf : ∀ x, (f x).length = s) (l : List α) : (lst f l).size = l.length * s := by
  unfold lst; rw [List.size_toArray]; exact flat_len hf l
theorem row_lst (hf : ∀ x, (f x).length = s) (l : List α) : Row s f (lst f l) 0 l :=
  row_of_take hf (by unfold lst; rw [List.take_of_length_le (by rw [flat_len hf]; exact Nat.le_refl _)])
theorem wrC_list : ∀ (vs xs pre post : List Value), xs.length = vs.length → wrC (pre ++ xs ++ post).toArray pre.length vs = (pre ++ vs ++ post).toArray
  | [], xs, pre, post, h => by
    have : xs = [] := List.eq_nil_of_length_eq_zero h
    subst this; rfl
  | v :: vs, [], pre, post, h => by simp at h
  | v :: vs, x :: xs, pre, post, h => by
    have ih := wrC_list vs xs (pre ++ [v]) post (by simpa using h)
    have e : ((pre ++ x :: xs ++ post).toArray).setIfInBounds pre.length v = (pre ++ [v] ++ xs ++ post).toArray := by
      apply Array.ext'
      simp [List.set_append]
    show wrC (((pre ++ x :: xs ++ post).toArray).setIfInBounds pre.length v) (pre.length + 1) vs = _
    rw [e]
    rw [List.length_append, List.length_singleton] at ih
    rw [ih]
    simp
theorem flat_set (hf : ∀ x, (f x).length = s) {i : Nat} (hi : i < l.length) (x : α) : ∃ pre xs post, l.flatMap f = pre ++ xs ++ post ∧ pre.length = i * s ∧ xs.length = s ∧ (l.set i x).flatMap f = pre ++ f x ++ post := by
  refine ⟨(l.take i).flatMap f, f l[i], (l.drop (i + 1)).flatMap f, ?_, ?_, hf _, ?_⟩
  · have : l = l.take i ++ l[i] :: l.drop (i + 1) := by rw [List.getElem_cons_drop, List.take_append_drop]
    conv => lhs; rw [this]
    rw [List.flatMap_append, List.flatMap_cons, List.append_assoc]
  · rw [flat_len hf, List.length_take, Nat.min_eq_left (Nat.le_of_lt hi)]
  · rw [List.set_eq_take_append_cons_drop, if_pos hi, List.flatMap_append, List.flatMap_cons, List.append_assoc]
theorem wrC_lst (hf : ∀ x, (f x).length = s) {i : Nat} (hi : i < l.length) (x : α) : wrC (lst f l) (i * s) (f x) = lst f (l.set i x) := by
  obtain ⟨pre, xs, post, e1, e2, e3, e4⟩ := flat_set hf hi x
  unfold lst
  rw [e1, e4, ← e2]
  exact wrC_list _ _ _ _ (by rw [e3, hf])
variable {P : Program} {w : World} {ρ : Operand → Value} {d : Option Tmp} {ty : TypeId} {ps : String} {af : Array Edge} {g : Option (Nat × Bool)} {x y : Operand}
theorem r_storeLst {t : TypeId} {b i : Nat} {T : TypeId} {v : Value} {u : α} (hs : szOf P t = some s) (hx : ρ x = .pointer (some ⟨b, 0 + i * s, none⟩)) (hy : ρ y = v) (hb : hp w b = some (.cells (lst f l) T (0, 0))) (hf : ∀ x, (f x).length = s)
    (hi : i < l.length) (hv : v.cells = (f u).toArray) (ho : (f u).all isOne = true) : ∃ w', (execOp ρ (mk d (.store t x y) ty ps af g)).run P w = .ok .skip w' ∧ Upd w b (.cells (lst f (l.set i u)) T (0, 0)) w' := by
  refine r_store hs hx hy hb (by rw [hv, List.size_toArray, hf]) ?_ (by rw [hv]; exact ho) ?_
  · rw [lst_size hf]
    refine Nat.ble_eq_true_of_le ?_
    have := Nat.mul_le_mul_right s (show i + 1 ≤ l.length from hi)
    rw [Nat.add_mul, Nat.one_mul] at this
    omega
  · rw [hv, Nat.zero_add]; exact wrC_lst hf hi u
/-- All of it is written anew. -/
theorem r_storeAll {t : TypeId} {b : Nat} {T : TypeId} {cs cs' : Array Value} {n : Nat} (hs : szOf P t = some n) (hx : ρ x = .pointer (some ⟨b, 0, none⟩)) (hy : ρ y = .agg cs') (hb : hp w b = some (.cells cs T (0, 0))) (h1 : cs.size = n) (h2 : cs'.size = n)
    (ho : cs'.toList.all isOne = true) : ∃ w', (execOp ρ (mk d (.store t x y) ty ps af g)).run P w = .ok .skip w' ∧ Upd w b (.cells cs' T (0, 0)) w' := by
  refine r_store hs hx hy hb h2 (by rw [h1, Nat.zero_add]; exact Nat.ble_self_eq_true n) ho ?_
  have := wrC_list cs'.toList cs.toList [] [] (by simp [h1, h2])
  show wrC cs 0 cs'.toList = cs'
  simpa using this
theorem lst_one (ho : ∀ x, (f x).all isOne = true) (l : List α) : (lst f l).toList.all isOne = true := by
  unfold lst
  rw [List.all_flatMap]
  exact List.all_eq_true.2 fun x _ => ho x
/-- Two of them are compared. -/
theorem run_equalLst {t e : TypeId} {n : Nat} {il : List (Nat × IntKind)} {l m : List α} [DecidableEq α] (ht : arrOf P t = some (n, e)) (hs : szOf P e = some s) (ha : aggOf P e = some true) (hi : intStr P e = some il) (hf : ∀ x, (f x).length = s) (hl : l.length = n) (hm : m.length = n)
    (hfit : ∀ x, fitI (f x).toArray il = true) (heq : ∀ x y, eqI (f x).toArray (f y).toArray il = true → x = y) : (Op.equal t (.agg (lst f l)) (.agg (lst f m))).run P w = .ok (decide (l = m)) w := by
  have key : (Op.equal t (.agg (lst f l)) (.agg (lst f m))).run P w = .ok ((List.range n).all fun i => match l[i]?, m[i]? with | some x, some y => eqI (f x).toArray (f y).toArray il | _, _ => false) w := by
    refine run_eqArr (P := P) (fun i => match l[i]?, m[i]? with | some x, some y => eqI (f x).toArray (f y).toArray il | _, _ => false) ht hs fun i hi' => ?_
    obtain ⟨x, hx⟩ : ∃ x, l[i]? = some x := ⟨_, List.getElem?_eq_getElem (by omega)⟩
    obtain ⟨y, hy⟩ : ∃ x, m[i]? = some x := ⟨_, List.getElem?_eq_getElem (by omega)⟩
    refine ⟨.agg (f x).toArray, .agg (f y).toArray, ?_, ?_, ?_⟩
    · rw [run_part_agg ha hs]
      have := (row_lst hf l i x hx).2
      rw [Nat.zero_add] at this
      rw [this]
    · rw [run_part_agg ha hs]
      have := (row_lst hf m i y hy).2
      rw [Nat.zero_add] at this
      rw [this]
    · rw [hx, hy]
      exact run_eqIntS hi (hfit x) (hfit y)
  rw [key]
  congr 1
  by_cases h : l = m
  · subst h
    rw [decide_eq_true rfl]
    refine List.all_eq_true.2 fun i hi' => ?_
    have hi' := List.mem_range.1 hi'
    obtain ⟨x, hx⟩ : ∃ x, l[i]? = some x := ⟨_, List.getElem?_eq_getElem (by omega)⟩
    rw [hx]
    exact eqI_self _ _
  · rw [decide_eq_false h]
    refine Bool.eq_false_iff.2 fun hall => h ?_
    have hall := List.all_eq_true.1 hall
    refine List.ext_getElem (by omega) fun i h1 h2 => ?_
    have := hall i (List.mem_range.2 (by omega))
    rw [List.getElem?_eq_getElem h1, List.getElem?_eq_getElem h2] at this
    exact heq _ _ this
end
end Go.Proofs.Ytbiapeaghbndoaa
