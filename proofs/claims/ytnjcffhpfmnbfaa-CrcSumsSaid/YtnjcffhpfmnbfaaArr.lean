/- Arrays of whole numbers, compared. Over any program. -/
import Derived.Test.YtnjcffhpfmnbfaaLst
namespace Go.Proofs.Ytnjcffhpfmnbfaa
open Go Go.RowKit
section
variable {P : Program} {w : World}
theorem run_equalArr {t e : TypeId} {n : Nat} {k : IntKind} {l m : List Int} (ht : arrOf P t = some (n, e)) (hk : intOf? P e = some k) (hs : szOf P e = some 1) (hl : l.length = n) (hm : m.length = n) :
    (Op.equal t (.agg (l.map (Value.int k)).toArray) (.agg (m.map (Value.int k)).toArray)).run P w = .ok (decide (l = m)) w := by
  have ha : aggOf P e = some false := by simp only [aggOf, und_int hk, Option.map_some]
  have key : (Op.equal t (.agg (l.map (Value.int k)).toArray) (.agg (m.map (Value.int k)).toArray)).run P w = .ok ((List.range n).all fun i => match l[i]?, m[i]? with | some x, some y => decide (x = y) | _, _ => false) w := by
    refine run_eqArr (P := P) (fun i => match l[i]?, m[i]? with | some x, some y => decide (x = y) | _, _ => false) ht hs fun i hi' => ?_
    obtain ⟨x, hx⟩ : ∃ x, l[i]? = some x := ⟨_, List.getElem?_eq_getElem (by omega)⟩
    obtain ⟨y, hy⟩ : ∃ x, m[i]? = some x := ⟨_, List.getElem?_eq_getElem (by omega)⟩
    refine ⟨.int k x, .int k y, run_part_one ha ?_, run_part_one ha ?_, ?_⟩
    · rw [Nat.mul_one, List.getElem?_toArray, List.getElem?_map, hx]; rfl
    · rw [Nat.mul_one, List.getElem?_toArray, List.getElem?_map, hy]; rfl
    · rw [hx, hy]
      unfold Op.equalIn
      rw [run_underlying (und_int hk)]
      simp only [if_true]
      rfl
  rw [key]
  congr 1
  by_cases h : l = m
  · subst h
    rw [decide_eq_true rfl]
    refine List.all_eq_true.2 fun i hi' => ?_
    have hi' := List.mem_range.1 hi'
    obtain ⟨x, hx⟩ : ∃ x, l[i]? = some x := ⟨_, List.getElem?_eq_getElem (by omega)⟩
    rw [hx]
    exact decide_eq_true rfl
  · rw [decide_eq_false h]
    refine Bool.eq_false_iff.2 fun hall => h ?_
    have hall := List.all_eq_true.1 hall
    refine List.ext_getElem (by omega) fun i h1 h2 => ?_
    have := hall i (List.mem_range.2 (by omega))
    rw [List.getElem?_eq_getElem h1, List.getElem?_eq_getElem h2] at this
    exact of_decide_eq_true this
end
end Go.Proofs.Ytnjcffhpfmnbfaa
