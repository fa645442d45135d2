/- A scope with jumps back to one label. Over any program. -/
import Derived.ScopeJumps
import Derived.Test.YtmlkifojbjbpcaaLst
namespace Go.Proofs.Ytmlkifojbjbpcaa
open Go Go.RowKit
theorem least {P : Nat → Prop} : ∀ n, P n → ∃ m, P m ∧ ∀ k, P k → m ≤ k := by
  intro n
  induction n using Nat.strongRecOn with
  | _ n ih =>
    intro h
    by_cases hx : ∃ k, k < n ∧ P k
    · obtain ⟨k, h1, h2⟩ := hx; exact ih k h1 h2
    · exact ⟨n, h, fun k hk => Nat.le_of_not_lt fun hlt => hx ⟨k, hlt, hk⟩⟩
section
variable {C : Cx} {Q : Post} {K : List (Nat × Value)} {L : Heap}
theorem T_jumps {ι : Type} (l : Nat) (p : ι → Prop) (KI : ι → List (Nat × Value)) (LI : ι → Heap) (μ : ι → Nat) {c rest : Code} (hro : C.ro = none) (hl : findLabel c l = some rest)
    (first : T C c (Exit.jump l (At C p KI LI) Q) K L) (pass : ∀ i, p i → T C rest (Exit.jump l (At C (fun j => p j ∧ μ j < μ i) KI LI) Q) (KI i) (LI i)) : T C (.scope c) Q K L := by
  obtain ⟨P, w₀, N, CD, ro⟩ := C
  cases hro
  intro a w hf hm
  let good : Act → World → Nat → Prop := fun a w m => ∃ i, p i ∧ μ i = m ∧ FrOk N CD (KI i) a ∧ MemOk w₀ (LI i) w
  have hex : ∀ a w, ∃ m, (∀ n, good a w n → good a w m) ∧ ∀ k, good a w k → m ≤ k := fun a w => by
    by_cases h : ∃ n, good a w n
    · obtain ⟨n, hn⟩ := h
      obtain ⟨m, h1, h2⟩ := least n hn
      exact ⟨m, fun _ _ => h1, h2⟩
    · exact ⟨0, fun n hn => absurd ⟨n, hn⟩ h, fun k _ => Nat.zero_le _⟩
  let M : Act → World → Nat := fun a w => Classical.choose (hex a w)
  have hM : ∀ a w, (∀ n, good a w n → good a w (M a w)) ∧ ∀ k, good a w k → M a w ≤ k := fun a w => Classical.choose_spec (hex a w)
  refine (wpIn_wide (n := 0)).2 (wp_scope_jumps l (At ⟨P, w₀, N, CD, none⟩ p KI LI) M hl (wpIn_wide.1 (first a w hf hm)) ?_)
  rintro a w ⟨i, hi, hF, hMm⟩
  obtain ⟨i, hi, hμ, hF, hMm⟩ := (hM a w).1 (μ i) ⟨i, hi, rfl, hF, hMm⟩
  refine wpIn_wide.1 (wpIn_mono (pass i hi a w hF hMm) ?_)
  intro e a' w' hq
  cases e with
  | normal => exact hq
  | exit id => exact hq
  | goto l' =>
    obtain ⟨rfl, j, ⟨hj, hlt⟩, h1, h2⟩ := hq
    exact ⟨rfl, ⟨j, hj, h1, h2⟩, by have := (hM a' w').2 (μ j) ⟨j, hj, rfl, h1, h2⟩; omega⟩
  | ret => exact hq
  | panic ch => exact hq
  | outgrown => exact hq
theorem T_goto {l : Nat} (h : POk C Q (.goto l) K L) : T C (.goto l) Q K L := fun a w hf hm => wpIn_goto (h a w hf hm)
theorem p_then_g {next : Act → World → Prop} {l : Nat} (h : POk C Q (.goto l) K L) : POk C (Exit.then next Q) (.goto l) K L := h
theorem p_blk_g {id l : Nat} (h : POk C Q (.goto l) K L) : POk C (Exit.inBlock id Q) (.goto l) K L := h
theorem p_jmp {ι : Type} {p : ι → Prop} {KJ : ι → List (Nat × Value)} {LJ : ι → Heap} {l : Nat} (i : ι) (hp : p i) (hK : SubK K (KJ i)) (hL : SubK L (LJ i)) : POk C (Exit.jump l (At C p KJ LJ) Q) (.goto l) K L :=
  fun _ _ hf hm => ⟨rfl, At_intro i hp hf hm hK hL⟩
theorem p_j_n {l : Nat} {J : Act → World → Prop} (h : POk C Q .normal K L) : POk C (Exit.jump l J Q) .normal K L := h
theorem p_j_r {l : Nat} {J : Act → World → Prop} (h : POk C Q .ret K L) : POk C (Exit.jump l J Q) .ret K L := h
theorem p_j_x {l id : Nat} {J : Act → World → Prop} (h : POk C Q (.exit id) K L) : POk C (Exit.jump l J Q) (.exit id) K L := h
end
end Go.Proofs.Ytmlkifojbjbpcaa
