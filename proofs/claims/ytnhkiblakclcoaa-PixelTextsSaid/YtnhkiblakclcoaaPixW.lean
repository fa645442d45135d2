/- pixel: contracts of the layer's functions, in colours; Nearest's steps. -/
import Derived.Test.YtnhkiblakclcoaaPix
import Derived.Test.YtnhkiblakclcoaaRefs
import Derived.Test.YtnhkiblakclcoaaClEq
import Derived.Test.YtnhkiblakclcoaaW
namespace Go.Proofs.Ytnhkiblakclcoaa
open Go.RowKit
theorem over_c (x y : C4) (w : World) (hx : x.ok) (hy : y.ok) : Calls Try.prog 20 #[x.v, y.v] w fun e w' => e = .returned (overC x y).v ∧ Below w.heap.size w w' :=
  over_any _ _ _ _ _ _ _ _ w hx.1 hx.2.1 hx.2.2.1 hx.2.2.2 hy.1 hy.2.1 hy.2.2.1 hy.2.2.2
theorem mix_c (x y : C4) (p : Int) (w : World) (hx : x.ok) (hy : y.ok) (hp : ok8 p) : Calls Try.prog 21 #[x.v, y.v, .int .u8 p] w fun e w' => e = .returned (mixC x y p).v ∧ Below w.heap.size w w' :=
  mix_any _ _ _ _ _ _ _ _ _ w hx.1 hx.2.1 hx.2.2.1 hx.2.2.2 hy.1 hy.2.1 hy.2.2.1 hy.2.2.2 hp
theorem far_c (x y : C4) (w : World) (hx : x.ok) (hy : y.ok) : Calls Try.prog 17 #[x.v, y.v] w fun e w' => e = .returned (.int .i64 (farC x y)) ∧ Below w.heap.size w w' :=
  far_any _ _ _ _ _ _ _ _ w hx.1 hx.2.1 hx.2.2.1 hx.2.2.2 hy.1 hy.2.1 hy.2.2.1 hy.2.2.2
theorem near_c (x y : C4) (t : Int) (w : World) (hx : x.ok) (hy : y.ok) : Calls Try.prog 18 #[x.v, y.v, .int .i64 t] w fun e w' => e = .returned (.bool (decide (farC x y ≤ t))) ∧ Below w.heap.size w w' :=
  near_any _ _ _ _ _ _ _ _ t w hx.1 hx.2.1 hx.2.2.1 hx.2.2.2 hy.1 hy.2.1 hy.2.2.1 hy.2.2.2
theorem fold_ok {l : List C4} : ∀ {u : C4}, u.ok → (∀ c ∈ l, c.ok) → (l.foldl overC u).ok := by
  induction l with
  | nil => exact fun hu _ => hu
  | cons c l ih => exact fun hu hl => ih (overC_ok hu (hl c (by simp))) (fun d hd => hl d (by simp [hd]))
theorem getD_of {l : List C4} {k : Nat} {x z : C4} (h : l[k]? = some x) : l.getD k z = x := by simp [h]
theorem near_neg {c : C4} {l : List C4} {k : Nat} {b : Int} (h : nearN c l k = b) (hn : b < 0) : (k : Int) = nearN c l (k + 1) := by
  unfold nearN; rw [h, if_pos (.inl hn)]
theorem near_lt {c : C4} {l : List C4} {k j : Nat} {x y : C4} (h : nearN c l k = (j : Int)) (hx : l[k]? = some x) (hy : l[j]? = some y) (hlt : farC c x < farC c y) : (k : Int) = nearN c l (k + 1) := by
  unfold nearN; rw [h, if_pos (.inr (by rw [getD_of hx, Int.toNat_natCast, getD_of hy]; exact hlt))]
theorem near_ge {c : C4} {l : List C4} {k j : Nat} {x y : C4} (h : nearN c l k = (j : Int)) (hx : l[k]? = some x) (hy : l[j]? = some y) (hlt : ¬ farC c x < farC c y) : (j : Int) = nearN c l (k + 1) := by
  unfold nearN; rw [h, if_neg]
  rintro (h1 | h1)
  · omega
  · rw [getD_of hx, Int.toNat_natCast, getD_of hy] at h1; exact hlt h1
end Go.Proofs.Ytnhkiblakclcoaa
