/- The end of a deferred closure that recovers. Over any program. -/
import Derived.Test.YtnhkiblakclcoaaLib
namespace Go.Proofs.Ytnhkiblakclcoaa
open Go Go.RowKit

/-- The code ends by itself, or by a return; no deferred calls are left. -/
def plainEnd (R : World → Prop) : Exit → Act → World → Prop
  | .normal, a, w => a.defers = [] ∧ R w
  | .ret, a, w => a.defers = [] ∧ R w
  | _, _, _ => False

theorem wpS_plain {P : Program} {fn : Func} {c : Code} {c₀ : Frame} {cs : List Frame} {u : FrameMode} {a : Act} {w : World} {R : Ending → FrameMode → World → Prop} (Rw : World → Prop)
    (hr : fn.results = #[]) (h : c.wp P (plainEnd Rw) a w) (hR : ∀ w', Rw w' → R (.returned (.tuple #[])) u w') :
    c.wpS P (bodyPostS P fn c₀ cs R) a ({ c₀ with mode := u } :: cs) w := by
  refine wpS_of_wp (Code.wp_mono ?_ h)
  intro e a' w' he
  cases e with
  | normal => exact ⟨he.1, u, rfl, _, results_none hr _ _ _, hR _ he.2⟩
  | ret => exact ⟨he.1, u, rfl, _, results_none hr _ _ _, hR _ he.2⟩
  | exit id => exact he.elim
  | goto l => exact he.elim
  | panic ch => exact he.elim
  | outgrown => exact he.elim

theorem frame_mode (c₀ : Frame) {u : FrameMode} (h : c₀.mode = u) : { c₀ with mode := u } = c₀ := by subst h; rfl

end Go.Proofs.Ytnhkiblakclcoaa
