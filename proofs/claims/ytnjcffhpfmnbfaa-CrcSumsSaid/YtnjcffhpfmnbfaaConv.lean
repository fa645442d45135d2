/- A row of bytes told as its own type (a constant string's bytes). Over any program. -/
import Derived.Test.YtnjcffhpfmnbfaaBit2
namespace Go.Proofs.Ytnjcffhpfmnbfaa
open Go Go.RowKit
section
variable {P : Program} {w : World} {ρ : Operand → Value} {d : Option Tmp} {ty : TypeId} {ps : String} {af : Array Edge} {g : Option (Nat × Bool)} {x : Operand}
theorem hp_freeze {w : World} {b k : Nat} {cs : Array Value} {T : TypeId} (hb : hp w b = some (.cells cs T (0, 0))) : Upd w b (.cells cs T (k, k + 1)) (w.freeze ⟨b, k, none⟩ 1) := by
  unfold World.freeze
  rw [if_neg (by decide)]
  refine ⟨rfl, rfl, rfl, by simp, ?_, fun j hj => ?_⟩
  · show (w.heap.modify b _)[b]? = _
    have hb' : w.heap[b]? = some (.cells cs T (0, 0)) := hb
    rw [Array.getElem?_modify, if_pos rfl, hb']; rfl
  · show (w.heap.modify b _)[j]? = w.heap[j]?
    rw [Array.getElem?_modify, if_neg (fun h => hj h.symm)]
theorem r_convBytes {t e : TypeId} {b n c : Nat} {cs : Array Value} {T : TypeId} (ht : sliOf P t = some e) (he : intOf? P e = some .u8) (hx : ρ x = .slice (some ⟨b, 0, none⟩) n c) (hb : hp w b = some (.cells cs T (0, 0))) :
    ∃ w', (execOp ρ (mk d (.convert t t x) ty ps af g)).run P w = .ok (.value (.slice (some ⟨b, 0, none⟩) n c)) w' ∧ Upd w b (.cells cs T (cs.size, cs.size + 1)) w' := by
  refine ⟨w.freeze ⟨b, cs.size, none⟩ 1, run_v ?_, hp_freeze hb⟩
  rw [hx]
  have hb' : w.heap[b]? = some (.cells cs T (0, 0)) := hb
  have hsh : w.shape? b = some (T, cs.size) := by unfold World.shape?; rw [hb']
  have hu := und_sli ht
  have hi : P.underlying e = some (.int .u8) := und_int he
  simp [convert, run_underlying hu, run_underlying hi, markStringish, hsh]
end
end Go.Proofs.Ytnjcffhpfmnbfaa
