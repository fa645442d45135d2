/- Small laws on rows that are appended to. Over any program. -/
import Derived.Test.YtnhkiblakclcoaaLib
import Derived.Maps.AppendAt
namespace Go.Proofs.Ytnhkiblakclcoaa
open Go Go.RowKit

/-- A block of cells of another type is no row's own block: it lies on behind an append. -/
theorem row_keeps {W w1 : World} {n₀ : Nat} {t e : TypeId} {size k : Nat} {v : Value} {xs : List Value} {c : Array Value} {f : Nat × Nat} {b : Nat} {tmp : Obj}
    (hrow : W.ownsRow n₀ e size v k xs) (hb : hp W b = some (.cells c t f)) (hte : t ≠ e) (hg : (W.alloc tmp).grownBy w1 v.ownBlock) : hp w1 b = some (.cells c t f) := by
  have h1 := hp_old tmp hb
  refine (hg.block b (hp_lt h1) ?_).trans h1
  rcases hrow.2 with ⟨rfl, _⟩ | ⟨g, cap, cur, rfl, _, hgb, _⟩
  · simp [Value.ownBlock]
  · intro e'
    obtain rfl : b = g := by simpa [Value.ownBlock] using e'
    have := (show W.heap[b]? = _ from hb).symm.trans hgb
    simp at this
    exact hte this.2.1

/-- The cells of an owned row. -/
theorem row_cells {W : World} {n₀ : Nat} {e : TypeId} {g k cap : Nat} {xs : List Value} (hrow : W.ownsRow n₀ e 1 (.slice (some ⟨g, 0, none⟩) k cap) k xs) :
    ∀ j u, xs[j]? = some u → W.cell? ⟨g, j, none⟩ = some u := by
  intro j u hj
  rcases hrow.2 with ⟨h, _⟩ | ⟨g', cap', cur, hv, _, hgb, _, _, _, htk⟩
  · cases h
  · simp at hv
    obtain ⟨rfl, rfl⟩ := hv
    rw [← htk, Nat.mul_one, List.getElem?_take] at hj
    split at hj
    · exact cell_of hgb (by simpa using hj)
    · cases hj

/-- Bytes that lie in a row, as a string. -/
theorem conv_row {P : Program} {W : World} {src dst e : TypeId} {g k cap : Nat} (ns : List Int) (hs : P.underlying src = some (.slice e)) (he : P.underlying e = some (.int .u8)) (hd : P.underlying dst = some .string)
    (hl : ns.length = k) (h : ∀ j u, (ns.map (Value.int .u8))[j]? = some u → W.cell? ⟨g, j, none⟩ = some u) :
    (convert src dst (.slice (some ⟨g, 0, none⟩) k cap)).run P W = .ok (.string (ns.foldl (fun r n => r.push (UInt8.ofNat n.toNat)) ByteArray.empty)) W := by
  rw [run_convert_bytes_string W src dst e _ _ _ hs he hd]
  refine run_bytesToString W _ k cap ns ?_
  have e0 : ∀ j, (⟨g, 0, none⟩ : Addr).add j = ⟨g, j, none⟩ := fun j => by
    unfold Addr.add
    split
    · rename_i hj; rw [hj]
    · rw [Nat.zero_add]
  have := run_loadCells_list (P := P) (w := W) ⟨g, 0, none⟩ (ns.map (Value.int .u8)) (fun j v hv => by rw [e0]; exact h j v hv)
  rwa [List.length_map, hl] at this

end Go.Proofs.Ytnhkiblakclcoaa
