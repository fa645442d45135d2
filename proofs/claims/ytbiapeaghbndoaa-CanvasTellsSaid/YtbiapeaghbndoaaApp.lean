/- append, onto a slice whose room is used up. Over any program. -/
import Derived.Test.YtbiapeaghbndoaaCall
namespace Go.Proofs.Ytbiapeaghbndoaa
open Go Go.RowKit
section
variable {P : Program} {w : World}
theorem run_appendF {w₀ : World} {L : Heap} (hm : MemOk w₀ L w) {t ty e : TypeId} {s by' n m cap : Nat} {a : Option Addr} {z v2 : Value} {xs news : List Value} (i : Nat) (hfr : lk L i = none) (ht : sliOf P t = some e) (hs : szOf P e = some s) (hby : byOf P e = some by') (hz : zeroOf P e = some z) (hzs : z.cells.size = s)
    (hcap : cap = n) (hdst : Src w (.slice a n cap) s n xs) (hm0 : 0 < m) (hsrc : Src w v2 s m news) (h63 : n + m ≤ 4611686018427387904) (hb : (n + m) * by' ≤ 140737488355328) :
    ∃ a' cap' w', (Builtin.append_ #[t, t] ty #[.slice a n cap, v2]).run P w = .ok (.slice a' (n + m) cap') w' ∧ MemOk w₀ ((i, .row (.slice a' (n + m) cap') e s (n + m) (xs ++ news)) :: L) w' := by
  obtain ⟨ti, hi, hsz⟩ := Option.map_eq_some_iff.1 hs
  obtain ⟨ti', hi', hbz⟩ := Option.map_eq_some_iff.1 hby
  rw [hi] at hi'; cases hi'
  have hzz : ti.zero = some z := by simpa [zeroOf, hi] using hz
  subst hcap
  rcases hsrc with ⟨_, h0, _⟩ | ⟨_, _, _, h0, _⟩ | ⟨b2, off2, cap2, rfl, hl2, hc2⟩
  · omega
  · omega
  have grown : ∀ old, old < cap + m → xs.length = cap * s →
      MemOk w₀ ((i, .row (.slice (some ⟨w.heap.size, 0, none⟩) (cap + m) (grownCap w (cap + m) old e)) e s (cap + m) (xs ++ news)) :: L) (w.drew.alloc (.cells (xs.toArray ++ news.toArray ++ Builtin.zeroCells z.cells (grownCap w (cap + m) old e - (cap + m))) e)) := by
    intro old ho hxl
    have hge := grownCap_ge w (cap + m) old e
    have hcm : grownCap w (cap + m) old e ≤ Go.maxLen := grownCap_le_maxLen w (cap + m) old e (by unfold Go.maxLen; omega)
    refine hm.grow (n := 0) (xs := []) (.inr ⟨hfr, (rfl : (Value.slice none 0 0).ownBlock = none)⟩) ⟨rfl, rfl, rfl, by simp, fun k hk _ => Go.heap_alloc_old w.drew _ k hk⟩ ⟨by rw [List.length_append, hxl, hl2, Nat.add_mul], .inr ⟨w.heap.size, _, _, rfl, hm.ext.size, Go.heap_alloc_new w.drew _, hge, hcm, ?_, ?_⟩⟩ (.inr rfl)
    · simp only [Array.size_append, List.size_toArray, size_zeroCells, hzs, hxl, hl2, ← Nat.add_mul]
      congr 1
      omega
    · simp only [Array.toList_append, List.append_assoc]
      rw [← List.append_assoc, ← (show (xs ++ news).length = (cap + m) * s by rw [List.length_append, hxl, hl2, Nat.add_mul])]
      exact List.take_left
  have h2 : ∀ j u, news[j]? = some u → w.cell? ((⟨b2, off2, none⟩ : Addr).add j) = some u := fun j u hu => by rw [addr_add]; exact hc2 j u hu
  rw [← hsz] at hl2
  rcases hdst with ⟨h1, hn, hx⟩ | ⟨x, c, h1, hn, hx⟩ | ⟨b, off, c, h1, hl, hcell⟩
  · cases h1; subst hx
    have hr := run_append_nil (P := P) w t ty e ti z (und_sli ht) hi hzz ⟨b2, off2, none⟩ m cap2 news hl2 h2 hm0 (by omega) (by rw [hbz]; rw [Nat.zero_add] at hb; omega)
    have hg := grown 0 (by omega) (by simp)
    simp only [Nat.zero_add, List.nil_append, Array.empty_append] at hg ⊢
    exact ⟨_, _, _, hr, hg⟩
  · cases h1
    have hr := run_append_grow (P := P) w t ty e ti z (und_sli ht) hi hzz x 0 0 [] (by simp) (fun j u hu => by simp at hu) ⟨b2, off2, none⟩ m cap2 news hl2 h2 (by omega) (by omega) (growslice_fits (by omega) (by rw [hbz]; omega))
    subst hx
    exact ⟨_, _, _, hr, grown 0 (by omega) (by simp)⟩
  · cases h1
    have hr := run_append_grow (P := P) w t ty e ti z (und_sli ht) hi hzz ⟨b, off, none⟩ cap cap xs (by rw [hl, hsz]) (fun j u hu => by rw [addr_add]; exact hcell j u hu) ⟨b2, off2, none⟩ m cap2 news hl2 h2 (by omega) (by omega) (growslice_fits (by omega) (by rw [hbz]; omega))
    exact ⟨_, _, _, hr, grown cap (by omega) hl⟩
end
section
variable {C : Cx} {ops : Array Oper} {os : List Oper} {Q : Post} {K : List (Nat × Value)} {L : Heap}
theorem TL_appendF {d : Nat} {x y : Operand} {ats : Array TypeId} {ty : TypeId} {ps : String} {af : Array Edge} {g : Option (Nat × Bool)} {t e : TypeId} {s by' n m cap : Nat} {a : Option Addr} {z v2 : Value} {xs news : List Value} (i : Nat) (hfr : lk L i = none) (hx : ev K x = some (.slice a n cap)) (hy : ev K y = some v2) (hat : ats = #[t, t])
    (ht : sliOf C.P t = some e) (hs : szOf C.P e = some s) (hby : byOf C.P e = some by') (hz : zeroOf C.P e = some z) (hzs : z.cells.size = s) (hcap : cap = n) (hm0 : 0 < m)
    (hdst : ∀ w, MemOk C.w₀ L w → Src w (.slice a n cap) s n xs) (hsrc : ∀ w, MemOk C.w₀ L w → Src w v2 s m news) (h63 : n + m ≤ 4611686018427387904) (hb : (n + m) * by' ≤ 140737488355328)
    (hN : Nat.blt d C.N = true) (hw : Want ops K (mk (some d) (.call { callee := .builtin .append, args := #[x, y], argTypes := ats }) ty ps af g) true)
    (h : ∀ a cap, TL C ops os Q ((d, .slice a (n + m) cap) :: K) ((i, .row (.slice a (n + m) cap) e s (n + m) (xs ++ news)) :: L)) : TL C ops (mk (some d) (.call { callee := .builtin .append, args := #[x, y], argTypes := ats }) ty ps af g :: os) Q K L := by
  intro ac w hf hm
  subst hat
  unfold wpListIn
  rw [hw.is hf, if_pos rfl]
  obtain ⟨a', cap', w', hr, hm'⟩ := run_appendF (P := C.P) (ty := ty) hm i hfr ht hs hby hz hzs hcap (hdst w hm) hm0 (hsrc w hm) h63 hb
  refine step_val (v := .slice a' (n + m) cap') (w' := w') rfl ?_ (h a' cap' _ _ (hf.put _ hN) hm')
  rw [run_builtin]
  simp only [List.map_toArray, List.map_cons, List.map_nil, hf.rd _ _ hx, hf.rd _ _ hy]
  exact run_v hr
end
section
variable {C : Cx} {R : Rg} {Q : Post} {K0 V : List (Nat × Value)} {lo : Nat} {L : Heap}
theorem LOb_appendF {c d : Nat} {x y : Operand} {ats : Array TypeId} {ty : TypeId} {ps : String} {af : Array Edge} {g : Option (Nat × Bool)} {t e : TypeId} {s by' n m cap : Nat} {a : Option Addr} {z v2 : Value} {xs news : List Value} (i : Nat) (nws : Option Addr → Nat → List (Nat × Value)) (hfr : lk L i = none)
    (ho : R.ops[c]? = some (mk (some d) (.call { callee := .builtin .append, args := #[x, y], argTypes := ats }) ty ps af g)) (hw : WantV V (mk (some d) (.call { callee := .builtin .append, args := #[x, y], argTypes := ats }) ty ps af g) true)
    (hx : ev (kOf K0 V (R.S.getD c [])) x = some (.slice a n cap)) (hy : ev (kOf K0 V (R.S.getD c [])) y = some v2) (hat : ats = #[t, t])
    (ht : sliOf C.P t = some e) (hs : szOf C.P e = some s) (hby : byOf C.P e = some by') (hz : zeroOf C.P e = some z) (hzs : z.cells.size = s) (hcap : cap = n) (hm0 : 0 < m)
    (hdst : ∀ w, MemOk C.w₀ L w → Src w (.slice a n cap) s n xs) (hsrc : ∀ w, MemOk C.w₀ L w → Src w v2 s m news) (h63 : n + m ≤ 4611686018427387904) (hb : (n + m) * by' ≤ 140737488355328)
    (hnew : ∀ a cap, newsOk R c (nws a cap) = true) (h : ∀ a cap, G C R Q K0 (lo ||| 2 ^ c) (nws a cap ++ (c, .slice a (n + m) cap) :: V) ((i, .row (.slice a (n + m) cap) e s (n + m) (xs ++ news)) :: L)) : LOb C R Q K0 lo V L c := by
  subst hat
  refine ⟨_, ho, hw, fun ac w next hrd hm _ hnext => ?_⟩
  obtain ⟨a', cap', w', hr, hm'⟩ := run_appendF (P := C.P) (ty := ty) hm i hfr ht hs hby hz hzs hcap (hdst w hm) hm0 (hsrc w hm) h63 hb
  refine step_val (v := .slice a' (n + m) cap') (w' := w') rfl ?_ ?_
  · rw [run_builtin]
    simp only [List.map_toArray, List.map_cons, List.map_nil, hrd _ _ hx, hrd _ _ hy]
    exact run_v hr
  · have hnw := hnew a' cap'
    simp only [newsOk, Bool.and_eq_true, Bool.not_eq_true'] at hnw
    exact hnext _ _ _ _ (.inl (lk_app _ _ _ hnw.2)) (extV _ _ _ hnw.1) hm' (h a' cap')
end
end Go.Proofs.Ytbiapeaghbndoaa
