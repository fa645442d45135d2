/- Texts of this seat, merged: part 6. -/
import Derived.Test.YtcidgbjgeegepaaMg5
/- Arguments that are slices of what lies in memory (slices of slices ..), read. Over any program. -/
namespace Go.Proofs.Ytcidgbjgeegepaa
open Go Go.RowKit Go.ChangeShapes Go.WideShapes Go.Deep
/-- Cells that are read at this type, in this memory, are those of some x. -/
def RdsAt (P : Program) (w : World) (t : TypeId) {α : Type} (f : α → List Value) (ok : α → Prop) : Prop :=
  ∀ (H : Type) (enc : TypeId × Value → H) (base : Nat) (spare : Nat → Bool) (held : Bool) (fuel : Nat) (cs : List Value) (x : DataW H × List MemPlace), DataW.trod enc P w base spare held fuel t cs = some x → ∃ a, cs = f a ∧ ok a
theorem Rds.at {P : Program} {t : TypeId} {α : Type} {f : α → List Value} {ok : α → Prop} (h : Rds P t f ok) (w : World) : RdsAt P w t f ok := fun H enc base spare held fuel cs x hx => h H enc w base spare held fuel cs x hx
theorem RdsAt.mapIf {P : Program} {w : World} {t : TypeId} {α β : Type} {f : α → List Value} {ok : α → Prop} (h : RdsAt P w t f ok) (g : α → β) {f' : β → List Value} {ok' : β → Prop} (hf : ∀ a, ok a → f a = f' (g a)) (ho : ∀ a, ok a → ok' (g a)) : RdsAt P w t f' ok' := by
  intro H enc base spare held fuel cs x hx
  obtain ⟨a, h1, h2⟩ := h H enc base spare held fuel cs x hx
  exact ⟨g a, by rw [h1, hf a h2], ho a h2⟩
/-- A slice that came in. -/
theorem read_sliceW {P : Program} {t e : TypeId} {s : Nat} {α : Type} {f : α → List Value} {ok : α → Prop} (ht : sliOf P t = some e) (hs : szOf P e = some s) (hf : ∀ x, (f x).length = s) (hsp : 0 < s) {w : World} (h : RdsAt P w e f ok)
    {H : Type} {enc : TypeId × Value → H} {base : Nat} {spare : Nat → Bool} {held : Bool} {fuel : Nat} {cs : List Value} {x : DataW H × List MemPlace} (hx : DataW.trod enc P w base spare held fuel t cs = some x) :
    ∃ (l : List α) (a : Option Addr) (cap : Nat), cs = [.slice a l.length cap] ∧ SliceAt w a cap s f l ∧ (∀ x ∈ l, ok x) ∧ cap ≤ Go.maxLen := by
  rcases open_slice (und_sli ht) hx with ⟨rfl, _⟩ | ⟨a, len, cap, m, n, D, Pl, rfl, hb, hl, hm, hmm, _, hi⟩
  · exact ⟨[], none, 0, rfl, sliceNil w, (fun x hx => by cases hx), by unfold Go.maxLen; omega⟩
  · have hlm : len ≤ m := by rw [hmm]; split <;> omega
    rw [cellsOf_sz hs] at hi
    by_cases h0 : len = 0
    · subst h0
      exact ⟨[], some a, cap, rfl, ⟨by simp, (fun e => by cases e), .inl rfl⟩, (fun x hx => by cases hx), hm⟩
    · obtain ⟨l, h1, h2⟩ := list_of (p := fun i y => (∀ j, j < s → w.cell? ((a.add (i * s)).add j) = (f y)[j]?) ∧ ok y) len (fun i hil => by
        obtain ⟨cs', hc, ht'⟩ := hi i (by omega)
        obtain ⟨y, hy, oy⟩ := h _ enc base spare held n _ _ ht'
        obtain ⟨_, _, hcell⟩ := World.cells?_some hc
        exact ⟨y, fun j hj => by rw [hcell j hj, hy], oy⟩)
      have hl0 : l[0]? = some (l[0]'(by omega)) := List.getElem?_eq_getElem (by omega)
      have hc0 := (h2 0 _ hl0).1 0 hsp
      rw [List.getElem?_eq_getElem (by rw [hf]; exact hsp)] at hc0
      simp only [Nat.zero_mul, Addr.add, if_true] at hc0
      obtain ⟨b, off, sp⟩ := a
      unfold World.cell? at hc0
      split at hc0
      · rename_i c T fz hheap
        split at hc0
        · cases hc0
        · rename_i hspot
          have hsp0 : sp = none := by simpa using hspot
          subst hsp0
          subst h1
          refine ⟨l, some ⟨b, off, none⟩, cap, rfl, ⟨hl, (fun e => by cases e), .inr ⟨b, off, c, T, fz, rfl, hheap, ?_⟩⟩, fun x hx => by obtain ⟨i, hi⟩ := List.getElem?_of_mem hx; exact (h2 i x hi).2, hm⟩
          intro i y hy
          have hcells : ∀ j, j < s → c[off + i * s + j]? = (f y)[j]? := fun j hj => by
            have := (h2 i y hy).1 j hj
            rw [addr_add, addr_add] at this
            simpa [World.cell?, hheap] using this
          have hsz : off + i * s + s ≤ c.size := by
            have := hcells (s - 1) (by omega)
            rw [List.getElem?_eq_getElem (by rw [hf]; omega)] at this
            have := (Array.getElem?_eq_some_iff.1 this).1
            omega
          refine ⟨hsz, ?_⟩
          apply Array.ext_getElem?
          intro j
          rw [Array.getElem?_extract]
          by_cases hj : j < s
          · rw [if_pos (by omega), hcells j hj]; simp
          · rw [if_neg (by omega)]
            rw [Array.getElem?_eq_none]
            simp [hf]; omega
      · cases hc0
theorem rds_slice {P : Program} {w : World} {t e : TypeId} {s : Nat} {α : Type} {f : α → List Value} {ok : α → Prop} (ht : sliOf P t = some e) (hs : szOf P e = some s) (hf : ∀ x, (f x).length = s) (hsp : 0 < s) (h : RdsAt P w e f ok) :
    RdsAt P w t (RowG.cells (α := α)) (fun r => r.ok s f w ∧ (∀ x ∈ r.l, ok x) ∧ r.cap ≤ Go.maxLen) := by
  intro H enc base spare held fuel cs x hx
  obtain ⟨l, a, cap, h1, h2, h3, h4⟩ := read_sliceW ht hs hf hsp h hx
  exact ⟨⟨a, cap, l⟩, h1, h2, h3, h4⟩
section
variable {P : Program} {w : World} {r : Reach} {b0 : Nat} {t : TypeId} {v : Value} {H : Type} {enc : TypeId × Value → H} {base : Nat} {spare : Nat → Bool} {held : Bool} {d : DataW H} {ps : List MemPlace}
theorem param_sliceW {e : TypeId} {s : Nat} {α : Type} {f : α → List Value} {ok : α → Prop} (ht : sliOf P t = some e) (hs : szOf P e = some s) (hf : ∀ x, (f x).length = s) (hsp : 0 < s) (hr : RdsAt P w e f ok) (hv : Value.okWide P w r b0 t v) (h : DataW.Trod enc P w base spare held t v d ps) :
    ∃ (l : List α) (a : Option Addr) (cap : Nat), v = .slice a l.length cap ∧ SliceAt w a cap s f l ∧ (∀ x ∈ l, ok x) ∧ cap ≤ Go.maxLen := by
  obtain ⟨fuel, hf'⟩ := h
  obtain ⟨l, a, cap, h1, h2, h3, h4⟩ := read_sliceW ht hs hf hsp hr hf'
  refine ⟨l, a, cap, ?_, h2, h3, h4⟩
  unfold Value.okWide at hv
  rw [und_sli ht] at hv
  cases v with
  | agg cs => simp [Cell.okWide, und_sli ht, Cell.ok] at hv
  | _ => simp [Value.cells] at h1 <;> simp [h1]
/-- A parameter of cells. -/
theorem param_aggW {α : Type} {f : α → List Value} {ok : α → Prop} (ha : aggOf P t = some true) (hr : RdsAt P w t f ok) (hv : Value.okWide P w r b0 t v) (h : DataW.Trod enc P w base spare held t v d ps) : ∃ x, v = .agg (f x).toArray ∧ ok x := by
  obtain ⟨fuel, hf⟩ := h
  obtain ⟨x, hx, ox⟩ := hr _ enc base spare held fuel _ _ hf
  simp only [aggOf, Option.map_eq_some_iff] at ha
  obtain ⟨dd, hd, he⟩ := ha
  have : ∃ cs, v = .agg cs := by
    unfold Value.okWide at hv
    rw [hd] at hv
    cases dd <;> first | (cases he; done) | (obtain ⟨cs, h1, _⟩ := hv; exact ⟨cs, h1⟩)
  obtain ⟨cs, rfl⟩ := this
  exact ⟨x, by rw [← hx]; rfl, ox⟩
end
end Go.Proofs.Ytcidgbjgeegepaa
/- Arguments that are structs whose parts lie in memory, read. Over any program. -/
namespace Go.Proofs.Ytcidgbjgeegepaa
open Go Go.RowKit Go.ChangeShapes Go.WideShapes Go.Deep
section
variable {P : Program} {w : World} {t : TypeId}
theorem rdsA_field {i off n : Nat} {ft : TypeId} {α : Type} {f : α → List Value} {ok : α → Prop} (hfl : fldOf P t i = some (ft, off)) (hs : szOf P ft = some n) (h : RdsAt P w ft f ok)
    {H : Type} {enc : TypeId × Value → H} {base : Nat} {spare : Nat → Bool} {held : Bool} {fuel : Nat} {cs : List Value} {x : DataW H × List MemPlace} (hx : DataW.trod enc P w base spare held fuel t cs = some x) :
    ∃ a, (cs.drop off).take n = f a ∧ ok a := by
  obtain ⟨fs, hu, fl, hfi, rfl, rfl⟩ := und_fld hfl
  obtain ⟨xs, m, _, _, _, hlen, hg⟩ := DataW.trod_struct hu hx
  have hi := hg i fl hfi
  have hil : i < fs.size := (Array.getElem?_eq_some_iff.1 hfi).1
  rw [cellsOf_sz hs, List.getElem?_eq_getElem (by omega)] at hi
  exact h _ enc base spare held m _ _ hi
theorem cut1 {α : Type} {cs : List α} {a b : Nat} (h : cs.length = a + b) : cs = cs.take a ++ (cs.drop a).take b := by
  rw [List.take_of_length_le (l := cs.drop a) (by rw [List.length_drop]; omega), List.take_append_drop]
theorem rdsA2 {t0 t1 : TypeId} {s0 s1 : Nat} {α β : Type} {f0 : α → List Value} {f1 : β → List Value} {o0 : α → Prop} {o1 : β → Prop} (h0 : fldOf P t 0 = some (t0, 0)) (h1 : fldOf P t 1 = some (t1, s0)) (z0 : szOf P t0 = some s0) (z1 : szOf P t1 = some s1)
    (z : szOf P t = some (s0 + s1)) (r0 : RdsAt P w t0 f0 o0) (r1 : RdsAt P w t1 f1 o1) : RdsAt P w t (fun p : α × β => f0 p.1 ++ f1 p.2) (fun p => o0 p.1 ∧ o1 p.2) := by
  intro H enc base spare held fuel cs x hx
  obtain ⟨a, ha, oa⟩ := rdsA_field h0 z0 r0 hx
  obtain ⟨b, hb, ob⟩ := rdsA_field h1 z1 r1 hx
  have hl := rds_len h0 z hx
  refine ⟨(a, b), ?_, oa, ob⟩
  show cs = f0 a ++ f1 b
  rw [← ha, ← hb, List.drop_zero]
  exact cut1 hl
theorem rdsA3 {t0 t1 t2 : TypeId} {s0 s1 s2 : Nat} {α β γ : Type} {f0 : α → List Value} {f1 : β → List Value} {f2 : γ → List Value} {o0 : α → Prop} {o1 : β → Prop} {o2 : γ → Prop} (h0 : fldOf P t 0 = some (t0, 0)) (h1 : fldOf P t 1 = some (t1, s0)) (h2 : fldOf P t 2 = some (t2, s0 + s1)) (z0 : szOf P t0 = some s0) (z1 : szOf P t1 = some s1) (z2 : szOf P t2 = some s2)
    (z : szOf P t = some (s0 + s1 + s2)) (r0 : RdsAt P w t0 f0 o0) (r1 : RdsAt P w t1 f1 o1) (r2 : RdsAt P w t2 f2 o2) : RdsAt P w t (fun p : α × β × γ => f0 p.1 ++ (f1 p.2.1 ++ f2 p.2.2)) (fun p => o0 p.1 ∧ o1 p.2.1 ∧ o2 p.2.2) := by
  intro H enc base spare held fuel cs x hx
  obtain ⟨a, ha, oa⟩ := rdsA_field h0 z0 r0 hx
  obtain ⟨b, hb, ob⟩ := rdsA_field h1 z1 r1 hx
  obtain ⟨c, hc, oc⟩ := rdsA_field h2 z2 r2 hx
  have hl := rds_len h0 z hx
  refine ⟨(a, b, c), ?_, oa, ob, oc⟩
  show cs = f0 a ++ (f1 b ++ f2 c)
  rw [← ha, ← hb, ← hc, List.drop_zero, ← List.drop_drop]
  rw [← cut1 (cs := cs.drop s0) (by rw [List.length_drop]; omega), List.take_append_drop]
end
end Go.Proofs.Ytcidgbjgeegepaa
/- net: arguments of the laws, read. -/
namespace Go.Proofs.Ytcidgbjgeegepaa
open Go Go.RowKit Go.ChangeShapes Go.WideShapes
set_option maxRecDepth 10000
theorem Rds.mapIf {P : Program} {t : TypeId} {α β : Type} {f : α → List Value} {ok : α → Prop} (h : Rds P t f ok) (g : α → β) {f' : β → List Value} (hf : ∀ a, ok a → f a = f' (g a)) : Rds P t f' (fun _ => True) := by
  intro H enc w base spare held fuel cs x hx
  obtain ⟨a, h1, h2⟩ := h H enc w base spare held fuel cs x hx
  exact ⟨g a, by rw [h1, hf a h2], trivial⟩
theorem byte_back {n : Int} (h : (Lit.int .u8 n).wf = true) : ((BitVec.ofNat 8 n.toNat).toNat : Int) = n := by
  have := wf_u8 h
  rw [BitVec.toNat_ofNat]; omega
theorem rds_byte : Rds Try.prog 5 byc (fun _ => True) := (rds_int io5).mapIf (fun n => BitVec.ofNat 8 n.toNat) (fun n h => by show [Value.int .u8 n] = [Value.int .u8 _]; rw [byte_back h])
theorem rds_pcl (w : World) : RdsAt Try.prog w 36 Pcl.cells (fun p => p.r.ok 1 byc w ∧ p.r.cap ≤ Go.maxLen) :=
  RdsAt.mapIf (rdsA3 fl36_0 fl36_1 fl36_2 sz3 sz34 sz4 sz36 ((rds_int io3).at w) (rds_slice sl34 sz5 byc_len (by decide) (rds_byte.at w)) ((rds_bool (by kernel_rfl)).at w)) (fun p => ⟨p.1, p.2.1, p.2.2⟩) (fun _ _ => rfl)
    (fun _ h => ⟨h.2.1.1, h.2.1.2.2⟩)
end Go.Proofs.Ytcidgbjgeegepaa
/- net: arguments of the laws, read: nets. -/
namespace Go.Proofs.Ytcidgbjgeegepaa
open Go Go.RowKit Go.ChangeShapes Go.WideShapes
set_option maxRecDepth 10000
/-- A net that is handed in. -/
structure Nt where
  r : RowG Pcl
  lost : Int
abbrev Nt.cells (n : Nt) : List Value := [.slice n.r.a n.r.l.length n.r.cap, .int .u64 n.lost]
def Nt.ok (w : World) (n : Nt) : Prop := n.r.ok 3 Pcl.cells w ∧ n.r.cap ≤ Go.maxLen ∧ (∀ p ∈ n.r.l, p.r.ok 1 byc w ∧ p.r.cap ≤ Go.maxLen) ∧ 0 ≤ n.lost
theorem rds_net (w : World) : RdsAt Try.prog w 27 Nt.cells (Nt.ok w) :=
  RdsAt.mapIf (rdsA2 fl27_0 fl27_1 sz22 sz25 sz27 (rds_slice sl22 sz36 Pcl.cells_len (by decide) (rds_pcl w)) ((rds_int io25).at w)) (fun p => ⟨p.1, p.2⟩) (fun _ _ => rfl)
    (fun _ h => ⟨h.1.1, h.1.2.2, h.1.2.1, (wf_u64 h.2).1⟩)
theorem nsends_any (x y : Nt) (zs : List Pcl) (c : Option Addr) (capc : Nat) (w : World) (hx : x.ok w) (hy : y.ok w) (hz : SliceAt w c capc 3 Pcl.cells zs) (hcapc : capc ≤ Go.maxLen) (hz9 : ∀ p ∈ zs, p.r.ok 1 byc w ∧ p.r.cap ≤ Go.maxLen) : Calls Try.prog 5 #[.agg x.cells.toArray, .agg y.cells.toArray, .slice c zs.length capc] w fun e w' => e = .returned (.bool true) ∧ Below w.heap.size w w' :=
  nsends_c x.r.l x.r.a x.r.cap x.lost y.r.l y.r.a y.r.cap y.lost zs c capc w hx.1 hx.2.1 hx.2.2.1 hy.1 hy.2.1 hy.2.2.1 hz hcapc hz9 hx.2.2.2
end Go.Proofs.Ytcidgbjgeegepaa
