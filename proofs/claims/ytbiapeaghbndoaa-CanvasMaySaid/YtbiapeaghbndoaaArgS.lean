/- Arguments that are structs whose parts lie in memory, read. Over any program. -/
import Derived.Test.YtbiapeaghbndoaaArgW
namespace Go.Proofs.Ytbiapeaghbndoaa
open Go Go.RowKit Go.ChangeShapes Go.WideShapes Go.Deep
section
variable {P : Program} {w : World} {t : TypeId}
theorem rdsA_field {i off n : Nat} {ft : TypeId} {α : Type} {f : α → List Value} {ok : α → Prop} (hfl : fldOf P t i = some (ft, off)) (hs : szOf P ft = some n) (h : RdsAt P w ft f ok)
    {H : Type} {enc : TypeId × Value → H} {base : Nat} {spare : Nat → Bool} {held : Bool} {fuel : Nat} {cs : List Value} {x : DataW H × List MemPlace} (hx : DataW.trod enc P w base spare held fuel t cs = some x) :
    ∃ a, (cs.drop off).take n = f a ∧ ok a := by
  obtain ⟨fs, hu, fl, hfi, rfl, rfl⟩ := und_fld hfl
  obtain ⟨xs, m, _, _, _, hlen, hg⟩ := DataW.trod_struct hu hx
  have hi := hg i fl hfi
  have hil : i < fs.size := (Array.getElem?_eq_some_iff.1 hfi).1
  rw [cellsOf_sz hs, List.getElem?_eq_getElem (by omega)] at hi
  exact h _ enc base spare held m _ _ hi
theorem cut1 {α : Type} {cs : List α} {a b : Nat} (h : cs.length = a + b) : cs = cs.take a ++ (cs.drop a).take b := by
  rw [List.take_of_length_le (l := cs.drop a) (by rw [List.length_drop]; omega), List.take_append_drop]
theorem rdsA2 {t0 t1 : TypeId} {s0 s1 : Nat} {α β : Type} {f0 : α → List Value} {f1 : β → List Value} {o0 : α → Prop} {o1 : β → Prop} (h0 : fldOf P t 0 = some (t0, 0)) (h1 : fldOf P t 1 = some (t1, s0)) (z0 : szOf P t0 = some s0) (z1 : szOf P t1 = some s1)
    (z : szOf P t = some (s0 + s1)) (r0 : RdsAt P w t0 f0 o0) (r1 : RdsAt P w t1 f1 o1) : RdsAt P w t (fun p : α × β => f0 p.1 ++ f1 p.2) (fun p => o0 p.1 ∧ o1 p.2) := by
  intro H enc base spare held fuel cs x hx
  obtain ⟨a, ha, oa⟩ := rdsA_field h0 z0 r0 hx
  obtain ⟨b, hb, ob⟩ := rdsA_field h1 z1 r1 hx
  have hl := rds_len h0 z hx
  refine ⟨(a, b), ?_, oa, ob⟩
  show cs = f0 a ++ f1 b
  rw [← ha, ← hb, List.drop_zero]
  exact cut1 hl
theorem rdsA3 {t0 t1 t2 : TypeId} {s0 s1 s2 : Nat} {α β γ : Type} {f0 : α → List Value} {f1 : β → List Value} {f2 : γ → List Value} {o0 : α → Prop} {o1 : β → Prop} {o2 : γ → Prop} (h0 : fldOf P t 0 = some (t0, 0)) (h1 : fldOf P t 1 = some (t1, s0)) (h2 : fldOf P t 2 = some (t2, s0 + s1)) (z0 : szOf P t0 = some s0) (z1 : szOf P t1 = some s1) (z2 : szOf P t2 = some s2)
    (z : szOf P t = some (s0 + s1 + s2)) (r0 : RdsAt P w t0 f0 o0) (r1 : RdsAt P w t1 f1 o1) (r2 : RdsAt P w t2 f2 o2) : RdsAt P w t (fun p : α × β × γ => f0 p.1 ++ (f1 p.2.1 ++ f2 p.2.2)) (fun p => o0 p.1 ∧ o1 p.2.1 ∧ o2 p.2.2) := by
  intro H enc base spare held fuel cs x hx
  obtain ⟨a, ha, oa⟩ := rdsA_field h0 z0 r0 hx
  obtain ⟨b, hb, ob⟩ := rdsA_field h1 z1 r1 hx
  obtain ⟨c, hc, oc⟩ := rdsA_field h2 z2 r2 hx
  have hl := rds_len h0 z hx
  refine ⟨(a, b, c), ?_, oa, ob, oc⟩
  show cs = f0 a ++ (f1 b ++ f2 c)
  rw [← ha, ← hb, ← hc, List.drop_zero, ← List.drop_drop]
  rw [← cut1 (cs := cs.drop s0) (by rw [List.length_drop]; omega), List.take_append_drop]
end
end Go.Proofs.Ytbiapeaghbndoaa
