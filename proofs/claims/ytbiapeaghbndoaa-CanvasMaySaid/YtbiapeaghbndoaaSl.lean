/- Slices: how they read, and append. Over any program. -/
import Derived.Test.YtbiapeaghbndoaaRes
import Derived.Maps.AppendAt
import Derived.Laws.OwnMore
namespace Go.Proofs.Ytbiapeaghbndoaa
open Go Go.RowKit

/-! ### rows of elements in an array of cells -/
/-- From cell off on lie the elements of l, of s cells each. -/
def Row {α : Type} (s : Nat) (f : α → List Value) (cs : Array Value) (off : Nat) (l : List α) : Prop :=
  ∀ i x, l[i]? = some x → off + i * s + s ≤ cs.size ∧ cs.extract (off + i * s) (off + i * s + s) = (f x).toArray
section
variable {α : Type} {s : Nat} {f : α → List Value} {cs : Array Value} {off : Nat} {l : List α}
theorem Row.cell (h : Row s f cs off l) {i : Nat} {x : α} (hx : l[i]? = some x) (j : Nat) {v : Value} (hv : (f x)[j]? = some v) : cs[off + i * s + j]? = some v := by
  obtain ⟨h1, h2⟩ := h i x hx
  have h3 : (cs.extract (off + i * s) (off + i * s + s))[j]? = some v := by rw [h2]; simpa using hv
  rw [Array.getElem?_extract] at h3
  split at h3
  · exact h3
  · cases h3
theorem Row.cell0 (h : Row s f cs off l) {i : Nat} {x : α} (hx : l[i]? = some x) {v : Value} (hv : (f x)[0]? = some v) : cs[off + i * s]? = some v := h.cell hx 0 hv
theorem Row.agg (h : Row s f cs off l) {i : Nat} {x : α} (hx : l[i]? = some x) : Nat.ble (off + i * s + s) cs.size = true ∧ cs.extract (off + i * s) (off + i * s + s) = (f x).toArray :=
  ⟨by rw [Nat.ble_eq]; exact (h i x hx).1, (h i x hx).2⟩
theorem Row.nil : Row s f cs off [] := fun i x hx => by simp at hx
theorem Row.sub (h : Row s f cs off l) (lo n : Nat) : Row s f cs (off + lo * s) ((l.drop lo).take n) := by
  intro i x hx
  rw [List.getElem?_take] at hx
  split at hx
  · rw [List.getElem?_drop] at hx
    have := h (lo + i) x hx
    rw [Nat.add_mul, ← Nat.add_assoc] at this
    exact this
  · cases hx
theorem Row.take (h : Row s f cs off l) (n : Nat) : Row s f cs off (l.take n) := by
  intro i x hx
  rw [List.getElem?_take] at hx
  split at hx
  · exact h i x hx
  · cases hx
theorem Row.tail {x : α} (h : Row s f cs off (x :: l)) : Row s f cs (off + s) l := by
  intro i y hy
  have := h (i + 1) y (by simpa using hy)
  rw [Nat.add_mul, Nat.one_mul] at this
  rw [show off + s + i * s = off + (i * s + s) by omega]
  exact this
/-- Cell by cell. -/
theorem Row.flat (hf : ∀ x, (f x).length = s) : ∀ {l : List α} {off : Nat}, Row s f cs off l → ∀ j u, (l.flatMap f)[j]? = some u → cs[off + j]? = some u
  | [], _, _, j, u, hu => by simp at hu
  | x :: l, off, h, j, u, hu => by
    rw [List.flatMap_cons] at hu
    by_cases hj : j < s
    · rw [List.getElem?_append_left (by rw [hf]; exact hj)] at hu
      have := h.cell (i := 0) (x := x) (by simp) j hu
      simpa using this
    · rw [List.getElem?_append_right (by rw [hf]; omega), hf] at hu
      have := Row.flat hf h.tail (j - s) u hu
      rwa [show off + s + (j - s) = off + j by omega] at this
theorem flat_length (hf : ∀ x, (f x).length = s) : ∀ (l : List α), (l.flatMap f).length = l.length * s
  | [] => by simp
  | x :: l => by rw [List.flatMap_cons, List.length_append, hf, flat_length hf l, List.length_cons, Nat.add_mul]; omega
theorem flat_drop (hf : ∀ x, (f x).length = s) : ∀ (l : List α) (i : Nat), (l.flatMap f).drop (i * s) = (l.drop i).flatMap f
  | [], i => by simp
  | x :: l, 0 => by simp
  | x :: l, i + 1 => by
    rw [List.flatMap_cons, List.drop_succ_cons, ← flat_drop hf l i, Nat.add_mul, Nat.one_mul, Nat.add_comm, ← List.drop_drop]
    congr 1
    rw [List.drop_left' (hf x)]
theorem row_of_take (hf : ∀ x, (f x).length = s) (h : cs.toList.take (l.length * s) = l.flatMap f) : Row s f cs 0 l := by
  intro i x hx
  have hi : i < l.length := (List.getElem?_eq_some_iff.1 hx).1
  have hlen := congrArg List.length h
  rw [flat_length hf, List.length_take] at hlen
  have hsz : cs.toList.length = cs.size := Array.length_toList
  have h1 : i * s + s ≤ l.length * s := by rw [← Nat.succ_mul]; exact Nat.mul_le_mul_right _ hi
  refine ⟨by omega, ?_⟩
  apply Array.ext'
  rw [Array.toList_extract, List.extract_eq_take_drop, Nat.zero_add, show i * s + s - i * s = s by omega]
  have h2 : (l.flatMap f).drop (i * s) = f x ++ (l.drop (i + 1)).flatMap f := by
    rw [flat_drop hf, List.drop_eq_getElem_cons hi, List.flatMap_cons]
    congr 2
    rw [List.getElem?_eq_getElem hi] at hx
    exact Option.some.inj hx
  rw [← h, List.drop_take] at h2
  have h3 := congrArg (List.take s) h2
  rw [List.take_take, List.take_left' (hf x), Nat.min_eq_left (by omega)] at h3
  simpa using h3
end

/-! ### slices -/
/-- The slice at a, of l.length elements and this capacity, reads as the list l. -/
def SliceAt {α : Type} (w : World) (a : Option Addr) (cap : Nat) (s : Nat) (f : α → List Value) (l : List α) : Prop :=
  l.length ≤ cap ∧ (a = none → cap = 0) ∧ (l = [] ∨ ∃ b off cs T fz, a = some ⟨b, off, none⟩ ∧ hp w b = some (.cells cs T fz) ∧ Row s f cs off l)
section
variable {α : Type} {s : Nat} {f : α → List Value} {l : List α} {w w' : World} {a : Option Addr} {cap : Nat}
theorem SliceAt.keep (h : SliceAt w a cap s f l) (hb : Below w.heap.size w w') : SliceAt w' a cap s f l := by
  refine ⟨h.1, h.2.1, ?_⟩
  rcases h.2.2 with h | ⟨b, off, cs, T, fz, h1, h2, h3⟩
  · exact .inl h
  · exact .inr ⟨b, off, cs, T, fz, h1, kept hb h2, h3⟩
theorem sliceNil (w : World) : SliceAt w none 0 s f ([] : List α) := ⟨Nat.le_refl _, fun _ => rfl, .inl rfl⟩
/-- Where an element is, there the slice lies. -/
theorem SliceAt.open (h : SliceAt w a cap s f l) {i : Nat} (hi : i < l.length) : ∃ b off cs T fz, a = some ⟨b, off, none⟩ ∧ hp w b = some (.cells cs T fz) ∧ Row s f cs off l := by
  rcases h.2.2 with rfl | h
  · simp at hi
  · exact h
theorem SliceAt.of_row {base n : Nat} {e : TypeId} {v : Value} {xs : List Value} (hf : ∀ x, (f x).length = s) (h : w.ownsRow base e s v n xs) (hn : n = l.length) (hx : xs = l.flatMap f) : ∃ a cap, v = .slice a l.length cap ∧ SliceAt w a cap s f l := by
  subst hn hx
  rcases h.2 with ⟨h1, h2⟩ | ⟨g, cap, cur, h1, h2, h3, h4, h5, h6, h7⟩
  · exact ⟨none, 0, by rw [h1, h2], by omega, fun _ => rfl, .inl (List.eq_nil_of_length_eq_zero h2)⟩
  · exact ⟨_, cap, h1, h4, (fun e => by cases e), .inr ⟨g, 0, cur, e, (0, 0), rfl, h3, row_of_take hf h7⟩⟩
theorem SliceAt.own {base n : Nat} {e : TypeId} {xs : List Value} (hf : ∀ x, (f x).length = s) (h : w.ownsRow base e s (.slice a n cap) n xs) (hn : n = l.length) (hx : xs = l.flatMap f) : SliceAt w a cap s f l := by
  obtain ⟨a', cap', h1, h2⟩ := SliceAt.of_row hf h hn hx
  cases h1
  exact h2
theorem row_form {base n : Nat} {e : TypeId} {s : Nat} {v : Value} {xs : List Value} (h : w.ownsRow base e s v n xs) : ∃ a cap, v = .slice a n cap := by
  rcases h.2 with ⟨h1, h2⟩ | ⟨g, cap, cur, h1, _⟩
  · exact ⟨none, 0, by rw [h1, h2]⟩
  · exact ⟨_, cap, h1⟩
theorem SliceAt.part (h : SliceAt w a cap s f l) {lo hi m : Nat} (h1 : lo ≤ hi) (h2 : hi ≤ l.length) (h3 : hi ≤ m) (h4 : m ≤ cap) : SliceAt w (if m = lo then a else a.map (·.add (lo * s))) (m - lo) s f ((l.drop lo).take (hi - lo)) := by
  have hlen : ((l.drop lo).take (hi - lo)).length = hi - lo := by rw [List.length_take, List.length_drop]; omega
  refine ⟨by omega, fun hn => ?_, ?_⟩
  · by_cases e : m = lo
    · omega
    · rw [if_neg e] at hn
      have := h.2.1 (by cases a with | none => rfl | some _ => cases hn)
      omega
  · by_cases e : hi = lo
    · left
      exact List.eq_nil_of_length_eq_zero (by omega)
    · obtain ⟨b, off, cs, T, fz, ha, hb, hr⟩ := h.open (i := lo) (by omega)
      right
      rw [if_neg (by omega), ha]
      exact ⟨b, off + lo * s, cs, T, fz, by simp only [Option.map_some, addr_add], hb, hr.sub lo _⟩
end
theorem slo_zero (m s n : Nat) (a : Option Addr) : (Value.slice (if m = 0 then a else a.map (·.add (0 * s))) (n - 0) (m - 0)) = .slice a n m := by
  have : (a.map (·.add (0 * s))) = a := by cases a <;> simp [Addr.add]
  rw [this]
  simp
theorem SliceAt.front {α : Type} {s : Nat} {f : α → List Value} {l : List α} {w : World} {a : Option Addr} {cap n m : Nat} (h : SliceAt w a cap s f l) (h1 : n ≤ l.length) (h2 : n ≤ m) (h3 : m ≤ cap) : SliceAt w a m s f (l.take n) := by
  have := h.part (lo := 0) (Nat.zero_le n) h1 h2 h3
  rw [Nat.sub_zero, Nat.sub_zero, List.drop_zero] at this
  have e : (a.map (·.add (0 * s))) = a := by cases a <;> simp [Addr.add]
  rwa [e, ite_self] at this
theorem minI (n k : Nat) : (if (k : Int) < (n : Int) then (k : Int) else (n : Int)) = ((min n k : Nat) : Int) := by
  split <;> omega
/-- What is appended: these cells, of m elements. -/
def Src (w : World) (v : Value) (s m : Nat) (news : List Value) : Prop :=
  (v = .slice none 0 0 ∧ m = 0 ∧ news = []) ∨ (∃ x cap, v = .slice (some x) 0 cap ∧ m = 0 ∧ news = []) ∨ ∃ b off cap, v = .slice (some ⟨b, off, none⟩) m cap ∧ news.length = m * s ∧ ∀ j u, news[j]? = some u → w.cell? ⟨b, off + j, none⟩ = some u
theorem src_of {α : Type} {s : Nat} {f : α → List Value} {l : List α} {w : World} {a : Option Addr} {cap : Nat} (hf : ∀ x, (f x).length = s) (h : SliceAt w a cap s f l) : Src w (.slice a l.length cap) s l.length (l.flatMap f) := by
  rcases h.2.2 with rfl | ⟨b, off, cs, T, fz, h1, h2, h3⟩
  · cases a with
    | none => exact .inl ⟨by rw [h.2.1 rfl]; rfl, rfl, rfl⟩
    | some x => exact .inr (.inl ⟨x, cap, rfl, rfl, rfl⟩)
  · exact .inr (.inr ⟨b, off, cap, by rw [h1], flat_length hf l, fun j u hu => cell_of h2 (h3.flat hf j u hu)⟩)
theorem src_blk {s m b cap : Nat} {w : World} {news : List Value} {T : TypeId} {fz : Nat × Nat} (h : hp w b = some (.cells news.toArray T fz)) (hl : news.length = m * s) : Src w (.slice (some ⟨b, 0, none⟩) m cap) s m news :=
  .inr <| .inr ⟨b, 0, cap, rfl, hl, fun j u hu => cell_of h (by simpa using hu)⟩
section
variable {P : Program} {w : World}
theorem run_appendX {w₀ : World} {L : Heap} (hm : MemOk w₀ L w) {t ty e : TypeId} {s by' n m : Nat} {z v v2 : Value} {xs news : List Value} (i : Nat) (ht : sliOf P t = some e) (hs : szOf P e = some s) (hby : byOf P e = some by') (hz : zeroOf P e = some z) (hzs : z.cells.size = s) (hsp : Nat.blt 0 s = true)
    (hdst : lk L i = some (.row v e s n xs) ∨ lk L i = none ∧ v = .slice none 0 0 ∧ n = 0 ∧ xs = []) (hsrc : Src w v2 s m news) (hone : ∀ u ∈ news, u.oneCell' = true) (h63 : n + m ≤ 4611686018427387904) (hb : (n + m) * by' ≤ 140737488355328) :
    ∃ a cap w', (Builtin.append_ #[t, t] ty #[v, v2]).run P w = .ok (.slice a (n + m) cap) w' ∧ MemOk w₀ ((i, .row (.slice a (n + m) cap) e s (n + m) (xs ++ news)) :: L) w' := by
  suffices hs : ∃ v' w', (Builtin.append_ #[t, t] ty #[v, v2]).run P w = .ok v' w' ∧ MemOk w₀ ((i, .row v' e s (n + m) (xs ++ news)) :: L) w' by
    obtain ⟨v', w', h1, h2⟩ := hs
    obtain ⟨a, cap, rfl⟩ := row_form (h2.row i (lk_cons_same _ _ _))
    exact ⟨a, cap, w', h1, h2⟩
  obtain ⟨ti, hi, hsz⟩ := Option.map_eq_some_iff.1 hs
  obtain ⟨ti', hi', hbz⟩ := Option.map_eq_some_iff.1 hby
  rw [hi] at hi'; cases hi'
  have hzz : ti.zero = some z := by simpa [zeroOf, hi] using hz
  have hsp' : 0 < s := by rw [Nat.blt_eq] at hsp; exact hsp
  have hown : w.ownsRow w₀.heap.size e s v n xs := by
    rcases hdst with h | ⟨_, rfl, rfl, rfl⟩
    · exact hm.row i h
    · exact World.ownsRow_nil _ _ _ _
  have hi2 : lk L i = some (.row v e s n xs) ∨ lk L i = none ∧ v.ownBlock = none := by
    rcases hdst with h | ⟨h, rfl, _, _⟩
    · exact .inl h
    · exact .inr ⟨h, rfl⟩
  rcases hsrc with ⟨rfl, rfl, rfl⟩ | ⟨x, cap, rfl, rfl, rfl⟩ | ⟨b, off, cap, rfl, hl, hcell⟩
  · have hr := run_append_owned_none (P := P) w w₀.heap.size t ty e ti s (und_sli ht) hi v n xs hown
    refine ⟨v, w, hr, hm.grow hi2 ⟨rfl, rfl, rfl, Nat.le_refl _, fun _ _ _ => rfl⟩ (by simpa using hown) (.inl rfl)⟩
  · obtain ⟨v', w', hr, hown', hg, _, hat⟩ := run_append_own_at (P := P) w w₀.heap.size t ty e ti z s by' (und_sli ht) hi hzz hsz hbz hzs hsp' v n xs hown x 0 cap [] (by simp)
      (fun j u hu => by simp at hu) (fun u hu => by cases hu) (by unfold Go.maxLen; omega) hb hm.ext.size
    exact ⟨v', w', hr, hm.grow hi2 hg hown' hat⟩
  · obtain ⟨v', w', hr, hown', hg, _, hat⟩ := run_append_own_at (P := P) w w₀.heap.size t ty e ti z s by' (und_sli ht) hi hzz hsz hbz hzs hsp' v n xs hown ⟨b, off, none⟩ m cap news hl
      (fun j u hu => by rw [addr_add]; exact hcell j u hu) hone (by unfold Go.maxLen; omega) hb hm.ext.size
    exact ⟨v', w', hr, hm.grow hi2 hg hown' hat⟩
end
section
variable {C : Cx} {ops : Array Oper} {os : List Oper} {Q : Post} {K : List (Nat × Value)} {L : Heap}
/-- append, onto a row of one's own (or nil). -/
theorem TL_append {d : Nat} {x y : Operand} {ats : Array TypeId} {ty : TypeId} {ps : String} {af : Array Edge} {g : Option (Nat × Bool)} {t e : TypeId} {s by' n m : Nat} {z v v2 : Value} {xs news : List Value} (i : Nat) (hx : ev K x = some v) (hy : ev K y = some v2) (hat : ats = #[t, t])
    (ht : sliOf C.P t = some e) (hs : szOf C.P e = some s) (hby : byOf C.P e = some by') (hz : zeroOf C.P e = some z) (hzs : z.cells.size = s) (hsp : Nat.blt 0 s = true)
    (hdst : lk L i = some (.row v e s n xs) ∨ lk L i = none ∧ v = .slice none 0 0 ∧ n = 0 ∧ xs = []) (hsrc : ∀ w, MemOk C.w₀ L w → Src w v2 s m news) (hone : ∀ u ∈ news, u.oneCell' = true) (h63 : n + m ≤ 4611686018427387904) (hb : (n + m) * by' ≤ 140737488355328)
    (hN : Nat.blt d C.N = true) (hw : Want ops K (mk (some d) (.call { callee := .builtin .append, args := #[x, y], argTypes := ats }) ty ps af g) true)
    (h : ∀ a cap, TL C ops os Q ((d, .slice a (n + m) cap) :: K) ((i, .row (.slice a (n + m) cap) e s (n + m) (xs ++ news)) :: L)) : TL C ops (mk (some d) (.call { callee := .builtin .append, args := #[x, y], argTypes := ats }) ty ps af g :: os) Q K L := by
  intro a w hf hm
  subst hat
  unfold wpListIn
  rw [hw.is hf, if_pos rfl]
  obtain ⟨a', cap', w', hr, hm'⟩ := run_appendX (P := C.P) (ty := ty) hm i ht hs hby hz hzs hsp hdst (hsrc w hm) hone h63 hb
  refine step_val (v := .slice a' (n + m) cap') (w' := w') rfl ?_ (h a' cap' _ _ (hf.put _ hN) hm')
  rw [run_builtin]
  simp only [List.map_toArray, List.map_cons, List.map_nil, hf.rd _ _ hx, hf.rd _ _ hy]
  exact run_v hr
end
section
variable {C : Cx} {R : Rg} {Q : Post} {K0 V : List (Nat × Value)} {lo : Nat} {L : Heap}
end

/-! ### reading elements, and parts of slices -/
section
variable {P : Program} {w : World} {ρ : Operand → Value} {d : Option Tmp} {ty : TypeId} {ps : String} {af : Array Edge} {g : Option (Nat × Bool)} {x y : Operand}
theorem r_loadRow {α : Type} {s : Nat} {f : α → List Value} {l : List α} {t : TypeId} {b off i : Nat} {cs : Array Value} {T : TypeId} {fz : Nat × Nat} {u : α} (ha : aggOf P t = some true) (hs : szOf P t = some s) (hx : ρ x = .pointer (some ⟨b, off + i * s, none⟩)) (hb : hp w b = some (.cells cs T fz))
    (hr : Row s f cs off l) (hu : l[i]? = some u) : (execOp ρ (mk d (.load t x) ty ps af g)).run P w = .ok (.value (.agg (f u).toArray)) w :=
  r_loadA ha hs hx hb (hr.agg hu).1 (hr.agg hu).2
theorem r_loadRow1 {α : Type} {f : α → List Value} {l : List α} {t : TypeId} {b off i s : Nat} {cs : Array Value} {T : TypeId} {fz : Nat × Nat} {u : α} {v : Value} (ha : aggOf P t = some false) (hx : ρ x = .pointer (some ⟨b, off + i * s, none⟩)) (hb : hp w b = some (.cells cs T fz))
    (hr : Row s f cs off l) (hu : l[i]? = some u) (hv : (f u)[0]? = some v) : (execOp ρ (mk d (.load t x) ty ps af g)).run P w = .ok (.value v) w :=
  r_load ha hx hb (hr.cell0 hu hv)
theorem r_loadRowJ {α : Type} {f : α → List Value} {l : List α} {t : TypeId} {b off i s : Nat} {cs : Array Value} {T : TypeId} {fz : Nat × Nat} {u : α} {v : Value} (j : Nat) (ha : aggOf P t = some false) (hx : ρ x = .pointer (some ⟨b, off + i * s + j, none⟩)) (hb : hp w b = some (.cells cs T fz))
    (hr : Row s f cs off l) (hu : l[i]? = some u) (hv : (f u)[j]? = some v) : (execOp ρ (mk d (.load t x) ty ps af g)).run P w = .ok (.value v) w :=
  r_load ha hx hb (hr.cell hu j hv)
theorem run_sliceBound {k : IntKind} {i y : Nat} {c : BoundsCode} (h : i ≤ y) : (Instr.sliceBound (.int k i) y c).run P w = .ok i w := by
  unfold Instr.sliceBound
  rw [run_bind_ok (a := (k, (i : Int))) (w' := w) rfl]
  simp only [if_pos (show 0 ≤ (i : Int) ∧ (i : Int) ≤ y from ⟨by omega, by omega⟩), Int.toNat_natCast]
  rfl
/-- s[lo:hi:mx], each of them there or not: what the bounds come to. -/
def Bd (ρ : Operand → Value) (o : Option Operand) (n dflt : Nat) : Prop := match o with | none => n = dflt | some x => ∃ k, ρ x = .int k n
theorem bd_none (ρ : Operand → Value) (n : Nat) : Bd ρ none n n := rfl
theorem bd_some {k : IntKind} {n d : Nat} (h : ρ x = .int k n) : Bd ρ (some x) n d := ⟨k, h⟩
theorem run_sliceBounds {isS : Bool} {len cap l h m : Nat} {lo hi mx : Option Operand} (hm : Bd ρ mx m cap) (hh : Bd ρ hi h len) (hl : Bd ρ lo l 0) (hmh : mx.isSome = true → hi.isSome = true) (h1 : l ≤ h) (h2 : h ≤ m) (h3 : m ≤ cap) :
    (Instr.sliceBounds isS len cap (lo.map ρ) (hi.map ρ) (mx.map ρ)).run P w = .ok (l, h, m) w := by
  unfold Instr.sliceBounds
  have b0 : ∀ {n : Nat} {β : Type} (k : Nat → Sem β), ((pure n : Sem Nat) >>= k).run P w = (k n).run P w := fun _ => rfl
  have b1 : ∀ {n y : Nat} {c : BoundsCode} {kk : IntKind} {β : Type} (k : Nat → Sem β), n ≤ y → (Instr.sliceBound (.int kk n) y c >>= k).run P w = (k n).run P w := fun k hn => run_bind_ok (run_sliceBound hn)
  cases mx with
  | none =>
    cases hm
    cases hi with
    | none =>
      cases hh
      cases lo with
      | none => cases hl; rfl
      | some x => obtain ⟨kk, hx⟩ := hl; dsimp only [Option.map_none, Option.map_some]; rw [hx, b0, b0, b1 _ h1]; rfl
    | some y =>
      obtain ⟨ky, hy⟩ := hh
      cases lo with
      | none => cases hl; dsimp only [Option.map_none, Option.map_some]; rw [hy, b0, b1 _ h2]; rfl
      | some x => obtain ⟨kk, hx⟩ := hl; dsimp only [Option.map_none, Option.map_some]; rw [hx, hy, b0, b1 _ h2, b1 _ h1]; rfl
  | some q =>
    obtain ⟨kq, hq⟩ := hm
    cases hi with
    | none => exact absurd (hmh rfl) (by simp)
    | some y =>
      obtain ⟨ky, hy⟩ := hh
      cases lo with
      | none => cases hl; dsimp only [Option.map_none, Option.map_some]; rw [hq, hy, b1 _ h3, b1 _ h2]; rfl
      | some x => obtain ⟨kk, hx⟩ := hl; dsimp only [Option.map_none, Option.map_some]; rw [hx, hq, hy, b1 _ h3, b1 _ h2, b1 _ h1]; rfl
theorem r_sliceO {t e : TypeId} {sz len cap l h m : Nat} {a : Option Addr} {lo hi mx : Option Operand} (ht : sliOf P t = some e) (hs : szOf P e = some sz) (hx : ρ x = .slice a len cap) (hm : Bd ρ mx m cap) (hh : Bd ρ hi h len) (hl : Bd ρ lo l 0) (hmh : mx.isSome = true → hi.isSome = true) (h1 : l ≤ h) (h2 : h ≤ m) (h3 : m ≤ cap) :
    (execOp ρ (mk d (.slice t x lo hi mx) ty ps af g)).run P w = .ok (.value (.slice (if m = l then a else a.map (·.add (l * sz))) (h - l) (m - l))) w := by
  refine run_v ?_
  rw [hx]
  unfold Instr.sliceAt
  rw [run_underlying (und_sli ht)]
  unfold Instr.slice
  rw [run_underlying (und_sli ht)]
  dsimp only
  rw [run_bind_ok (run_sliceBounds hm hh hl hmh h1 h2 h3)]
  dsimp only
  rw [run_bind_ok (run_sizeOf hs)]
  rfl
/-- A slice made of its elements. -/
theorem r_buildSlice {t e : TypeId} {n : Nat} {pl : List (Nat × Operand)} {vs : List (Nat × Value)} {cs : Array Value} (h : (Instr.buildSlice t n vs.toArray).run P w = .ok (.slice (some ⟨w.heap.size, 0, none⟩) n n) (w.alloc (.cells cs e))) (hp : pl.map (fun p => (p.1, ρ p.2)) = vs) :
    (execOp ρ (mk d (.buildSlice t n pl.toArray) ty ps af g)).run P w = .ok (.value (.slice (some ⟨w.heap.size, 0, none⟩) n n)) (w.alloc (.cells cs e)) := by
  refine run_v ?_
  subst hp
  simpa using h
theorem r_eqlB {t t' : TypeId} {a b : Bool} (hu : P.underlying t = some .bool) (hx : ρ x = .bool a) (hy : ρ y = .bool b) : (execOp ρ (mk d (.binOp .eql t x y t') ty ps af g)).run P w = .ok (.value (.bool (a == b))) w := by
  refine r_bin (.inr (.inr (.inr ⟨_, rfl⟩))) hx hy ?_
  show (do pure (.bool (← Op.equal t (.bool a) (.bool b))) : Sem Value).run P w = _
  rw [run_bind_ok (a := (a == b)) (w' := w)]
  · rfl
  · unfold Op.equal Op.maxDepth Op.equalIn
    rw [run_underlying hu]
    rfl
theorem r_neqB {t t' : TypeId} {a b : Bool} (hu : P.underlying t = some .bool) (hx : ρ x = .bool a) (hy : ρ y = .bool b) : (execOp ρ (mk d (.binOp .neq t x y t') ty ps af g)).run P w = .ok (.value (.bool (!(a == b)))) w := by
  refine r_bin (.inr (.inr (.inr ⟨_, rfl⟩))) hx hy ?_
  show (do pure (.bool (!(← Op.equal t (.bool a) (.bool b)))) : Sem Value).run P w = _
  rw [run_bind_ok (a := (a == b)) (w' := w)]
  · rfl
  · unfold Op.equal Op.maxDepth Op.equalIn
    rw [run_underlying hu]
    rfl
end
end Go.Proofs.Ytbiapeaghbndoaa
