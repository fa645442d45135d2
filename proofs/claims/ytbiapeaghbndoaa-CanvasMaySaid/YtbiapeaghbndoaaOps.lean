/- What single operations come to, where their operands are known: a law each. Over any program. -/
import Derived.Test.YtbiapeaghbndoaaT
namespace Go.Proofs.Ytbiapeaghbndoaa
open Go Go.RowKit

/-! ### types -/
def szOf (P : Program) (t : TypeId) : Option Nat := (P.info? t).map (·.size)
def byOf (P : Program) (t : TypeId) : Option Nat := (P.info? t).map (·.bytes)
def zeroOf (P : Program) (t : TypeId) : Option Value := (P.info? t).bind (·.zero)
def aggOf (P : Program) (t : TypeId) : Option Bool := (P.underlying t).map fun | .struct _ => true | .array _ _ => true | _ => false
/-- The element's type, and how many, of an array. -/
def arrOf (P : Program) (t : TypeId) : Option (Nat × TypeId) := (P.underlying t).bind fun | .array n e => some (n, e) | _ => none
def sliOf (P : Program) (t : TypeId) : Option TypeId := (P.underlying t).bind fun | .slice e => some e | _ => none
/-- A field's type, and where it lies. -/
def fldOf (P : Program) (t : TypeId) (i : Nat) : Option (TypeId × Nat) := (P.underlying t).bind fun | .struct fs => (fs[i]?).map fun f => (f.type, f.offset) | _ => none
def intOf? (P : Program) (t : TypeId) : Option IntKind := (P.underlying t).bind fun | .int k => some k | _ => none
section types
variable {P : Program} {w : World} {t : TypeId}
theorem run_sizeOf {n : Nat} (h : szOf P t = some n) : (sizeOf t).run P w = .ok n w := by
  simp only [szOf, Option.map_eq_some_iff] at h
  obtain ⟨i, hi, rfl⟩ := h
  simp [sizeOf, typeInfo, program, Sem.bind, Sem.run, bind, pure, hi]
theorem run_isAgg {b : Bool} (h : aggOf P t = some b) : (isAgg t).run P w = .ok b w := by
  simp only [aggOf, Option.map_eq_some_iff] at h
  obtain ⟨i, hi, rfl⟩ := h
  simp only [isAgg, underlying, program, bind, Sem.bind, Sem.run, hi]
  cases i <;> rfl
theorem und_arr {n : Nat} {e : TypeId} (h : arrOf P t = some (n, e)) : P.underlying t = some (.array n e) := by
  simp only [arrOf, Option.bind_eq_some_iff] at h
  obtain ⟨i, hi, h⟩ := h
  cases i <;> simp at h
  obtain ⟨rfl, rfl⟩ := h
  exact hi
theorem und_sli {e : TypeId} (h : sliOf P t = some e) : P.underlying t = some (.slice e) := by
  simp only [sliOf, Option.bind_eq_some_iff] at h
  obtain ⟨i, hi, h⟩ := h
  cases i <;> simp at h
  subst h
  exact hi
theorem und_int {k : IntKind} (h : intOf? P t = some k) : P.underlying t = some (.int k) := by
  simp only [intOf?, Option.bind_eq_some_iff] at h
  obtain ⟨i, hi, h⟩ := h
  cases i <;> simp at h
  subst h
  exact hi
theorem und_fld {i : Nat} {ft : TypeId} {off : Nat} (h : fldOf P t i = some (ft, off)) : ∃ fs : Array Field, P.underlying t = some (.struct fs) ∧ ∃ f, fs[i]? = some f ∧ f.type = ft ∧ f.offset = off := by
  simp only [fldOf, Option.bind_eq_some_iff] at h
  obtain ⟨d, hd, h⟩ := h
  cases d with
  | struct fs =>
    simp only [Option.map_eq_some_iff] at h
    obtain ⟨f, hf, h⟩ := h
    cases h
    exact ⟨fs, hd, f, hf, rfl, rfl⟩
  | _ => simp at h
theorem run_underlying {d : TypeDesc} (h : P.underlying t = some d) {α : Type} (k : TypeDesc → Sem α) : (underlying t >>= k).run P w = (k d).run P w := by
  simp only [underlying, program, bind, Sem.bind, Sem.run, h]
  rfl
theorem run_bind_ok {α β : Type} {s : Sem α} {k : α → Sem β} {a : α} {w w' : World} (h : s.run P w = .ok a w') : (s >>= k).run P w = (k a).run P w' := by
  show (Sem.bind s k).run P w = _
  induction s generalizing w with
  | pure x => simp [Sem.run] at h; obtain ⟨rfl, rfl⟩ := h; rfl
  | load m ad kk ih =>
    simp only [Sem.run, Sem.bind] at h ⊢
    split at h
    · exact ih _ h
    · split at h
      · exact ih _ h
      · cases h
  | store m ad v kk ih =>
    cases v <;> simp only [Sem.run, Sem.bind] at h ⊢ <;> first
      | (cases h; done)
      | (split at h
         · split at h
           · cases h
           · rename_i h1 h2; simp only [h2]; exact ih h
         · split at h
           · exact ih h
           · cases h)
  | new o kk ih => exact ih _ h
  | shape r kk ih => exact ih _ h
  | freeze a n kk ih => exact ih h
  | frozen a kk ih => exact ih _ h
  | getObj r kk ih =>
    simp only [Sem.run, Sem.bind] at h ⊢
    split at h
    · cases h
    · exact ih _ h
    · cases h
  | setObj r o kk ih =>
    simp only [Sem.run, Sem.bind] at h ⊢
    split at h
    · cases h
    · exact ih h
    · cases h
  | choose q kk ih =>
    simp only [Sem.run, Sem.bind] at h ⊢
    split at h
    · rename_i h1; simp only [h1, if_true]; exact ih _ h
    · rename_i h1; simp only [h1]; exact ih _ h
  | sys c kk ih => exact ih _ h
  | program kk ih => exact ih _ h
  | mark m kk ih => exact ih h
  | halt hh => simp [Sem.run] at h
end types

theorem addr_add (b off i : Nat) : (⟨b, off, none⟩ : Addr).add i = ⟨b, off + i, none⟩ := by
  unfold Addr.add
  by_cases h : i = 0
  · subst h; simp
  · simp [h]
/-! ### operations that leave memory as it is -/
section quiet
variable {P : Program} {w : World} {ρ : Operand → Value} {d : Option Tmp} {ty : TypeId} {ps : String} {af : Array Edge} {g : Option (Nat × Bool)} {x y : Operand}
abbrev mk (d : Option Tmp) (op : Op) (ty : TypeId) (ps : String) (af : Array Edge) (g : Option (Nat × Bool)) : Oper := { dst := d, op := op, type := ty, pos := ps, after := af, guard := g }
theorem run_v {s : Sem Value} {v : Value} {w' : World} (h : s.run P w = .ok v w') : (do pure (Next.value (← s)) : Sem Next).run P w = .ok (.value v) w' := by
  rw [run_bind_ok h]; rfl
theorem r_move {v : Value} (h : ρ x = v) : (execOp ρ (mk d (.move x) ty ps af g)).run P w = .ok (.value v) w := by subst h; rfl
theorem r_assign {v : Value} (h : ρ x = v) : (execOp ρ (mk d (.assign x) ty ps af g)).run P w = .ok (.value v) w := by subst h; rfl
theorem r_pick {c : Operand} {b : Bool} {u v : Value} (hc : ρ c = .bool b) (hx : ρ x = u) (hy : ρ y = v) : (execOp ρ (mk d (.pick c x y) ty ps af g)).run P w = .ok (.value (if b then u else v)) w := by
  subst hx hy
  show (do pure (Next.value (if ← asBool (ρ c) then ρ x else ρ y)) : Sem Next).run P w = _
  rw [hc]
  cases b <;> rfl
theorem r_pick_t {c : Operand} {u : Value} (hc : ρ c = .bool true) (hx : ρ x = u) : (execOp ρ (mk d (.pick c x y) ty ps af g)).run P w = .ok (.value u) w := r_pick hc hx rfl
theorem r_pick_f {c : Operand} {v : Value} (hc : ρ c = .bool false) (hy : ρ y = v) : (execOp ρ (mk d (.pick c x y) ty ps af g)).run P w = .ok (.value v) w := r_pick hc rfl hy
theorem r_not {t : TypeId} {b : Bool} (h : ρ x = .bool b) : (execOp ρ (mk d (.unOp .not t x) ty ps af g)).run P w = .ok (.value (.bool !b)) w := by
  refine run_v ?_
  rw [h]; rfl
theorem r_bin {op : BinOp} {t t' : TypeId} {a b : Value} {v : Value} (hop : op ≠ .eql ∧ op ≠ .neq ∨ (∃ k n, a = .int k n) ∨ (∃ s, a = .string s) ∨ (∃ s, a = .bool s)) (hx : ρ x = a) (hy : ρ y = b) (h : (binOp op t a b).run P w = .ok v w) :
    (execOp ρ (mk d (.binOp op t x y t') ty ps af g)).run P w = .ok (.value v) w := by
  refine run_v ?_
  show (do eqGuard op t x y (ρ x) (ρ y); binOp op t (ρ x) (ρ y) : Sem Value).run P w = _
  rw [hx, hy]
  have he : (eqGuard op t x y a b).run P w = .ok () w := by
    unfold eqGuard
    rcases hop with ⟨h1, h2⟩ | ⟨k, n, rfl⟩ | ⟨s, rfl⟩ | ⟨s, rfl⟩
    · cases op <;> first | rfl | exact absurd rfl h1 | exact absurd rfl h2
    all_goals cases op <;> rfl
  rw [run_bind_ok he]
  exact h
theorem r_arith {op : BinOp} {t t' : TypeId} {k : IntKind} {a b : Int} {v : Value} (hx : ρ x = .int k a) (hy : ρ y = .int k b) (h : (binOp op t (.int k a) (.int k b)).run P w = .ok v w) :
    (execOp ρ (mk d (.binOp op t x y t') ty ps af g)).run P w = .ok (.value v) w := r_bin (.inr (.inl ⟨_, _, rfl⟩)) hx hy h
theorem r_add {t t' : TypeId} {k : IntKind} {a b : Int} (hx : ρ x = .int k a) (hy : ρ y = .int k b) : (execOp ρ (mk d (.binOp .add t x y t') ty ps af g)).run P w = .ok (.value (.int k (k.wrap (a + b)))) w :=
  r_arith hx hy (by simp only [binOp, Op.intArith, ne_eq, not_true_eq_false, if_false]; rfl)
theorem r_mul {t t' : TypeId} {k : IntKind} {a b : Int} (hx : ρ x = .int k a) (hy : ρ y = .int k b) : (execOp ρ (mk d (.binOp .mul t x y t') ty ps af g)).run P w = .ok (.value (.int k (k.wrap (a * b)))) w :=
  r_arith hx hy (by simp only [binOp, Op.intArith, ne_eq, not_true_eq_false, if_false]; rfl)
theorem r_quo {t t' : TypeId} {k : IntKind} {a b : Int} (hx : ρ x = .int k a) (hy : ρ y = .int k b) (hb : b ≠ 0) : (execOp ρ (mk d (.binOp .quo t x y t') ty ps af g)).run P w = .ok (.value (.int k (k.wrap (a.tdiv b)))) w :=
  r_arith hx hy (by simp only [binOp, Op.intDiv, hb, ne_eq, not_true_eq_false, if_false]; rfl)
theorem r_rem {t t' : TypeId} {k : IntKind} {a b : Int} (hx : ρ x = .int k a) (hy : ρ y = .int k b) (hb : b ≠ 0) : (execOp ρ (mk d (.binOp .rem t x y t') ty ps af g)).run P w = .ok (.value (.int k (a.tmod b))) w :=
  r_arith hx hy (by simp only [binOp, Op.intDiv, hb, ne_eq, not_true_eq_false, if_false]; rfl)
theorem r_lss {t t' : TypeId} {k : IntKind} {a b : Int} (hx : ρ x = .int k a) (hy : ρ y = .int k b) : (execOp ρ (mk d (.binOp .lss t x y t') ty ps af g)).run P w = .ok (.value (.bool (decide (a < b)))) w :=
  r_arith hx hy (by simp only [binOp, Op.intCmp, ne_eq, not_true_eq_false, if_false]; rfl)
theorem r_leq {t t' : TypeId} {k : IntKind} {a b : Int} (hx : ρ x = .int k a) (hy : ρ y = .int k b) : (execOp ρ (mk d (.binOp .leq t x y t') ty ps af g)).run P w = .ok (.value (.bool (decide (a ≤ b)))) w :=
  r_arith hx hy (by simp only [binOp, Op.intCmp, ne_eq, not_true_eq_false, if_false]; rfl)
theorem r_geq {t t' : TypeId} {k : IntKind} {a b : Int} (hx : ρ x = .int k a) (hy : ρ y = .int k b) : (execOp ρ (mk d (.binOp .geq t x y t') ty ps af g)).run P w = .ok (.value (.bool (decide (b ≤ a)))) w :=
  r_arith hx hy (by simp only [binOp, Op.intCmp, ne_eq, not_true_eq_false, if_false]; rfl)
theorem r_eql {t t' : TypeId} {k : IntKind} {a b : Int} (hx : ρ x = .int k a) (hy : ρ y = .int k b) : (execOp ρ (mk d (.binOp .eql t x y t') ty ps af g)).run P w = .ok (.value (.bool (decide (a = b)))) w :=
  r_arith hx hy (by simp only [binOp, Op.intCmp, ne_eq, not_true_eq_false, if_false]; rfl)
theorem r_neq {t t' : TypeId} {k : IntKind} {a b : Int} (hx : ρ x = .int k a) (hy : ρ y = .int k b) : (execOp ρ (mk d (.binOp .neq t x y t') ty ps af g)).run P w = .ok (.value (.bool (!decide (a = b)))) w :=
  r_arith hx hy (by simp only [binOp, Op.intCmp, ne_eq, not_true_eq_false, if_false]; rfl)
theorem wrap64 {n : Int} (h0 : -9223372036854775808 ≤ n) (h1 : n ≤ 9223372036854775807) : IntKind.i64.wrap n = n := IntWalk.i64_in _ (by omega)
/-- The value, spelled otherwise. -/
theorem r_as {o : Oper} {v v' : Value} (h : (execOp ρ o).run P w = .ok (.value v) w) (e : v = v') : (execOp ρ o).run P w = .ok (.value v') w := e ▸ h
theorem int_as {k : IntKind} {a b : Int} (h : a = b) : Value.int k a = .int k b := by rw [h]
theorem bool_as {a b : Bool} (h : a = b) : Value.bool a = .bool b := by rw [h]
theorem r_extract {i : Nat} {vs : Array Value} {v : Value} (hx : ρ x = .tuple vs) (hv : vs[i]? = some v) : (execOp ρ (mk d (.extract x i) ty ps af g)).run P w = .ok (.value v) w := by
  refine run_v ?_
  rw [hx]
  simp only [Instr.extract, hv]
  rfl
theorem r_makeFunc {fn : Fn} {fs cs : Array Operand} {vs us : Array Value} (hf : fs.map ρ = vs) (hc : cs.map ρ = us) : (execOp ρ (mk d (.makeFunc fn fs cs) ty ps af g)).run P w = .ok (.value (.func fn vs us)) w := by
  subst hf hc
  rfl
theorem run_builtin {b : Builtin} {os : Array Operand} {ats : Array TypeId} :
    (execOp ρ (mk d (.call { callee := .builtin b, args := os, argTypes := ats }) ty ps af g)).run P w = (builtin b ats ty (os.map fun | .const _ => true | _ => false) (os.map ρ)).run P w := rfl
theorem r_len {t : TypeId} {e : TypeId} {a : Option Addr} {n c : Nat} (ht : sliOf P t = some e) (hx : ρ x = .slice a n c) : (execOp ρ (mk d (.call { callee := .builtin .len, args := #[x], argTypes := #[t] }) ty ps af g)).run P w = .ok (.value (.int .i64 n)) w := by
  rw [run_builtin]
  simp only [List.map_toArray, List.map_cons, List.map_nil, hx]
  refine run_v ?_
  simp only [Builtin.len_, List.getElem?_toArray, List.getElem?_cons_zero]
  rw [run_underlying (und_sli ht)]
  rfl
theorem r_min {k : IntKind} {ats : Array TypeId} {a b : Int} (hx : ρ x = .int k a) (hy : ρ y = .int k b) : (execOp ρ (mk d (.call { callee := .builtin .min, args := #[x, y], argTypes := ats }) ty ps af g)).run P w = .ok (.value (.int k (if b < a then b else a))) w := by
  rw [run_builtin]
  simp only [List.map_toArray, List.map_cons, List.map_nil, hx, hy]
  rfl
theorem r_indexAddrA {t e : TypeId} {len sz i : Nat} {k : IntKind} {b off : Nat} (ht : arrOf P t = some (len, e)) (hs : szOf P e = some sz) (hx : ρ x = .pointer (some ⟨b, off, none⟩)) (hy : ρ y = .int k i) (hi : i < len) :
    (execOp ρ (mk d (.indexAddr t x y) ty ps af g)).run P w = .ok (.value (.pointer (some ⟨b, off + i * sz, none⟩))) w := by
  refine run_v ?_
  rw [hx, hy]
  unfold Instr.indexAt
  rw [run_bind_ok (a := (k, (i : Int))) (w' := w) rfl]
  dsimp only
  rw [run_underlying (und_arr ht)]
  dsimp only
  rw [run_bind_ok (a := ⟨b, off, none⟩) (w' := w) rfl, run_bind_ok (a := (some ⟨b, off, none⟩, len, e)) (w' := w) rfl]
  dsimp only
  rw [run_underlying (und_arr ht)]
  have hlt : 0 ≤ (i : Int) ∧ (i : Int) < len := ⟨by omega, by omega⟩
  simp only [if_pos hlt]
  rw [run_bind_ok (run_sizeOf hs)]
  simp only [addr_add]
  rfl
theorem r_indexAddrS {t e : TypeId} {len cap sz i : Nat} {k : IntKind} {b off : Nat} (ht : sliOf P t = some e) (hs : szOf P e = some sz) (hx : ρ x = .slice (some ⟨b, off, none⟩) len cap) (hy : ρ y = .int k i) (hi : i < len) :
    (execOp ρ (mk d (.indexAddr t x y) ty ps af g)).run P w = .ok (.value (.pointer (some ⟨b, off + i * sz, none⟩))) w := by
  refine run_v ?_
  rw [hx, hy]
  unfold Instr.indexAt
  rw [run_bind_ok (a := (k, (i : Int))) (w' := w) rfl]
  dsimp only
  rw [run_underlying (und_sli ht)]
  dsimp only
  rw [run_bind_ok (a := (some ⟨b, off, none⟩, len, e)) (w' := w) rfl]
  dsimp only
  rw [run_underlying (und_sli ht)]
  have hlt : 0 ≤ (i : Int) ∧ (i : Int) < len := ⟨by omega, by omega⟩
  simp only [if_pos hlt]
  rw [run_bind_ok (run_sizeOf hs)]
  simp only [addr_add]
  rfl
theorem r_fieldAddr {t ft : TypeId} {i fo sz : Nat} {b off : Nat} (ht : fldOf P t i = some (ft, fo)) (hs : szOf P ft = some (sz + 1)) (hx : ρ x = .pointer (some ⟨b, off, none⟩)) :
    (execOp ρ (mk d (.fieldAddr t x i) ty ps af g)).run P w = .ok (.value (.pointer (some ⟨b, off + fo, none⟩))) w := by
  refine run_v ?_
  rw [hx]
  obtain ⟨fs, hu, f, hf, rfl, rfl⟩ := und_fld ht
  unfold Instr.fieldAt
  rw [run_underlying hu]
  simp only [hf]
  rw [run_bind_ok (a := ⟨b, off, none⟩) (w' := w) rfl]
  unfold fieldPlace
  simp only [bind_assoc]
  rw [run_bind_ok (run_sizeOf hs)]
  simp only [addr_add]
  rfl
theorem run_part_agg {t : TypeId} {cs : Array Value} {off n : Nat} (ha : aggOf P t = some true) (hs : szOf P t = some n) : (part t cs off).run P w = .ok (.agg (cs.extract off (off + n))) w := by
  unfold part
  rw [run_bind_ok (run_isAgg ha)]
  simp only [if_true]
  rw [run_bind_ok (run_sizeOf hs)]
  rfl
theorem run_part_one {t : TypeId} {cs : Array Value} {off : Nat} {v : Value} (ha : aggOf P t = some false) (hv : cs[off]? = some v) : (part t cs off).run P w = .ok v w := by
  unfold part
  rw [run_bind_ok (run_isAgg ha)]
  simp only [hv]
  rfl
/-! ### reading memory -/
theorem run_load_cell {b off : Nat} {cs : Array Value} {T : TypeId} {f : Nat × Nat} {v : Value} (hb : hp w b = some (.cells cs T f)) (hv : cs[off]? = some v) : (load ⟨b, off, none⟩).run P w = .ok v w := by
  have hc : w.cell? ⟨b, off, none⟩ = some v := cell_of hb hv
  simp only [load, Sem.run, hc]
theorem run_loadCellsFrom {b off : Nat} {cs : Array Value} {T : TypeId} {f : Nat × Nat} (hb : hp w b = some (.cells cs T f)) : ∀ (n i : Nat) (acc : Array Value), off + i + n ≤ cs.size →
    (loadCellsFrom ⟨b, off, none⟩ i n acc).run P w = .ok (acc ++ cs.extract (off + i) (off + i + n)) w
  | 0, i, acc, _ => by
    rw [show cs.extract (off + i) (off + i + 0) = #[] by simp; omega, Array.append_empty]; rfl
  | n + 1, i, acc, h => by
    unfold loadCellsFrom
    have hlt : off + i < cs.size := by omega
    rw [run_bind_ok (a := cs[off + i]) (w' := w)]
    · rw [run_loadCellsFrom hb n (i + 1) _ (by omega)]
      congr 1
      apply Array.ext'
      simp only [Array.toList_append, Array.toList_push, Array.toList_extract, List.append_assoc, List.singleton_append]
      congr 1
      simp only [List.extract_eq_take_drop]
      rw [show off + i + (n + 1) - (off + i) = n + 1 by omega, show off + (i + 1) + n - (off + (i + 1)) = n by omega,
        List.drop_eq_getElem_cons (l := cs.toList) (i := off + i) (by simpa using hlt), List.take_succ_cons]
      rfl
    · rw [addr_add]; exact run_load_cell hb (Array.getElem?_eq_getElem hlt)
theorem r_load {t : TypeId} {b off : Nat} {cs : Array Value} {T : TypeId} {f : Nat × Nat} {v : Value} (ha : aggOf P t = some false) (hx : ρ x = .pointer (some ⟨b, off, none⟩)) (hb : hp w b = some (.cells cs T f)) (hv : cs[off]? = some v) :
    (execOp ρ (mk d (.load t x) ty ps af g)).run P w = .ok (.value v) w := by
  refine run_v ?_
  rw [hx]
  unfold Instr.loadAt
  rw [run_bind_ok (a := ⟨b, off, none⟩) (w' := w) rfl]
  unfold loadVar
  rw [run_bind_ok (run_isAgg ha)]
  exact run_load_cell hb hv
theorem run_loadVar_agg {t : TypeId} {b off n : Nat} {cs : Array Value} {T : TypeId} {f : Nat × Nat} {vs : Array Value} (ha : aggOf P t = some true) (hs : szOf P t = some n) (hb : hp w b = some (.cells cs T f))
    (hn : off + n ≤ cs.size) (hv : cs.extract off (off + n) = vs) : (loadVar t ⟨b, off, none⟩).run P w = .ok (.agg vs) w := by
  unfold loadVar
  rw [run_bind_ok (run_isAgg ha)]
  simp only [if_true]
  rw [run_bind_ok (run_sizeOf hs)]
  unfold loadCells
  have := run_loadCellsFrom (P := P) (off := off) hb n 0 #[] (by omega)
  simp only [Nat.add_zero] at this
  rw [run_bind_ok this, hv, Array.empty_append]
  rfl
theorem r_loadA {t : TypeId} {b off n : Nat} {cs : Array Value} {T : TypeId} {f : Nat × Nat} {vs : Array Value} (ha : aggOf P t = some true) (hs : szOf P t = some n) (hx : ρ x = .pointer (some ⟨b, off, none⟩)) (hb : hp w b = some (.cells cs T f))
    (hn : Nat.ble (off + n) cs.size = true) (hv : cs.extract off (off + n) = vs) : (execOp ρ (mk d (.load t x) ty ps af g)).run P w = .ok (.value (.agg vs)) w := by
  refine run_v ?_
  rw [hx]
  unfold Instr.loadAt
  rw [run_bind_ok (a := ⟨b, off, none⟩) (w' := w) rfl]
  exact run_loadVar_agg ha hs hb (Nat.le_of_ble_eq_true hn) hv
/-- A whole variable of its own. -/
theorem r_loadW {t : TypeId} {b n : Nat} {cs : Array Value} {T : TypeId} {f : Nat × Nat} (ha : aggOf P t = some true) (hs : szOf P t = some n) (hx : ρ x = .pointer (some ⟨b, 0, none⟩)) (hb : hp w b = some (.cells cs T f)) (hn : cs.size = n) :
    (execOp ρ (mk d (.load t x) ty ps af g)).run P w = .ok (.value (.agg cs)) w :=
  r_loadA ha hs hx hb (by rw [hn, Nat.zero_add]; exact Nat.ble_self_eq_true n) (by subst hn; simp)
end quiet

/-! ### operations that make or write memory -/
section loud
variable {P : Program} {w : World} {ρ : Operand → Value} {d : Option Tmp} {ty : TypeId} {ps : String} {af : Array Edge} {g : Option (Nat × Bool)} {x y : Operand}
theorem r_box {t : TypeId} {v : Value} {cs : Array Value} (hx : ρ x = v) (hc : v.cells = cs) : (execOp ρ (mk d (.box t x) ty ps af g)).run P w = .ok (.value (.pointer (some ⟨w.heap.size, 0, none⟩))) (w.alloc (.cells cs t)) := by
  subst hx hc
  rfl
theorem r_alloc {t : TypeId} {v : Value} {cs : Array Value} (hz : zeroOf P t = some v) (hc : v.cells = cs) : (execOp ρ (mk d (.alloc t) ty ps af g)).run P w = .ok (.value (.pointer (some ⟨w.heap.size, 0, none⟩))) (w.alloc (.cells cs t)) := by
  refine run_v ?_
  unfold Instr.alloc
  have : (zeroValue t).run P w = .ok v w := by
    simp only [zeroOf, Option.bind_eq_some_iff] at hz
    obtain ⟨i, hi, hz⟩ := hz
    simp [zeroValue, typeInfo, program, Sem.bind, Sem.run, bind, hi, hz, pure]
  rw [run_bind_ok this]
  subst hc
  rfl
/-- Cells written, one behind the other. -/
def wrC (cs : Array Value) (off : Nat) : List Value → Array Value
  | [] => cs
  | v :: r => wrC (cs.setIfInBounds off v) (off + 1) r
def isOne : Value → Bool
  | .agg _ => false
  | .tuple _ => false
  | _ => true
/-- Block b holds o; all else is as it was. -/
structure Upd (w : World) (b : Nat) (o : Obj) (w' : World) : Prop where
  os : w'.os = w.os
  tape : w'.tape = w.tape
  output : w'.output = w.output
  size : w'.heap.size = w.heap.size
  this : hp w' b = some o
  other : ∀ k, k ≠ b → hp w' k = hp w k
theorem Upd.trans {w w' w'' : World} {b : Nat} {o o' : Obj} (h : Upd w b o w') (k : Upd w' b o' w'') : Upd w b o' w'' :=
  ⟨k.os.trans h.os, k.tape.trans h.tape, k.output.trans h.output, k.size.trans h.size, k.this, fun i hi => (k.other i hi).trans (h.other i hi)⟩
theorem Upd.setCell {w : World} {b off : Nat} {cs : Array Value} {T : TypeId} {f : Nat × Nat} (h : hp w b = some (.cells cs T f)) (v : Value) : Upd w b (.cells (cs.setIfInBounds off v) T f) (w.setCell ⟨b, off, none⟩ v) :=
  ⟨rfl, rfl, rfl, by simp [World.setCell], heap_setCell_same h, fun k hk => by rw [hp_setCell, if_neg hk]⟩
theorem run_storeCells {b off : Nat} {T : TypeId} : ∀ (vs : List Value) (i : Nat) (w : World) (cs : Array Value), hp w b = some (.cells cs T (0, 0)) → off + i + vs.length ≤ cs.size → vs.all isOne = true →
    ∃ w', (storeCells ⟨b, off, none⟩ vs i).run P w = .ok () w' ∧ Upd w b (.cells (wrC cs (off + i) vs) T (0, 0)) w'
  | [], i, w, cs, hb, _, _ => ⟨w, rfl, ⟨rfl, rfl, rfl, rfl, hb, fun _ _ => rfl⟩⟩
  | v :: vs, i, w, cs, hb, hn, ho => by
    simp only [List.all_cons, Bool.and_eq_true] at ho
    simp only [List.length_cons] at hn
    have hlt : off + i < cs.size := by omega
    have h1 := Upd.setCell (off := off + i) hb v
    obtain ⟨w', hr, hu⟩ := run_storeCells (off := off) vs (i + 1) (w.setCell ⟨b, off + i, none⟩ v) _ h1.this (by simp; omega) ho.2
    refine ⟨w', ?_, h1.trans hu⟩
    unfold storeCells
    rw [run_bind_ok (a := ()) (w' := w.setCell ⟨b, off + i, none⟩ v)]
    · exact hr
    · have hc : w.cell? ⟨b, off + i, none⟩ = some cs[off + i] := cell_of hb (by simp [hlt])
      have hf : w.frozen? ⟨b, off + i, none⟩ = false := free_of hb
      have ho := ho.1
      cases v <;> first
        | (simp [isOne] at ho; done)
        | simp [store, addr_add, Sem.run, hc, hf]
theorem run_storeVar {t : TypeId} {b off n : Nat} {cs : Array Value} {T : TypeId} {v : Value} (hs : szOf P t = some n) (hb : hp w b = some (.cells cs T (0, 0))) (hv : v.cells.size = n) (hn : off + n ≤ cs.size) (ho : v.cells.toList.all isOne = true) :
    ∃ w', (storeVar t ⟨b, off, none⟩ v).run P w = .ok () w' ∧ Upd w b (.cells (wrC cs off v.cells.toList) T (0, 0)) w' := by
  obtain ⟨w', hr, hu⟩ := run_storeCells (P := P) (b := b) (off := off) v.cells.toList 0 w cs hb (by simp; omega) ho
  refine ⟨w', ?_, hu⟩
  unfold storeVar
  rw [run_bind_ok (run_sizeOf hs)]
  simp [hv]
  exact hr
theorem r_store {t : TypeId} {b off n : Nat} {cs cs' : Array Value} {T : TypeId} {v : Value} (hs : szOf P t = some n) (hx : ρ x = .pointer (some ⟨b, off, none⟩)) (hy : ρ y = v) (hb : hp w b = some (.cells cs T (0, 0))) (hv : v.cells.size = n)
    (hn : Nat.ble (off + n) cs.size = true) (ho : v.cells.toList.all isOne = true) (hc : wrC cs off v.cells.toList = cs') :
    ∃ w', (execOp ρ (mk d (.store t x y) ty ps af g)).run P w = .ok .skip w' ∧ Upd w b (.cells cs' T (0, 0)) w' := by
  subst hc
  obtain ⟨w', hr, hu⟩ := run_storeVar hs hb hv (Nat.le_of_ble_eq_true hn) ho
  refine ⟨w', ?_, hu⟩
  show (do Instr.storeAt t (ρ x) (ρ y); pure Next.skip : Sem Next).run P w = _
  rw [hx, hy, run_bind_ok (a := ()) (w' := w')]
  · rfl
  · unfold Instr.storeAt
    rw [run_bind_ok (a := ⟨b, off, none⟩) (w' := w) rfl]
    exact hr
end loud
end Go.Proofs.Ytbiapeaghbndoaa
