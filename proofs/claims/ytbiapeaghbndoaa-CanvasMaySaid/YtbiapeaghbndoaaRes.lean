/- What a function hands over: its results, out of slots and of variables. Over any program. -/
import Derived.Test.YtbiapeaghbndoaaDraw2
namespace Go.Proofs.Ytbiapeaghbndoaa
open Go Go.RowKit
section
variable {P : Program} {w : World} {tmps : Array Value} {fn : Func}
def resF (tmps : Array Value) (r : ResultVar) : Sem Value := match r with | .tmp t => pure (tmps.getD t undef) | .cell a t => do loadVar t (← asAddr (tmps.getD a undef))
/-- A result is there. -/
def ResAt (P : Program) (w : World) (tmps : Array Value) (r : ResultVar) (v : Value) : Prop := (resF tmps r).run P w = .ok v w
theorem results_eq : results fn tmps = (do let vs ← fn.results.mapM (resF tmps); pure (if h : vs.size = 1 then vs[0] else .tuple vs)) := by
  unfold results
  congr 1
theorem res_tmp {t : Tmp} {v : Value} (h : tmps.getD t undef = v) : ResAt P w tmps (.tmp t) v := by subst h; rfl
theorem res_cell {a : Tmp} {t : TypeId} {v : Value} {ad : Addr} (h : tmps.getD a undef = .pointer (some ad)) (hl : (loadVar t ad).run P w = .ok v w) : ResAt P w tmps (.cell a t) v := by
  show (do loadVar t (← asAddr (tmps.getD a undef)) : Sem Value).run P w = _
  rw [h, run_bind_ok (a := ad) (w' := w) rfl]
  exact hl
theorem res1 {r : ResultVar} {v : Value} (h : fn.results = #[r]) (h1 : ResAt P w tmps r v) : (results fn tmps).run P w = .ok v w := by
  unfold ResAt at h1
  rw [results_eq, h]
  simp [h1]
theorem res2 {r s : ResultVar} {v u : Value} (h : fn.results = #[r, s]) (h1 : ResAt P w tmps r v) (h2 : ResAt P w tmps s u) : (results fn tmps).run P w = .ok (.tuple #[v, u]) w := by
  unfold ResAt at h1 h2
  rw [results_eq, h]
  simp [h1, h2]
theorem res3 {r s q : ResultVar} {v u x : Value} (h : fn.results = #[r, s, q]) (h1 : ResAt P w tmps r v) (h2 : ResAt P w tmps s u) (h3 : ResAt P w tmps q x) : (results fn tmps).run P w = .ok (.tuple #[v, u, x]) w := by
  unfold ResAt at h1 h2 h3
  rw [results_eq, h]
  simp [h1, h2, h3]
end

/-! ### small steps of printed proofs -/
section
variable {α : Type} {K r : List (Nat × α)} {t : Nat} {v : α}
theorem bnot_t {b : Bool} (h : (!b) = true) : b = false := by cases b <;> simp_all
theorem bnot_f {b : Bool} (h : (!b) = false) : b = true := by cases b <;> simp_all
theorem sub_nil : SubK K [] := trivial
theorem sub_cons (h : lk K t = some v) (hr : SubK K r) : SubK K ((t, v) :: r) := ⟨h, hr⟩
end
def AllM (p : Nat → Prop) : List Nat → Prop
  | [] => True
  | i :: r => p i ∧ AllM p r
theorem all_nil {p : Nat → Prop} : AllM p [] := trivial
theorem all_cons {p : Nat → Prop} {i : Nat} {r : List Nat} (h : p i) (hr : AllM p r) : AllM p (i :: r) := ⟨h, hr⟩
theorem allM {p : Nat → Prop} : ∀ {l : List Nat}, AllM p l → ∀ i ∈ l, p i
  | [], _, i, h => by cases h
  | j :: l, h, i, hi => by
    rcases List.mem_cons.1 hi with rfl | hi
    · exact h.1
    · exact allM h.2 i hi
section
variable {R : Rg} {K0 V r : List (Nat × Value)} {t : Nat} {v : Value}
theorem end_nil : EndOk R K0 V [] := trivial
theorem end_new (j : Nat) (hd : dstAt R.ops j = some t) (hv : lk V j = some v) (hr : EndOk R K0 V r) : EndOk R K0 V ((t, v) :: r) := ⟨.inl ⟨j, hd, hv⟩, hr⟩
theorem end_old (hn : (allUpto R.ops.size fun j => dstAt R.ops j != some t) = true) (hv : lk K0 t = some v) (hr : EndOk R K0 V r) : EndOk R K0 V ((t, v) :: r) := ⟨.inr ⟨hn, hv⟩, hr⟩
variable {C : Cx} {L : Heap}
theorem q_run {i : Nat} {o : Oper} (v : Value) (ho : R.ops[i]? = some o) (hV : lk V i = some v) (hw : WantV V o true) (hn : isDefer o.op = false) (hr : ∀ ρ w, Rd (kOf K0 V (R.S.getD i [])) ρ → MemOk C.w₀ L w → (execOp ρ o).run C.P w = .ok (.value v) w) : QOb C R K0 V L i :=
  ⟨o, v, ho, .inl hV, .inl ⟨hw, hn, hr⟩⟩
theorem q_no {i : Nat} {o : Oper} (ho : R.ops[i]? = some o) (hV : lk V i = some undef) (hw : WantV V o false) : QOb C R K0 V L i := ⟨o, undef, ho, .inl hV, .inr ⟨hw, rfl⟩⟩
theorem wv_n {o : Oper} (hg : o.guard = none) : WantV V o true := by unfold WantV; rw [hg]
theorem wv_y {o : Oper} {j : Nat} {b : Bool} (hg : o.guard = some (j, b)) (h : lk V j = some (.bool b)) : WantV V o true := by unfold WantV; rw [hg]; exact .inl ⟨rfl, h⟩
theorem wv_u {o : Oper} {j : Nat} {b : Bool} (hg : o.guard = some (j, b)) (h : lk V j = some undef) : WantV V o false := by unfold WantV; rw [hg]; exact .inr (.inr ⟨rfl, h⟩)
theorem wv_no {o : Oper} {j : Nat} {b : Bool} (hg : o.guard = some (j, b)) (h : lk V j = some (.bool !b)) : WantV V o false := by unfold WantV; rw [hg]; exact .inr (.inl ⟨rfl, h⟩)
theorem w_n {ops : Array Oper} {K : List (Nat × Value)} {o : Oper} (hg : o.guard = none) : Want ops K o true := by unfold Want; rw [hg]
end
section
variable {P : Program} {w : World} {ρ : Operand → Value} {d : Option Tmp} {ty : TypeId} {ps : String} {af : Array Edge} {g : Option (Nat × Bool)} {x y : Operand}
theorem r_build {t : TypeId} {pl : List (Nat × Operand)} {vs : List (Nat × Value)} {v : Value} (h : (Instr.build t vs.toArray).run P w = .ok v w) (hp : pl.map (fun p => (p.1, ρ p.2)) = vs) :
    (execOp ρ (mk d (.build t pl.toArray) ty ps af g)).run P w = .ok (.value v) w := by
  refine run_v ?_
  subst hp
  simpa using h
def notNil : Value → Bool
  | .pointer (some _) => true
  | .func (.func _) _ _ => true
  | _ => false
theorem r_nilCheck {v : Value} (hx : ρ x = v) (hv : notNil v = true) : (execOp ρ (mk d (.nilCheck x) ty ps af g)).run P w = .ok (.value v) w := by
  simp only [execOp, hx]
  unfold notNil at hv
  split at hv
  · rfl
  · rfl
  · cases hv
end
theorem quo_i64 {a b : Int} (ha : 0 ≤ a) (ha' : a ≤ 9223372036854775807) (hb : 0 < b) : IntKind.i64.wrap (a.tdiv b) = a / b := by
  have h1 : a.tdiv b = a / b := Int.tdiv_eq_ediv_of_nonneg ha
  have h2 : a / b ≤ a := Int.ediv_le_self b ha
  have h3 : 0 ≤ a / b := Int.ediv_nonneg ha (by omega)
  rw [h1, wrap64 (by omega) (by omega)]
theorem cons2 {α : Type} {a a' : α} {l l' : List α} (h : a = a') (k : l = l') : a :: l = a' :: l' := by rw [h, k]
theorem pair2 {β : Type} {i : Nat} {a a' : β} (h : a = a') : (i, a) = (i, a') := by rw [h]
theorem map_arr {α β : Type} {f : α → β} {l : List α} {r : List β} (h : l.map f = r) : l.toArray.map f = r.toArray := by subst h; simp
end Go.Proofs.Ytbiapeaghbndoaa
