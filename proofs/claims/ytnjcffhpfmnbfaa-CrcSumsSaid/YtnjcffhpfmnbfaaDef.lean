/- Deferred calls; calls of what has no body. Over any program. -/
import Derived.Test.YtnjcffhpfmnbfaaMap
import Derived.Defers
import Derived.Laws.LoneSync
namespace Go.Proofs.Ytnjcffhpfmnbfaa
open Go Go.RowKit

section
variable {P : Program} {w w' : World} {ρ : Operand → Value} {d : Option Tmp} {ty : TypeId} {ps : String} {af : Array Edge} {g : Option (Nat × Bool)}
/-- A call that comes to a value at once. -/
theorem r_callE {f : Nat} {fop : Operand} {opl : List Operand} {first cap : Array Value} {args : List Value} {ats : Array TypeId} {all : Array Value} {v : Value} (hf : ρ fop = .func (.func f) first cap) (ha : opl.map ρ = args) (hall : first ++ args.toArray ++ cap = all)
    (hr : (callFunc f all).run P w = .ok (.value v) w') : (execOp ρ (mk d (.call { callee := .value fop, args := opl.toArray, argTypes := ats }) ty ps af g)).run P w = .ok (.value v) w' := by
  subst ha hall
  show (do let d ← resolve ρ _ ty; invoke d.target d.args : Sem Next).run P w = _
  simp only [resolve, hf]
  rw [run_bind_ok (a := { target := .fn (.func f) cap, args := first ++ (opl.map ρ).toArray }) (w' := w)]
  · exact hr
  · simp only [Deferred.ofValue, List.map_toArray]
    rfl
theorem r_defer {f : Nat} {fop : Operand} {opl : List Operand} {first cap : Array Value} {args : List Value} {ats : Array TypeId} {all : Array Value} (hf : ρ fop = .func (.func f) first cap) (ha : opl.map ρ = args) (hall : first ++ args.toArray = all) :
    (execOp ρ (mk d (.defer { callee := .value fop, args := opl.toArray, argTypes := ats }) ty ps af g)).run P w = .ok (.defer { target := .fn (.func f) cap, args := all }) w := by
  subst ha hall
  show (do pure (.defer (← resolve ρ _ ty)) : Sem Next).run P w = _
  simp only [resolve, hf]
  rw [run_bind_ok (a := { target := .fn (.func f) cap, args := first ++ (opl.map ρ).toArray }) (w' := w)]
  · rfl
  · simp only [Deferred.ofValue, List.map_toArray]
    rfl
theorem r_makeSlice {t e : TypeId} {s n cap by' : Nat} {z : Value} {x y : Operand} (ht : sliOf P t = some e) (hx : ρ x = .int .i64 (n : Nat)) (hy : ρ y = .int .i64 (cap : Nat)) (hr : (Instr.makeSlice t (.int .i64 (n : Nat)) (.int .i64 (cap : Nat))).run P w = .ok (.slice (some ⟨w.heap.size, 0, none⟩) n cap) w') :
    (execOp ρ (mk d (.makeSlice t x y) ty ps af g)).run P w = .ok (.value (.slice (some ⟨w.heap.size, 0, none⟩) n cap)) w' := by
  refine run_v ?_
  rw [hx, hy]; exact hr
end
abbrev Cx.push (C : Cx) (d : Deferred) : Cx := ⟨C.P, C.w₀, C.N, d :: C.D, C.ro⟩
section
variable {C : Cx} {ops : Array Oper} {os : List Oper} {Q : Post} {K : List (Nat × Value)} {L : Heap} {o : Oper}
theorem TL_defer (dd : Deferred) (hro : C.ro = none) (hr : ∀ ρ w, Rd K ρ → MemOk C.w₀ L w → (execOp ρ o).run C.P w = .ok (.defer dd) w) (hd : o.dst = none) (hw : Want ops K o true)
    (h : TL (C.push dd) ops os Q K L) : TL C ops (o :: os) Q K L := by
  obtain ⟨P, w₀, N, CD, ro⟩ := C
  cases hro
  intro a w hf hm
  unfold wpListIn
  rw [hw.is hf, if_pos rfl]
  refine ⟨fun _ _ => trivial, ?_⟩
  show o.uponIn _ _ _ _ _ _ ((execOp a.eval o).run P w)
  rw [hr _ _ hf.rd hm, Oper.uponIn_defer, hd]
  exact h _ _ ⟨hf.size, by show dd :: a.defers = _; rw [hf.defers], hf.knows⟩ hm
end
section
variable {C : Cx} {K : List (Nat × Value)} {L : Heap}
/-- A function's contract, told by what is known of memory; it may have put off calls. -/
theorem ht_of_TD {P : Program} {f : FuncId} {fn : Func} {c : Code} {l : List Value} {w₀ : World} {L : Heap} {R : Ending → World → Prop} (N : Nat) (hf : P.funcs[f]? = some fn) (hN : fn.ntmps = N) (hn : Nat.ble l.length N = true) (hb : fn.body = some c)
    (h : T ⟨P, w₀, N, [], none⟩ c (bodyPostD P fn R) (argsK 0 l) L) : ∀ w, MemOk w₀ L w → Calls P f l.toArray w R := by
  intro w hm
  subst hN
  replace hn := Nat.le_of_ble_eq_true hn
  refine calls_of_wp_defers hf hb (wpIn_wide.1 (h _ w ?_ hm))
  refine lk_args (by simpa using hn) _ (fun t v ht => ?_)
  obtain ⟨_, h2⟩ := argsK_lk l 0 t v ht
  simpa using h2
/-- The contract of a call that was put off. -/
theorem d_of_T {P : Program} {f : FuncId} {fn : Func} {c : Code} {l : List Value} {w₀ : World} {L : Heap} {u : FrameMode} {R : Ending → World → Prop} (N : Nat) (hf : P.funcs[f]? = some fn) (hN : fn.ntmps = N) (hn : Nat.ble l.length N = true) (hb : fn.body = some c)
    (h : T ⟨P, w₀, N, [], none⟩ c (bodyPost P fn R) (argsK 0 l) L) : ∀ w, MemOk w₀ L w → CallsD P f l.toArray u w fun e u' w' => u' = u ∧ R e w' := by
  intro w hm
  subst hN
  replace hn := Nat.le_of_ble_eq_true hn
  refine callsD_of_wp hf hb (wpIn_wide.1 (h _ w ?_ hm))
  refine lk_args (by simpa using hn) _ (fun t v ht => ?_)
  obtain ⟨_, h2⟩ := argsK_lk l 0 t v ht
  simpa using h2
theorem ret_ofP {fn : Func} {R : Ending → World → Prop} (hD : C.D = []) (v : Value)
    (hr : ∀ tmps w, (∀ t u, lk K t = some u → tmps.getD t undef = u) → MemOk C.w₀ L w → (results fn tmps).run C.P w = .ok v w) (hR : ∀ w, MemOk C.w₀ L w → R (.returned v) w) : POk C (bodyPost C.P fn R) .ret K L :=
  fun _ w hf hm => ⟨hf.defers.trans hD, v, hr _ _ hf.knows hm, hR w hm⟩
theorem p_endP {fn : Func} {R : Ending → World → Prop} (h : POk C (bodyPost C.P fn R) .ret K L) : POk C (bodyPost C.P fn R) .normal K L := h
theorem ret_ofD {fn : Func} {R : Ending → World → Prop} (ds : List Deferred) (hD : C.D = ds)
    (h : ∀ tmps, (∀ t u, lk K t = some u → tmps.getD t undef = u) → ∀ w, MemOk C.w₀ L w → Leaves C.P fn tmps R ds .returning w) : POk C (bodyPostD C.P fn R) .ret K L := fun a w hf hm => by
  show Leaves _ _ _ _ a.defers _ _
  rw [hf.defers.trans hD]
  exact h _ hf.knows w hm
theorem p_endD {fn : Func} {R : Ending → World → Prop} (h : POk C (bodyPostD C.P fn R) .ret K L) : POk C (bodyPostD C.P fn R) .normal K L := h
theorem leavesH_cons {P : Program} {w₀ : World} {fn : Func} {tmps : Array Value} {R : Ending → World → Prop} {f : Nat} {cap args : Array Value} {ds : List Deferred} {L L' : Heap} {v : Value} (hE : Enters P f)
    (hc : ∀ w, MemOk w₀ L w → CallsD P f (args ++ cap) .returning w fun e u' w' => u' = .returning ∧ (e = .returned v ∧ MemOk w₀ L' w')) (h : ∀ w, MemOk w₀ L' w → Leaves P fn tmps R ds .returning w) :
    ∀ w, MemOk w₀ L w → Leaves P fn tmps R ({ target := .fn (.func f) cap, args := args } :: ds) .returning w := fun w hm => by
  refine ⟨by simp, .func f, cap, f, args ++ cap, rfl, hE _ w, (hc w hm).mono ?_⟩
  rintro e u' w' ⟨rfl, rfl, hm'⟩
  exact h w' hm'
theorem leavesH_nil {P : Program} {w₀ : World} {fn : Func} {tmps : Array Value} {R : Ending → World → Prop} {L : Heap} (v : Value) (hr : ∀ w, MemOk w₀ L w → (results fn tmps).run P w = .ok v w) (hR : ∀ w, MemOk w₀ L w → R (.returned v) w) :
    ∀ w, MemOk w₀ L w → Leaves P fn tmps R [] .returning w := fun w hm => ⟨v, hr w hm, hR w hm⟩
end
end Go.Proofs.Ytnjcffhpfmnbfaa
