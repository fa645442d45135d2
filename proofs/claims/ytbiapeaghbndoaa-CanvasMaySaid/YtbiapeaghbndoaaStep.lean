/- The judgement's rules for operations of a region that goes in the text's order. Over any program. -/
import Derived.Test.YtbiapeaghbndoaaOps
namespace Go.Proofs.Ytbiapeaghbndoaa
open Go Go.RowKit

def isDefer : Op → Bool
  | .defer _ => true
  | _ => false
theorem semAt_nd {ro : Option Nat} {ρ : Operand → Value} {o : Oper} (h : isDefer o.op = false) : o.semAt ro ρ = execOp ρ o :=
  Oper.semAt_eq ro ρ o (fun c e => by rw [e] at h; cases h)

section
variable {ro : Option Nat} {P : Program} {o : Oper} {a : Act} {w : World} {next : Act → World → Prop} {Q : Post}
theorem step_val {v : Value} {w' : World} (hn : isDefer o.op = false) (hr : (execOp a.eval o).run P w = .ok (.value v) w') (h : next (a.put o.dst v) w') : o.wpIn (FW ro) 0 P a w next Q := by
  refine ⟨fun _ _ => trivial, ?_⟩
  rw [semAt_nd hn, hr]
  exact h
theorem step_skip {w' : World} (hn : isDefer o.op = false) (hr : (execOp a.eval o).run P w = .ok .skip w') (h : next (a.put o.dst undef) w') : o.wpIn (FW ro) 0 P a w next Q := by
  refine ⟨fun _ _ => trivial, ?_⟩
  rw [semAt_nd hn, hr]
  exact h
theorem step_enter {f : FuncId} {args : Array Value} {R : Ending → World → Prop} {w' : World} (hn : isDefer o.op = false) (hr : (execOp a.eval o).run P w = .ok (.enter f args) w') (hc : Calls P f args w' R)
    (h : ∀ e w'', R e w'' → match e with
      | .returned v => next (a.put o.dst v) w''
      | .panicked chain => Q (.panic chain) a w''
      | .outgrown => LetsOut Q) : o.wpIn (FW ro) 0 P a w next Q := by
  refine ⟨fun _ _ => trivial, ?_⟩
  rw [semAt_nd hn, hr]
  refine ⟨fun hd => (by cases hd), ?_⟩
  have : CallsIn (FW ro) (0 - 1) P f args w' R := callsIn_wide (n := 0 - 1).2 hc
  refine CallsIn.mono this ?_
  intro e w'' hR
  have := h e w'' hR
  cases e <;> exact this
end

/-- The operation comes up by its guard (b), or does not. -/
def Want (ops : Array Oper) (K : List (Nat × Value)) (o : Oper) (b : Bool) : Prop :=
  match o.guard with
  | none => b = true
  | some (j, want) => ∃ d, (ops[j]?).bind (·.dst) = some d ∧ ((b = true ∧ lk K d = some (.bool want)) ∨ (b = false ∧ lk K d = some (.bool !want)) ∨ (b = false ∧ lk K d = some undef))
theorem Want.is {ops : Array Oper} {K : List (Nat × Value)} {o : Oper} {b : Bool} (h : Want ops K o b) {N : Nat} {D : List Deferred} {a : Act} (hf : FrOk N D K a) : Region.wanted o (yielded ops a.tmps) = b := by
  unfold Want at h
  unfold Region.wanted
  split at h
  · rename_i hg; rw [hg]; exact h.symm
  · rename_i j want hg
    obtain ⟨d, hd, h⟩ := h
    rw [hg]
    have key : ∀ c : Bool, lk K d = some (.bool c) → yielded ops a.tmps j = some c := fun c hc => by
      have hk := hf.knows d _ hc
      unfold yielded
      simp only [hd, Option.bind_some]
      rw [Array.getD_eq_getD_getElem?] at hk
      cases ht : a.tmps[d]? with
      | none => rw [ht] at hk; cases hk
      | some u => rw [ht] at hk; cases hk; rfl
    rcases h with ⟨rfl, h⟩ | ⟨rfl, h⟩ | ⟨rfl, h⟩
    · simp [key _ h]
    · simp only [key _ h]
      cases want <;> rfl
    · have hk := hf.knows d _ h
      have : yielded ops a.tmps j = none := by
        unfold yielded
        simp only [hd, Option.bind_some]
        rw [Array.getD_eq_getD_getElem?] at hk
        cases ht : a.tmps[d]? with
        | none => rfl
        | some u => rw [ht] at hk; cases hk; rfl
      simp only [this]
      cases want <;> rfl
theorem want_y {ops : Array Oper} {K : List (Nat × Value)} {o : Oper} {j : Nat} {want : Bool} (d : Nat) (hg : o.guard = some (j, want)) (hd : (ops[j]?).bind (·.dst) = some d) (hk : lk K d = some (.bool want)) : Want ops K o true := by
  unfold Want; rw [hg]; exact ⟨d, hd, .inl ⟨rfl, hk⟩⟩
theorem want_n {ops : Array Oper} {K : List (Nat × Value)} {o : Oper} {j : Nat} {want : Bool} (d : Nat) (hg : o.guard = some (j, want)) (hd : (ops[j]?).bind (·.dst) = some d) (hk : lk K d = some (.bool !want)) : Want ops K o false := by
  unfold Want; rw [hg]; exact ⟨d, hd, .inr (.inl ⟨rfl, hk⟩)⟩

theorem MemOk.below {w₀ w w' : World} {L : Heap} (h : MemOk w₀ L w) (hb : Below w.heap.size w w') : MemOk w₀ L w' :=
  ⟨below_call h.ext (Nat.le_refl _) hb, fun i r hl => Res.keep (h.own i r hl) fun b hf => hb.block b (Res.low (h.own i r hl) hf).2, h.sep⟩
/-- A thing behind another one that it takes the place of: what lies elsewhere stays. -/
theorem MemOk.set {w₀ w w' : World} {L : Heap} (h : MemOk w₀ L w) (i : Nat) (r' : Res) (hext : Below w₀.heap.size w₀ w') (hr : r'.ok w₀.heap.size w')
    (hother : ∀ j r, lk L j = some r → j ≠ i → ∀ b, r.foot b → hp w' b = hp w b ∧ ¬ r'.foot b) : MemOk w₀ ((i, r') :: L) w' := by
  refine ⟨hext, fun j r hl => ?_, fun j l r s hj hl hne => ?_⟩
  · by_cases e : i = j
    · subst e; rw [lk_cons_same] at hl; cases hl; exact hr
    · rw [lk_cons_other _ _ e] at hl
      exact Res.keep (h.own j r hl) fun b hb => (hother j r hl (Ne.symm e) b hb).1
  · by_cases e1 : i = j
    · subst e1
      rw [lk_cons_same] at hj
      cases hj
      rw [lk_cons_other _ _ hne] at hl
      exact fun b hb hs => (hother l s hl (Ne.symm hne) b hs).2 hb
    · rw [lk_cons_other _ _ e1] at hj
      by_cases e2 : i = l
      · subst e2
        rw [lk_cons_same] at hl
        cases hl
        exact fun b hb => (hother j r hj (Ne.symm e1) b hb).2
      · rw [lk_cons_other _ _ e2] at hl
        exact h.sep j l r s hj hl hne
theorem MemOk.new {w₀ w w' : World} {L : Heap} (h : MemOk w₀ L w) (hb : Below w.heap.size w w') (i : Nat) {b : Nat} {o : Obj} (h1 : w.heap.size ≤ b) (h2 : hp w' b = some o) : MemOk w₀ ((i, .blk b o) :: L) w' := by
  refine h.set i (.blk b o) (below_call h.ext (Nat.le_refl _) hb) ⟨Nat.le_trans h.ext.size h1, h2⟩ (fun j r hl _ c hc => ⟨hb.block c (Res.low (h.own j r hl) hc).2, fun e => ?_⟩)
  cases e
  have := (Res.low (h.own j r hl) hc).2
  omega
theorem MemOk.upd {w₀ w w' : World} {L : Heap} (h : MemOk w₀ L w) {i b : Nat} {o o' : Obj} (hi : lk L i = some (.blk b o)) (hu : Upd w b o' w') : MemOk w₀ ((i, .blk b o') :: L) w' := by
  have hb := (h.own i _ hi).1
  refine h.set i (.blk b o') ⟨hu.os.trans h.ext.os, hu.tape.trans h.ext.tape, hu.output.trans h.ext.output, by rw [hu.size]; exact h.ext.size, fun k hk => (hu.other k (by omega)).trans (h.ext.block k hk)⟩ ⟨hb, hu.this⟩ ?_
  intro j r hl hne c hc
  have hcb : c ≠ b := fun e => h.sep j i r _ hl hi hne c hc (by rw [e]; rfl)
  exact ⟨hu.other c hcb, fun e => by cases e; exact hcb rfl⟩
/-- A row that was appended to. -/
theorem MemOk.grow {w₀ w w' : World} {L : Heap} (h : MemOk w₀ L w) {i : Nat} {v v' : Value} {e : TypeId} {size n n' : Nat} {xs xs' : List Value} (hi : lk L i = some (.row v e size n xs) ∨ lk L i = none ∧ v.ownBlock = none)
    (hg : w.grownBy w' v.ownBlock) (hown : w'.ownsRow w₀.heap.size e size v' n' xs') (hat : v'.ownBlock = v.ownBlock ∨ v'.ownBlock = some w.heap.size) : MemOk w₀ ((i, .row v' e size n' xs') :: L) w' := by
  have hbase : ∀ k, v.ownBlock = some k → w₀.heap.size ≤ k := fun k hk => by
    rcases hi with hi | ⟨_, hn⟩
    · exact (Res.low (h.own i _ hi) hk).1
    · rw [hn] at hk; cases hk
  refine h.set i (.row v' e size n' xs') (h.ext.grown hg h.ext.size hbase) hown ?_
  intro j r hl hne c hc
  have hlt := (Res.low (h.own j r hl) hc).2
  have hcv : v.ownBlock ≠ some c := fun ev => by
    rcases hi with hi | ⟨_, hn⟩
    · exact h.sep j i r _ hl hi hne c hc ev
    · rw [hn] at ev; cases ev
  refine ⟨hg.block c hlt (fun ev => hcv ev.symm), fun ev => ?_⟩
  rcases hat with h1 | h1
  · exact hcv (h1.symm.trans ev)
  · have ev : v'.ownBlock = some c := ev
    rw [h1] at ev
    cases ev
    omega
/-- A row that is no nil is a block. -/
theorem MemOk.open {w₀ w : World} {L : Heap} (h : MemOk w₀ L w) {i : Nat} {e : TypeId} {size n cap g : Nat} {xs : List Value} (hi : lk L i = some (.row (.slice (some ⟨g, 0, none⟩) n cap) e size n xs)) :
    ∃ cur, MemOk w₀ ((i, .blk g (.cells cur e (0, 0))) :: L) w ∧ n ≤ cap ∧ cur.size = cap * size ∧ cur.toList.take (n * size) = xs := by
  rcases (h.own i _ hi).2 with ⟨h1, _⟩ | ⟨g', cap', cur, h1, h2, h3, h4, h5, h6, h7⟩
  · cases h1
  · cases h1
    refine ⟨cur, h.set i _ h.ext ⟨h2, h3⟩ (fun j r hl hne c hc => ⟨rfl, fun ev => ?_⟩), h4, h6, h7⟩
    cases ev
    exact h.sep j i r _ hl hi hne g hc rfl
theorem alloc_below (w : World) (o : Obj) : Below w.heap.size w (w.alloc o) := (Below.refl _ _).alloc (Nat.le_refl _) o

section
variable {C : Cx} {ops : Array Oper} {os : List Oper} {Q : Post} {K : List (Nat × Value)} {L : Heap} {o : Oper}

/-- An operation that leaves memory as it is. -/
theorem TL_q {d : Nat} (v : Value) (hr : ∀ ρ w, Rd K ρ → MemOk C.w₀ L w → (execOp ρ o).run C.P w = .ok (.value v) w) (hd : o.dst = some d) (hN : Nat.blt d C.N = true) (hn : isDefer o.op = false) (hw : Want ops K o true)
    (h : TL C ops os Q ((d, v) :: K) L) : TL C ops (o :: os) Q K L := by
  intro a w hf hm
  unfold wpListIn
  rw [hw.is hf, if_pos rfl]
  refine step_val hn (hr _ _ hf.rd hm) ?_
  rw [hd]
  exact h _ _ (hf.put v hN) hm
/-- An operation whose guard says no. -/
theorem TL_no {d : Nat} (hd : o.dst = some d) (hN : Nat.blt d C.N = true) (hw : Want ops K o false) (h : TL C ops os Q ((d, undef) :: K) L) : TL C ops (o :: os) Q K L := by
  intro a w hf hm
  unfold wpListIn
  rw [hw.is hf, if_neg (by simp)]
  refine ⟨fun _ _ => trivial, ?_⟩
  rw [hd]
  exact h _ _ (hf.put undef hN) hm
/-- A new block. -/
theorem TL_new {d : Nat} (i : Nat) (obj : Obj) (vf : Nat → Value) (hr : ∀ ρ w, Rd K ρ → MemOk C.w₀ L w → (execOp ρ o).run C.P w = .ok (.value (vf w.heap.size)) (w.alloc obj)) (hd : o.dst = some d) (hN : Nat.blt d C.N = true) (hn : isDefer o.op = false) (hw : Want ops K o true)
    (h : ∀ B, TL C ops os Q ((d, vf B) :: K) ((i, .blk B obj) :: L)) : TL C ops (o :: os) Q K L := by
  intro a w hf hm
  unfold wpListIn
  rw [hw.is hf, if_pos rfl]
  refine step_val hn (hr _ _ hf.rd hm) ?_
  rw [hd]
  exact h _ _ _ (hf.put _ hN) (hm.new (alloc_below w obj) i (Nat.le_refl _) (hp_new w obj))
/-- A store into a block of one's own. -/
theorem TL_store (i : Nat) {b : Nat} {ob : Obj} (obj : Obj) (hi : lk L i = some (.blk b ob)) (hr : ∀ ρ w, Rd K ρ → MemOk C.w₀ L w → ∃ w', (execOp ρ o).run C.P w = .ok .skip w' ∧ Upd w b obj w') (hd : o.dst = none) (hn : isDefer o.op = false) (hw : Want ops K o true)
    (h : TL C ops os Q K ((i, .blk b obj) :: L)) : TL C ops (o :: os) Q K L := by
  intro a w hf hm
  unfold wpListIn
  rw [hw.is hf, if_pos rfl]
  obtain ⟨w', hrun, hu⟩ := hr _ _ hf.rd hm
  refine step_skip hn hrun ?_
  rw [hd]
  exact h _ _ hf (hm.upd hi hu)
/-- A call of a function that answers, and leaves what there was as it was. -/
theorem TL_call {d f : Nat} {args : Array Value} (v : Value) (hr : ∀ ρ w, Rd K ρ → MemOk C.w₀ L w → (execOp ρ o).run C.P w = .ok (.enter f args) w)
    (hc : ∀ w, MemOk C.w₀ L w → Calls C.P f args w fun e w' => e = .returned v ∧ Below w.heap.size w w')
    (hd : o.dst = some d) (hN : Nat.blt d C.N = true) (hn : isDefer o.op = false) (hw : Want ops K o true)
    (h : TL C ops os Q ((d, v) :: K) L) : TL C ops (o :: os) Q K L := by
  intro a w hf hm
  unfold wpListIn
  rw [hw.is hf, if_pos rfl]
  refine step_enter hn (hr _ _ hf.rd hm) (hc w hm) ?_
  rintro e w' ⟨rfl, hb⟩
  show wpListIn _ _ _ _ _ _ _ _
  rw [hd]
  exact h _ _ (hf.put v hN) (hm.below hb)
/-- A call whose answer is one of many, and may lie in a new block. -/
theorem TL_callX {ι : Type} {d f : Nat} {args : Array Value} (R : ι → Ending → World → World → Prop) (v : ι → Value) (LN : ι → Heap) (hr : ∀ ρ w, Rd K ρ → MemOk C.w₀ L w → (execOp ρ o).run C.P w = .ok (.enter f args) w)
    (hc : ∀ w, MemOk C.w₀ L w → Calls C.P f args w fun e w' => ∃ x, R x e w w')
    (hR : ∀ x e w w', MemOk C.w₀ L w → R x e w w' → e = .returned (v x) ∧ MemOk C.w₀ (LN x) w')
    (hd : o.dst = some d) (hN : Nat.blt d C.N = true) (hn : isDefer o.op = false) (hw : Want ops K o true)
    (h : ∀ x, (∃ e w w', R x e w w') → TL C ops os Q ((d, v x) :: K) (LN x)) : TL C ops (o :: os) Q K L := by
  intro a w hf hm
  unfold wpListIn
  rw [hw.is hf, if_pos rfl]
  refine step_enter hn (hr _ _ hf.rd hm) (hc w hm) ?_
  rintro e w' ⟨x, hx⟩
  obtain ⟨rfl, hm'⟩ := hR x e w w' hm hx
  show wpListIn _ _ _ _ _ _ _ _
  rw [hd]
  exact h x ⟨_, _, _, hx⟩ _ _ (hf.put _ hN) hm'
end
section
variable {P : Program} {w : World} {ρ : Operand → Value} {d : Option Tmp} {ty : TypeId} {ps : String} {af : Array Edge} {g : Option (Nat × Bool)}
theorem r_call {f : Nat} {fop : Operand} {opl : List Operand} {first cap : Array Value} {args : List Value} {ats : Array TypeId} {all : Array Value} (hE : Enters P f) (hf : ρ fop = .func (.func f) first cap) (ha : opl.map ρ = args) (hall : first ++ args.toArray ++ cap = all) :
    (execOp ρ (mk d (.call { callee := .value fop, args := opl.toArray, argTypes := ats }) ty ps af g)).run P w = .ok (.enter f all) w := by
  subst ha hall
  show (do let d ← resolve ρ _ ty; invoke d.target d.args : Sem Next).run P w = _
  simp only [resolve, hf]
  rw [run_bind_ok (a := { target := .fn (.func f) cap, args := first ++ (opl.map ρ).toArray }) (w' := w)]
  · exact hE _ w
  · simp only [Deferred.ofValue, List.map_toArray]
    rfl
end
end Go.Proofs.Ytbiapeaghbndoaa
