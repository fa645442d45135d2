/- The rule for a region that draws its order, stage by stage. Over any program. -/
import Derived.Test.YtbiapeaghbndoaaDraw
namespace Go.Proofs.Ytbiapeaghbndoaa
open Go Go.RowKit

def coverOk (R : Rg) (lo : Nat) (qs cands : List Nat) : Bool :=
  (allUpto R.ops.size fun i =>
    if R.loud.testBit i then lo.testBit i || cands.contains i || cands.any fun c => (R.Ms.getD i 0).testBit c
    else qs.contains i || ((R.loud &&& (R.Ms.getD i 0)) &&& lo != (R.loud &&& (R.Ms.getD i 0))) || (allUpto R.ops.size fun l => !(R.loud.testBit l && lo.testBit l && (R.Ms.getD l 0).testBit i)) == false) &&
  (cands.all fun c => R.loud.testBit c && !lo.testBit c) && (qs.all fun i => !R.loud.testBit i)
/-- A quiet operation, at this stage. -/
def QOb (C : Cx) (R : Rg) (K0 V : List (Nat × Value)) (L : Heap) (i : Nat) : Prop :=
  ∃ o v, R.ops[i]? = some o ∧ (lk V i = some v ∨ o.dst = none) ∧
    ((WantV V o true ∧ isDefer o.op = false ∧ ∀ ρ w, Rd (kOf K0 V (R.S.getD i [])) ρ → MemOk C.w₀ L w → (execOp ρ o).run C.P w = .ok (.value v) w) ∨ (WantV V o false ∧ v = undef))
/-- Nothing new is said but of what waited for c. -/
def ExtV (R : Rg) (c : Nat) (V V' : List (Nat × Value)) : Prop := ∀ j u, lk V' j = some u → lk V j = some u ∨ j = c ∨ (R.Ms.getD j 0).testBit c = true
/-- A loud operation, at this stage. -/
def LOb (C : Cx) (R : Rg) (Q : Post) (K0 : List (Nat × Value)) (lo : Nat) (V : List (Nat × Value)) (L : Heap) (c : Nat) : Prop :=
  ∃ o, R.ops[c]? = some o ∧ WantV V o true ∧ ∀ (a : Act) (w : World) (next : Act → World → Prop), Rd (kOf K0 V (R.S.getD c [])) a.eval → MemOk C.w₀ L w → a.defers = C.D →
    (∀ v V' L' w', (lk V' c = some v ∨ o.dst = none) → ExtV R c V V' → MemOk C.w₀ L' w' → G C R Q K0 (lo ||| 2 ^ c) V' L' → next (a.put o.dst v) w') → o.wpIn (FW C.ro) 0 C.P a w next Q
def EndOk (R : Rg) (K0 V : List (Nat × Value)) : List (Nat × Value) → Prop
  | [] => True
  | (t, v) :: r => ((∃ j, dstAt R.ops j = some t ∧ lk V j = some v) ∨ ((allUpto R.ops.size fun j => dstAt R.ops j != some t) = true ∧ lk K0 t = some v)) ∧ EndOk R K0 V r

section
variable {C : Cx} {R : Rg} {Q : Post} {K0 V : List (Nat × Value)} {lo : Nat} {L : Heap}

theorem EndOk.get {listed : Array Bool} {a : Act} (h : RgOk C R.ops R.loud lo K0 V listed a) (hall : ∀ j, j < R.ops.size → listed.getD j false = true) : ∀ {K' : List (Nat × Value)}, EndOk R K0 V K' → ∀ t v, lk K' t = some v → a.tmps.getD t undef = v
  | [], _, t, v, hk => by cases hk
  | (u, x) :: r, he, t, v, hk => by
    by_cases e : u = t
    · subst e
      rw [lk_cons_same] at hk
      cases hk
      rcases he.1 with ⟨j, hd, hv⟩ | ⟨hno, hv⟩
      · have hj : j < R.ops.size := by
          unfold dstAt at hd
          rcases Nat.lt_or_ge j R.ops.size with hlt | hge
          · exact hlt
          · rw [Array.getElem?_eq_none hge] at hd; cases hd
        exact h.new j u x (hall j hj) hd hv
      · refine h.old u x hv (fun j hj hd => ?_)
        have hjs : j < R.ops.size := by
          unfold dstAt at hd
          rcases Nat.lt_or_ge j R.ops.size with hlt | hge
          · exact hlt
          · rw [Array.getElem?_eq_none hge] at hd; cases hd
        have := allUpto_at hno hjs
        simp only [bne_iff_ne] at this
        exact this hd
    · rw [lk_cons_other _ _ e] at hk
      exact EndOk.get h hall he.2 t v hk
theorem EndOk.fr {listed : Array Bool} {a : Act} (h : RgOk C R.ops R.loud lo K0 V listed a) (hall : ∀ j, j < R.ops.size → listed.getD j false = true) {K' : List (Nat × Value)} (he : EndOk R K0 V K') : FrOk C.N C.D K' a :=
  ⟨h.asize, h.defers, EndOk.get h hall he⟩

theorem no_ready {ops : Array Oper} {Ms : List Nat} {S : List (List (Nat × Option Nat))} {N : Nat} (hst : statOk ops Ms S N = true) {listed : Array Bool} (hs : listed.size = ops.size) (hr : Region.ready .any ops listed = []) :
    ∀ j, j < ops.size → listed.getD j false = true := by
  intro j
  induction j using Nat.strongRecOn with
  | _ j ih =>
    intro hj
    cases hh : listed.getD j true with
    | true => rw [getD_ft (by omega)]; exact hh
    | false =>
      have ho : ops[j]? = some ops[j] := Array.getElem?_eq_getElem hj
      have : j ∈ Region.ready .any ops listed := mem_ready hj hh ho (fun e hme hb => by
        have := (stat_at hst ho).low e hme hb
        exact ih e.on this (by omega))
      rw [hr] at this; cases this

theorem wanted_of {listed : Array Bool} {a : Act} (hst : statOk R.ops R.Ms R.S C.N = true) (h : RgOk C R.ops R.loud lo K0 V listed a) {i : Nat} {o : Oper} (ho : R.ops[i]? = some o)
    (hr : ∀ e ∈ o.after, Region.binds .any e = true → listed.getD e.on false = true) {b : Bool} (hw : WantV V o b) : Region.wanted o (yielded R.ops a.tmps) = b := by
  unfold WantV at hw
  unfold Region.wanted
  split at hw
  · rename_i hg; rw [hg]; exact hw.symm
  · rename_i j want hg
    rw [hg]
    obtain ⟨hm, hd⟩ := (stat_at hst ho).guard j want hg
    obtain ⟨d, hd⟩ := Option.isSome_iff_exists.1 hd
    have hl := mask_listed hst h.shut i o ho hr j hm
    have key : ∀ c : Bool, lk V j = some (.bool c) → yielded R.ops a.tmps j = some c := fun c hc => by
      have hk := h.new j d _ hl hd hc
      unfold yielded
      have hd' : (R.ops[j]?).bind (·.dst) = some d := hd
      simp only [hd', Option.bind_some]
      rw [Array.getD_eq_getD_getElem?] at hk
      cases ht : a.tmps[d]? with
      | none => rw [ht] at hk; cases hk
      | some u => rw [ht] at hk; cases hk; rfl
    rcases hw with ⟨rfl, hw⟩ | ⟨rfl, hw⟩ | ⟨rfl, hw⟩
    · simp [key _ hw]
    · simp only [key _ hw]
      cases want <;> rfl
    · have hk := h.new j d _ hl hd hw
      have : yielded R.ops a.tmps j = none := by
        unfold yielded
        have hd' : (R.ops[j]?).bind (·.dst) = some d := hd
        simp only [hd', Option.bind_some]
        rw [Array.getD_eq_getD_getElem?] at hk
        cases ht : a.tmps[d]? with
        | none => rfl
        | some u => rw [ht] at hk; cases hk; rfl
      simp only [this]
      cases want <;> rfl

theorem bit_or {lo c j : Nat} : (lo ||| 2 ^ c).testBit j = (if j = c then true else lo.testBit j) := by
  rw [Nat.testBit_or, Nat.testBit_two_pow]
  by_cases h : j = c
  · subst h; simp
  · simp [h, Ne.symm h]

theorem G_any (qs cands : List Nat) (hcov : coverOk R lo qs cands = true) (hq : ∀ i ∈ qs, QOb C R K0 V L i) (hl : ∀ c ∈ cands, LOb C R Q K0 lo V L c)
    (hend : ∀ listed a w, RgOk C R.ops R.loud lo K0 V listed a → (∀ j, j < R.ops.size → listed.getD j false = true) → MemOk C.w₀ L w → Q .normal a w) : G C R Q K0 lo V L := by
  intro hst
  have hcov' := hcov
  simp only [coverOk, Bool.and_eq_true] at hcov'
  obtain ⟨⟨hc1, hc2⟩, hc3⟩ := hcov'
  have key : ∀ k listed a w, left R.ops listed = k → RgOk C R.ops R.loud lo K0 V listed a → MemOk C.w₀ L w → wpAnyIn (FW C.ro) 0 C.P .any R.ops Q k listed a w := by
    intro k
    induction k with
    | zero =>
      intro listed a w hk h hm
      have h0 : ∀ j, j < R.ops.size → listed.getD j true = true := fun j hj => by
        have := List.filter_eq_nil_iff.1 (List.eq_nil_of_length_eq_zero hk) j (List.mem_range.2 hj)
        simpa using this
      have hnil : Region.ready .any R.ops listed = [] := by
        cases hr : Region.ready .any R.ops listed with
        | nil => rfl
        | cons x xs =>
          obtain ⟨h1, h2, _⟩ := ready_mem (by rw [hr]; simp : x ∈ Region.ready .any R.ops listed)
          rw [h0 x h1] at h2; cases h2
      exact ⟨hnil, hend listed a w h (no_ready hst h.size hnil) hm⟩
    | succ k ih =>
      intro listed a w hk h hm
      refine ⟨fun hnil => hend listed a w h (no_ready hst h.size hnil) hm, ?_⟩
      intro i hi
      obtain ⟨h1, h2, o, hoi, hr⟩ := ready_mem hi
      have hleft := left_set h.size h1 h2
      have hrd := h.rd hst hoi h2 hr
      have hci := allUpto_at hc1 h1
      unfold wpOpIn
      rw [hoi]
      simp only []
      have hlf : listed.getD i false = false := by rw [getD_ft (by rw [h.size]; exact h1)]; exact h2
      by_cases hloud : R.loud.testBit i = true
      · rw [if_pos hloud] at hci
        have hlo : lo.testBit i = false := by rw [← h.loud i h1 hloud]; exact hlf
        have hin : i ∈ cands := by
          simp only [hlo, Bool.false_or, Bool.or_eq_true, List.contains_iff_mem, List.any_eq_true] at hci
          rcases hci with hci | ⟨c, hc, hb⟩
          · exact hci
          · have hcl := mask_listed hst h.shut i o hoi hr c hb
            have hcc := List.all_eq_true.1 hc2 c hc
            simp only [Bool.and_eq_true, Bool.not_eq_true'] at hcc
            have hcs : c < R.ops.size := by
              have : c < listed.size := by
                rcases Nat.lt_or_ge c listed.size with hlt | hge
                · exact hlt
                · rw [Array.getD_eq_getD_getElem?, Array.getElem?_eq_none hge] at hcl; cases hcl
              have := h.size; omega
            rw [h.loud c hcs hcc.1, hcc.2] at hcl; cases hcl
        obtain ⟨o', ho', hw, hstep⟩ := hl i hin
        rw [hoi] at ho'; cases ho'
        rw [wanted_of hst h hoi hr hw, if_pos rfl]
        refine hstep a w _ hrd hm h.defers ?_
        intro v V' L' w' hV hext hm' hG
        have hput := h.put hst hoi hr v (lo ||| 2 ^ i) V' (fun j _ _ => bit_or) hV (fun j u hj hji hu => by
          rcases hext j u hu with h3 | h3 | h3
          · exact h3
          · exact absurd h3 hji
          · have hjs : j < R.ops.size := by
              have : j < listed.size := by
                rcases Nat.lt_or_ge j listed.size with hlt | hge
                · exact hlt
                · rw [Array.getD_eq_getD_getElem?, Array.getElem?_eq_none hge] at hj; cases hj
              have := h.size; omega
            have hoj : R.ops[j]? = some R.ops[j] := Array.getElem?_eq_getElem hjs
            have := mask_listed hst h.shut j _ hoj (h.shut j _ hoj hj) i h3
            rw [hlf] at this; cases this)
        have := hG hst _ _ _ hput hm'
        rwa [show left R.ops (listed.setIfInBounds i true) = k by omega] at this
      · rw [if_neg hloud] at hci
        have hin : i ∈ qs := by
          simp only [Bool.or_eq_true, List.contains_iff_mem] at hci
          rcases hci with (hci | hci) | hci
          · exact hci
          · exfalso
            have hne : ¬ ((R.loud &&& (R.Ms.getD i 0)) &&& lo = (R.loud &&& (R.Ms.getD i 0))) := by simpa using hci
            apply hne
            apply Nat.eq_of_testBit_eq
            intro j
            simp only [Nat.testBit_and]
            cases hlj : R.loud.testBit j with
            | false => simp
            | true =>
              cases hmj : (R.Ms.getD i 0).testBit j with
              | false => simp
              | true =>
                have hcl := mask_listed hst h.shut i o hoi hr j hmj
                have hjs : j < R.ops.size := by
                  have : j < listed.size := by
                    rcases Nat.lt_or_ge j listed.size with hlt | hge
                    · exact hlt
                    · rw [Array.getD_eq_getD_getElem?, Array.getElem?_eq_none hge] at hcl; cases hcl
                  have := h.size; omega
                rw [h.loud j hjs hlj] at hcl
                simp [hcl]
          · exfalso
            have hex : ¬ ((allUpto R.ops.size fun l => !(R.loud.testBit l && lo.testBit l && (R.Ms.getD l 0).testBit i)) = true) := by
              intro ht; rw [ht] at hci; cases hci
            apply hex
            refine List.all_eq_true.2 (fun l hlr => ?_)
            have hls := List.mem_range.1 hlr
            cases h3 : R.loud.testBit l with
            | false => simp
            | true =>
              cases h4 : lo.testBit l with
              | false => simp
              | true =>
                cases h5 : (R.Ms.getD l 0).testBit i with
                | false => simp
                | true =>
                  have hll : listed.getD l false = true := by rw [h.loud l hls h3]; exact h4
                  have hol : R.ops[l]? = some R.ops[l] := Array.getElem?_eq_getElem hls
                  have := mask_listed hst h.shut l _ hol (h.shut l _ hol hll) i h5
                  rw [hlf] at this; cases this
        obtain ⟨o', v, ho', hV, hrun⟩ := hq i hin
        rw [hoi] at ho'; cases ho'
        have hput : RgOk C R.ops R.loud lo K0 V (listed.setIfInBounds i true) (a.put o.dst v) := h.put hst hoi hr v lo V (fun j _ hlj => by
          by_cases hji : j = i
          · subst hji; exact absurd hlj hloud
          · rw [if_neg hji]) hV (fun j u _ _ hu => hu)
        have hnext := ih (listed.setIfInBounds i true) (a.put o.dst v) w (by omega) hput hm
        rcases hrun with ⟨hw, hn, hrun⟩ | ⟨hw, rfl⟩
        · rw [wanted_of hst h hoi hr hw, if_pos rfl]
          exact step_val hn (hrun _ _ hrd hm) hnext
        · rw [wanted_of hst h hoi hr hw, if_neg (by simp)]
          exact ⟨fun _ _ => trivial, hnext⟩
  exact fun listed a w h hm => key _ listed a w rfl h hm

/-- A stage at which something loud is still to come. -/
theorem G_step (qs : List Nat) (c : Nat) (cands : List Nat) (hcov : coverOk R lo qs (c :: cands) = true) (hq : ∀ i ∈ qs, QOb C R K0 V L i) (hl : ∀ i ∈ c :: cands, LOb C R Q K0 lo V L i) : G C R Q K0 lo V L := by
  refine G_any qs (c :: cands) hcov hq hl ?_
  intro listed a w h hall hm
  exfalso
  simp only [coverOk, Bool.and_eq_true] at hcov
  have hcc := List.all_eq_true.1 hcov.1.2 c (by simp)
  simp only [Bool.and_eq_true, Bool.not_eq_true'] at hcc
  obtain ⟨o, ho, _⟩ := hl c (by simp)
  have hcs : c < R.ops.size := (Array.getElem?_eq_some_iff.1 ho).1
  have := h.loud c hcs hcc.1
  rw [hall c hcs, hcc.2] at this
  cases this
/-- The last stage, and what comes behind. -/
theorem G_last {y : Code} {Q' : Post} (qs : List Nat) (K' : List (Nat × Value)) (hcov : coverOk R lo qs [] = true) (hq : ∀ i ∈ qs, QOb C R K0 V L i) (he : EndOk R K0 V K') (h : T C y Q' K' L) : G C R (Seq C y Q') K0 lo V L := by
  refine G_any qs [] hcov hq (fun _ hc => by cases hc) ?_
  intro listed a w hr hall hm
  exact h a w (he.fr hr hall) hm
theorem G_lastQ (qs : List Nat) (K' : List (Nat × Value)) (hcov : coverOk R lo qs [] = true) (hq : ∀ i ∈ qs, QOb C R K0 V L i) (he : EndOk R K0 V K') (h : ∀ a w, FrOk C.N C.D K' a → MemOk C.w₀ L w → Q .normal a w) : G C R Q K0 lo V L := by
  refine G_any qs [] hcov hq (fun _ hc => by cases hc) ?_
  intro listed a w hr hall hm
  exact h a w (he.fr hr hall) hm
theorem T_draw {id : Nat} {ops : Array Oper} (Ms : List Nat) (S : List (List (Nat × Option Nat))) (loud : Nat) (V : List (Nat × Value)) (hmx : C.P.follows .mixedOrders = true) (hst : statOk ops Ms S C.N = true) (h : G C ⟨ops, Ms, S, loud⟩ Q K0 0 V L) : T C (.region id ops true) Q K0 L := by
  intro a w hf hm
  refine wpIn_region_any hmx ?_
  have hl : ∀ j, (Array.replicate ops.size false).getD j false = false := fun j => by
    simp [Array.getD_eq_getD_getElem?, Array.getElem?_replicate]
    split <;> rfl
  have := h hst (Array.replicate ops.size false) a w.drew ⟨by simp, ?_, ?_, hf.size, hf.defers, fun t v ht _ => hf.knows t v ht, fun j t v hj => by rw [hl] at hj; cases hj⟩ hm.drew
  · have e : left ops (Array.replicate ops.size false) = ops.size := by
      unfold left
      have : ((List.range ops.size).filter fun i => !(Array.replicate ops.size false).getD i true) = List.range ops.size := by
        apply List.filter_eq_self.2
        intro i hi
        have := List.mem_range.1 hi
        simp [Array.getD_eq_getD_getElem?, this]
      rw [this, List.length_range]
    rw [e] at this
    exact this
  · intro q _ _ hh
    rw [hl] at hh; cases hh
  · intro i _ _
    rw [hl]; simp

/-! ### the loud operations -/
theorem extV (c : Nat) (v : Value) (news : List (Nat × Value)) (h : ((news.map (·.1)).all fun j => (R.Ms.getD j 0).testBit c) = true) : ExtV R c V (news ++ (c, v) :: V) := by
  intro j u hu
  induction news with
  | nil =>
    rw [List.nil_append] at hu
    by_cases e : c = j
    · exact .inr (.inl e.symm)
    · rw [lk_cons_other _ _ e] at hu; exact .inl hu
  | cons p news ih =>
    simp only [List.map_cons, List.all_cons, Bool.and_eq_true] at h
    rw [List.cons_append] at hu
    by_cases e : p.1 = j
    · subst e; exact .inr (.inr h.1)
    · rw [show p = (p.1, p.2) from rfl, lk_cons_other _ _ e] at hu
      exact ih h.2 hu
theorem lk_app (news : List (Nat × Value)) (c : Nat) (v : Value) (h : (news.map (·.1)).contains c = false) : lk (news ++ (c, v) :: V) c = some v := by
  induction news with
  | nil => exact lk_cons_same _ _ _
  | cons p news ih =>
    simp only [List.map_cons, List.contains_cons, Bool.or_eq_false_iff, beq_eq_false_iff_ne] at h
    rw [List.cons_append, show p = (p.1, p.2) from rfl, lk_cons_other _ _ (Ne.symm h.1)]
    exact ih h.2
def newsOk (R : Rg) (c : Nat) (news : List (Nat × Value)) : Bool := ((news.map (·.1)).all fun j => (R.Ms.getD j 0).testBit c) && !(news.map (·.1)).contains c
theorem LOb_new {c d : Nat} {o : Oper} (i : Nat) (obj : Obj) (vf : Nat → Value) (news : Nat → List (Nat × Value)) (ho : R.ops[c]? = some o) (hw : WantV V o true) (hd : o.dst = some d) (hn : isDefer o.op = false)
    (hr : ∀ ρ w, Rd (kOf K0 V (R.S.getD c [])) ρ → MemOk C.w₀ L w → (execOp ρ o).run C.P w = .ok (.value (vf w.heap.size)) (w.alloc obj)) (hnew : ∀ B, newsOk R c (news B) = true)
    (h : ∀ B, G C R Q K0 (lo ||| 2 ^ c) (news B ++ (c, vf B) :: V) ((i, .blk B obj) :: L)) : LOb C R Q K0 lo V L c := by
  refine ⟨o, ho, hw, fun a w next hrd hm _ hnext => ?_⟩
  refine step_val hn (hr _ _ hrd hm) ?_
  have hnw := hnew w.heap.size
  simp only [newsOk, Bool.and_eq_true, Bool.not_eq_true'] at hnw
  exact hnext _ _ _ _ (.inl (lk_app _ _ _ hnw.2)) (extV _ _ _ hnw.1) (hm.new (alloc_below w obj) i (Nat.le_refl _) (hp_new w obj)) (h _)
theorem LOb_store {c : Nat} {o : Oper} (i : Nat) {b : Nat} {ob : Obj} (obj : Obj) (news : List (Nat × Value)) (ho : R.ops[c]? = some o) (hw : WantV V o true) (hd : o.dst = none) (hn : isDefer o.op = false) (hi : lk L i = some (.blk b ob))
    (hr : ∀ ρ w, Rd (kOf K0 V (R.S.getD c [])) ρ → MemOk C.w₀ L w → ∃ w', (execOp ρ o).run C.P w = .ok .skip w' ∧ Upd w b obj w') (hnew : newsOk R c news = true)
    (h : G C R Q K0 (lo ||| 2 ^ c) (news ++ (c, undef) :: V) ((i, .blk b obj) :: L)) : LOb C R Q K0 lo V L c := by
  refine ⟨o, ho, hw, fun a w next hrd hm _ hnext => ?_⟩
  obtain ⟨w', hrun, hu⟩ := hr _ _ hrd hm
  refine step_skip hn hrun ?_
  simp only [newsOk, Bool.and_eq_true, Bool.not_eq_true'] at hnew
  exact hnext _ _ _ _ (.inr hd) (extV _ _ _ hnew.1) (hm.upd hi hu) h
theorem LOb_call {c d f : Nat} {o : Oper} {args : Array Value} (v : Value) (news : List (Nat × Value)) (ho : R.ops[c]? = some o) (hw : WantV V o true) (hd : o.dst = some d) (hn : isDefer o.op = false)
    (hr : ∀ ρ w, Rd (kOf K0 V (R.S.getD c [])) ρ → MemOk C.w₀ L w → (execOp ρ o).run C.P w = .ok (.enter f args) w)
    (hc : ∀ w, MemOk C.w₀ L w → Calls C.P f args w fun e w' => e = .returned v ∧ Below w.heap.size w w') (hnew : newsOk R c news = true)
    (h : G C R Q K0 (lo ||| 2 ^ c) (news ++ (c, v) :: V) L) : LOb C R Q K0 lo V L c := by
  refine ⟨o, ho, hw, fun a w next hrd hm _ hnext => ?_⟩
  refine step_enter hn (hr _ _ hrd hm) (hc w hm) ?_
  rintro e w' ⟨rfl, hb⟩
  simp only [newsOk, Bool.and_eq_true, Bool.not_eq_true'] at hnew
  exact hnext _ _ _ _ (.inl (lk_app _ _ _ hnew.2)) (extV _ _ _ hnew.1) (hm.below hb) h
end
end Go.Proofs.Ytbiapeaghbndoaa
