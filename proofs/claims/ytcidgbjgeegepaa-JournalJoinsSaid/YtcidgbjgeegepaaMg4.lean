/- Texts of this seat, merged: part 4. -/
import Derived.Test.YtcidgbjgeegepaaMg3
/- A range over a function that hands over new memory at each round. Over any program. -/
namespace Go.Proofs.Ytcidgbjgeegepaa
open Go Go.RowKit
/-- An iterator that keeps something of its own (R), and hands over a new thing (E) with each of the elements of xs. -/
def IterZ (P : Program) (w₀ : World) (gf : Nat) (lb : Array Value) {ι α ζ : Type} (encs : α → ζ → List Value) (E : α → ζ → Res) (xs : List α) (p : Nat → ι → Prop) (LJ : Nat → ι → Heap) : Prop :=
  ∀ (l : Nat) (κ : Type) (pX : κ → Prop) (LX : κ → Heap),
    (∀ R k x z i W, xs[k]? = some x → p k i → MemOk w₀ ((1700, R) :: (1701, E x z) :: LJ k i) W → YieldAt Fence.wide 0 P l (encs x z).toArray W fun e W' =>
      (e = .returned (.bool true) ∧ ∃ i', p (k + 1) i' ∧ MemOk w₀ ((1700, R) :: LJ (k + 1) i') W') ∨ (e = .returned (.bool false) ∧ ∃ j, pX j ∧ MemOk w₀ (LX j) W')) →
    ∀ i W, p 0 i → MemOk w₀ (LJ 0 i) W → Calls P gf (#[.func (.yield l) #[] #[]] ++ lb) W fun e W' =>
      (∃ v, e = .returned v) ∧ ((∃ i', p xs.length i' ∧ MemOk w₀ (LJ xs.length i') W') ∨ ∃ j, pX j ∧ MemOk w₀ (LX j) W')
theorem lk_ins {i : Nat} {r : Res} (A B : Heap) (hA : ∀ p ∈ A, p.1 ≠ i) : ∀ k q, lk ((i, r) :: (A ++ B)) k = some q → lk (A ++ (i, r) :: B) k = some q := fun k q h => by
  by_cases e : i = k
  · subst e
    rw [lk_cons_same] at h
    rw [lk_append, lk_none_of hA]
    exact (lk_cons_same B i r).trans h
  · rw [lk_cons_other _ _ e, lk_append] at h
    rw [lk_append, lk_cons_other _ _ e]
    exact h
theorem T_rangeZ {C : Cx} {ζ ζ' : Type} {Q : Post} {K : List (Nat × Value)} {L : Heap} {ι α : Type} {g : Operand} {pl : List Tmp} {assign body : Code} {gf : Nat} {lb : Array Value} {encs : α → ζ → List Value} {E : α → ζ → Res} {xs : List α}
    (hro : C.ro = none) (hg : ev K g = some (.func (.func gf) #[] lb)) (eg : Enters C.P gf) (hps : ∀ x z, (encs x z).length = pl.length) (hpN : (pl.all fun t => Nat.blt t C.N) = true)
    (idD idl : Nat) (hne : Nat.beq idD idl = false) (hD7 : Nat.blt idD 1700 = true) (hl7 : Nat.blt idl 1700 = true) (p : Nat → ι → Prop) (LI : Nat → ι → Heap) (pX : Code → ι → Prop) (LX : ι → Heap) (K1 : α → ζ → ζ' → List (Nat × Value)) (E' : α → ζ → ζ' → Heap)
    (hit : ∀ D l rec, IterZ C.P C.w₀ gf lb encs E xs p (fun k i => (idD, .blk D (.deferred (some []))) :: (idl, .blk l (.loop rec)) :: LI k i)) (hids : ∀ k i, lk (LI k i) idD = none ∧ lk (LI k i) idl = none) (hidx : ∀ i, lk (LX i) idD = none ∧ lk (LX i) idl = none)
    (i₀ : ι) (h0 : p 0 i₀) (hL : SubK L (LI 0 i₀))
    (hassign : ∀ D l rec R k x z i, xs[k]? = some x → p k i → T (C.round l) assign (Exit.then (At (C.round l) (fun _ : ζ' => True) (fun z' => K1 x z z') (fun z' => (idD, .blk D (.deferred (some []))) :: (idl, .blk l (.loop rec)) :: (1700, R) :: (E' x z z' ++ LI k i))) (fun _ _ _ => False))
      (zipK pl (encs x z) K) ((idD, .blk D (.deferred (some []))) :: (idl, .blk l (.loop rec)) :: (1700, R) :: (1701, E x z) :: LI k i))
    (hround : ∀ D l rec R k x z i z', xs[k]? = some x → p k i → T (C.round l) body (RoundQ C.w₀ idD idl D l rec (p (k + 1)) (fun i => (1700, R) :: LI (k + 1) i) pX LX) (K1 x z z') ((idD, .blk D (.deferred (some []))) :: (idl, .blk l (.loop { rec with state := .busy })) :: (1700, R) :: (E' x z z' ++ LI k i)))
    (hdone : ∀ D i, p xs.length i → POk (C.with D) Q .normal K ((idD, .blk D (.deferred (some []))) :: LI xs.length i))
    (hstop : ∀ D c i, pX c i → T (C.with D) c Q K ((idD, .blk D (.deferred (some []))) :: LX i)) : T C (.rangeFunc g pl.toArray assign body) Q K L := by
  obtain ⟨P, w₀, N, CD, ro⟩ := C
  cases hro
  have hne' : idD ≠ idl := fun e => by subst e; rw [Nat.beq_refl] at hne; cases hne
  rw [Nat.blt_eq] at hD7 hl7
  intro a w hf hm
  show (Code.rangeFunc g pl.toArray assign body).wpIn Fence.wide 0 P _ a w
  refine (wpIn_wide (n := 0)).2 ((wpIn_wide (n := 2)).1 (wpIn_rangeFunc ?_))
  intro fn hfn
  rw [show Fence.wide.round = none from rfl]
  have hg' := hf.rd _ _ hg
  obtain ⟨rec, hrec⟩ : ∃ rec : Loop, rec = { state := .ready, pending := none, fn, tmps := a.tmps, params := pl.toArray, assign, body, defers := w.heap.size } := ⟨_, rfl⟩
  have hm1 : MemOk w₀ ((idl, .blk (w.heap.size + 1) (.loop rec)) :: (idD, .blk w.heap.size (.deferred (some []))) :: LI 0 i₀) ((w.alloc (.deferred (some []))).alloc (.loop rec)) := by
    have h1 := (hm.sub hL).new (alloc_below w (.deferred (some []))) idD (Nat.le_refl _) (hp_new w _)
    have h2 := h1.new (alloc_below (w.alloc (.deferred (some []))) (.loop rec)) idl (Nat.le_refl _) (hp_new _ _)
    rwa [World.size_alloc] at h2
  have hm1 : MemOk w₀ ((idD, .blk w.heap.size (.deferred (some []))) :: (idl, .blk (w.heap.size + 1) (.loop rec)) :: LI 0 i₀) ((w.alloc (.deferred (some []))).alloc (.loop rec)) := by
    refine hm1.of (fun k q hk => ?_)
    by_cases e1 : idD = k
    · subst e1; rw [lk_cons_same] at hk; rw [ids_ne (Ne.symm hne')]; exact hk
    · rw [lk_cons_other _ _ e1] at hk
      by_cases e2 : idl = k
      · subst e2; rw [lk_cons_same] at hk ⊢; exact hk
      · rw [lk_cons_other _ _ e2] at hk; rw [lk_cons_other _ _ e2, lk_cons_other _ _ e1]; exact hk
  obtain ⟨W1, hW1⟩ : ∃ W1, (w.alloc (.deferred (some []))).alloc (.loop rec) = W1 := ⟨_, rfl⟩
  rw [hW1] at hm1
  have back : ∀ (D l : Nat) (o : Obj) (R : Res) (A : Heap) (W : World), MemOk w₀ ((idD, .blk D (.deferred (some []))) :: (idl, .blk l o) :: (1700, R) :: A) W → MemOk w₀ ((1700, R) :: (idD, .blk D (.deferred (some []))) :: (idl, .blk l o) :: A) W := fun D l o R A W h =>
    h.of (lk_ins [(idD, .blk D (.deferred (some []))), (idl, .blk l o)] A (by simp; omega))
  refine ⟨w.heap.size + 1, [{ target := .collected w.heap.size, args := #[] }], W1, { target := .fn (.func gf) lb, args := #[.func (.yield (w.heap.size + 1)) #[] #[]] }, W1, gf,
    #[.func (.yield (w.heap.size + 1)) #[] #[]] ++ lb, W1, ?_, ?_, ?_, ?_, fun h => by simp [Fence.wide] at h, ?_⟩
  · rw [← hW1, hrec]; exact run_enterLoop_outer _ _ _ _ _
  · simp only [resolve, hg']
    simp [go_sem]
  · intro f' _; trivial
  · simp [invoke, eg _ _]
  · -- what holds at each round's head, and behind a round that left
    refine CallsIn.mono (callsIn_wide.2 (hit w.heap.size (w.heap.size + 1) rec (w.heap.size + 1) (Code × ι) (fun z => pX z.1 z.2)
      (fun z => (idD, .blk w.heap.size (.deferred (some []))) :: (idl, .blk (w.heap.size + 1) (.loop { rec with state := .done, pending := some z.1 })) :: LX z.2) ?_ i₀ W1 h0 hm1)) ?_
    · intro R k x z i W hx hi hmi0
      have hmi : MemOk w₀ ((idD, .blk w.heap.size (.deferred (some []))) :: (idl, .blk (w.heap.size + 1) (.loop rec)) :: (1700, R) :: (1701, E x z) :: LI k i) W := by
        have h1 := hmi0.of (lk_ins [(1700, R), (1701, E x z), (idD, .blk w.heap.size (.deferred (some [])))] (LI k i) (i := idl) (r := .blk (w.heap.size + 1) (.loop rec)) (by simp; omega))
        exact h1.of (lk_ins [(idl, .blk (w.heap.size + 1) (.loop rec)), (1700, R), (1701, E x z)] (LI k i) (i := idD) (r := .blk w.heap.size (.deferred (some []))) (by simp; omega))
      have hl : W.heap[w.heap.size + 1]? = some (.loop rec) := hmi.at idl (ids_ne hne')
      have hy := run_yield (P := P) (args := (encs x z).toArray) hl (by rw [hrec]; simp [hps])
      have hfr : FrOk N [] (zipK pl (encs x z) K) { tmps := (pl.zip (encs x z)).foldl (fun t (p, v) => t.setIfInBounds p v) a.tmps, defers := [] } :=
        FrOk.zip pl (encs x z) (fun t ht => List.all_eq_true.1 hpN t ht) ⟨hf.size, rfl, hf.knows⟩
      have htm : (rec.params.zip (encs x z).toArray).foldl (fun tmps (t, a) => tmps.setIfInBounds t a) rec.tmps = (pl.zip (encs x z)).foldl (fun t (p, v) => t.setIfInBounds p v) a.tmps := by
        rw [hrec]; simp [List.zip_toArray]
      rw [htm] at hy
      rw [show rec.fn = fn by rw [hrec], show rec.assign = assign by rw [hrec], show rec.body = body by rw [hrec]] at hy
      refine ⟨fn, _, assign, body, hy, roundIn_of_wpIn hfn ?_⟩
      have hA := hassign w.heap.size (w.heap.size + 1) rec R k x z i hx hi _ W hfr hmi
      refine wpIn_mono hA ?_
      intro e a1 W2 hq
      cases e with
      | normal =>
        obtain ⟨z', _, hf1, hm2⟩ := hq
        have hl2 : W2.heap[w.heap.size + 1]? = some (.loop rec) := hm2.at idl (ids_ne hne')
        refine ⟨_, run_beginRound hl2 (by rw [hrec]), ?_⟩
        have hm3 := (hm2.putObj (.loop { rec with state := .busy }) (ids_ne hne' : lk _ idl = some (.blk (w.heap.size + 1) (.loop rec)))).second hne'
        have hB := hround w.heap.size (w.heap.size + 1) rec R k x z i z' hx hi a1 _ hf1 hm3
        refine wpIn_mono hB ?_
        have fin : ∀ (jump : Option Code) (W3 : World) (LL : Heap), MemOk w₀ ((idD, .blk w.heap.size (.deferred (some []))) :: (idl, .blk (w.heap.size + 1) (.loop { rec with state := .busy })) :: LL) W3 →
            (Instr.endRound (w.heap.size + 1) jump).run P W3 = .ok (.bool jump.isNone) (W3.putObj (w.heap.size + 1) (.loop { rec with state := if jump.isNone then .ready else .done, pending := jump })) ∧
            MemOk w₀ ((idD, .blk w.heap.size (.deferred (some []))) :: (idl, .blk (w.heap.size + 1) (.loop { rec with state := if jump.isNone then .ready else .done, pending := jump })) :: LL) (W3.putObj (w.heap.size + 1) (.loop { rec with state := if jump.isNone then .ready else .done, pending := jump })) := fun jump W3 LL h3 => by
          have hl3 : W3.heap[w.heap.size + 1]? = some (.loop { rec with state := .busy }) := h3.at idl (ids_ne hne')
          exact ⟨run_endRound (P := P) (r := { rec with state := .busy }) jump hl3, (h3.putObj _ (ids_ne hne')).second hne'⟩
        have hrd : ({ rec with state := .ready, pending := none } : Loop) = rec := by rw [hrec]
        rintro e a3 W3 hp
        cases e with
        | normal =>
          obtain ⟨i', hi', h3⟩ := hp
          obtain ⟨hr, h4⟩ := fin none W3 _ h3
          exact ⟨_, _, hr, .inl ⟨rfl, i', hi', back _ _ _ _ _ _ (by simpa [hrd] using h4)⟩⟩
        | ret =>
          obtain ⟨i', hi', h3⟩ := hp
          obtain ⟨hr, h4⟩ := fin (some .ret) W3 _ h3
          exact ⟨_, _, hr, .inr ⟨rfl, (.ret, i'), hi', by simpa using h4⟩⟩
        | exit id =>
          obtain ⟨i', hi', h3⟩ := hp
          obtain ⟨hr, h4⟩ := fin (some (.exit id)) W3 _ h3
          exact ⟨_, _, hr, .inr ⟨rfl, (.exit id, i'), hi', by simpa using h4⟩⟩
        | goto t =>
          obtain ⟨i', hi', h3⟩ := hp
          obtain ⟨hr, h4⟩ := fin (some (.goto t)) W3 _ h3
          exact ⟨_, _, hr, .inr ⟨rfl, (.goto t, i'), hi', by simpa using h4⟩⟩
        | panic ch => exact hp.elim
        | outgrown => exact hp.elim
      | exit id => exact hq.elim
      | goto l => exact hq.elim
      | ret => exact hq.elim
      | panic ch => exact hq.elim
      | outgrown => exact hq.elim
    · have hf' : ∀ (D : Nat), FrOk N ({ target := .collected D, args := #[] } :: CD) K { a with defers := [{ target := .collected D, args := #[] }] ++ a.defers } := fun D => ⟨hf.size, by rw [hf.defers]; rfl, hf.knows⟩
      rintro e W2 ⟨⟨v, rfl⟩, (⟨i, hi, h2⟩ | ⟨⟨c, i⟩, hi, h2⟩)⟩
      · have hl2 : W2.heap[w.heap.size + 1]? = some (.loop rec) := h2.at idl (ids_ne hne')
        refine ⟨none, _, by have := run_endLoop (P := P) hl2 (by rw [hrec]; simp); rw [this, hrec], ?_⟩
        exact hdone w.heap.size i hi _ _ (hf' _) (((h2.putObj _ (ids_ne hne')).second hne').drop2 (hids _ i).2)
      · have hl2 : W2.heap[w.heap.size + 1]? = some (.loop { rec with state := .done, pending := some c }) := h2.at idl (ids_ne hne')
        refine ⟨some c, _, by have := run_endLoop (P := P) hl2 (by simp); exact this, ?_⟩
        exact wpIn_wide.2 ((wpIn_wide (n := 0)).1 (hstop w.heap.size c i hi _ _ (hf' _) (((h2.putObj _ (ids_ne hne')).second hne').drop2 (hidx i).2)))
theorem p_jmpT {C : Cx} {Q : Post} {K : List (Nat × Value)} {L : Heap} {ι : Type} {p : ι → Prop} {KJ : ι → List (Nat × Value)} {LJ : ι → Heap} {l : Nat} (i : ι) (hp : p i) (hK : SubK K (KJ i)) (hL : ∀ k q, lk (LJ i) k = some q → lk L k = some q) : POk C (Exit.jump l (At C p KJ LJ) Q) (.goto l) K L :=
  fun _ _ hf hm => ⟨rfl, i, hp, hf.sub hK, hm.of hL⟩
/-- Jumps back, the way ahead of the label leading to what holds there too. -/
theorem T_jumpsV {C : Cx} {Q : Post} {K : List (Nat × Value)} {L : Heap} {ι : Type} (l : Nat) (p : ι → Prop) (KI : ι → List (Nat × Value)) (LI : ι → Heap) (μ : ι → Nat) {c y : Code} (hro : C.ro = none) (hl : findLabel c l = some (.seq .skip y))
    (first : (∀ i, p i → T C y (Exit.jump l (At C p KI LI) Q) (KI i) (LI i)) → T C c (Exit.jump l (At C p KI LI) Q) K L) (pass : ∀ i, p i → T C y (Exit.jump l (At C (fun j => p j ∧ μ j < μ i) KI LI) Q) (KI i) (LI i)) : T C (.scope c) Q K L := by
  refine T_jumps l p KI LI μ hro hl (first fun i hi a w hf hm => wpIn_mono (pass i hi a w hf hm) ?_) (fun i hi => T_seq (T_skip' (p_seq (pass i hi))))
  intro e a' w' hq
  cases e with
  | normal => exact hq
  | exit id => exact hq
  | goto l' =>
    obtain ⟨rfl, j, ⟨hj, _⟩, h1, h2⟩ := hq
    exact ⟨rfl, j, hj, h1, h2⟩
  | ret => exact hq
  | panic ch => exact hq
  | outgrown => exact hq
theorem T_into {C : Cx} {c : Code} {Q : Post} {K K' : List (Nat × Value)} {L L' : Heap} (h : T C c Q K' L') (hK : SubK K K') (hL : ∀ k q, lk L' k = some q → lk L k = some q) : T C c Q K L := fun a w hf hm => h a w (hf.sub hK) (hm.of hL)
end Go.Proofs.Ytcidgbjgeegepaa
/- net and journal: First, records. Printed by a program of this seat's prover. -/
namespace Go.Proofs.Ytcidgbjgeegepaa
open Go Go.RowKit
set_option maxRecDepth 10000
theorem first1_p (T0 : Nat) (l : List By) (a : Option Addr) (cap : Nat) (w : World) (hv : SliceAt w a cap 1 byc l) (hcap : cap ≤ Go.maxLen) (h0 : hp w T0 = some (.cells #[.slice a l.length cap] 34)) (h : ¬ firstE l = 0) : Calls Try.prog 91 #[.pointer (some ⟨T0, 0, none⟩)] w fun e w' => e = .panicked [{ v := .iface 28 (.int .i64 (firstE l)), recovered := false }] ∧ Below w.heap.size w w' := by
  refine calls_of_T (l := [.pointer (some ⟨T0, 0, none⟩)]) 4 Try.func91 rfl rfl rfl ?_
  show T _ _ _ [(0, .pointer (some ⟨T0, 0, none⟩))] []
  refine T_seq (T_region ?_)
  refine TL_new 1 (.cells #[.slice none 0 0, .int .i64 0] 121) (fun B => .pointer (some ⟨B, 0, none⟩)) (fun _ _ _ _ => r_alloc (v := .agg #[.slice none 0 0, .int .i64 0]) (by kernel_rfl) rfl) rfl rfl rfl (w_n rfl) ?_
  intro B1
  refine TL_seq ?_
  refine T_seq (T_region ?_)
  refine TL_q (.slice a l.length cap) (fun _ _ hρ hm => r_load ag34 (hρ _ _ rfl) (hm.old h0) rfl) rfl rfl rfl (w_n rfl) ?_
  refine TL_callQ (v := .iface 28 (.int .i64 (firstE l))) (fun _ _ hρ _ => r_call (args := [.slice a l.length cap]) (enters_of Try.func92 (by kernel_rfl) rfl) (hρ _ _ rfl) ((cons2 (hρ _ _ rfl) rfl)) rfl) (fun w hm => first_p l a cap w (hv.keep hm.ext) hcap h) rfl (w_n rfl) ?_
  refine p_then_p ?_
  refine p_pan rfl (fun w hm => ?_)
  exact ⟨rfl, hm.ext⟩

theorem next1_c (T0 S at9 : Nat) (l : List By) (a : Option Addr) (cap : Nat) (w : World) (hv : SliceAt w a cap 1 byc l) (hcap : cap ≤ Go.maxLen) (h0 : hp w T0 = some (.cells #[.pointer (some ⟨S, 0, none⟩)] 146)) (hS : hp w S = some (.cells #[.slice a l.length cap, .int .i64 (at9 : Int)] 150)) (h : firstE l = 0) : Calls Try.prog 127 #[.pointer (some ⟨T0, 0, none⟩)] w fun e w' => ∃ a' cap', e = .returned (.agg #[.slice a' (heldP l).length cap', .int .i64 (((heldP l).length + 8 : Nat) : Int)]) ∧ Below w.heap.size w w' ∧ (Res.sl a' cap' (heldP l)).ok w.heap.size w' := by
  refine calls_of_T (l := [.pointer (some ⟨T0, 0, none⟩)]) 8 Try.func127 rfl rfl rfl ?_
  show T _ _ _ [(0, .pointer (some ⟨T0, 0, none⟩))] []
  refine T_seq (T_region ?_)
  refine TL_new 1 (.cells #[.slice none 0 0, .int .i64 0] 121) (fun B => .pointer (some ⟨B, 0, none⟩)) (fun _ _ _ _ => r_alloc (v := .agg #[.slice none 0 0, .int .i64 0]) (by kernel_rfl) rfl) rfl rfl rfl (w_n rfl) ?_
  intro B1
  refine TL_seq ?_
  refine T_seq (T_region ?_)
  refine TL_q (.pointer (some ⟨S, 0, none⟩)) (fun _ _ hρ hm => r_load ag146 (hρ _ _ rfl) (hm.old h0) rfl) rfl rfl rfl (w_n rfl) ?_
  refine TL_q (.pointer (some ⟨S, 0, none⟩)) (fun _ _ hρ _ => r_nilCheck (hρ _ _ rfl) rfl) rfl rfl rfl (w_n rfl) ?_
  refine TL_q (.pointer (some ⟨S, 0, none⟩)) (fun _ _ hρ _ => r_fieldAddr fl150_0 sz148 (hρ _ _ rfl)) rfl rfl rfl (w_n rfl) ?_
  refine TL_q (.pointer (some ⟨S, 0, none⟩)) (fun _ _ hρ _ => r_fieldAddr fl148_0 sz34 (hρ _ _ rfl)) rfl rfl rfl (w_n rfl) ?_
  refine TL_q (.slice a l.length cap) (fun _ _ hρ hm => r_load ag34 (hρ _ _ rfl) (hm.old hS) rfl) rfl rfl rfl (w_n rfl) ?_
  refine TL_callN (fun (_ : Option Addr × Nat) => True) (fun (ah2, ch2) => .agg #[.slice ah2 ((heldP l).length) ch2, .int .i64 (((heldP l).length + 8 : Nat) : Int)]) (fun (ah2, ch2) => [(2, .sl ah2 ch2 (heldP l))]) (fun _ _ hρ _ => r_call (args := [.slice a l.length cap]) (enters_of Try.func92 (by kernel_rfl) rfl) (hρ _ _ rfl) ((cons2 (hρ _ _ rfl) rfl)) rfl) (fun w hm => (first_c l a cap w (hv.keep hm.ext) hcap h).mono fun e w' ⟨a', cap', he, hb, hr⟩ => ⟨(a', cap'), trivial, he, hb, newOk1 2 hr⟩) rfl rfl rfl (w_n rfl) ?_
  rintro ⟨ah2, ch2⟩ -
  refine TL_store 1 (.cells #[.slice ah2 ((heldP l).length) ch2, .int .i64 (((heldP l).length + 8 : Nat) : Int)] 121) rfl (fun _ _ hρ hm => r_store sz121 (hρ _ _ rfl) (hρ _ _ rfl) (hm.at 1 rfl) rfl rfl rfl rfl) rfl rfl (w_n rfl) ?_
  refine TL_seq ?_
  refine T_ret' ?_
  refine ret_of rfl (.agg #[.slice ah2 ((heldP l).length) ch2, .int .i64 (((heldP l).length + 8 : Nat) : Int)]) (fun tmps w hk hm => res1 rfl (res_cell (hk 1 _ rfl) (run_loadVar_agg ag121 sz121 (hm.at 1 rfl) (Nat.le_of_ble_eq_true rfl) rfl))) (fun w hm => ?_)
  exact ⟨ah2, ch2, rfl, hm.ext, hm.own 2 _ rfl⟩

theorem next1_p (T0 S at9 : Nat) (l : List By) (a : Option Addr) (cap : Nat) (w : World) (hv : SliceAt w a cap 1 byc l) (hcap : cap ≤ Go.maxLen) (h0 : hp w T0 = some (.cells #[.pointer (some ⟨S, 0, none⟩)] 146)) (hS : hp w S = some (.cells #[.slice a l.length cap, .int .i64 (at9 : Int)] 150)) (h : ¬ firstE l = 0) : Calls Try.prog 127 #[.pointer (some ⟨T0, 0, none⟩)] w fun e w' => e = .panicked [{ v := .iface 28 (.int .i64 (firstE l)), recovered := false }] ∧ Below w.heap.size w w' := by
  refine calls_of_T (l := [.pointer (some ⟨T0, 0, none⟩)]) 8 Try.func127 rfl rfl rfl ?_
  show T _ _ _ [(0, .pointer (some ⟨T0, 0, none⟩))] []
  refine T_seq (T_region ?_)
  refine TL_new 1 (.cells #[.slice none 0 0, .int .i64 0] 121) (fun B => .pointer (some ⟨B, 0, none⟩)) (fun _ _ _ _ => r_alloc (v := .agg #[.slice none 0 0, .int .i64 0]) (by kernel_rfl) rfl) rfl rfl rfl (w_n rfl) ?_
  intro B1
  refine TL_seq ?_
  refine T_seq (T_region ?_)
  refine TL_q (.pointer (some ⟨S, 0, none⟩)) (fun _ _ hρ hm => r_load ag146 (hρ _ _ rfl) (hm.old h0) rfl) rfl rfl rfl (w_n rfl) ?_
  refine TL_q (.pointer (some ⟨S, 0, none⟩)) (fun _ _ hρ _ => r_nilCheck (hρ _ _ rfl) rfl) rfl rfl rfl (w_n rfl) ?_
  refine TL_q (.pointer (some ⟨S, 0, none⟩)) (fun _ _ hρ _ => r_fieldAddr fl150_0 sz148 (hρ _ _ rfl)) rfl rfl rfl (w_n rfl) ?_
  refine TL_q (.pointer (some ⟨S, 0, none⟩)) (fun _ _ hρ _ => r_fieldAddr fl148_0 sz34 (hρ _ _ rfl)) rfl rfl rfl (w_n rfl) ?_
  refine TL_q (.slice a l.length cap) (fun _ _ hρ hm => r_load ag34 (hρ _ _ rfl) (hm.old hS) rfl) rfl rfl rfl (w_n rfl) ?_
  refine TL_callQ (v := .iface 28 (.int .i64 (firstE l))) (fun _ _ hρ _ => r_call (args := [.slice a l.length cap]) (enters_of Try.func92 (by kernel_rfl) rfl) (hρ _ _ rfl) ((cons2 (hρ _ _ rfl) rfl)) rfl) (fun w hm => first_p l a cap w (hv.keep hm.ext) hcap h) rfl (w_n rfl) ?_
  refine p_then_p ?_
  refine p_pan rfl (fun w hm => ?_)
  exact ⟨rfl, hm.ext⟩

theorem jfirst_p (l : List By) (a : Option Addr) (cap : Nat) (w : World) (hv : SliceAt w a cap 1 byc l) (hcap : cap ≤ Go.maxLen) (h : ¬ firstE l = 0) : Calls Try.prog 52 #[.slice a l.length cap] w fun e w' => ∃ a' cap', e = .returned (.tuple #[.slice a' ([] : List By).length cap', .int .i64 0, .int .i64 (firstE l)]) ∧ Below w.heap.size w w' ∧ w'.ownsRow w.heap.size 5 1 (.slice a' ([] : List By).length cap') ([] : List By).length (([] : List By).flatMap byc) := by
  have hvl := hv.1
  have hcp := hcap
  unfold Go.maxLen at hcp
  refine calls_of_T (l := [.slice a l.length cap]) 18 Try.func52 rfl rfl rfl ?_
  show T _ _ _ [(0, .slice a l.length cap)] []
  refine T_seq (T_region ?_)
  refine TL_new 1 (.cells #[.slice a l.length cap] 34) (fun B => .pointer (some ⟨B, 0, none⟩)) (fun _ _ hρ _ => r_box (hρ _ _ rfl) rfl) rfl rfl rfl (w_n rfl) ?_
  intro B1
  refine TL_q (.slice none 0 0) (fun _ _ hρ _ => r_assign (hρ _ _ rfl)) rfl rfl rfl (w_n rfl) ?_
  refine TL_q (.int .i64 0) (fun _ _ hρ _ => r_assign (hρ _ _ rfl)) rfl rfl rfl (w_n rfl) ?_
  refine TL_q (.int .i64 0) (fun _ _ hρ _ => r_assign (hρ _ _ rfl)) rfl rfl rfl (w_n rfl) ?_
  refine TL_seq ?_
  refine T_seq (T_region ?_)
  refine TL_q (.func (.func 91) #[] #[.pointer (some ⟨B1, 0, none⟩)]) (fun _ _ hρ _ => r_makeFunc (by simp) (map_arr (cons2 (hρ _ _ rfl) rfl))) rfl rfl rfl (w_n rfl) ?_
  refine TL_call (.tuple #[.agg #[.slice none 0 0, .int .i64 0], .int .i64 (firstE l)]) (fun _ _ hρ _ => r_call (args := [.func (.func 91) #[] #[.pointer (some ⟨B1, 0, none⟩)]]) (enters_of Try.func90 (by kernel_rfl) rfl) (hρ _ _ rfl) ((cons2 (hρ _ _ rfl) rfl)) rfl) (fun w hm => trFW_no 91 #[.pointer (some ⟨B1, 0, none⟩)] (firstE l) w (enters_of Try.func91 (by kernel_rfl) rfl) (fun w2 hb2 => first1_p B1 l a cap w2 (hv.keep (hm.ext.trans (hb2.mono hm.ext.size))) hcap (kept hb2 (hm.at 1 rfl)) h)) rfl rfl rfl (w_n rfl) ?_
  refine TL_q (.tuple #[.agg #[.slice none 0 0, .int .i64 0], .int .i64 (firstE l)]) (fun _ _ hρ _ => r_move (hρ _ _ rfl)) rfl rfl rfl (w_n rfl) ?_
  refine TL_q (.agg #[.slice none 0 0, .int .i64 0]) (fun _ _ hρ _ => r_extract (hρ _ _ rfl) rfl) rfl rfl rfl (w_n rfl) ?_
  refine TL_q (.int .i64 (firstE l)) (fun _ _ hρ _ => r_extract (hρ _ _ rfl) rfl) rfl rfl rfl (w_n rfl) ?_
  refine TL_new 2 (.cells #[.slice none 0 0, .int .i64 0] 121) (fun B => .pointer (some ⟨B, 0, none⟩)) (fun _ _ _ _ => r_alloc (v := .agg #[.slice none 0 0, .int .i64 0]) (by kernel_rfl) rfl) rfl rfl rfl (w_n rfl) ?_
  intro B2
  refine TL_store 2 (.cells #[.slice none 0 0, .int .i64 0] 121) rfl (fun _ _ hρ hm => r_store sz121 (hρ _ _ rfl) (hρ _ _ rfl) (hm.at 2 rfl) rfl rfl rfl rfl) rfl rfl (w_n rfl) ?_
  refine TL_q (.int .i64 (firstE l)) (fun _ _ hρ _ => r_assign (hρ _ _ rfl)) rfl rfl rfl (w_n rfl) ?_
  refine TL_seq ?_
  refine T_seq (T_draw (V := [(0, .pointer (some ⟨B2, 0, none⟩)), (1, .slice none 0 0), (3, .pointer (some ⟨B2, 1, none⟩)), (4, .int .i64 0), (5, .int .i64 (firstE l))]) [0, 1, 3, 0, 8, 0, 7, 95, 255] [[(5, none)], [(12, some 0)], [(13, some 1)], [(5, none)], [(15, some 3)], [(6, none)], [(14, some 2)], [(16, some 4)], [(17, some 5)]] 4 mixed (by kernel_rfl) ?_)
  refine G_step [0, 1, 3, 4, 5] 2 [] (by kernel_rfl) (allM (all_cons (q_run (.pointer (some ⟨B2, 0, none⟩)) rfl rfl (wv_n rfl) rfl (fun _ _ hρ _ => r_fieldAddr fl121_0 sz34 (hρ _ _ rfl))) (all_cons (q_run (.slice none 0 0) rfl rfl (wv_n rfl) rfl (fun _ _ hρ hm => r_load ag34 (hρ _ _ rfl) (hm.at 2 rfl) rfl)) (all_cons (q_run (.pointer (some ⟨B2, 1, none⟩)) rfl rfl (wv_n rfl) rfl (fun _ _ hρ _ => r_fieldAddr fl121_1 sz3 (hρ _ _ rfl))) (all_cons (q_run (.int .i64 0) rfl rfl (wv_n rfl) rfl (fun _ _ hρ hm => r_load ag3 (hρ _ _ rfl) (hm.at 2 rfl) rfl)) (all_cons (q_run (.int .i64 (firstE l)) rfl rfl (wv_n rfl) rfl (fun _ _ hρ _ => r_move (hρ _ _ rfl))) all_nil)))))) (allM (all_cons ?_ all_nil))
  refine LOb_callN (fun (_ : Option Addr × Nat) => True) (fun (ar4, cr4) => .slice ar4 (([] : List By).length) cr4) (fun (ar4, cr4) => [(3, .row (.slice ar4 (([] : List By).length) cr4) 5 1 (([] : List By).length) (([] : List By).flatMap byc))]) (fun (ar4, cr4) => [(6, .slice ar4 (([] : List By).length) cr4), (7, .int .i64 0), (8, .int .i64 (firstE l))]) rfl (wv_n rfl) rfl rfl (fun _ _ hρ _ => r_call (args := [.slice none 0 0]) (enters_of Try.func37 (by kernel_rfl) rfl) (hρ _ _ rfl) ((cons2 (hρ _ _ rfl) rfl)) rfl) (fun w _ => (clone_b byc byc_len byc_one [] none 0 w (sliceNil w) (by decide)).mono fun e w' ⟨a', cap', he, hb, hr⟩ => ⟨(a', cap'), trivial, he, hb, newOk1 3 hr⟩) (fun (ar4, cr4) => by kernel_rfl) ?_
  rintro ⟨ar4, cr4⟩ -
  refine G_last [3, 4, 5, 6, 7, 8] [(2, .slice ar4 (([] : List By).length) cr4), (3, .int .i64 0), (4, .int .i64 (firstE l))] (by kernel_rfl) (allM (all_cons (q_run (.pointer (some ⟨B2, 1, none⟩)) rfl rfl (wv_n rfl) rfl (fun _ _ hρ _ => r_fieldAddr fl121_1 sz3 (hρ _ _ rfl))) (all_cons (q_run (.int .i64 0) rfl rfl (wv_n rfl) rfl (fun _ _ hρ hm => r_load ag3 (hρ _ _ rfl) (hm.at 2 rfl) rfl)) (all_cons (q_run (.int .i64 (firstE l)) rfl rfl (wv_n rfl) rfl (fun _ _ hρ _ => r_move (hρ _ _ rfl))) (all_cons (q_run (.slice ar4 (([] : List By).length) cr4) rfl rfl (wv_n rfl) rfl (fun _ _ hρ _ => r_assign (hρ _ _ rfl))) (all_cons (q_run (.int .i64 0) rfl rfl (wv_n rfl) rfl (fun _ _ hρ _ => r_assign (hρ _ _ rfl))) (all_cons (q_run (.int .i64 (firstE l)) rfl rfl (wv_n rfl) rfl (fun _ _ hρ _ => r_assign (hρ _ _ rfl))) all_nil))))))) (end_new 6 rfl rfl (end_new 7 rfl rfl (end_new 8 rfl rfl end_nil))) ?_
  refine T_ret' ?_
  refine ret_of rfl (.tuple #[.slice ar4 (([] : List By).length) cr4, .int .i64 0, .int .i64 (firstE l)]) (fun tmps w hk hm => res3 rfl (res_tmp (hk 2 _ rfl)) (res_tmp (hk 3 _ rfl)) (res_tmp (hk 4 _ rfl))) (fun w hm => ?_)
  exact ⟨ar4, cr4, rfl, hm.ext, hm.row 3 rfl⟩

theorem next_ok {w₀ : World} {L : Heap} (S : Nat) (l : List By) (a : Option Addr) (cap at9 : Nat) (hL : NoIds L 1701 1800) (hv : SliceAt w₀ a cap 1 byc l) (hcap : cap ≤ Go.maxLen) (ha9 : at9 + l.length ≤ 140737488355328) (h : firstE l = 0) : ∀ w, MemOk w₀ ((1700, .blk S (.cells #[.slice a l.length cap, .int .i64 ((at9 : Nat) : Int)] 150)) :: L) w → Calls Try.prog 115 #[.pointer (some ⟨S, 0, none⟩)] w (HAns w₀ (fun z : (Option Addr × Nat) × (Option Addr × Nat) => SliceAt w₀ z.2.1 z.2.2 1 byc (l.drop ((heldP l).length + 8)) ∧ z.2.2 ≤ Go.maxLen) (fun z => .tuple #[.agg #[.slice z.1.1 (heldP l).length z.1.2, .int .i64 (((heldP l).length + 8 : Nat) : Int)], .bool true]) (fun z => (1701, .sl z.1.1 z.1.2 (heldP l)) :: (1700, .blk S (.cells #[.slice z.2.1 (l.drop ((heldP l).length + 8)).length z.2.2, .int .i64 ((at9 + ((heldP l).length + 8) : Nat) : Int)] 150)) :: L)) := by
  have hvl := hv.1
  have hcp := hcap
  unfold Go.maxLen at hcp
  have hhl := heldP_len h
  have c2 := (first_ok h).2.1
  have c3 := (first_ok h).2.2.1
  refine ht_of_T (l := [.pointer (some ⟨S, 0, none⟩)]) (L := ((1700, .blk S (.cells #[.slice a l.length cap, .int .i64 ((at9 : Nat) : Int)] 150)) :: L)) 37 Try.func115 rfl rfl rfl ?_
  show T _ _ _ [(0, .pointer (some ⟨S, 0, none⟩))] ((1700, .blk S (.cells #[.slice a l.length cap, .int .i64 ((at9 : Nat) : Int)] 150)) :: L)
  refine T_seq (T_region ?_)
  refine TL_new 1711 (.cells #[.pointer (some ⟨S, 0, none⟩)] 146) (fun B => .pointer (some ⟨B, 0, none⟩)) (fun _ _ hρ _ => r_box (hρ _ _ rfl) rfl) rfl rfl rfl (w_n rfl) ?_
  intro B1
  refine TL_new 1712 (.cells #[.slice none 0 0, .int .i64 0] 121) (fun B => .pointer (some ⟨B, 0, none⟩)) (fun _ _ _ _ => r_alloc (v := .agg #[.slice none 0 0, .int .i64 0]) (by kernel_rfl) rfl) rfl rfl rfl (w_n rfl) ?_
  intro B2
  refine TL_q (.bool false) (fun _ _ hρ _ => r_assign (hρ _ _ rfl)) rfl rfl rfl (w_n rfl) ?_
  refine TL_seq ?_
  refine T_seq (T_region ?_)
  refine TL_q (.func (.func 127) #[] #[.pointer (some ⟨B1, 0, none⟩)]) (fun _ _ hρ _ => r_makeFunc (by simp) (map_arr (cons2 (hρ _ _ rfl) rfl))) rfl rfl rfl (w_n rfl) ?_
  refine TL_callN (fun (_ : Option Addr × Nat) => True) (fun (ah3, ch3) => .tuple #[.agg #[.slice ah3 ((heldP l).length) ch3, .int .i64 (((heldP l).length + 8 : Nat) : Int)], .int .i64 0]) (fun (ah3, ch3) => [(1701, .sl ah3 ch3 (heldP l))]) (fun _ _ hρ _ => r_call (args := [.func (.func 127) #[] #[.pointer (some ⟨B1, 0, none⟩)]]) (enters_of Try.func90 (by kernel_rfl) rfl) (hρ _ _ rfl) ((cons2 (hρ _ _ rfl) rfl)) rfl) (fun w hm => trFW_ok 127 #[.pointer (some ⟨B1, 0, none⟩)] (fun (_ : Option Addr × Nat) => True) (fun z => z.1) (fun _ => (heldP l).length) (fun z => z.2) (fun _ => (((heldP l).length + 8 : Nat) : Int)) (fun z => [(1701, .sl z.1 z.2 (heldP l))]) w (enters_of Try.func127 (by kernel_rfl) rfl) (fun _ => rfl) (fun _ => rfl) (fun w2 hb2 => (next1_c B1 S at9 l a cap w2 (hv.keep (hm.ext.trans (hb2.mono hm.ext.size))) hcap (kept hb2 (hm.at 1711 rfl)) (kept hb2 (hm.at 1700 rfl)) h).mono fun e w' ⟨a', cap', he, hb, hr⟩ => ⟨(a', cap'), trivial, he, hb, newOk1 1701 hr⟩)) rfl rfl rfl (w_n rfl) ?_
  rintro ⟨ah3, ch3⟩ -
  refine TL_q (.tuple #[.agg #[.slice ah3 ((heldP l).length) ch3, .int .i64 (((heldP l).length + 8 : Nat) : Int)], .int .i64 0]) (fun _ _ hρ _ => r_move (hρ _ _ rfl)) rfl rfl rfl (w_n rfl) ?_
  refine TL_q (.agg #[.slice ah3 ((heldP l).length) ch3, .int .i64 (((heldP l).length + 8 : Nat) : Int)]) (fun _ _ hρ _ => r_extract (hρ _ _ rfl) rfl) rfl rfl rfl (w_n rfl) ?_
  refine TL_q (.int .i64 0) (fun _ _ hρ _ => r_extract (hρ _ _ rfl) rfl) rfl rfl rfl (w_n rfl) ?_
  refine TL_new 1713 (.cells #[.slice none 0 0, .int .i64 0] 121) (fun B => .pointer (some ⟨B, 0, none⟩)) (fun _ _ _ _ => r_alloc (v := .agg #[.slice none 0 0, .int .i64 0]) (by kernel_rfl) rfl) rfl rfl rfl (w_n rfl) ?_
  intro B4
  refine TL_store 1713 (.cells #[.slice ah3 ((heldP l).length) ch3, .int .i64 (((heldP l).length + 8 : Nat) : Int)] 121) rfl (fun _ _ hρ hm => r_store sz121 (hρ _ _ rfl) (hρ _ _ rfl) (hm.at 1713 rfl) rfl rfl rfl rfl) rfl rfl (w_n rfl) ?_
  refine TL_q (.int .i64 0) (fun _ _ hρ _ => r_assign (hρ _ _ rfl)) rfl rfl rfl (w_n rfl) ?_
  refine TL_seq ?_
  refine T_seq ?_
  refine T_seq (T_region ?_)
  refine TL_q (.int .i64 0) (fun _ _ hρ _ => r_move (hρ _ _ rfl)) rfl rfl rfl (w_n rfl) ?_
  refine TL_q (.bool false) (fun _ _ hρ _ => r_as (r_neq (hρ _ _ rfl) (hρ _ _ rfl)) (by rfl)) rfl rfl rfl (w_n rfl) ?_
  refine TL_seq ?_
  refine T_cond_f rfl ?_
  refine T_skip' ?_
  refine p_seq ?_
  obtain ⟨l5, hl5, hn5⟩ : ∃ lz, lz = (l.drop ((heldP l).length + 8)).take (l.length - ((heldP l).length + 8)) ∧ lz.length = l.length - ((heldP l).length + 8) := ⟨_, rfl, by rw [List.length_take, List.length_drop]; omega⟩
  obtain ⟨a5, ha5⟩ : ∃ az : Option Addr, az = (if cap = (heldP l).length + 8 then a else Option.map (·.add (((heldP l).length + 8) * 1)) a) := ⟨_, rfl⟩
  have hs5 := SliceAt.part hv (lo := (heldP l).length + 8) (hi := l.length) (m := cap) (by omega) (by omega) (by omega) (by omega)
  rw [← hl5, ← ha5] at hs5
  refine T_seq (T_draw (V := [(0, .pointer (some ⟨S, 0, none⟩)), (1, .pointer (some ⟨S, 0, none⟩)), (2, .pointer (some ⟨S, 0, none⟩)), (3, .pointer (some ⟨S, 0, none⟩)), (4, .pointer (some ⟨S, 0, none⟩)), (5, .pointer (some ⟨S, 0, none⟩)), (6, .slice a l.length cap), (7, .pointer (some ⟨B4, 1, none⟩)), (8, .int .i64 (((heldP l).length + 8 : Nat) : Int)), (9, .slice a5 l5.length (cap - ((heldP l).length + 8))), (10, .pointer (some ⟨S, 0, none⟩)), (11, .pointer (some ⟨S, 0, none⟩)), (12, .pointer (some ⟨S, 1, none⟩)), (13, .int .i64 ((at9 : Nat) : Int)), (14, .pointer (some ⟨B4, 1, none⟩)), (15, .int .i64 (((heldP l).length + 8 : Nat) : Int)), (16, .int .i64 ((at9 + ((heldP l).length + 8) : Nat) : Int)), (17, .pointer (some ⟨S, 0, none⟩)), (18, .pointer (some ⟨S, 0, none⟩)), (19, .pointer (some ⟨S, 0, none⟩))]) [0, 0, 0, 4, 12, 28, 60, 0, 128, 508, 0, 1024, 3072, 7168, 0, 16384, 64512, 16381, 147453, 409597, 933885, 2097151, 4194303, 8388607] [[(1, none)], [(1, none)], [(1, none)], [(16, some 2)], [(17, some 3)], [(18, some 4)], [(19, some 5)], [(4, none)], [(21, some 7)], [(20, some 6), (22, some 8)], [(1, none)], [(24, some 10)], [(25, some 11)], [(26, some 12)], [(4, none)], [(28, some 14)], [(27, some 13), (29, some 15)], [(14, some 0)], [(31, some 17)], [(32, some 18)], [(33, some 19), (23, some 9)], [(15, some 1)], [(34, some 21)], [(35, some 22), (30, some 16)]] 9437184 mixed (by kernel_rfl) ?_)
  refine G_step [0, 1, 2, 3, 4, 5, 6, 7, 8, 9, 10, 11, 12, 13, 14, 15, 16, 17, 18, 19] 20 [] (by kernel_rfl) (allM (all_cons (q_run (.pointer (some ⟨S, 0, none⟩)) rfl rfl (wv_n rfl) rfl (fun _ _ hρ hm => r_load ag146 (hρ _ _ rfl) (hm.at 1711 rfl) rfl)) (all_cons (q_run (.pointer (some ⟨S, 0, none⟩)) rfl rfl (wv_n rfl) rfl (fun _ _ hρ hm => r_load ag146 (hρ _ _ rfl) (hm.at 1711 rfl) rfl)) (all_cons (q_run (.pointer (some ⟨S, 0, none⟩)) rfl rfl (wv_n rfl) rfl (fun _ _ hρ hm => r_load ag146 (hρ _ _ rfl) (hm.at 1711 rfl) rfl)) (all_cons (q_run (.pointer (some ⟨S, 0, none⟩)) rfl rfl (wv_n rfl) rfl (fun _ _ hρ _ => r_nilCheck (hρ _ _ rfl) rfl)) (all_cons (q_run (.pointer (some ⟨S, 0, none⟩)) rfl rfl (wv_n rfl) rfl (fun _ _ hρ _ => r_fieldAddr fl150_0 sz148 (hρ _ _ rfl))) (all_cons (q_run (.pointer (some ⟨S, 0, none⟩)) rfl rfl (wv_n rfl) rfl (fun _ _ hρ _ => r_fieldAddr fl148_0 sz34 (hρ _ _ rfl))) (all_cons (q_run (.slice a l.length cap) rfl rfl (wv_n rfl) rfl (fun _ _ hρ hm => r_load ag34 (hρ _ _ rfl) (hm.at 1700 rfl) rfl)) (all_cons (q_run (.pointer (some ⟨B4, 1, none⟩)) rfl rfl (wv_n rfl) rfl (fun _ _ hρ _ => r_fieldAddr fl121_1 sz3 (hρ _ _ rfl))) (all_cons (q_run (.int .i64 (((heldP l).length + 8 : Nat) : Int)) rfl rfl (wv_n rfl) rfl (fun _ _ hρ hm => r_load ag3 (hρ _ _ rfl) (hm.at 1713 rfl) rfl)) (all_cons (q_run (.slice a5 l5.length (cap - ((heldP l).length + 8))) rfl rfl (wv_n rfl) rfl (fun ρ _ hρ _ => r_as (r_sliceO sl34 sz5 (hρ _ _ rfl) (bd_none ρ _) (bd_none ρ _) (bd_some (n := (heldP l).length + 8) (hρ _ _ rfl)) (by simp) (by omega) (by omega) (by omega)) (by rw [hn5, ha5]))) (all_cons (q_run (.pointer (some ⟨S, 0, none⟩)) rfl rfl (wv_n rfl) rfl (fun _ _ hρ hm => r_load ag146 (hρ _ _ rfl) (hm.at 1711 rfl) rfl)) (all_cons (q_run (.pointer (some ⟨S, 0, none⟩)) rfl rfl (wv_n rfl) rfl (fun _ _ hρ _ => r_nilCheck (hρ _ _ rfl) rfl)) (all_cons (q_run (.pointer (some ⟨S, 1, none⟩)) rfl rfl (wv_n rfl) rfl (fun _ _ hρ _ => r_fieldAddr fl150_1 sz3 (hρ _ _ rfl))) (all_cons (q_run (.int .i64 ((at9 : Nat) : Int)) rfl rfl (wv_n rfl) rfl (fun _ _ hρ hm => r_load ag3 (hρ _ _ rfl) (hm.at 1700 rfl) rfl)) (all_cons (q_run (.pointer (some ⟨B4, 1, none⟩)) rfl rfl (wv_n rfl) rfl (fun _ _ hρ _ => r_fieldAddr fl121_1 sz3 (hρ _ _ rfl))) (all_cons (q_run (.int .i64 (((heldP l).length + 8 : Nat) : Int)) rfl rfl (wv_n rfl) rfl (fun _ _ hρ hm => r_load ag3 (hρ _ _ rfl) (hm.at 1713 rfl) rfl)) (all_cons (q_run (.int .i64 ((at9 + ((heldP l).length + 8) : Nat) : Int)) rfl rfl (wv_n rfl) rfl (fun _ _ hρ _ => r_as (r_add (hρ _ _ rfl) (hρ _ _ rfl)) (int_as ((wrap64 (by omega) (by omega)).trans (by omega))))) (all_cons (q_run (.pointer (some ⟨S, 0, none⟩)) rfl rfl (wv_n rfl) rfl (fun _ _ hρ _ => r_nilCheck (hρ _ _ rfl) rfl)) (all_cons (q_run (.pointer (some ⟨S, 0, none⟩)) rfl rfl (wv_n rfl) rfl (fun _ _ hρ _ => r_fieldAddr fl150_0 sz148 (hρ _ _ rfl))) (all_cons (q_run (.pointer (some ⟨S, 0, none⟩)) rfl rfl (wv_n rfl) rfl (fun _ _ hρ _ => r_fieldAddr fl148_0 sz34 (hρ _ _ rfl))) all_nil))))))))))))))))))))) (allM (all_cons ?_ all_nil))
  refine LOb_store 1700 (.cells #[.slice a5 l5.length (cap - ((heldP l).length + 8)), .int .i64 ((at9 : Nat) : Int)] 150) [(21, .pointer (some ⟨S, 0, none⟩)), (22, .pointer (some ⟨S, 1, none⟩))] rfl (wv_n rfl) rfl rfl rfl (fun _ _ hρ hm => r_store sz34 (hρ _ _ rfl) (hρ _ _ rfl) (hm.at 1700 rfl) rfl rfl rfl rfl) (by kernel_rfl) ?_
  refine G_step [1, 14, 15, 16, 21, 22] 23 [] (by kernel_rfl) (allM (all_cons (q_run (.pointer (some ⟨S, 0, none⟩)) rfl rfl (wv_n rfl) rfl (fun _ _ hρ hm => r_load ag146 (hρ _ _ rfl) (hm.at 1711 rfl) rfl)) (all_cons (q_run (.pointer (some ⟨B4, 1, none⟩)) rfl rfl (wv_n rfl) rfl (fun _ _ hρ _ => r_fieldAddr fl121_1 sz3 (hρ _ _ rfl))) (all_cons (q_run (.int .i64 (((heldP l).length + 8 : Nat) : Int)) rfl rfl (wv_n rfl) rfl (fun _ _ hρ hm => r_load ag3 (hρ _ _ rfl) (hm.at 1713 rfl) rfl)) (all_cons (q_run (.int .i64 ((at9 + ((heldP l).length + 8) : Nat) : Int)) rfl rfl (wv_n rfl) rfl (fun _ _ hρ _ => r_as (r_add (hρ _ _ rfl) (hρ _ _ rfl)) (int_as ((wrap64 (by omega) (by omega)).trans (by omega))))) (all_cons (q_run (.pointer (some ⟨S, 0, none⟩)) rfl rfl (wv_n rfl) rfl (fun _ _ hρ _ => r_nilCheck (hρ _ _ rfl) rfl)) (all_cons (q_run (.pointer (some ⟨S, 1, none⟩)) rfl rfl (wv_n rfl) rfl (fun _ _ hρ _ => r_fieldAddr fl150_1 sz3 (hρ _ _ rfl))) all_nil))))))) (allM (all_cons ?_ all_nil))
  refine LOb_store 1700 (.cells #[.slice a5 l5.length (cap - ((heldP l).length + 8)), .int .i64 ((at9 + ((heldP l).length + 8) : Nat) : Int)] 150) [] rfl (wv_n rfl) rfl rfl rfl (fun _ _ hρ hm => r_store sz3 (hρ _ _ rfl) (hρ _ _ rfl) (hm.at 1700 rfl) rfl rfl rfl rfl) (by kernel_rfl) ?_
  refine G_last [] [(2, .pointer (some ⟨B2, 0, none⟩)), (3, .bool false), (4, .pointer (some ⟨B4, 0, none⟩))] (by kernel_rfl) (allM all_nil) (end_old rfl rfl (end_old rfl rfl (end_old rfl rfl end_nil))) ?_
  refine T_seq (T_region ?_)
  refine TL_q (.agg #[.slice ah3 ((heldP l).length) ch3, .int .i64 (((heldP l).length + 8 : Nat) : Int)]) (fun _ _ hρ hm => r_loadA ag121 sz121 (hρ _ _ rfl) (hm.at 1713 rfl) rfl rfl) rfl rfl rfl (w_n rfl) ?_
  refine TL_store 1712 (.cells #[.slice ah3 ((heldP l).length) ch3, .int .i64 (((heldP l).length + 8 : Nat) : Int)] 121) rfl (fun _ _ hρ hm => r_store sz121 (hρ _ _ rfl) (hρ _ _ rfl) (hm.at 1712 rfl) rfl rfl rfl rfl) rfl rfl (w_n rfl) ?_
  refine TL_q (.bool true) (fun _ _ hρ _ => r_assign (hρ _ _ rfl)) rfl rfl rfl (w_n rfl) ?_
  refine TL_seq ?_
  refine T_ret' ?_
  refine ret_of rfl (.tuple #[.agg #[.slice ah3 ((heldP l).length) ch3, .int .i64 (((heldP l).length + 8 : Nat) : Int)], .bool true]) (fun tmps w hk hm => res2 rfl (res_cell (hk 2 _ rfl) (run_loadVar_agg ag121 sz121 (hm.at 1712 rfl) (Nat.le_of_ble_eq_true rfl) rfl)) (res_tmp (hk 3 _ rfl))) (fun w hm => ?_)
  have ez : l5 = (l.drop ((heldP l).length + 8)) := by rw [hl5]; exact List.take_of_length_le (by rw [List.length_drop]; exact Nat.le_refl _)
  subst ez
  refine ⟨((ah3, ch3), (a5, (cap - ((heldP l).length + 8)))), ⟨hs5, Nat.le_trans (Nat.sub_le _ _) hcap⟩, rfl, ?_⟩
  first | exact hm.of (lk_fin (F := [_, _, _, _, _]) (T := [(1701, .sl ah3 ch3 (heldP l)), (1700, .blk S (.cells #[.slice a5 (l.drop ((heldP l).length + 8)).length (cap - ((heldP l).length + 8)), .int .i64 ((at9 + ((heldP l).length + 8) : Nat) : Int)] 150))]) (sub_cons rfl (sub_cons rfl sub_nil)) rfl hL) | exact hm.of (lk_fin (F := [_, _, _, _, _, _]) (T := [(1701, .sl ah3 ch3 (heldP l)), (1700, .blk S (.cells #[.slice a5 (l.drop ((heldP l).length + 8)).length (cap - ((heldP l).length + 8)), .int .i64 ((at9 + ((heldP l).length + 8) : Nat) : Int)] 150))]) (sub_cons rfl (sub_cons rfl sub_nil)) rfl hL) | exact hm.of (lk_fin (F := [_, _, _, _, _, _, _]) (T := [(1701, .sl ah3 ch3 (heldP l)), (1700, .blk S (.cells #[.slice a5 (l.drop ((heldP l).length + 8)).length (cap - ((heldP l).length + 8)), .int .i64 ((at9 + ((heldP l).length + 8) : Nat) : Int)] 150))]) (sub_cons rfl (sub_cons rfl sub_nil)) rfl hL) | exact hm.of (lk_fin (F := [_, _, _, _, _, _, _, _]) (T := [(1701, .sl ah3 ch3 (heldP l)), (1700, .blk S (.cells #[.slice a5 (l.drop ((heldP l).length + 8)).length (cap - ((heldP l).length + 8)), .int .i64 ((at9 + ((heldP l).length + 8) : Nat) : Int)] 150))]) (sub_cons rfl (sub_cons rfl sub_nil)) rfl hL) | exact hm.of (lk_fin (F := [_, _, _, _, _, _, _, _, _]) (T := [(1701, .sl ah3 ch3 (heldP l)), (1700, .blk S (.cells #[.slice a5 (l.drop ((heldP l).length + 8)).length (cap - ((heldP l).length + 8)), .int .i64 ((at9 + ((heldP l).length + 8) : Nat) : Int)] 150))]) (sub_cons rfl (sub_cons rfl sub_nil)) rfl hL) | exact hm.of (lk_fin (F := [_, _, _, _, _, _, _, _, _, _]) (T := [(1701, .sl ah3 ch3 (heldP l)), (1700, .blk S (.cells #[.slice a5 (l.drop ((heldP l).length + 8)).length (cap - ((heldP l).length + 8)), .int .i64 ((at9 + ((heldP l).length + 8) : Nat) : Int)] 150))]) (sub_cons rfl (sub_cons rfl sub_nil)) rfl hL) | exact hm.of (lk_fin (F := [_, _, _, _, _, _, _, _, _, _, _]) (T := [(1701, .sl ah3 ch3 (heldP l)), (1700, .blk S (.cells #[.slice a5 (l.drop ((heldP l).length + 8)).length (cap - ((heldP l).length + 8)), .int .i64 ((at9 + ((heldP l).length + 8) : Nat) : Int)] 150))]) (sub_cons rfl (sub_cons rfl sub_nil)) rfl hL) | exact hm.of (lk_fin (F := [_, _, _, _, _, _, _, _, _, _, _, _]) (T := [(1701, .sl ah3 ch3 (heldP l)), (1700, .blk S (.cells #[.slice a5 (l.drop ((heldP l).length + 8)).length (cap - ((heldP l).length + 8)), .int .i64 ((at9 + ((heldP l).length + 8) : Nat) : Int)] 150))]) (sub_cons rfl (sub_cons rfl sub_nil)) rfl hL) | exact hm.of (lk_fin (F := [_, _, _, _, _, _, _, _, _, _, _, _, _]) (T := [(1701, .sl ah3 ch3 (heldP l)), (1700, .blk S (.cells #[.slice a5 (l.drop ((heldP l).length + 8)).length (cap - ((heldP l).length + 8)), .int .i64 ((at9 + ((heldP l).length + 8) : Nat) : Int)] 150))]) (sub_cons rfl (sub_cons rfl sub_nil)) rfl hL) | exact hm.of (lk_fin (F := [_, _, _, _, _, _, _, _, _, _, _, _, _, _]) (T := [(1701, .sl ah3 ch3 (heldP l)), (1700, .blk S (.cells #[.slice a5 (l.drop ((heldP l).length + 8)).length (cap - ((heldP l).length + 8)), .int .i64 ((at9 + ((heldP l).length + 8) : Nat) : Int)] 150))]) (sub_cons rfl (sub_cons rfl sub_nil)) rfl hL)

theorem next_no {w₀ : World} {L : Heap} (S : Nat) (l : List By) (a : Option Addr) (cap at9 : Nat) (hL : NoIds L 1701 1800) (hv : SliceAt w₀ a cap 1 byc l) (hcap : cap ≤ Go.maxLen) (ha9 : at9 + l.length ≤ 140737488355328) (h : ¬ firstE l = 0) : ∀ w, MemOk w₀ ((1700, .blk S (.cells #[.slice a l.length cap, .int .i64 ((at9 : Nat) : Int)] 150)) :: L) w → Calls Try.prog 115 #[.pointer (some ⟨S, 0, none⟩)] w (HAns w₀ (fun _ : Unit => True) (fun _ => .tuple #[.agg #[.slice none 0 0, .int .i64 0], .bool false]) (fun _ => (1700, .blk S (.cells #[.slice a l.length cap, .int .i64 ((at9 : Nat) : Int)] 150)) :: L)) := by
  have hvl := hv.1
  have hcp := hcap
  unfold Go.maxLen at hcp
  refine ht_of_T (l := [.pointer (some ⟨S, 0, none⟩)]) (L := ((1700, .blk S (.cells #[.slice a l.length cap, .int .i64 ((at9 : Nat) : Int)] 150)) :: L)) 37 Try.func115 rfl rfl rfl ?_
  show T _ _ _ [(0, .pointer (some ⟨S, 0, none⟩))] ((1700, .blk S (.cells #[.slice a l.length cap, .int .i64 ((at9 : Nat) : Int)] 150)) :: L)
  refine T_seq (T_region ?_)
  refine TL_new 1711 (.cells #[.pointer (some ⟨S, 0, none⟩)] 146) (fun B => .pointer (some ⟨B, 0, none⟩)) (fun _ _ hρ _ => r_box (hρ _ _ rfl) rfl) rfl rfl rfl (w_n rfl) ?_
  intro B1
  refine TL_new 1712 (.cells #[.slice none 0 0, .int .i64 0] 121) (fun B => .pointer (some ⟨B, 0, none⟩)) (fun _ _ _ _ => r_alloc (v := .agg #[.slice none 0 0, .int .i64 0]) (by kernel_rfl) rfl) rfl rfl rfl (w_n rfl) ?_
  intro B2
  refine TL_q (.bool false) (fun _ _ hρ _ => r_assign (hρ _ _ rfl)) rfl rfl rfl (w_n rfl) ?_
  refine TL_seq ?_
  refine T_seq (T_region ?_)
  refine TL_q (.func (.func 127) #[] #[.pointer (some ⟨B1, 0, none⟩)]) (fun _ _ hρ _ => r_makeFunc (by simp) (map_arr (cons2 (hρ _ _ rfl) rfl))) rfl rfl rfl (w_n rfl) ?_
  refine TL_call (.tuple #[.agg #[.slice none 0 0, .int .i64 0], .int .i64 (firstE l)]) (fun _ _ hρ _ => r_call (args := [.func (.func 127) #[] #[.pointer (some ⟨B1, 0, none⟩)]]) (enters_of Try.func90 (by kernel_rfl) rfl) (hρ _ _ rfl) ((cons2 (hρ _ _ rfl) rfl)) rfl) (fun w hm => trFW_no 127 #[.pointer (some ⟨B1, 0, none⟩)] (firstE l) w (enters_of Try.func127 (by kernel_rfl) rfl) (fun w2 hb2 => next1_p B1 S at9 l a cap w2 (hv.keep (hm.ext.trans (hb2.mono hm.ext.size))) hcap (kept hb2 (hm.at 1711 rfl)) (kept hb2 (hm.at 1700 rfl)) h)) rfl rfl rfl (w_n rfl) ?_
  refine TL_q (.tuple #[.agg #[.slice none 0 0, .int .i64 0], .int .i64 (firstE l)]) (fun _ _ hρ _ => r_move (hρ _ _ rfl)) rfl rfl rfl (w_n rfl) ?_
  refine TL_q (.agg #[.slice none 0 0, .int .i64 0]) (fun _ _ hρ _ => r_extract (hρ _ _ rfl) rfl) rfl rfl rfl (w_n rfl) ?_
  refine TL_q (.int .i64 (firstE l)) (fun _ _ hρ _ => r_extract (hρ _ _ rfl) rfl) rfl rfl rfl (w_n rfl) ?_
  refine TL_new 1713 (.cells #[.slice none 0 0, .int .i64 0] 121) (fun B => .pointer (some ⟨B, 0, none⟩)) (fun _ _ _ _ => r_alloc (v := .agg #[.slice none 0 0, .int .i64 0]) (by kernel_rfl) rfl) rfl rfl rfl (w_n rfl) ?_
  intro B3
  refine TL_store 1713 (.cells #[.slice none 0 0, .int .i64 0] 121) rfl (fun _ _ hρ hm => r_store sz121 (hρ _ _ rfl) (hρ _ _ rfl) (hm.at 1713 rfl) rfl rfl rfl rfl) rfl rfl (w_n rfl) ?_
  refine TL_q (.int .i64 (firstE l)) (fun _ _ hρ _ => r_assign (hρ _ _ rfl)) rfl rfl rfl (w_n rfl) ?_
  refine TL_seq ?_
  refine T_seq ?_
  refine T_seq (T_region ?_)
  refine TL_q (.int .i64 (firstE l)) (fun _ _ hρ _ => r_move (hρ _ _ rfl)) rfl rfl rfl (w_n rfl) ?_
  refine TL_q (.bool true) (fun _ _ hρ _ => r_as (r_neq (hρ _ _ rfl) (hρ _ _ rfl)) (bool_as (by rw [decide_eq_false h]; rfl))) rfl rfl rfl (w_n rfl) ?_
  refine TL_seq ?_
  refine T_cond_t rfl ?_
  refine T_seq (T_region ?_)
  refine TL_q (.agg #[.slice none 0 0, .int .i64 0]) (fun _ _ _ _ => r_build (vs := []) (by kernel_rfl) rfl) rfl rfl rfl (w_n rfl) ?_
  refine TL_store 1712 (.cells #[.slice none 0 0, .int .i64 0] 121) rfl (fun _ _ hρ hm => r_store sz121 (hρ _ _ rfl) (hρ _ _ rfl) (hm.at 1712 rfl) rfl rfl rfl rfl) rfl rfl (w_n rfl) ?_
  refine TL_q (.bool false) (fun _ _ hρ _ => r_assign (hρ _ _ rfl)) rfl rfl rfl (w_n rfl) ?_
  refine TL_seq ?_
  refine T_ret' ?_
  refine p_then_r ?_
  refine ret_of rfl (.tuple #[.agg #[.slice none 0 0, .int .i64 0], .bool false]) (fun tmps w hk hm => res2 rfl (res_cell (hk 2 _ rfl) (run_loadVar_agg ag121 sz121 (hm.at 1712 rfl) (Nat.le_of_ble_eq_true rfl) rfl)) (res_tmp (hk 3 _ rfl))) (fun w hm => ?_)
  refine ⟨(), trivial, rfl, ?_⟩
  first | exact hm.of (lk_fin (F := [_, _, _, _]) (T := [(1700, .blk S (.cells #[.slice a l.length cap, .int .i64 ((at9 : Nat) : Int)] 150))]) (sub_cons rfl sub_nil) rfl hL) | exact hm.of (lk_fin (F := [_, _, _, _, _]) (T := [(1700, .blk S (.cells #[.slice a l.length cap, .int .i64 ((at9 : Nat) : Int)] 150))]) (sub_cons rfl sub_nil) rfl hL) | exact hm.of (lk_fin (F := [_, _, _, _, _, _]) (T := [(1700, .blk S (.cells #[.slice a l.length cap, .int .i64 ((at9 : Nat) : Int)] 150))]) (sub_cons rfl sub_nil) rfl hL) | exact hm.of (lk_fin (F := [_, _, _, _, _, _, _]) (T := [(1700, .blk S (.cells #[.slice a l.length cap, .int .i64 ((at9 : Nat) : Int)] 150))]) (sub_cons rfl sub_nil) rfl hL) | exact hm.of (lk_fin (F := [_, _, _, _, _, _, _, _]) (T := [(1700, .blk S (.cells #[.slice a l.length cap, .int .i64 ((at9 : Nat) : Int)] 150))]) (sub_cons rfl sub_nil) rfl hL) | exact hm.of (lk_fin (F := [_, _, _, _, _, _, _, _, _]) (T := [(1700, .blk S (.cells #[.slice a l.length cap, .int .i64 ((at9 : Nat) : Int)] 150))]) (sub_cons rfl sub_nil) rfl hL) | exact hm.of (lk_fin (F := [_, _, _, _, _, _, _, _, _, _]) (T := [(1700, .blk S (.cells #[.slice a l.length cap, .int .i64 ((at9 : Nat) : Int)] 150))]) (sub_cons rfl sub_nil) rfl hL) | exact hm.of (lk_fin (F := [_, _, _, _, _, _, _, _, _, _, _]) (T := [(1700, .blk S (.cells #[.slice a l.length cap, .int .i64 ((at9 : Nat) : Int)] 150))]) (sub_cons rfl sub_nil) rfl hL) | exact hm.of (lk_fin (F := [_, _, _, _, _, _, _, _, _, _, _, _]) (T := [(1700, .blk S (.cells #[.slice a l.length cap, .int .i64 ((at9 : Nat) : Int)] 150))]) (sub_cons rfl sub_nil) rfl hL) | exact hm.of (lk_fin (F := [_, _, _, _, _, _, _, _, _, _, _, _, _]) (T := [(1700, .blk S (.cells #[.slice a l.length cap, .int .i64 ((at9 : Nat) : Int)] 150))]) (sub_cons rfl sub_nil) rfl hL)

theorem scanA_h {l : List By} (at' : Nat) (h : firstE l = 0) : scanA at' l = (at', heldP l) :: scanA (at' + ((heldP l).length + 8)) (l.drop ((heldP l).length + 8)) := by
  rw [heldP_len h]; exact scanA_t at' h
theorem drop_get {α : Type} {l t : List α} {k : Nat} {x : α} (h : l.drop k = x :: t) : l[k]? = some x := by
  have := congrArg (fun z => z[0]?) h
  rw [List.getElem?_drop] at this
  exact this
theorem drop_lt {α : Type} {l t : List α} {k : Nat} {x : α} (h : l.drop k = x :: t) : k + 1 ≤ l.length := (List.getElem?_eq_some_iff.1 (drop_get h)).1
theorem drop_next {α : Type} {l t : List α} {k : Nat} {x : α} (h : l.drop k = x :: t) : l.drop (k + 1) = t := by
  rw [← List.drop_drop, h]; rfl
theorem drop_none {α : Type} {l : List α} {k : Nat} (hk : k ≤ l.length) (h : l.drop k = []) : k = l.length := by
  have := congrArg List.length h
  rw [List.length_drop, List.length_nil] at this
  omega
/-- What the records' iterator hands over. -/
def encF (x : Nat × List By) (z : Option Addr × Nat) : List Value := [.int .i64 (x.1 : Int), .agg #[.slice z.1 x.2.length z.2, .int .i64 ((x.2.length + 8 : Nat) : Int)]]
abbrev EF (x : Nat × List By) (z : Option Addr × Nat) : Res := .sl z.1 z.2 x.2

theorem recs_iter {ι : Type} (w₀ : World) (p' : Nat → ι → Prop) (LJ : Nat → ι → Heap) (T1 : Nat) (l : List By) (a : Option Addr) (cap : Nat) (hv : SliceAt w₀ a cap 1 byc l) (hcap : cap ≤ Go.maxLen) (hl9 : l.length ≤ 140737488355328) (hfr7 : ∀ k i, NoIds (LJ k i) 1700 1800)
    (hT1 : ∀ i w, MemOk w₀ (LJ 0 i) w → hp w T1 = some (.cells #[.slice a l.length cap] 34)) :
    IterZ Try.prog w₀ 114 #[.pointer (some ⟨T1, 0, none⟩)] encF EF (scanA 0 l) p' LJ := by
  intro lY κ pX LX hY i₀ W₁ hp0 hm0
  have hfr : ∀ k i, NoIds (LJ k i) 1701 1800 := fun k i => (hfr7 k i).sub rfl rfl
  have hvl := hv.1
  show Calls _ _ #[.func (.yield lY) #[] #[], .pointer (some ⟨T1, 0, none⟩)] _ _
  refine ht_of_T (l := [.func (.yield lY) #[] #[], .pointer (some ⟨T1, 0, none⟩)]) (L := LJ 0 i₀) 30 Try.func114 rfl rfl rfl ?_ W₁ hm0
  show T _ _ _ [(0, .func (.yield lY) #[] #[]), (1, .pointer (some ⟨T1, 0, none⟩))] (LJ 0 i₀)
  refine T_jumpsV (ι := Nat × ι × List By × Option Addr × Nat × Nat × Nat) 0 (fun (z : Nat × ι × List By × Option Addr × Nat × Nat × Nat) => match z with | (k, i, r, ra, rc, at9, S9) => p' k i ∧ k ≤ (scanA 0 l).length ∧ (scanA 0 l).drop k = scanA at9 r ∧ SliceAt w₀ ra rc 1 byc r ∧ rc ≤ Go.maxLen ∧ at9 + r.length ≤ 140737488355328) (fun (z : Nat × ι × List By × Option Addr × Nat × Nat × Nat) => match z with | (k, i, r, ra, rc, at9, S9) => [(0, .func (.yield lY) #[] #[]), (3, .pointer (some ⟨S9, 0, none⟩)), (4, .func (.func 115) #[.pointer (some ⟨S9, 0, none⟩)] #[])]) (fun (z : Nat × ι × List By × Option Addr × Nat × Nat × Nat) => match z with | (k, i, r, ra, rc, at9, S9) => ((1700, .blk S9 (.cells #[.slice ra r.length rc, .int .i64 ((at9 : Nat) : Int)] 150)) :: (LJ k i))) (fun (z : Nat × ι × List By × Option Addr × Nat × Nat × Nat) => match z with | (k, i, r, ra, rc, at9, S9) => r.length) rfl rfl ?_ ?_
  · intro hps
    refine T_seq (T_region ?_)
    refine TL_q (.slice a l.length cap) (fun _ _ hρ hm => r_load ag34 (hρ _ _ rfl) (hT1 _ _ hm) rfl) rfl rfl rfl (w_n rfl) ?_
    refine TL_q (.agg #[.slice a l.length cap]) (fun _ _ hρ _ => r_build (vs := [(0, .slice a l.length cap)]) (by kernel_rfl) (cons2 (pair2 (hρ _ _ rfl)) rfl)) rfl rfl rfl (w_n rfl) ?_
    refine TL_q (.agg #[.slice a l.length cap, .int .i64 0]) (fun _ _ hρ _ => r_build (vs := [(0, .agg #[.slice a l.length cap])]) (by kernel_rfl) (cons2 (pair2 (hρ _ _ rfl)) rfl)) rfl rfl rfl (w_n rfl) ?_
    refine TL_new 1700 (.cells #[.slice a l.length cap, .int .i64 0] 150) (fun B => .pointer (some ⟨B, 0, none⟩)) (fun _ _ hρ _ => r_box (hρ _ _ rfl) rfl) rfl rfl rfl (w_n rfl) ?_
    intro B1
    refine TL_q (.pointer (some ⟨B1, 0, none⟩)) (fun _ _ hρ _ => r_assign (hρ _ _ rfl)) rfl rfl rfl (w_n rfl) ?_
    refine TL_seq ?_
    refine T_seq (T_region ?_)
    refine TL_q (.pointer (some ⟨B1, 0, none⟩)) (fun _ _ hρ _ => r_move (hρ _ _ rfl)) rfl rfl rfl (w_n rfl) ?_
    refine TL_q (.func (.func 115) #[.pointer (some ⟨B1, 0, none⟩)] #[]) (fun _ _ hρ _ => r_makeFunc (map_arr (cons2 (hρ _ _ rfl) rfl)) (by simp)) rfl rfl rfl (w_n rfl) ?_
    refine TL_q (.func (.func 115) #[.pointer (some ⟨B1, 0, none⟩)] #[]) (fun _ _ hρ _ => r_assign (hρ _ _ rfl)) rfl rfl rfl (w_n rfl) ?_
    refine TL_seq ?_
    refine T_label ?_
    exact T_into (hps (0, i₀, l, a, cap, 0, B1) ⟨hp0, Nat.zero_le _, rfl, hv, hcap, by omega⟩) (sub_cons rfl (sub_cons rfl (sub_cons rfl sub_nil))) (fun _ _ h => h)
  · rintro ⟨k, i, r, ra, rc, at9, S9⟩ hp
    obtain ⟨hpi, hk, hd, hv9, hcap9, ha9⟩ := hp
    have hrl := hv9.1
    show T _ _ _ [(0, .func (.yield lY) #[] #[]), (3, .pointer (some ⟨S9, 0, none⟩)), (4, .func (.func 115) #[.pointer (some ⟨S9, 0, none⟩)] #[])] ((1700, .blk S9 (.cells #[.slice ra r.length rc, .int .i64 ((at9 : Nat) : Int)] 150)) :: (LJ k i))
    refine T_seq (T_region ?_)
    refine TL_q (.pointer (some ⟨S9, 0, none⟩)) (fun _ _ hρ _ => r_move (hρ _ _ rfl)) rfl rfl rfl (w_n rfl) ?_
    refine TL_q (.pointer (some ⟨S9, 0, none⟩)) (fun _ _ hρ _ => r_nilCheck (hρ _ _ rfl) rfl) rfl rfl rfl (w_n rfl) ?_
    refine TL_q (.pointer (some ⟨S9, 1, none⟩)) (fun _ _ hρ _ => r_fieldAddr fl150_1 sz3 (hρ _ _ rfl)) rfl rfl rfl (w_n rfl) ?_
    refine TL_q (.int .i64 ((at9 : Nat) : Int)) (fun _ _ hρ hm => r_load ag3 (hρ _ _ rfl) (hm.at 1700 rfl) rfl) rfl rfl rfl (w_n rfl) ?_
    refine TL_q (.int .i64 ((at9 : Nat) : Int)) (fun _ _ hρ _ => r_assign (hρ _ _ rfl)) rfl rfl rfl (w_n rfl) ?_
    refine TL_seq ?_
    by_cases hz : firstE r = 0
    · skip
      have hhl := heldP_len hz
      have c2 := (first_ok hz).2.1
      have c3 := (first_ok hz).2.2.1
      have hd1x := hd.trans (scanA_h at9 hz)
      have hk1 := drop_lt hd1x
      have hd1 := drop_next hd1x
      refine T_seq (T_region ?_)
      refine TL_q (.func (.func 115) #[.pointer (some ⟨S9, 0, none⟩)] #[]) (fun _ _ hρ _ => r_move (hρ _ _ rfl)) rfl rfl rfl (w_n rfl) ?_
      refine TL_callH _ _ _ (fun _ _ hρ _ => r_call (args := []) (enters_of Try.func115 (by kernel_rfl) rfl) (hρ _ _ rfl) (by rfl) rfl) (fun w hm => next_ok S9 r ra rc at9 (hfr k i) hv9 hcap9 ha9 hz w hm) rfl rfl rfl (w_n rfl) ?_
      rintro ⟨⟨ha1, hc1⟩, ⟨ra2, rc2⟩⟩ ⟨hs2, hcap2⟩
      refine TL_q (.tuple #[.agg #[.slice ha1 ((heldP r).length) hc1, .int .i64 (((heldP r).length + 8 : Nat) : Int)], .bool true]) (fun _ _ hρ _ => r_move (hρ _ _ rfl)) rfl rfl rfl (w_n rfl) ?_
      refine TL_q (.agg #[.slice ha1 ((heldP r).length) hc1, .int .i64 (((heldP r).length + 8 : Nat) : Int)]) (fun _ _ hρ _ => r_extract (hρ _ _ rfl) rfl) rfl rfl rfl (w_n rfl) ?_
      refine TL_q (.bool true) (fun _ _ hρ _ => r_extract (hρ _ _ rfl) rfl) rfl rfl rfl (w_n rfl) ?_
      refine TL_new 1711 (.cells #[.slice none 0 0, .int .i64 0] 121) (fun B => .pointer (some ⟨B, 0, none⟩)) (fun _ _ _ _ => r_alloc (v := .agg #[.slice none 0 0, .int .i64 0]) (by kernel_rfl) rfl) rfl rfl rfl (w_n rfl) ?_
      intro B2
      refine TL_store 1711 (.cells #[.slice ha1 ((heldP r).length) hc1, .int .i64 (((heldP r).length + 8 : Nat) : Int)] 121) rfl (fun _ _ hρ hm => r_store sz121 (hρ _ _ rfl) (hρ _ _ rfl) (hm.at 1711 rfl) rfl rfl rfl rfl) rfl rfl (w_n rfl) ?_
      refine TL_q (.bool true) (fun _ _ hρ _ => r_assign (hρ _ _ rfl)) rfl rfl rfl (w_n rfl) ?_
      refine TL_seq ?_
      refine T_seq (T_region ?_)
      refine TL_q (.bool true) (fun _ _ hρ _ => r_move (hρ _ _ rfl)) rfl rfl rfl (w_n rfl) ?_
      refine TL_q (.bool true) (fun _ _ hρ _ => r_move (hρ _ _ rfl)) rfl rfl rfl (w_n rfl) ?_
      refine TL_q (.func (.yield lY) #[] #[]) (fun _ _ hρ _ => r_move (hρ _ _ rfl)) rfl rfl rfl (want_y 24 rfl rfl rfl) ?_
      refine TL_q (.int .i64 ((at9 : Nat) : Int)) (fun _ _ hρ _ => r_move (hρ _ _ rfl)) rfl rfl rfl (want_y 24 rfl rfl rfl) ?_
      refine TL_q (.agg #[.slice ha1 ((heldP r).length) hc1, .int .i64 (((heldP r).length + 8 : Nat) : Int)]) (fun _ _ hρ hm => r_loadA ag121 sz121 (hρ _ _ rfl) (hm.at 1711 rfl) rfl rfl) rfl rfl rfl (want_y 24 rfl rfl rfl) ?_
      refine TL_yieldB (fun i => p' (k + 1) i) (fun i => (1700, (.blk S9 (.cells #[.slice ra2 (r.drop ((heldP r).length + 8)).length rc2, .int .i64 ((at9 + ((heldP r).length + 8) : Nat) : Int)] 150))) :: LJ (k + 1) i) pX LX rfl (fun _ _ hρ _ => r_yield (hρ _ _ rfl) ((cons2 (hρ _ _ rfl) (cons2 (hρ _ _ rfl) rfl)))) (fun W hm => hY (.blk S9 (.cells #[.slice ra2 (r.drop ((heldP r).length + 8)).length rc2, .int .i64 ((at9 + ((heldP r).length + 8) : Nat) : Int)] 150)) k (at9, heldP r) (ha1, hc1) i W (drop_get hd1x) hpi (by first | exact hm.of (lk_fin (F := [_, _, _]) (T := [(1700, (.blk S9 (.cells #[.slice ra2 (r.drop ((heldP r).length + 8)).length rc2, .int .i64 ((at9 + ((heldP r).length + 8) : Nat) : Int)] 150))), (1701, .sl ha1 hc1 (heldP r))]) (sub_cons rfl (sub_cons rfl sub_nil)) rfl (hfr k i)) | exact hm.of (lk_fin (F := [_, _, _, _]) (T := [(1700, (.blk S9 (.cells #[.slice ra2 (r.drop ((heldP r).length + 8)).length rc2, .int .i64 ((at9 + ((heldP r).length + 8) : Nat) : Int)] 150))), (1701, .sl ha1 hc1 (heldP r))]) (sub_cons rfl (sub_cons rfl sub_nil)) rfl (hfr k i)) | exact hm.of (lk_fin (F := [_, _, _, _, _]) (T := [(1700, (.blk S9 (.cells #[.slice ra2 (r.drop ((heldP r).length + 8)).length rc2, .int .i64 ((at9 + ((heldP r).length + 8) : Nat) : Int)] 150))), (1701, .sl ha1 hc1 (heldP r))]) (sub_cons rfl (sub_cons rfl sub_nil)) rfl (hfr k i)) | exact hm.of (lk_fin (F := [_, _, _, _, _, _]) (T := [(1700, (.blk S9 (.cells #[.slice ra2 (r.drop ((heldP r).length + 8)).length rc2, .int .i64 ((at9 + ((heldP r).length + 8) : Nat) : Int)] 150))), (1701, .sl ha1 hc1 (heldP r))]) (sub_cons rfl (sub_cons rfl sub_nil)) rfl (hfr k i)) | exact hm.of (lk_fin (F := [_, _, _, _, _, _, _]) (T := [(1700, (.blk S9 (.cells #[.slice ra2 (r.drop ((heldP r).length + 8)).length rc2, .int .i64 ((at9 + ((heldP r).length + 8) : Nat) : Int)] 150))), (1701, .sl ha1 hc1 (heldP r))]) (sub_cons rfl (sub_cons rfl sub_nil)) rfl (hfr k i)) | exact hm.of (lk_fin (F := [_, _, _, _, _, _, _, _]) (T := [(1700, (.blk S9 (.cells #[.slice ra2 (r.drop ((heldP r).length + 8)).length rc2, .int .i64 ((at9 + ((heldP r).length + 8) : Nat) : Int)] 150))), (1701, .sl ha1 hc1 (heldP r))]) (sub_cons rfl (sub_cons rfl sub_nil)) rfl (hfr k i)) | exact hm.of (lk_fin (F := [_, _, _, _, _, _, _, _, _]) (T := [(1700, (.blk S9 (.cells #[.slice ra2 (r.drop ((heldP r).length + 8)).length rc2, .int .i64 ((at9 + ((heldP r).length + 8) : Nat) : Int)] 150))), (1701, .sl ha1 hc1 (heldP r))]) (sub_cons rfl (sub_cons rfl sub_nil)) rfl (hfr k i)) | exact hm.of (lk_fin (F := [_, _, _, _, _, _, _, _, _, _]) (T := [(1700, (.blk S9 (.cells #[.slice ra2 (r.drop ((heldP r).length + 8)).length rc2, .int .i64 ((at9 + ((heldP r).length + 8) : Nat) : Int)] 150))), (1701, .sl ha1 hc1 (heldP r))]) (sub_cons rfl (sub_cons rfl sub_nil)) rfl (hfr k i)))) rfl rfl rfl (want_y 24 rfl rfl rfl) ?_
      intro yx3 hyx3
      refine TL_q (.bool yx3.isLeft) (fun _ _ hρ _ => r_pick_t (hρ _ _ rfl) (hρ _ _ rfl)) rfl rfl rfl (w_n rfl) ?_
      refine TL_seq ?_
      refine T_cond rfl (fun h1 => ?_) (fun h1 => ?_)
      · skip
        obtain ⟨i1, rfl⟩ := isL (by simpa using h1)
        refine T_goto ?_
        exact p_jmpT (k + 1, i1, r.drop ((heldP r).length + 8), ra2, rc2, at9 + ((heldP r).length + 8), S9) ⟨⟨hyx3, hk1, hd1, hs2, hcap2, by rw [List.length_drop]; omega⟩, by dsimp only; rw [List.length_drop]; omega⟩ (sub_cons rfl (sub_cons rfl (sub_cons rfl sub_nil))) (fun _ _ h => h)
      · skip
        obtain ⟨j, rfl⟩ := isR (by simpa using h1)
        refine T_skip' ?_
        refine p_j_n ?_
        refine p_end ?_
        refine ret_of rfl (.tuple #[]) (fun tmps w hk hm => results_none rfl _ _ _) (fun w hm => ?_)
        exact ⟨⟨_, rfl⟩, .inr ⟨j, hyx3, hm⟩⟩
    · skip
      refine T_seq (T_region ?_)
      refine TL_q (.func (.func 115) #[.pointer (some ⟨S9, 0, none⟩)] #[]) (fun _ _ hρ _ => r_move (hρ _ _ rfl)) rfl rfl rfl (w_n rfl) ?_
      refine TL_callH _ _ _ (fun _ _ hρ _ => r_call (args := []) (enters_of Try.func115 (by kernel_rfl) rfl) (hρ _ _ rfl) (by rfl) rfl) (fun w hm => next_no S9 r ra rc at9 (hfr k i) hv9 hcap9 ha9 hz w hm) rfl rfl rfl (w_n rfl) ?_
      rintro ⟨⟩ -
      refine TL_q (.tuple #[.agg #[.slice none 0 0, .int .i64 0], .bool false]) (fun _ _ hρ _ => r_move (hρ _ _ rfl)) rfl rfl rfl (w_n rfl) ?_
      refine TL_q (.agg #[.slice none 0 0, .int .i64 0]) (fun _ _ hρ _ => r_extract (hρ _ _ rfl) rfl) rfl rfl rfl (w_n rfl) ?_
      refine TL_q (.bool false) (fun _ _ hρ _ => r_extract (hρ _ _ rfl) rfl) rfl rfl rfl (w_n rfl) ?_
      refine TL_new 1712 (.cells #[.slice none 0 0, .int .i64 0] 121) (fun B => .pointer (some ⟨B, 0, none⟩)) (fun _ _ _ _ => r_alloc (v := .agg #[.slice none 0 0, .int .i64 0]) (by kernel_rfl) rfl) rfl rfl rfl (w_n rfl) ?_
      intro B4
      refine TL_store 1712 (.cells #[.slice none 0 0, .int .i64 0] 121) rfl (fun _ _ hρ hm => r_store sz121 (hρ _ _ rfl) (hρ _ _ rfl) (hm.at 1712 rfl) rfl rfl rfl rfl) rfl rfl (w_n rfl) ?_
      refine TL_q (.bool false) (fun _ _ hρ _ => r_assign (hρ _ _ rfl)) rfl rfl rfl (w_n rfl) ?_
      refine TL_seq ?_
      refine T_seq (T_region ?_)
      refine TL_q (.bool false) (fun _ _ hρ _ => r_move (hρ _ _ rfl)) rfl rfl rfl (w_n rfl) ?_
      refine TL_q (.bool false) (fun _ _ hρ _ => r_move (hρ _ _ rfl)) rfl rfl rfl (w_n rfl) ?_
      refine TL_no rfl rfl (want_n 24 rfl rfl rfl) ?_
      refine TL_no rfl rfl (want_n 24 rfl rfl rfl) ?_
      refine TL_no rfl rfl (want_n 24 rfl rfl rfl) ?_
      refine TL_no rfl rfl (want_n 24 rfl rfl rfl) ?_
      refine TL_q (.bool false) (fun _ _ hρ _ => r_pick_f (hρ _ _ rfl) (hρ _ _ rfl)) rfl rfl rfl (w_n rfl) ?_
      refine TL_seq ?_
      refine T_cond_f rfl ?_
      refine T_skip' ?_
      refine p_j_n ?_
      refine p_end ?_
      refine ret_of rfl (.tuple #[]) (fun tmps w hk hm => results_none rfl _ _ _) (fun w hm => ?_)
      have hke : k = (scanA 0 l).length := drop_none hk (hd.trans (scanA_f at9 hz))
      subst hke
      exact ⟨⟨_, rfl⟩, .inl ⟨i, hpi, by first | exact hm.of (lk_fin (F := [_]) (T := []) sub_nil rfl (hfr7 _ i)) | exact hm.of (lk_fin (F := [_, _]) (T := []) sub_nil rfl (hfr7 _ i)) | exact hm.of (lk_fin (F := [_, _, _]) (T := []) sub_nil rfl (hfr7 _ i)) | exact hm.of (lk_fin (F := [_, _, _, _]) (T := []) sub_nil rfl (hfr7 _ i)) | exact hm.of (lk_fin (F := [_, _, _, _, _]) (T := []) sub_nil rfl (hfr7 _ i)) | exact hm.of (lk_fin (F := [_, _, _, _, _, _]) (T := []) sub_nil rfl (hfr7 _ i)) | exact hm.of (lk_fin (F := [_, _, _, _, _, _, _]) (T := []) sub_nil rfl (hfr7 _ i)) | exact hm.of (lk_fin (F := [_, _, _, _, _, _, _, _]) (T := []) sub_nil rfl (hfr7 _ i)) | exact hm.of (lk_fin (F := [_, _, _, _, _, _, _, _, _]) (T := []) sub_nil rfl (hfr7 _ i)) | exact hm.of (lk_fin (F := [_, _, _, _, _, _, _, _, _, _]) (T := []) sub_nil rfl (hfr7 _ i)) | exact hm.of (lk_fin (F := [_, _, _, _, _, _, _, _, _, _, _]) (T := []) sub_nil rfl (hfr7 _ i))⟩⟩

theorem recs_c (a : Option Addr) (n cap : Nat) (w : World) : Calls Try.prog 87 #[.slice a n cap] w fun e w' => ∃ q, e = .returned (.func (.func 114) #[] #[.pointer (some ⟨q, 0, none⟩)]) ∧ Below w.heap.size w w' ∧ (Res.blk q (.cells #[.slice a n cap] 34)).ok w.heap.size w' := by
  refine calls_of_T (l := [.slice a n cap]) 4 Try.func87 rfl rfl rfl ?_
  show T _ _ _ [(0, .slice a n cap)] []
  refine T_seq (T_region ?_)
  refine TL_new 1 (.cells #[.slice a n cap] 34) (fun B => .pointer (some ⟨B, 0, none⟩)) (fun _ _ hρ _ => r_box (hρ _ _ rfl) rfl) rfl rfl rfl (w_n rfl) ?_
  intro B1
  refine TL_q (.nilFunc) (fun _ _ hρ _ => r_assign (hρ _ _ rfl)) rfl rfl rfl (w_n rfl) ?_
  refine TL_seq ?_
  refine T_seq (T_region ?_)
  refine TL_q (.func (.func 114) #[] #[.pointer (some ⟨B1, 0, none⟩)]) (fun _ _ hρ _ => r_makeFunc (by simp) (map_arr (cons2 (hρ _ _ rfl) rfl))) rfl rfl rfl (w_n rfl) ?_
  refine TL_q (.func (.func 114) #[] #[.pointer (some ⟨B1, 0, none⟩)]) (fun _ _ hρ _ => r_assign (hρ _ _ rfl)) rfl rfl rfl (w_n rfl) ?_
  refine TL_seq ?_
  refine T_ret' ?_
  refine ret_of rfl (.func (.func 114) #[] #[.pointer (some ⟨B1, 0, none⟩)]) (fun tmps w hk hm => res1 rfl (res_tmp (hk 2 _ rfl))) (fun w hm => ?_)
  exact ⟨B1, rfl, hm.ext, hm.own 1 _ rfl⟩
end Go.Proofs.Ytcidgbjgeegepaa
/- net and journal: Scan, Places, Cut, Why, Append. Printed by a program of this seat's prover. -/
namespace Go.Proofs.Ytcidgbjgeegepaa
open Go Go.RowKit
set_option maxRecDepth 10000
abbrev nic (n : Nat) : List Value := [.int .i64 (n : Int)]
abbrev rowR (n : RowG (RowG By)) : Res := .row (.slice n.a n.l.length n.cap) 34 1 n.l.length (n.l.flatMap RowG.cells)
theorem scan_bound : ∀ (n at' : Nat) (l : List By), l.length ≤ n → ∀ x ∈ scanA at' l, at' ≤ x.1 ∧ x.1 + (x.2.length + 8) ≤ at' + l.length := by
  intro n
  induction n with
  | zero =>
    intro at' l h x hx
    have e : l = [] := List.eq_nil_of_length_eq_zero (by omega)
    subst e
    cases hx
  | succ n ih =>
    intro at' l h x hx
    by_cases e : firstE l = 0
    · obtain ⟨h1, h2, h3, _⟩ := first_ok e
      have hl := heldP_len e
      rw [scanA_t at' e] at hx
      rcases List.mem_cons.1 hx with rfl | hx
      · exact ⟨Nat.le_refl _, by dsimp only; omega⟩
      · have := ih _ _ (by rw [List.length_drop]; omega) x hx
        rw [List.length_drop] at this
        omega
    · rw [scanA_f at' e] at hx; cases hx
theorem scan_many : ∀ (n at' : Nat) (l : List By), l.length ≤ n → (scanA at' l).length ≤ l.length := by
  intro n
  induction n with
  | zero =>
    intro at' l h
    have e : l = [] := List.eq_nil_of_length_eq_zero (by omega)
    subst e; exact Nat.le_refl _
  | succ n ih =>
    intro at' l h
    by_cases e : firstE l = 0
    · obtain ⟨h1, h2, h3, _⟩ := first_ok e
      rw [scanA_t at' e]
      have := ih (at' + (numP l + 8)) (l.drop (numP l + 8)) (by rw [List.length_drop]; omega)
      rw [List.length_drop] at this
      rw [List.length_cons]; omega
    · rw [scanA_f at' e]; exact Nat.zero_le _
theorem scan_cnt {l : List By} {α : Type} {f : Nat × List By → α} {m : List α} {k : Nat} (h : m = ((scanA 0 l).take k).map f) : m.length ≤ l.length := by
  have h2 := scan_many l.length 0 l (Nat.le_refl _)
  rw [h, List.length_map, List.length_take]; omega
theorem rls_len (l : List (RowG By)) : (rls l).length = l.length := List.length_map _
theorem endS_at {xs : List (Nat × List By)} {k : Nat} {x : Nat × List By} (h : xs[k]? = some x) : endS (xs.take (k + 1)) 0 = x.1 + (x.2.length + 8) := by
  rw [List.take_add_one, h]; exact endS_snoc _ _ _
theorem scan_step {ss : List (RowG By)} {xs : List (Nat × List By)} {k : Nat} {x : Nat × List By} {a : Option Addr} {c : Nat} (h : rls ss = (xs.take k).map (·.2)) (hx : xs[k]? = some x) : rls (ss ++ [⟨a, c, x.2⟩]) = (xs.take (k + 1)).map (·.2) := by
  unfold rls at h ⊢
  rw [List.map_append, h, List.take_add_one, hx, List.map_append]; rfl
theorem place_step {ss : List Nat} {xs : List (Nat × List By)} {k : Nat} {x : Nat × List By} (h : ss = (xs.take k).map (·.1)) (hx : xs[k]? = some x) : ss ++ [x.1] = (xs.take (k + 1)).map (·.1) := by
  rw [h, List.take_add_one, hx, List.map_append]; rfl
theorem scan_c (l : List By) (a : Option Addr) (cap : Nat) (w : World) (hv : SliceAt w a cap 1 byc l) (hcap : cap ≤ Go.maxLen) (hl9 : l.length ≤ 1000000) : Calls Try.prog 46 #[.slice a l.length cap] w fun e w' => ∃ n : RowG (RowG By), rls n.l = heldsV l ∧ e = .returned (.tuple #[.slice n.a n.l.length n.cap, .int .i64 (sizeV l : Int)]) ∧ Below w.heap.size w w' ∧ (rowR n).ok w.heap.size w' ∧ (Res.pool 5 1 byc n.l).ok w.heap.size w' ∧ ∀ b, (rowR n).foot b → ¬ (Res.pool 5 1 byc n.l).foot b := by
  have hvl := hv.1
  have hcp := hcap
  unfold Go.maxLen at hcp
  refine calls_of_T (l := [.slice a l.length cap]) 31 Try.func46 rfl rfl rfl ?_
  show T _ _ _ [(0, .slice a l.length cap)] []
  refine T_seq (T_region ?_)
  refine TL_q (.slice none 0 0) (fun _ _ hρ _ => r_assign (hρ _ _ rfl)) rfl rfl rfl (w_n rfl) ?_
  refine TL_q (.int .i64 0) (fun _ _ hρ _ => r_assign (hρ _ _ rfl)) rfl rfl rfl (w_n rfl) ?_
  refine TL_seq ?_
  refine T_seq (T_region ?_)
  refine TL_new 1 (.cells #[.slice none 0 0] 63) (fun B => .pointer (some ⟨B, 0, none⟩)) (fun _ _ _ _ => r_alloc (v := .slice none 0 0) (by kernel_rfl) rfl) rfl rfl rfl (w_n rfl) ?_
  intro B1
  refine TL_seq ?_
  refine T_seq (T_region ?_)
  refine TL_new 2 (.cells #[.int .i64 0] 3) (fun B => .pointer (some ⟨B, 0, none⟩)) (fun _ _ _ _ => r_alloc (v := .int .i64 0) (by kernel_rfl) rfl) rfl rfl rfl (w_n rfl) ?_
  intro B2
  refine TL_store 2 (.cells #[.int .i64 0] 3) rfl (fun _ _ hρ hm => r_store sz3 (hρ _ _ rfl) (hρ _ _ rfl) (hm.at 2 rfl) rfl rfl rfl rfl) rfl rfl (w_n rfl) ?_
  refine TL_seq ?_
  refine T_seq ?_
  refine T_mem (_ :: _ :: _) (fun _ hm => (hm.nilRow 963 34 1).pool0 964 5 1 byc) ?_
  refine T_seq (T_region ?_)
  refine TL_q (.slice a l.length cap) (fun _ _ hρ _ => r_move (hρ _ _ rfl)) rfl rfl rfl (w_n rfl) ?_
  refine TL_callN (fun (_ : Nat) => True) (fun qr3 => .func (.func 114) #[] #[.pointer (some ⟨qr3, 0, none⟩)]) (fun qr3 => [(908, .blk qr3 (.cells #[.slice a l.length cap] 34))]) (fun _ _ hρ _ => r_call (args := [.slice a l.length cap]) (enters_of Try.func87 (by kernel_rfl) rfl) (hρ _ _ rfl) ((cons2 (hρ _ _ rfl) rfl)) rfl) (fun w _ => (recs_c a l.length cap w).mono fun e w' ⟨q, he, hb, hr⟩ => ⟨q, trivial, he, hb, newOk1 908 hr⟩) rfl rfl rfl (w_n rfl) ?_
  rintro qr3 -
  refine TL_seq ?_
  refine T_block ?_
  refine T_sub [(2, .slice none 0 0), (3, .int .i64 0), (4, .pointer (some ⟨B1, 0, none⟩)), (5, .pointer (some ⟨B2, 0, none⟩)), (10, .func (.func 114) #[] #[.pointer (some ⟨qr3, 0, none⟩)])] [(908, .blk qr3 (.cells #[.slice a l.length cap] 34)), (964, .pool 5 1 byc []), (963, .row (.slice none 0 0) 34 1 0 []), (1, .blk B1 (.cells #[.slice none 0 0] 63)), (2, .blk B2 (.cells #[.int .i64 0] 3))] (sub_cons rfl (sub_cons rfl (sub_cons rfl (sub_cons rfl (sub_cons rfl sub_nil))))) (sub_cons rfl (sub_cons rfl (sub_cons rfl (sub_cons rfl (sub_cons rfl sub_nil))))) ?_
  refine T_rangeZ (ι := RowG (RowG By)) (ζ := Option Addr × Nat) (ζ' := Nat) (encs := encF) (E := EF) (xs := (scanA 0 l)) rfl rfl (enters_of Try.func114 (by kernel_rfl) rfl) (fun _ _ => rfl) rfl 801 802 rfl rfl rfl (fun (k : Nat) (n9 : RowG (RowG By)) => rls n9.l = ((scanA 0 l).take k).map (·.2)) (fun (k : Nat) (n9 : RowG (RowG By)) => [(1, .blk B1 (.cells #[.slice n9.a n9.l.length n9.cap] 63)), (2, .blk B2 (.cells #[.int .i64 ((endS ((scanA 0 l).take k) 0 : Nat) : Int)] 3)), (963, .row (.slice n9.a n9.l.length n9.cap) 34 1 n9.l.length (n9.l.flatMap RowG.cells)), (964, .pool 5 1 byc n9.l), (908, .blk qr3 (.cells #[.slice a l.length cap] 34))]) (fun _ _ => False) (fun _ => []) (fun x z Bz => [(2, .slice none 0 0), (3, .int .i64 0), (4, .pointer (some ⟨B1, 0, none⟩)), (5, .pointer (some ⟨B2, 0, none⟩)), (10, .func (.func 114) #[] #[.pointer (some ⟨qr3, 0, none⟩)]), (6, .int .i64 ((x.1 : Nat) : Int)), (7, .pointer (some ⟨Bz, 0, none⟩))]) (fun x z Bz => [(1801, .blk Bz (.cells #[.slice z.1 x.2.length z.2, .int .i64 ((x.2.length + 8 : Nat) : Int)] 121)), (1701, .sl z.1 z.2 x.2)]) (fun D l9 rec => recs_iter w _ _ qr3 l a cap hv hcap (by omega) (fun _ _ => by repeat (first | exact noIds_nil _ _ | refine noIds_cons rfl ?_)) (fun _ _ hm => hm.at 908 rfl)) (fun _ _ => ⟨rfl, rfl⟩) (fun _ => ⟨rfl, rfl⟩) ⟨none, 0, []⟩ rfl (sub_cons rfl (sub_cons rfl (sub_cons rfl (sub_cons rfl (sub_cons rfl sub_nil))))) ?_ ?_ ?_ (fun _ _ _ h => h.elim)
  · intro D1 l1 rec1 R1 k x z n9 hx1 hp1
    refine T_sub [(2, .slice none 0 0), (3, .int .i64 0), (4, .pointer (some ⟨B1, 0, none⟩)), (5, .pointer (some ⟨B2, 0, none⟩)), (10, .func (.func 114) #[] #[.pointer (some ⟨qr3, 0, none⟩)]), (11, .int .i64 ((x.1 : Nat) : Int)), (12, .agg #[.slice z.1 x.2.length z.2, .int .i64 ((x.2.length + 8 : Nat) : Int)])] [(801, .blk D1 (.deferred (some []))), (802, .blk l1 (.loop rec1)), (1700, R1), (1701, .sl z.1 z.2 x.2), (1, .blk B1 (.cells #[.slice n9.a n9.l.length n9.cap] 63)), (2, .blk B2 (.cells #[.int .i64 ((endS ((scanA 0 l).take k) 0 : Nat) : Int)] 3)), (963, .row (.slice n9.a n9.l.length n9.cap) 34 1 n9.l.length (n9.l.flatMap RowG.cells)), (964, .pool 5 1 byc n9.l), (908, .blk qr3 (.cells #[.slice a l.length cap] 34))] (sub_cons rfl (sub_cons rfl (sub_cons rfl (sub_cons rfl (sub_cons rfl (sub_cons rfl (sub_cons rfl sub_nil))))))) (sub_cons rfl (sub_cons rfl (sub_cons rfl (sub_cons rfl (sub_cons rfl (sub_cons rfl (sub_cons rfl (sub_cons rfl (sub_cons rfl sub_nil))))))))) ?_
    refine T_seq (T_region ?_)
    refine TL_q (.int .i64 ((x.1 : Nat) : Int)) (fun _ _ hρ _ => r_assign (hρ _ _ rfl)) rfl rfl rfl (w_n rfl) ?_
    refine TL_seq ?_
    refine T_region ?_
    refine TL_new 1801 (.cells #[.slice none 0 0, .int .i64 0] 121) (fun B => .pointer (some ⟨B, 0, none⟩)) (fun _ _ _ _ => r_alloc (v := .agg #[.slice none 0 0, .int .i64 0]) (by kernel_rfl) rfl) rfl rfl rfl (w_n rfl) ?_
    intro B4
    refine TL_store 1801 (.cells #[.slice z.1 x.2.length z.2, .int .i64 ((x.2.length + 8 : Nat) : Int)] 121) rfl (fun _ _ hρ hm => r_store sz121 (hρ _ _ rfl) (hρ _ _ rfl) (hm.at 1801 rfl) rfl rfl rfl rfl) rfl rfl (w_n rfl) ?_
    refine TL_nil ?_
    exact p_at B4 trivial (sub_cons rfl (sub_cons rfl (sub_cons rfl (sub_cons rfl (sub_cons rfl (sub_cons rfl (sub_cons rfl sub_nil))))))) (sub_cons rfl (sub_cons rfl (sub_cons rfl (sub_cons rfl (sub_cons rfl (sub_cons rfl (sub_cons rfl (sub_cons rfl (sub_cons rfl (sub_cons rfl sub_nil))))))))))
  · intro D1 l1 rec1 R1 k x z n9 Bz hx1 hp1
    show T _ _ _ [(2, .slice none 0 0), (3, .int .i64 0), (4, .pointer (some ⟨B1, 0, none⟩)), (5, .pointer (some ⟨B2, 0, none⟩)), (10, .func (.func 114) #[] #[.pointer (some ⟨qr3, 0, none⟩)]), (6, .int .i64 ((x.1 : Nat) : Int)), (7, .pointer (some ⟨Bz, 0, none⟩))] [(801, .blk D1 (.deferred (some []))), (802, .blk l1 (.loop { rec1 with state := .busy })), (1700, R1), (1801, .blk Bz (.cells #[.slice z.1 x.2.length z.2, .int .i64 ((x.2.length + 8 : Nat) : Int)] 121)), (1701, .sl z.1 z.2 x.2), (1, .blk B1 (.cells #[.slice n9.a n9.l.length n9.cap] 63)), (2, .blk B2 (.cells #[.int .i64 ((endS ((scanA 0 l).take k) 0 : Nat) : Int)] 3)), (963, .row (.slice n9.a n9.l.length n9.cap) 34 1 n9.l.length (n9.l.flatMap RowG.cells)), (964, .pool 5 1 byc n9.l), (908, .blk qr3 (.cells #[.slice a l.length cap] 34))]
    have hbd := scan_bound l.length 0 l (Nat.le_refl _) x (List.mem_of_getElem? hx1)
    have hcn := scan_cnt hp1
    rw [rls_len] at hcn
    refine T_block ?_
    refine T_seq (T_region ?_)
    refine TL_q (.pointer (some ⟨Bz, 0, none⟩)) (fun _ _ hρ _ => r_fieldAddr fl121_0 sz34 (hρ _ _ rfl)) rfl rfl rfl (w_n rfl) ?_
    refine TL_q (.slice z.1 x.2.length z.2) (fun _ _ hρ hm => r_load ag34 (hρ _ _ rfl) (hm.at 1801 rfl) rfl) rfl rfl rfl (w_n rfl) ?_
    refine TL_q (.int .i64 ((x.2.length : Nat) : Int)) (fun _ _ hρ _ => r_len sl34 (hρ _ _ rfl)) rfl rfl rfl (w_n rfl) ?_
    refine TL_op (ι := Nat) (fun B => .slice (some ⟨B, 0, none⟩) x.2.length x.2.length) _ (fun _ _ hρ hm => o_make (n := x.2.length) (cap := x.2.length) (z := .int .u8 0) (f := byc) (u := 0#8) 1802 rfl (hρ _ _ rfl) (hρ _ _ rfl) sl34 by5 sz5 rfl (by kernel_rfl) rfl byc_len (by omega) (by omega) (by omega) hm) rfl rfl rfl (w_n rfl) ?_
    intro B5
    refine TL_q (.slice (some ⟨B5, 0, none⟩) x.2.length x.2.length) (fun _ _ hρ _ => r_assign (hρ _ _ rfl)) rfl rfl rfl (w_n rfl) ?_
    refine TL_seq ?_
    refine T_seq (T_region ?_)
    refine TL_q (.slice (some ⟨B5, 0, none⟩) x.2.length x.2.length) (fun _ _ hρ _ => r_move (hρ _ _ rfl)) rfl rfl rfl (w_n rfl) ?_
    refine TL_q (.pointer (some ⟨Bz, 0, none⟩)) (fun _ _ hρ _ => r_fieldAddr fl121_0 sz34 (hρ _ _ rfl)) rfl rfl rfl (w_n rfl) ?_
    refine TL_q (.slice z.1 x.2.length z.2) (fun _ _ hρ hm => r_load ag34 (hρ _ _ rfl) (hm.at 1801 rfl) rfl) rfl rfl rfl (w_n rfl) ?_
    refine TL_op1 (.int .i64 ((x.2.length : Nat) : Int)) _ (fun _ _ hρ hm => o_copy (s := 1) (news := (x.2.flatMap byc)) 1802 rfl (hρ _ _ rfl) (hρ _ _ rfl) rfl sl34 sz5 (src_of byc_len (hm.slAt 1701 rfl)) byc_oneL hm) rfl rfl rfl (w_n rfl) ?_
    refine TL_seq ?_
    refine T_draw (V := [(0, .slice n9.a n9.l.length n9.cap), (1, .slice (some ⟨B5, 0, none⟩) x.2.length x.2.length), (4, .int .i64 ((x.1 : Nat) : Int)), (5, .pointer (some ⟨Bz, 1, none⟩)), (6, .int .i64 ((x.2.length + 8 : Nat) : Int)), (7, .int .i64 ((x.1 + (x.2.length + 8) : Nat) : Int))]) [0, 0, 2, 7, 0, 0, 32, 112, 15, 511] [[(4, none)], [(8, none)], [(22, some 1)], [(21, some 0), (23, some 2)], [(6, none)], [(7, none)], [(26, some 5)], [(25, some 4), (27, some 6)], [(4, none), (24, some 3)], [(5, none), (28, some 7)]] 780 mixed (by kernel_rfl) ?_
    refine G_step [0, 1, 4, 5, 6, 7] 2 [] (by kernel_rfl) (allM (all_cons (q_run (.slice n9.a n9.l.length n9.cap) rfl rfl (wv_n rfl) rfl (fun _ _ hρ hm => r_load ag63 (hρ _ _ rfl) (hm.at 1 rfl) rfl)) (all_cons (q_run (.slice (some ⟨B5, 0, none⟩) x.2.length x.2.length) rfl rfl (wv_n rfl) rfl (fun _ _ hρ _ => r_move (hρ _ _ rfl))) (all_cons (q_run (.int .i64 ((x.1 : Nat) : Int)) rfl rfl (wv_n rfl) rfl (fun _ _ hρ _ => r_move (hρ _ _ rfl))) (all_cons (q_run (.pointer (some ⟨Bz, 1, none⟩)) rfl rfl (wv_n rfl) rfl (fun _ _ hρ _ => r_fieldAddr fl121_1 sz3 (hρ _ _ rfl))) (all_cons (q_run (.int .i64 ((x.2.length + 8 : Nat) : Int)) rfl rfl (wv_n rfl) rfl (fun _ _ hρ hm => r_load ag3 (hρ _ _ rfl) (hm.at 1801 rfl) rfl)) (all_cons (q_run (.int .i64 ((x.1 + (x.2.length + 8) : Nat) : Int)) rfl rfl (wv_n rfl) rfl (fun _ _ hρ _ => r_as (r_add (hρ _ _ rfl) (hρ _ _ rfl)) (int_as ((wrap64 (by omega) (by omega)).trans (by omega))))) all_nil))))))) (allM (all_cons ?_ all_nil))
    refine LOb_new 1803 (.cells #[.slice (some ⟨B5, 0, none⟩) x.2.length x.2.length] 34) (fun B => .slice (some ⟨B, 0, none⟩) 1 1) (fun B => []) rfl (wv_n rfl) rfl rfl (fun _ _ hρ _ => r_buildSlice (vs := [(0, .slice (some ⟨B5, 0, none⟩) x.2.length x.2.length)]) (by kernel_rfl) (cons2 (pair2 (hρ _ _ rfl)) rfl)) (fun B => by kernel_rfl) ?_
    intro B7
    refine G_step [0, 4, 5, 6, 7] 3 [] (by kernel_rfl) (allM (all_cons (q_run (.slice n9.a n9.l.length n9.cap) rfl rfl (wv_n rfl) rfl (fun _ _ hρ hm => r_load ag63 (hρ _ _ rfl) (hm.at 1 rfl) rfl)) (all_cons (q_run (.int .i64 ((x.1 : Nat) : Int)) rfl rfl (wv_n rfl) rfl (fun _ _ hρ _ => r_move (hρ _ _ rfl))) (all_cons (q_run (.pointer (some ⟨Bz, 1, none⟩)) rfl rfl (wv_n rfl) rfl (fun _ _ hρ _ => r_fieldAddr fl121_1 sz3 (hρ _ _ rfl))) (all_cons (q_run (.int .i64 ((x.2.length + 8 : Nat) : Int)) rfl rfl (wv_n rfl) rfl (fun _ _ hρ hm => r_load ag3 (hρ _ _ rfl) (hm.at 1801 rfl) rfl)) (all_cons (q_run (.int .i64 ((x.1 + (x.2.length + 8) : Nat) : Int)) rfl rfl (wv_n rfl) rfl (fun _ _ hρ _ => r_as (r_add (hρ _ _ rfl) (hρ _ _ rfl)) (int_as ((wrap64 (by omega) (by omega)).trans (by omega))))) all_nil)))))) (allM (all_cons ?_ all_nil))
    refine LOb_append (n := n9.l.length) (m := 1) (xs := (n9.l.flatMap RowG.cells)) (news := [.slice (some ⟨B5, 0, none⟩) x.2.length x.2.length]) (z := .slice none 0 0) 963 (fun a cap => []) rfl (wv_n rfl) rfl rfl rfl sl63 sz34 by34 (by kernel_rfl) rfl rfl (.inl rfl) (fun _ hm => src_blk (news := [.slice (some ⟨B5, 0, none⟩) x.2.length x.2.length]) (hm.at 1803 rfl) rfl) (by simp [Value.oneCell']) (by omega) (by omega) (fun a cap => by kernel_rfl) ?_
    intro a8 cap8
    refine G_step [4, 5, 6, 7] 8 [] (by kernel_rfl) (allM (all_cons (q_run (.int .i64 ((x.1 : Nat) : Int)) rfl rfl (wv_n rfl) rfl (fun _ _ hρ _ => r_move (hρ _ _ rfl))) (all_cons (q_run (.pointer (some ⟨Bz, 1, none⟩)) rfl rfl (wv_n rfl) rfl (fun _ _ hρ _ => r_fieldAddr fl121_1 sz3 (hρ _ _ rfl))) (all_cons (q_run (.int .i64 ((x.2.length + 8 : Nat) : Int)) rfl rfl (wv_n rfl) rfl (fun _ _ hρ hm => r_load ag3 (hρ _ _ rfl) (hm.at 1801 rfl) rfl)) (all_cons (q_run (.int .i64 ((x.1 + (x.2.length + 8) : Nat) : Int)) rfl rfl (wv_n rfl) rfl (fun _ _ hρ _ => r_as (r_add (hρ _ _ rfl) (hρ _ _ rfl)) (int_as ((wrap64 (by omega) (by omega)).trans (by omega))))) all_nil))))) (allM (all_cons ?_ all_nil))
    refine LOb_store 1 (.cells #[.slice a8 (n9.l.length + 1) cap8] 63) [] rfl (wv_n rfl) rfl rfl rfl (fun _ _ hρ hm => r_store sz63 (hρ _ _ rfl) (hρ _ _ rfl) (hm.at 1 rfl) rfl rfl rfl rfl) (by kernel_rfl) ?_
    refine G_step [4, 5, 6, 7] 9 [] (by kernel_rfl) (allM (all_cons (q_run (.int .i64 ((x.1 : Nat) : Int)) rfl rfl (wv_n rfl) rfl (fun _ _ hρ _ => r_move (hρ _ _ rfl))) (all_cons (q_run (.pointer (some ⟨Bz, 1, none⟩)) rfl rfl (wv_n rfl) rfl (fun _ _ hρ _ => r_fieldAddr fl121_1 sz3 (hρ _ _ rfl))) (all_cons (q_run (.int .i64 ((x.2.length + 8 : Nat) : Int)) rfl rfl (wv_n rfl) rfl (fun _ _ hρ hm => r_load ag3 (hρ _ _ rfl) (hm.at 1801 rfl) rfl)) (all_cons (q_run (.int .i64 ((x.1 + (x.2.length + 8) : Nat) : Int)) rfl rfl (wv_n rfl) rfl (fun _ _ hρ _ => r_as (r_add (hρ _ _ rfl) (hρ _ _ rfl)) (int_as ((wrap64 (by omega) (by omega)).trans (by omega))))) all_nil))))) (allM (all_cons ?_ all_nil))
    refine LOb_store 2 (.cells #[.int .i64 ((x.1 + (x.2.length + 8) : Nat) : Int)] 3) [] rfl (wv_n rfl) rfl rfl rfl (fun _ _ hρ hm => r_store sz3 (hρ _ _ rfl) (hρ _ _ rfl) (hm.at 2 rfl) rfl rfl rfl rfl) (by kernel_rfl) ?_
    refine G_lastQ [] [(2, .slice none 0 0), (3, .int .i64 0)] (by kernel_rfl) (allM all_nil) (end_old rfl rfl (end_old rfl rfl end_nil)) ?_
    refine p_blk_n ?_
    have hn9 : (n9.l.length + 1) = (n9.l ++ [(⟨(some ⟨B5, 0, none⟩), x.2.length, x.2⟩ : RowG By)]).length := by simp
    have hx9 : ((n9.l.flatMap RowG.cells) ++ [.slice (some ⟨B5, 0, none⟩) x.2.length x.2.length]) = (n9.l ++ [(⟨(some ⟨B5, 0, none⟩), x.2.length, x.2⟩ : RowG By)]).flatMap RowG.cells := by simp [RowG.cells]
    rw [hx9, hn9]
    refine p_mem (_ :: _ :: _) (fun _ hm => hm.poolPush 964 1802 rfl rfl rfl rfl) ?_
    rw [← endS_at hx1]
    exact p_round_n ⟨a8, cap8, n9.l ++ [(⟨(some ⟨B5, 0, none⟩), x.2.length, x.2⟩ : RowG By)]⟩ (scan_step hp1 hx1) (sub_cons rfl (sub_cons rfl (sub_cons rfl (sub_cons rfl (sub_cons rfl (sub_cons rfl (sub_cons rfl (sub_cons rfl sub_nil))))))))
  · intro D1 n9 hp1
    refine p_sub [(2, .slice none 0 0), (3, .int .i64 0), (4, .pointer (some ⟨B1, 0, none⟩)), (5, .pointer (some ⟨B2, 0, none⟩)), (10, .func (.func 114) #[] #[.pointer (some ⟨qr3, 0, none⟩)])] [(801, .blk D1 (.deferred (some []))), (908, .blk qr3 (.cells #[.slice a l.length cap] 34)), (1, .blk B1 (.cells #[.slice n9.a n9.l.length n9.cap] 63)), (2, .blk B2 (.cells #[.int .i64 ((endS ((scanA 0 l).take (scanA 0 l).length) 0 : Nat) : Int)] 3)), (963, .row (.slice n9.a n9.l.length n9.cap) 34 1 n9.l.length (n9.l.flatMap RowG.cells)), (964, .pool 5 1 byc n9.l)] (sub_cons rfl (sub_cons rfl (sub_cons rfl (sub_cons rfl (sub_cons rfl sub_nil))))) (sub_cons rfl (sub_cons rfl (sub_cons rfl (sub_cons rfl (sub_cons rfl (sub_cons rfl sub_nil)))))) ?_
    refine p_blk_n ?_
    refine p_seq ?_
    refine T_seq (T_draw (V := [(0, .slice n9.a n9.l.length n9.cap), (1, .int .i64 ((endS ((scanA 0 l).take (scanA 0 l).length) 0 : Nat) : Int)), (2, .slice n9.a n9.l.length n9.cap), (3, .int .i64 ((endS ((scanA 0 l).take (scanA 0 l).length) 0 : Nat) : Int))]) [0, 0, 1, 7] [[(4, none)], [(5, none)], [(29, some 0)], [(30, some 1)]] 0 mixed (by kernel_rfl) ?_)
    refine G_last [0, 1, 2, 3] [(2, .slice n9.a n9.l.length n9.cap), (3, .int .i64 ((endS ((scanA 0 l).take (scanA 0 l).length) 0 : Nat) : Int))] (by kernel_rfl) (allM (all_cons (q_run (.slice n9.a n9.l.length n9.cap) rfl rfl (wv_n rfl) rfl (fun _ _ hρ hm => r_load ag63 (hρ _ _ rfl) (hm.at 1 rfl) rfl)) (all_cons (q_run (.int .i64 ((endS ((scanA 0 l).take (scanA 0 l).length) 0 : Nat) : Int)) rfl rfl (wv_n rfl) rfl (fun _ _ hρ hm => r_load ag3 (hρ _ _ rfl) (hm.at 2 rfl) rfl)) (all_cons (q_run (.slice n9.a n9.l.length n9.cap) rfl rfl (wv_n rfl) rfl (fun _ _ hρ _ => r_assign (hρ _ _ rfl))) (all_cons (q_run (.int .i64 ((endS ((scanA 0 l).take (scanA 0 l).length) 0 : Nat) : Int)) rfl rfl (wv_n rfl) rfl (fun _ _ hρ _ => r_assign (hρ _ _ rfl))) all_nil))))) (end_new 2 rfl rfl (end_new 3 rfl rfl end_nil)) ?_
    refine T_ret' ?_
    refine ret_of1 801 D1 rfl rfl (.tuple #[.slice n9.a n9.l.length n9.cap, .int .i64 ((endS ((scanA 0 l).take (scanA 0 l).length) 0 : Nat) : Int)]) (fun tmps w hk hm => res2 rfl (res_tmp (hk 2 _ rfl)) (res_tmp (hk 3 _ rfl))) (fun w hm => ?_)
    rw [List.take_length] at hp1
    exact ⟨n9, hp1, by rw [List.take_length], hm.ext, hm.own 963 _ rfl, hm.own 964 _ rfl, hm.sep 963 964 _ _ rfl rfl (by decide)⟩

theorem why_c (l : List By) (a : Option Addr) (cap : Nat) (w : World) (hv : SliceAt w a cap 1 byc l) (hcap : cap ≤ Go.maxLen) (hl9 : l.length ≤ 1000000) : Calls Try.prog 47 #[.slice a l.length cap] w fun e w' => e = .returned (.tuple #[.int .i64 (sizeV l : Int), .int .i64 (whyE l)]) ∧ Below w.heap.size w w' := by
  have hvl := hv.1
  have hcp := hcap
  unfold Go.maxLen at hcp
  have hsz := size_le l
  refine calls_of_T (l := [.slice a l.length cap]) 29 Try.func47 rfl rfl rfl ?_
  show T _ _ _ [(0, .slice a l.length cap)] []
  refine T_seq (T_region ?_)
  refine TL_q (.int .i64 0) (fun _ _ hρ _ => r_assign (hρ _ _ rfl)) rfl rfl rfl (w_n rfl) ?_
  refine TL_q (.int .i64 0) (fun _ _ hρ _ => r_assign (hρ _ _ rfl)) rfl rfl rfl (w_n rfl) ?_
  refine TL_seq ?_
  refine T_seq (T_region ?_)
  refine TL_q (.slice a l.length cap) (fun _ _ hρ _ => r_move (hρ _ _ rfl)) rfl rfl rfl (w_n rfl) ?_
  refine TL_callN (fun ((na1, nc1, nl1) : Option Addr × Nat × List (RowG By)) => rls nl1 = heldsV l) (fun (na1, nc1, nl1) => .tuple #[.slice na1 nl1.length nc1, .int .i64 ((sizeV l : Nat) : Int)]) (fun (na1, nc1, nl1) => [(1, .row (.slice na1 nl1.length nc1) 34 1 nl1.length (nl1.flatMap RowG.cells)), (2, .pool 5 1 byc nl1)]) (fun _ _ hρ _ => r_call (args := [.slice a l.length cap]) (enters_of Try.func46 (by kernel_rfl) rfl) (hρ _ _ rfl) ((cons2 (hρ _ _ rfl) rfl)) rfl) (fun w hm => (scan_c l a cap w (hv.keep hm.ext) hcap (by omega)).mono fun e w' ⟨n, hf, he, hb, r1, r2, hs⟩ => ⟨(n.a, n.cap, n.l), hf, he, hb, newOk2 1 2 r1 r2 hs⟩) rfl rfl rfl (w_n rfl) ?_
  rintro ⟨na1, nc1, nl1⟩ hsc1
  refine TL_q (.tuple #[.slice na1 nl1.length nc1, .int .i64 ((sizeV l : Nat) : Int)]) (fun _ _ hρ _ => r_move (hρ _ _ rfl)) rfl rfl rfl (w_n rfl) ?_
  refine TL_q (.slice na1 nl1.length nc1) (fun _ _ hρ _ => r_extract (hρ _ _ rfl) rfl) rfl rfl rfl (w_n rfl) ?_
  refine TL_q (.int .i64 ((sizeV l : Nat) : Int)) (fun _ _ hρ _ => r_extract (hρ _ _ rfl) rfl) rfl rfl rfl (w_n rfl) ?_
  refine TL_q (.slice na1 nl1.length nc1) (fun _ _ hρ _ => r_assign (hρ _ _ rfl)) rfl rfl rfl (w_n rfl) ?_
  refine TL_q (.int .i64 ((sizeV l : Nat) : Int)) (fun _ _ hρ _ => r_assign (hρ _ _ rfl)) rfl rfl rfl (w_n rfl) ?_
  refine TL_seq ?_
  refine T_seq ?_
  by_cases hse : ((sizeV l : Nat) : Int) = ((l.length : Nat) : Int)
  · skip
    refine T_seq (T_region ?_)
    refine TL_q (.int .i64 ((sizeV l : Nat) : Int)) (fun _ _ hρ _ => r_move (hρ _ _ rfl)) rfl rfl rfl (w_n rfl) ?_
    refine TL_q (.slice a l.length cap) (fun _ _ hρ _ => r_move (hρ _ _ rfl)) rfl rfl rfl (w_n rfl) ?_
    refine TL_q (.int .i64 ((l.length : Nat) : Int)) (fun _ _ hρ _ => r_len sl34 (hρ _ _ rfl)) rfl rfl rfl (w_n rfl) ?_
    refine TL_q (.bool true) (fun _ _ hρ _ => r_as (r_eql (hρ _ _ rfl) (hρ _ _ rfl)) (bool_as (decide_eq_true hse))) rfl rfl rfl (w_n rfl) ?_
    refine TL_seq ?_
    refine T_cond_t rfl ?_
    refine T_seq (T_region ?_)
    refine TL_q (.int .i64 ((sizeV l : Nat) : Int)) (fun _ _ hρ _ => r_move (hρ _ _ rfl)) rfl rfl rfl (w_n rfl) ?_
    refine TL_q (.int .i64 ((sizeV l : Nat) : Int)) (fun _ _ hρ _ => r_assign (hρ _ _ rfl)) rfl rfl rfl (w_n rfl) ?_
    refine TL_q (.int .i64 0) (fun _ _ hρ _ => r_assign (hρ _ _ rfl)) rfl rfl rfl (w_n rfl) ?_
    refine TL_seq ?_
    refine T_ret' ?_
    refine p_then_r ?_
    refine ret_of rfl (.tuple #[.int .i64 ((sizeV l : Nat) : Int), .int .i64 0]) (fun tmps w hk hm => res2 rfl (res_tmp (hk 2 _ rfl)) (res_tmp (hk 3 _ rfl))) (fun w hm => ?_)
    exact ⟨by rw [show whyE l = 0 from if_pos (by omega)], hm.ext⟩
  · skip
    refine T_seq (T_region ?_)
    refine TL_q (.int .i64 ((sizeV l : Nat) : Int)) (fun _ _ hρ _ => r_move (hρ _ _ rfl)) rfl rfl rfl (w_n rfl) ?_
    refine TL_q (.slice a l.length cap) (fun _ _ hρ _ => r_move (hρ _ _ rfl)) rfl rfl rfl (w_n rfl) ?_
    refine TL_q (.int .i64 ((l.length : Nat) : Int)) (fun _ _ hρ _ => r_len sl34 (hρ _ _ rfl)) rfl rfl rfl (w_n rfl) ?_
    refine TL_q (.bool false) (fun _ _ hρ _ => r_as (r_eql (hρ _ _ rfl) (hρ _ _ rfl)) (bool_as (decide_eq_false hse))) rfl rfl rfl (w_n rfl) ?_
    refine TL_seq ?_
    refine T_cond_f rfl ?_
    refine T_skip' ?_
    refine p_seq ?_
    refine T_seq (T_region ?_)
    refine TL_q (.slice a l.length cap) (fun _ _ hρ _ => r_move (hρ _ _ rfl)) rfl rfl rfl (w_n rfl) ?_
    refine TL_q (.int .i64 ((sizeV l : Nat) : Int)) (fun _ _ hρ _ => r_move (hρ _ _ rfl)) rfl rfl rfl (w_n rfl) ?_
    obtain ⟨l2, hl2, hn2⟩ : ∃ lz, lz = (l.drop (sizeV l)).take (l.length - (sizeV l)) ∧ lz.length = l.length - (sizeV l) := ⟨_, rfl, by rw [List.length_take, List.length_drop]; omega⟩
    obtain ⟨a2, ha2⟩ : ∃ az : Option Addr, az = (if cap = sizeV l then a else Option.map (·.add ((sizeV l) * 1)) a) := ⟨_, rfl⟩
    have hs2 := SliceAt.part hv (lo := sizeV l) (hi := l.length) (m := cap) (by omega) (by omega) (by omega) (by omega)
    rw [← hl2, ← ha2] at hs2
    refine TL_q (.slice a2 l2.length (cap - (sizeV l))) (fun ρ _ hρ _ => r_as (r_sliceO sl34 sz5 (hρ _ _ rfl) (bd_none ρ _) (bd_none ρ _) (bd_some (n := sizeV l) (hρ _ _ rfl)) (by simp) (by omega) (by omega) (by omega)) (by rw [hn2, ha2])) rfl rfl rfl (w_n rfl) ?_
    have er2 : l2 = l.drop (sizeV l) := by rw [hl2]; exact List.take_of_length_le (by rw [List.length_drop]; exact Nat.le_refl _)
    refine TL_callN (fun (_ : Option Addr × Nat) => True) (fun (ar3, cr3) => .tuple #[.slice ar3 (([] : List By).length) cr3, .int .i64 0, .int .i64 (firstE l2)]) (fun (ar3, cr3) => [(3, .row (.slice ar3 (([] : List By).length) cr3) 5 1 (([] : List By).length) (([] : List By).flatMap byc))]) (fun _ _ hρ _ => r_call (args := [.slice a2 l2.length (cap - (sizeV l))]) (enters_of Try.func52 (by kernel_rfl) rfl) (hρ _ _ rfl) ((cons2 (hρ _ _ rfl) rfl)) rfl) (fun w hm => (jfirst_p l2 a2 (cap - (sizeV l)) w (hs2.keep hm.ext) (by omega) (by rw [er2]; exact size_rest l)).mono fun e w' ⟨a', cap', he, hb, hr⟩ => ⟨(a', cap'), trivial, he, hb, newOk1 3 hr⟩) rfl rfl rfl (w_n rfl) ?_
    rintro ⟨ar3, cr3⟩ -
    refine TL_q (.tuple #[.slice ar3 (([] : List By).length) cr3, .int .i64 0, .int .i64 (firstE l2)]) (fun _ _ hρ _ => r_move (hρ _ _ rfl)) rfl rfl rfl (w_n rfl) ?_
    refine TL_q (.slice ar3 (([] : List By).length) cr3) (fun _ _ hρ _ => r_extract (hρ _ _ rfl) rfl) rfl rfl rfl (w_n rfl) ?_
    refine TL_q (.int .i64 0) (fun _ _ hρ _ => r_extract (hρ _ _ rfl) rfl) rfl rfl rfl (w_n rfl) ?_
    refine TL_q (.int .i64 (firstE l2)) (fun _ _ hρ _ => r_extract (hρ _ _ rfl) rfl) rfl rfl rfl (w_n rfl) ?_
    refine TL_q (.slice ar3 (([] : List By).length) cr3) (fun _ _ hρ _ => r_assign (hρ _ _ rfl)) rfl rfl rfl (w_n rfl) ?_
    refine TL_q (.int .i64 0) (fun _ _ hρ _ => r_assign (hρ _ _ rfl)) rfl rfl rfl (w_n rfl) ?_
    refine TL_q (.int .i64 (firstE l2)) (fun _ _ hρ _ => r_assign (hρ _ _ rfl)) rfl rfl rfl (w_n rfl) ?_
    refine TL_seq ?_
    refine T_seq (T_region ?_)
    refine TL_q (.int .i64 ((sizeV l : Nat) : Int)) (fun _ _ hρ _ => r_move (hρ _ _ rfl)) rfl rfl rfl (w_n rfl) ?_
    refine TL_q (.int .i64 (firstE l2)) (fun _ _ hρ _ => r_move (hρ _ _ rfl)) rfl rfl rfl (w_n rfl) ?_
    refine TL_q (.int .i64 ((sizeV l : Nat) : Int)) (fun _ _ hρ _ => r_assign (hρ _ _ rfl)) rfl rfl rfl (w_n rfl) ?_
    refine TL_q (.int .i64 (firstE l2)) (fun _ _ hρ _ => r_assign (hρ _ _ rfl)) rfl rfl rfl (w_n rfl) ?_
    refine TL_seq ?_
    refine T_ret' ?_
    refine ret_of rfl (.tuple #[.int .i64 ((sizeV l : Nat) : Int), .int .i64 (firstE l2)]) (fun tmps w hk hm => res2 rfl (res_tmp (hk 2 _ rfl)) (res_tmp (hk 3 _ rfl))) (fun w hm => ?_)
    exact ⟨by rw [show whyE l = firstE l2 by rw [er2]; exact if_neg (by omega)], hm.ext⟩

theorem app1_ok (T0 T1 : Nat) (l : List By) (a : Option Addr) (cap : Nat) (w : World) (hv : SliceAt w a cap 1 byc l) (hcap : cap ≤ Go.maxLen) (rs : List (RowG By)) (b : Option Addr) (capb : Nat) (hu : SliceAt w b capb 1 RowG.cells rs) (hcapb : capb ≤ Go.maxLen) (hx : RowsIn w rs) (hl9 : l.length ≤ 400000) (hn : rs.length ≤ 8) (h0 : hp w T0 = some (.cells #[.slice a l.length cap] 34)) (h1 : hp w T1 = some (.cells #[.slice b rs.length capb] 63)) (hwy : whyE l = 0) (h : ∀ r ∈ rs, r.l.length ≤ 65536) : Calls Try.prog 83 #[.pointer (some ⟨T0, 0, none⟩), .pointer (some ⟨T1, 0, none⟩)] w fun e w' => ∃ a' cap', e = .returned (.slice a' (l ++ joinP (rls rs)).length cap') ∧ Below w.heap.size w w' ∧ w'.ownsRow w.heap.size 5 1 (.slice a' (l ++ joinP (rls rs)).length cap') (l ++ joinP (rls rs)).length ((l ++ joinP (rls rs)).flatMap byc) := by
  have hvl := hv.1
  have hcp := hcap
  unfold Go.maxLen at hcp
  have hbd := join_bound (k := rs.length) (rs := rs) (by rw [List.take_length]; exact h)
  rw [List.take_length, show (rls rs).take rs.length = rls rs by rw [← List.map_take, List.take_length]] at hbd
  refine calls_of_T (l := [.pointer (some ⟨T0, 0, none⟩), .pointer (some ⟨T1, 0, none⟩)]) 18 Try.func83 rfl rfl rfl ?_
  show T _ _ _ [(0, .pointer (some ⟨T0, 0, none⟩)), (1, .pointer (some ⟨T1, 0, none⟩))] []
  refine T_seq (T_region ?_)
  refine TL_q (.slice none 0 0) (fun _ _ hρ _ => r_assign (hρ _ _ rfl)) rfl rfl rfl (w_n rfl) ?_
  refine TL_seq ?_
  refine T_seq (T_region ?_)
  refine TL_q (.slice a l.length cap) (fun _ _ hρ hm => r_load ag34 (hρ _ _ rfl) (hm.old h0) rfl) rfl rfl rfl (w_n rfl) ?_
  refine TL_call (.tuple #[.int .i64 ((sizeV l : Nat) : Int), .int .i64 (whyE l)]) (fun _ _ hρ _ => r_call (args := [.slice a l.length cap]) (enters_of Try.func47 (by kernel_rfl) rfl) (hρ _ _ rfl) ((cons2 (hρ _ _ rfl) rfl)) rfl) (fun w hm => why_c l a cap w (hv.keep hm.ext) hcap (by omega)) rfl rfl rfl (w_n rfl) ?_
  refine TL_q (.tuple #[.int .i64 ((sizeV l : Nat) : Int), .int .i64 (whyE l)]) (fun _ _ hρ _ => r_move (hρ _ _ rfl)) rfl rfl rfl (w_n rfl) ?_
  refine TL_q (.int .i64 ((sizeV l : Nat) : Int)) (fun _ _ hρ _ => r_extract (hρ _ _ rfl) rfl) rfl rfl rfl (w_n rfl) ?_
  refine TL_q (.int .i64 (whyE l)) (fun _ _ hρ _ => r_extract (hρ _ _ rfl) rfl) rfl rfl rfl (w_n rfl) ?_
  refine TL_q (.int .i64 ((sizeV l : Nat) : Int)) (fun _ _ hρ _ => r_assign (hρ _ _ rfl)) rfl rfl rfl (w_n rfl) ?_
  refine TL_q (.int .i64 (whyE l)) (fun _ _ hρ _ => r_assign (hρ _ _ rfl)) rfl rfl rfl (w_n rfl) ?_
  refine TL_seq ?_
  refine T_seq (T_region ?_)
  refine TL_q (.int .i64 (whyE l)) (fun _ _ hρ _ => r_move (hρ _ _ rfl)) rfl rfl rfl (w_n rfl) ?_
  refine TL_q (.bool true) (fun _ _ hρ _ => r_as (r_eql (hρ _ _ rfl) (hρ _ _ rfl)) (bool_as (decide_eq_true hwy))) rfl rfl rfl (w_n rfl) ?_
  refine TL_call (.tuple #[]) (fun _ _ hρ _ => r_call (args := [.bool true, .int .i64 2]) (enters_of Try.func84 (by kernel_rfl) rfl) (hρ _ _ rfl) ((cons2 (hρ _ _ rfl) (cons2 (hρ _ _ rfl) rfl))) rfl) (fun w _ => need_ok_jrn 2 w) rfl rfl rfl (w_n rfl) ?_
  refine TL_seq ?_
  refine T_seq (T_draw (V := [(0, .slice a l.length cap), (1, .slice b rs.length capb)]) [0, 0, 2, 7, 15, 31] [[(0, none)], [(1, none)], [(14, some 1)], [(13, some 0), (15, some 2)], [(16, some 3)], [(17, some 4)]] 28 mixed (by kernel_rfl) ?_)
  refine G_step [0, 1] 2 [] (by kernel_rfl) (allM (all_cons (q_run (.slice a l.length cap) rfl rfl (wv_n rfl) rfl (fun _ _ hρ hm => r_load ag34 (hρ _ _ rfl) (hm.old h0) rfl)) (all_cons (q_run (.slice b rs.length capb) rfl rfl (wv_n rfl) rfl (fun _ _ hρ hm => r_load ag63 (hρ _ _ rfl) (hm.old h1) rfl)) all_nil))) (allM (all_cons ?_ all_nil))
  refine LOb_callN (fun (_ : Option Addr × Nat) => True) (fun (ar3, cr3) => .slice ar3 ((joinP (rls rs)).length) cr3) (fun (ar3, cr3) => [(1, .row (.slice ar3 ((joinP (rls rs)).length) cr3) 5 1 ((joinP (rls rs)).length) ((joinP (rls rs)).flatMap byc))]) (fun (ar3, cr3) => []) rfl (wv_n rfl) rfl rfl (fun _ _ hρ _ => r_call (args := [.slice b rs.length capb, .func (.func 79) #[] #[]]) (enters_of Try.func78 (by kernel_rfl) rfl) (hρ _ _ rfl) ((cons2 (hρ _ _ rfl) (cons2 (hρ _ _ rfl) rfl))) rfl) (fun w hm => (joined_ok rs b capb w (hu.keep hm.ext) hcapb (hx.keep hm.ext) (by omega) h).mono fun e w' ⟨a', cap', he, hb, hr⟩ => ⟨(a', cap'), trivial, he, hb, newOk1 1 hr⟩) (fun (ar3, cr3) => by kernel_rfl) ?_
  rintro ⟨ar3, cr3⟩ -
  refine G_step [0] 3 [] (by kernel_rfl) (allM (all_cons (q_run (.slice a l.length cap) rfl rfl (wv_n rfl) rfl (fun _ _ hρ hm => r_load ag34 (hρ _ _ rfl) (hm.old h0) rfl)) all_nil)) (allM (all_cons ?_ all_nil))
  refine LOb_new 2 (.cells #[.slice a l.length cap, .slice ar3 ((joinP (rls rs)).length) cr3] 34) (fun B => .slice (some ⟨B, 0, none⟩) 2 2) (fun B => []) rfl (wv_n rfl) rfl rfl (fun _ _ hρ _ => r_buildSlice (vs := [(0, .slice a l.length cap), (1, .slice ar3 ((joinP (rls rs)).length) cr3)]) (by kernel_rfl) (cons2 (pair2 (hρ _ _ rfl)) (cons2 (pair2 (hρ _ _ rfl)) rfl))) (fun B => by kernel_rfl) ?_
  intro B4
  refine G_step [] 4 [] (by kernel_rfl) (allM all_nil) (allM (all_cons ?_ all_nil))
  refine LOb_callN (fun (_ : Option Addr × Nat) => True) (fun (ar5, cr5) => .slice ar5 ((l ++ (joinP (rls rs))).length) cr5) (fun (ar5, cr5) => [(3, .row (.slice ar5 ((l ++ (joinP (rls rs))).length) cr5) 5 1 ((l ++ (joinP (rls rs))).length) ((l ++ (joinP (rls rs))).flatMap byc))]) (fun (ar5, cr5) => [(5, .slice ar5 ((l ++ (joinP (rls rs))).length) cr5)]) rfl (wv_n rfl) rfl rfl (fun _ _ hρ _ => r_call (args := [.slice (some ⟨B4, 0, none⟩) 2 2]) (enters_of Try.func54 (by kernel_rfl) rfl) (hρ _ _ rfl) ((cons2 (hρ _ _ rfl) rfl)) rfl) (fun w hm => (con_as (l' := l ++ (joinP (rls rs))) (con_b [(⟨a, cap, l⟩ : RowG By), (⟨ar3, cr3, (joinP (rls rs))⟩ : RowG By)] (some ⟨B4, 0, none⟩) 2 w ⟨Nat.le_of_ble_eq_true rfl, (fun e => by cases e), .inr ⟨_, 0, _, _, _, rfl, (hm.at 2 rfl), row_of_take (fun _ => rfl) rfl⟩⟩ (Nat.le_of_ble_eq_true rfl) (List.forall_mem_cons.2 ⟨⟨(hv.keep hm.ext), hcap⟩, (List.forall_mem_cons.2 ⟨⟨(SliceAt.own byc_len (hm.row 1 rfl) rfl rfl), (row_cap (hm.row 1 rfl))⟩, (fun _ h => nomatch h)⟩)⟩) (by simp only [List.flatMap_cons, List.flatMap_nil, List.append_nil, List.length_append]; omega) (Nat.le_of_ble_eq_true rfl)) (by simp only [List.flatMap_cons, List.flatMap_nil, List.append_nil])).mono fun e w' ⟨a', cap', he, hb, hr⟩ => ⟨(a', cap'), trivial, he, hb, newOk1 3 hr⟩) (fun (ar5, cr5) => by kernel_rfl) ?_
  rintro ⟨ar5, cr5⟩ -
  refine G_last [5] [(2, .slice ar5 ((l ++ (joinP (rls rs))).length) cr5)] (by kernel_rfl) (allM (all_cons (q_run (.slice ar5 ((l ++ (joinP (rls rs))).length) cr5) rfl rfl (wv_n rfl) rfl (fun _ _ hρ _ => r_assign (hρ _ _ rfl))) all_nil)) (end_new 5 rfl rfl end_nil) ?_
  refine T_ret' ?_
  refine ret_of rfl (.slice ar5 ((l ++ (joinP (rls rs))).length) cr5) (fun tmps w hk hm => res1 rfl (res_tmp (hk 2 _ rfl))) (fun w hm => ?_)
  exact ⟨ar5, cr5, rfl, hm.ext, hm.row 3 rfl⟩

theorem app_ok (l : List By) (a : Option Addr) (cap : Nat) (w : World) (hv : SliceAt w a cap 1 byc l) (hcap : cap ≤ Go.maxLen) (rs : List (RowG By)) (b : Option Addr) (capb : Nat) (hu : SliceAt w b capb 1 RowG.cells rs) (hcapb : capb ≤ Go.maxLen) (hx : RowsIn w rs) (hl9 : l.length ≤ 400000) (hn : rs.length ≤ 8) (hwy : whyE l = 0) (h : ∀ r ∈ rs, r.l.length ≤ 65536) : Calls Try.prog 43 #[.slice a l.length cap, .slice b rs.length capb] w fun e w' => ∃ a' cap', e = .returned (.tuple #[.slice a' (l ++ joinP (rls rs)).length cap', .int .i64 0]) ∧ Below w.heap.size w w' ∧ w'.ownsRow w.heap.size 5 1 (.slice a' (l ++ joinP (rls rs)).length cap') (l ++ joinP (rls rs)).length ((l ++ joinP (rls rs)).flatMap byc) := by
  refine calls_of_T (l := [.slice a l.length cap, .slice b rs.length capb]) 10 Try.func43 rfl rfl rfl ?_
  show T _ _ _ [(0, .slice a l.length cap), (1, .slice b rs.length capb)] []
  refine T_seq (T_region ?_)
  refine TL_new 1 (.cells #[.slice a l.length cap] 34) (fun B => .pointer (some ⟨B, 0, none⟩)) (fun _ _ hρ _ => r_box (hρ _ _ rfl) rfl) rfl rfl rfl (w_n rfl) ?_
  intro B1
  refine TL_new 2 (.cells #[.slice b rs.length capb] 63) (fun B => .pointer (some ⟨B, 0, none⟩)) (fun _ _ hρ _ => r_box (hρ _ _ rfl) rfl) rfl rfl rfl (w_n rfl) ?_
  intro B2
  refine TL_q (.slice none 0 0) (fun _ _ hρ _ => r_assign (hρ _ _ rfl)) rfl rfl rfl (w_n rfl) ?_
  refine TL_q (.int .i64 0) (fun _ _ hρ _ => r_assign (hρ _ _ rfl)) rfl rfl rfl (w_n rfl) ?_
  refine TL_seq ?_
  refine T_seq (T_region ?_)
  refine TL_q (.func (.func 83) #[] #[.pointer (some ⟨B1, 0, none⟩), .pointer (some ⟨B2, 0, none⟩)]) (fun _ _ hρ _ => r_makeFunc (by simp) (map_arr (cons2 (hρ _ _ rfl) (cons2 (hρ _ _ rfl) rfl)))) rfl rfl rfl (w_n rfl) ?_
  refine TL_callN (fun (_ : Option Addr × Nat) => True) (fun (ar3, cr3) => .tuple #[.slice ar3 ((l ++ joinP (rls rs)).length) cr3, .int .i64 0]) (fun (ar3, cr3) => [(3, .row (.slice ar3 ((l ++ joinP (rls rs)).length) cr3) 5 1 ((l ++ joinP (rls rs)).length) ((l ++ joinP (rls rs)).flatMap byc))]) (fun _ _ hρ _ => r_call (args := [.func (.func 83) #[] #[.pointer (some ⟨B1, 0, none⟩), .pointer (some ⟨B2, 0, none⟩)]]) (enters_of Try.func76 (by kernel_rfl) rfl) (hρ _ _ rfl) ((cons2 (hρ _ _ rfl) rfl)) rfl) (fun w hm => (trJW_ok 83 #[.pointer (some ⟨B1, 0, none⟩), .pointer (some ⟨B2, 0, none⟩)] (fun (_ : Option Addr × Nat) => True) (fun z => z.1) (fun _ => (l ++ joinP (rls rs)).length) (fun z => z.2) (fun z => [(1, .row (.slice z.1 (l ++ joinP (rls rs)).length z.2) 5 1 (l ++ joinP (rls rs)).length ((l ++ joinP (rls rs)).flatMap byc))]) w (enters_of Try.func83 (by kernel_rfl) rfl) (fun _ => rfl) (fun _ => rfl) (fun w2 hb2 => (app1_ok B1 B2 l a cap w2 (hv.keep (hm.ext.trans (hb2.mono hm.ext.size))) hcap rs b capb (hu.keep (hm.ext.trans (hb2.mono hm.ext.size))) hcapb (hx.keep (hm.ext.trans (hb2.mono hm.ext.size))) hl9 hn (kept hb2 (hm.at 1 rfl)) (kept hb2 (hm.at 2 rfl)) hwy h).mono fun e w' ⟨a', cap', he, hb, hr⟩ => ⟨(a', cap'), trivial, he, hb, newOk1 1 hr⟩)).mono fun e w' ⟨z, _, he, hb, hn⟩ => ⟨z, trivial, he, hb, newOk_at 3 hn⟩) rfl rfl rfl (w_n rfl) ?_
  rintro ⟨ar3, cr3⟩ -
  refine TL_q (.slice ar3 ((l ++ joinP (rls rs)).length) cr3) (fun _ _ hρ _ => r_extract (hρ _ _ rfl) rfl) rfl rfl rfl (w_n rfl) ?_
  refine TL_q (.int .i64 0) (fun _ _ hρ _ => r_extract (hρ _ _ rfl) rfl) rfl rfl rfl (w_n rfl) ?_
  refine TL_q (.slice ar3 ((l ++ joinP (rls rs)).length) cr3) (fun _ _ hρ _ => r_assign (hρ _ _ rfl)) rfl rfl rfl (w_n rfl) ?_
  refine TL_q (.int .i64 0) (fun _ _ hρ _ => r_assign (hρ _ _ rfl)) rfl rfl rfl (w_n rfl) ?_
  refine TL_seq ?_
  refine T_ret' ?_
  refine ret_of rfl (.tuple #[.slice ar3 ((l ++ joinP (rls rs)).length) cr3, .int .i64 0]) (fun tmps w hk hm => res2 rfl (res_tmp (hk 4 _ rfl)) (res_tmp (hk 5 _ rfl))) (fun w hm => ?_)
  exact ⟨ar3, cr3, rfl, hm.ext, hm.row 3 rfl⟩

theorem app1_arg (T0 T1 : Nat) (l : List By) (a : Option Addr) (cap : Nat) (w : World) (hv : SliceAt w a cap 1 byc l) (hcap : cap ≤ Go.maxLen) (rs : List (RowG By)) (b : Option Addr) (capb : Nat) (hu : SliceAt w b capb 1 RowG.cells rs) (hcapb : capb ≤ Go.maxLen) (hx : RowsIn w rs) (hl9 : l.length ≤ 400000) (hn : rs.length ≤ 8) (h0 : hp w T0 = some (.cells #[.slice a l.length cap] 34)) (h1 : hp w T1 = some (.cells #[.slice b rs.length capb] 63)) (hwy : ¬ whyE l = 0) : Calls Try.prog 83 #[.pointer (some ⟨T0, 0, none⟩), .pointer (some ⟨T1, 0, none⟩)] w fun e w' => e = .panicked [{ v := .iface 28 (.int .i64 2), recovered := false }] ∧ Below w.heap.size w w' := by
  have hvl := hv.1
  have hcp := hcap
  unfold Go.maxLen at hcp
  refine calls_of_T (l := [.pointer (some ⟨T0, 0, none⟩), .pointer (some ⟨T1, 0, none⟩)]) 18 Try.func83 rfl rfl rfl ?_
  show T _ _ _ [(0, .pointer (some ⟨T0, 0, none⟩)), (1, .pointer (some ⟨T1, 0, none⟩))] []
  refine T_seq (T_region ?_)
  refine TL_q (.slice none 0 0) (fun _ _ hρ _ => r_assign (hρ _ _ rfl)) rfl rfl rfl (w_n rfl) ?_
  refine TL_seq ?_
  refine T_seq (T_region ?_)
  refine TL_q (.slice a l.length cap) (fun _ _ hρ hm => r_load ag34 (hρ _ _ rfl) (hm.old h0) rfl) rfl rfl rfl (w_n rfl) ?_
  refine TL_call (.tuple #[.int .i64 ((sizeV l : Nat) : Int), .int .i64 (whyE l)]) (fun _ _ hρ _ => r_call (args := [.slice a l.length cap]) (enters_of Try.func47 (by kernel_rfl) rfl) (hρ _ _ rfl) ((cons2 (hρ _ _ rfl) rfl)) rfl) (fun w hm => why_c l a cap w (hv.keep hm.ext) hcap (by omega)) rfl rfl rfl (w_n rfl) ?_
  refine TL_q (.tuple #[.int .i64 ((sizeV l : Nat) : Int), .int .i64 (whyE l)]) (fun _ _ hρ _ => r_move (hρ _ _ rfl)) rfl rfl rfl (w_n rfl) ?_
  refine TL_q (.int .i64 ((sizeV l : Nat) : Int)) (fun _ _ hρ _ => r_extract (hρ _ _ rfl) rfl) rfl rfl rfl (w_n rfl) ?_
  refine TL_q (.int .i64 (whyE l)) (fun _ _ hρ _ => r_extract (hρ _ _ rfl) rfl) rfl rfl rfl (w_n rfl) ?_
  refine TL_q (.int .i64 ((sizeV l : Nat) : Int)) (fun _ _ hρ _ => r_assign (hρ _ _ rfl)) rfl rfl rfl (w_n rfl) ?_
  refine TL_q (.int .i64 (whyE l)) (fun _ _ hρ _ => r_assign (hρ _ _ rfl)) rfl rfl rfl (w_n rfl) ?_
  refine TL_seq ?_
  refine T_seq (T_region ?_)
  refine TL_q (.int .i64 (whyE l)) (fun _ _ hρ _ => r_move (hρ _ _ rfl)) rfl rfl rfl (w_n rfl) ?_
  refine TL_q (.bool false) (fun _ _ hρ _ => r_as (r_eql (hρ _ _ rfl) (hρ _ _ rfl)) (bool_as (decide_eq_false hwy))) rfl rfl rfl (w_n rfl) ?_
  refine TL_callQ (v := .iface 28 (.int .i64 2)) (fun _ _ hρ _ => r_call (args := [.bool false, .int .i64 2]) (enters_of Try.func84 (by kernel_rfl) rfl) (hρ _ _ rfl) ((cons2 (hρ _ _ rfl) (cons2 (hρ _ _ rfl) rfl))) rfl) (fun w _ => need_no_jrn 2 w) rfl (w_n rfl) ?_
  refine p_then_p ?_
  refine p_pan rfl (fun w hm => ?_)
  exact ⟨rfl, hm.ext⟩

theorem app_arg (l : List By) (a : Option Addr) (cap : Nat) (w : World) (hv : SliceAt w a cap 1 byc l) (hcap : cap ≤ Go.maxLen) (rs : List (RowG By)) (b : Option Addr) (capb : Nat) (hu : SliceAt w b capb 1 RowG.cells rs) (hcapb : capb ≤ Go.maxLen) (hx : RowsIn w rs) (hl9 : l.length ≤ 400000) (hn : rs.length ≤ 8) (hwy : ¬ whyE l = 0) : Calls Try.prog 43 #[.slice a l.length cap, .slice b rs.length capb] w fun e w' => e = .returned (.tuple #[.slice none 0 0, .int .i64 2]) ∧ Below w.heap.size w w' := by
  refine calls_of_T (l := [.slice a l.length cap, .slice b rs.length capb]) 10 Try.func43 rfl rfl rfl ?_
  show T _ _ _ [(0, .slice a l.length cap), (1, .slice b rs.length capb)] []
  refine T_seq (T_region ?_)
  refine TL_new 1 (.cells #[.slice a l.length cap] 34) (fun B => .pointer (some ⟨B, 0, none⟩)) (fun _ _ hρ _ => r_box (hρ _ _ rfl) rfl) rfl rfl rfl (w_n rfl) ?_
  intro B1
  refine TL_new 2 (.cells #[.slice b rs.length capb] 63) (fun B => .pointer (some ⟨B, 0, none⟩)) (fun _ _ hρ _ => r_box (hρ _ _ rfl) rfl) rfl rfl rfl (w_n rfl) ?_
  intro B2
  refine TL_q (.slice none 0 0) (fun _ _ hρ _ => r_assign (hρ _ _ rfl)) rfl rfl rfl (w_n rfl) ?_
  refine TL_q (.int .i64 0) (fun _ _ hρ _ => r_assign (hρ _ _ rfl)) rfl rfl rfl (w_n rfl) ?_
  refine TL_seq ?_
  refine T_seq (T_region ?_)
  refine TL_q (.func (.func 83) #[] #[.pointer (some ⟨B1, 0, none⟩), .pointer (some ⟨B2, 0, none⟩)]) (fun _ _ hρ _ => r_makeFunc (by simp) (map_arr (cons2 (hρ _ _ rfl) (cons2 (hρ _ _ rfl) rfl)))) rfl rfl rfl (w_n rfl) ?_
  refine TL_call (.tuple #[.slice none 0 0, .int .i64 2]) (fun _ _ hρ _ => r_call (args := [.func (.func 83) #[] #[.pointer (some ⟨B1, 0, none⟩), .pointer (some ⟨B2, 0, none⟩)]]) (enters_of Try.func76 (by kernel_rfl) rfl) (hρ _ _ rfl) ((cons2 (hρ _ _ rfl) rfl)) rfl) (fun w hm => trJW_no 83 #[.pointer (some ⟨B1, 0, none⟩), .pointer (some ⟨B2, 0, none⟩)] 2 w (enters_of Try.func83 (by kernel_rfl) rfl) (fun w2 hb2 => app1_arg B1 B2 l a cap w2 (hv.keep (hm.ext.trans (hb2.mono hm.ext.size))) hcap rs b capb (hu.keep (hm.ext.trans (hb2.mono hm.ext.size))) hcapb (hx.keep (hm.ext.trans (hb2.mono hm.ext.size))) hl9 hn (kept hb2 (hm.at 1 rfl)) (kept hb2 (hm.at 2 rfl)) hwy)) rfl rfl rfl (w_n rfl) ?_
  refine TL_q (.slice none 0 0) (fun _ _ hρ _ => r_extract (hρ _ _ rfl) rfl) rfl rfl rfl (w_n rfl) ?_
  refine TL_q (.int .i64 2) (fun _ _ hρ _ => r_extract (hρ _ _ rfl) rfl) rfl rfl rfl (w_n rfl) ?_
  refine TL_q (.slice none 0 0) (fun _ _ hρ _ => r_assign (hρ _ _ rfl)) rfl rfl rfl (w_n rfl) ?_
  refine TL_q (.int .i64 2) (fun _ _ hρ _ => r_assign (hρ _ _ rfl)) rfl rfl rfl (w_n rfl) ?_
  refine TL_seq ?_
  refine T_ret' ?_
  refine ret_of rfl (.tuple #[.slice none 0 0, .int .i64 2]) (fun tmps w hk hm => res2 rfl (res_tmp (hk 4 _ rfl)) (res_tmp (hk 5 _ rfl))) (fun w hm => ?_)
  exact ⟨rfl, hm.ext⟩

theorem app1_long (T0 T1 : Nat) (l : List By) (a : Option Addr) (cap : Nat) (w : World) (hv : SliceAt w a cap 1 byc l) (hcap : cap ≤ Go.maxLen) (rs : List (RowG By)) (b : Option Addr) (capb : Nat) (hu : SliceAt w b capb 1 RowG.cells rs) (hcapb : capb ≤ Go.maxLen) (hx : RowsIn w rs) (hl9 : l.length ≤ 400000) (hn : rs.length ≤ 8) (h0 : hp w T0 = some (.cells #[.slice a l.length cap] 34)) (h1 : hp w T1 = some (.cells #[.slice b rs.length capb] 63)) (hwy : whyE l = 0) (h : ¬ ∀ r ∈ rs, r.l.length ≤ 65536) : Calls Try.prog 83 #[.pointer (some ⟨T0, 0, none⟩), .pointer (some ⟨T1, 0, none⟩)] w fun e w' => e = .panicked [{ v := .iface 28 (.int .i64 3), recovered := false }] ∧ Below w.heap.size w w' := by
  have hvl := hv.1
  have hcp := hcap
  unfold Go.maxLen at hcp
  refine calls_of_T (l := [.pointer (some ⟨T0, 0, none⟩), .pointer (some ⟨T1, 0, none⟩)]) 18 Try.func83 rfl rfl rfl ?_
  show T _ _ _ [(0, .pointer (some ⟨T0, 0, none⟩)), (1, .pointer (some ⟨T1, 0, none⟩))] []
  refine T_seq (T_region ?_)
  refine TL_q (.slice none 0 0) (fun _ _ hρ _ => r_assign (hρ _ _ rfl)) rfl rfl rfl (w_n rfl) ?_
  refine TL_seq ?_
  refine T_seq (T_region ?_)
  refine TL_q (.slice a l.length cap) (fun _ _ hρ hm => r_load ag34 (hρ _ _ rfl) (hm.old h0) rfl) rfl rfl rfl (w_n rfl) ?_
  refine TL_call (.tuple #[.int .i64 ((sizeV l : Nat) : Int), .int .i64 (whyE l)]) (fun _ _ hρ _ => r_call (args := [.slice a l.length cap]) (enters_of Try.func47 (by kernel_rfl) rfl) (hρ _ _ rfl) ((cons2 (hρ _ _ rfl) rfl)) rfl) (fun w hm => why_c l a cap w (hv.keep hm.ext) hcap (by omega)) rfl rfl rfl (w_n rfl) ?_
  refine TL_q (.tuple #[.int .i64 ((sizeV l : Nat) : Int), .int .i64 (whyE l)]) (fun _ _ hρ _ => r_move (hρ _ _ rfl)) rfl rfl rfl (w_n rfl) ?_
  refine TL_q (.int .i64 ((sizeV l : Nat) : Int)) (fun _ _ hρ _ => r_extract (hρ _ _ rfl) rfl) rfl rfl rfl (w_n rfl) ?_
  refine TL_q (.int .i64 (whyE l)) (fun _ _ hρ _ => r_extract (hρ _ _ rfl) rfl) rfl rfl rfl (w_n rfl) ?_
  refine TL_q (.int .i64 ((sizeV l : Nat) : Int)) (fun _ _ hρ _ => r_assign (hρ _ _ rfl)) rfl rfl rfl (w_n rfl) ?_
  refine TL_q (.int .i64 (whyE l)) (fun _ _ hρ _ => r_assign (hρ _ _ rfl)) rfl rfl rfl (w_n rfl) ?_
  refine TL_seq ?_
  refine T_seq (T_region ?_)
  refine TL_q (.int .i64 (whyE l)) (fun _ _ hρ _ => r_move (hρ _ _ rfl)) rfl rfl rfl (w_n rfl) ?_
  refine TL_q (.bool true) (fun _ _ hρ _ => r_as (r_eql (hρ _ _ rfl) (hρ _ _ rfl)) (bool_as (decide_eq_true hwy))) rfl rfl rfl (w_n rfl) ?_
  refine TL_call (.tuple #[]) (fun _ _ hρ _ => r_call (args := [.bool true, .int .i64 2]) (enters_of Try.func84 (by kernel_rfl) rfl) (hρ _ _ rfl) ((cons2 (hρ _ _ rfl) (cons2 (hρ _ _ rfl) rfl))) rfl) (fun w _ => need_ok_jrn 2 w) rfl rfl rfl (w_n rfl) ?_
  refine TL_seq ?_
  refine T_seq (T_draw (V := [(0, .slice a l.length cap), (1, .slice b rs.length capb)]) [0, 0, 2, 7, 15, 31] [[(0, none)], [(1, none)], [(14, some 1)], [(13, some 0), (15, some 2)], [(16, some 3)], [(17, some 4)]] 4 mixed (by kernel_rfl) ?_)
  refine G_step [0, 1] 2 [] (by kernel_rfl) (allM (all_cons (q_run (.slice a l.length cap) rfl rfl (wv_n rfl) rfl (fun _ _ hρ hm => r_load ag34 (hρ _ _ rfl) (hm.old h0) rfl)) (all_cons (q_run (.slice b rs.length capb) rfl rfl (wv_n rfl) rfl (fun _ _ hρ hm => r_load ag63 (hρ _ _ rfl) (hm.old h1) rfl)) all_nil))) (allM (all_cons ?_ all_nil))
  refine LOb_callQ (v := .iface 28 (.int .i64 3)) rfl (wv_n rfl) rfl (fun _ _ hρ _ => r_call (args := [.slice b rs.length capb, .func (.func 79) #[] #[]]) (enters_of Try.func78 (by kernel_rfl) rfl) (hρ _ _ rfl) ((cons2 (hρ _ _ rfl) (cons2 (hρ _ _ rfl) rfl))) rfl) (fun w hm => joined_no rs b capb w (hu.keep hm.ext) hcapb (hx.keep hm.ext) (by omega) h) (pd_pan (fun _ _ h => h) rfl fun w hm => ?_)
  exact ⟨rfl, hm.ext⟩

theorem app_long (l : List By) (a : Option Addr) (cap : Nat) (w : World) (hv : SliceAt w a cap 1 byc l) (hcap : cap ≤ Go.maxLen) (rs : List (RowG By)) (b : Option Addr) (capb : Nat) (hu : SliceAt w b capb 1 RowG.cells rs) (hcapb : capb ≤ Go.maxLen) (hx : RowsIn w rs) (hl9 : l.length ≤ 400000) (hn : rs.length ≤ 8) (hwy : whyE l = 0) (h : ¬ ∀ r ∈ rs, r.l.length ≤ 65536) : Calls Try.prog 43 #[.slice a l.length cap, .slice b rs.length capb] w fun e w' => e = .returned (.tuple #[.slice none 0 0, .int .i64 3]) ∧ Below w.heap.size w w' := by
  refine calls_of_T (l := [.slice a l.length cap, .slice b rs.length capb]) 10 Try.func43 rfl rfl rfl ?_
  show T _ _ _ [(0, .slice a l.length cap), (1, .slice b rs.length capb)] []
  refine T_seq (T_region ?_)
  refine TL_new 1 (.cells #[.slice a l.length cap] 34) (fun B => .pointer (some ⟨B, 0, none⟩)) (fun _ _ hρ _ => r_box (hρ _ _ rfl) rfl) rfl rfl rfl (w_n rfl) ?_
  intro B1
  refine TL_new 2 (.cells #[.slice b rs.length capb] 63) (fun B => .pointer (some ⟨B, 0, none⟩)) (fun _ _ hρ _ => r_box (hρ _ _ rfl) rfl) rfl rfl rfl (w_n rfl) ?_
  intro B2
  refine TL_q (.slice none 0 0) (fun _ _ hρ _ => r_assign (hρ _ _ rfl)) rfl rfl rfl (w_n rfl) ?_
  refine TL_q (.int .i64 0) (fun _ _ hρ _ => r_assign (hρ _ _ rfl)) rfl rfl rfl (w_n rfl) ?_
  refine TL_seq ?_
  refine T_seq (T_region ?_)
  refine TL_q (.func (.func 83) #[] #[.pointer (some ⟨B1, 0, none⟩), .pointer (some ⟨B2, 0, none⟩)]) (fun _ _ hρ _ => r_makeFunc (by simp) (map_arr (cons2 (hρ _ _ rfl) (cons2 (hρ _ _ rfl) rfl)))) rfl rfl rfl (w_n rfl) ?_
  refine TL_call (.tuple #[.slice none 0 0, .int .i64 3]) (fun _ _ hρ _ => r_call (args := [.func (.func 83) #[] #[.pointer (some ⟨B1, 0, none⟩), .pointer (some ⟨B2, 0, none⟩)]]) (enters_of Try.func76 (by kernel_rfl) rfl) (hρ _ _ rfl) ((cons2 (hρ _ _ rfl) rfl)) rfl) (fun w hm => trJW_no 83 #[.pointer (some ⟨B1, 0, none⟩), .pointer (some ⟨B2, 0, none⟩)] 3 w (enters_of Try.func83 (by kernel_rfl) rfl) (fun w2 hb2 => app1_long B1 B2 l a cap w2 (hv.keep (hm.ext.trans (hb2.mono hm.ext.size))) hcap rs b capb (hu.keep (hm.ext.trans (hb2.mono hm.ext.size))) hcapb (hx.keep (hm.ext.trans (hb2.mono hm.ext.size))) hl9 hn (kept hb2 (hm.at 1 rfl)) (kept hb2 (hm.at 2 rfl)) hwy h)) rfl rfl rfl (w_n rfl) ?_
  refine TL_q (.slice none 0 0) (fun _ _ hρ _ => r_extract (hρ _ _ rfl) rfl) rfl rfl rfl (w_n rfl) ?_
  refine TL_q (.int .i64 3) (fun _ _ hρ _ => r_extract (hρ _ _ rfl) rfl) rfl rfl rfl (w_n rfl) ?_
  refine TL_q (.slice none 0 0) (fun _ _ hρ _ => r_assign (hρ _ _ rfl)) rfl rfl rfl (w_n rfl) ?_
  refine TL_q (.int .i64 3) (fun _ _ hρ _ => r_assign (hρ _ _ rfl)) rfl rfl rfl (w_n rfl) ?_
  refine TL_seq ?_
  refine T_ret' ?_
  refine ret_of rfl (.tuple #[.slice none 0 0, .int .i64 3]) (fun tmps w hk hm => res2 rfl (res_tmp (hk 4 _ rfl)) (res_tmp (hk 5 _ rfl))) (fun w hm => ?_)
  exact ⟨rfl, hm.ext⟩
end Go.Proofs.Ytcidgbjgeegepaa
/- journal: rows of bytes to be read, many of them. -/
namespace Go.Proofs.Ytcidgbjgeegepaa
open Go Go.RowKit
def rowK : ShK (RowG By) where
  foot := fun r => slF r.a r.l
  At := fun w r => SliceAt w r.a r.cap 1 byc r.l ∧ r.cap ≤ Go.maxLen
  keep := fun h hb => ⟨h.1.keepF hb, h.2⟩
  low := fun h hb => h.1.lowF hb
abbrev Res.rows (l : List (RowG By)) : Res := .shelf rowK l
/-- One more of them. -/
theorem MemOk.rowsPush {w₀ w : World} {L : Heap} (h : MemOk w₀ L w) (k j : Nat) {rs : List (RowG By)} {a : Option Addr} {cap : Nat} {l : List By} (hk : lk L k = some (.rows rs)) (hj : lk L j = some (.sl a cap l)) (hne : Nat.beq k j = false) :
    MemOk w₀ ((k, .rows (rs ++ [⟨a, cap, l⟩])) :: (j, .no) :: L) w := by
  have hkj : k ≠ j := fun e => by subst e; rw [Nat.beq_refl] at hne; cases hne
  have ok1 := h.own k _ hk
  have ok2 := h.own j _ hj
  have h0 : MemOk w₀ ((j, .no) :: L) w := h.set j _ h.ext ⟨trivial, (fun _ hb => hb.elim), fun _ _ _ _ => trivial⟩ (fun _ _ _ _ b _ => ⟨rfl, id⟩)
  refine h0.set k _ h0.ext ⟨fun r hr => ?_, ?_, rowK.keeps⟩ (fun i r hi hne' b hb => ⟨rfl, ?_⟩)
  · rcases List.mem_append.1 hr with h1 | h1
    · exact ok1.1 r h1
    · rw [List.mem_singleton.1 h1]; exact ok2.1
  · rintro b ⟨r, hr, hb⟩
    rcases List.mem_append.1 hr with h1 | h1
    · exact ok1.2.1 b ⟨r, h1, hb⟩
    · rw [List.mem_singleton.1 h1] at hb; exact ok2.2.1 b hb
  · rintro ⟨q, hq, hqb⟩
    by_cases e2 : j = i
    · subst e2; rw [lk_cons_same] at hi; cases hi; exact hb
    · rw [lk_cons_other _ _ e2] at hi
      rcases List.mem_append.1 hq with h1 | h1
      · exact h.sep k i _ _ hk hi (Ne.symm hne') b ⟨q, h1, hqb⟩ hb
      · rw [List.mem_singleton.1 h1] at hqb
        exact h.sep j i _ _ hj hi e2 b hqb hb
/-! ### the references' numbers -/
def numR (l : List By) : BitVec 64 := l.foldl (fun n x => 256#64 * n + x.setWidth 64) 0#64
theorem numR_step {l : List By} {k : Nat} {x : By} (hx : l[k]? = some x) : numR (l.take (k + 1)) = 256#64 * numR (l.take k) + x.setWidth 64 := by
  unfold numR
  rw [List.take_add_one, hx, List.foldl_append]; rfl
theorem numR_both (l : List By) : ∀ k, k ≤ 4 → (numR (l.take k)).toNat = numN (l.take k)
  | 0, _ => rfl
  | k + 1, hk => by
    have h1 := numR_both l k (by omega)
    have h2 := (num_both l k (by omega)).2
    have h4 : 256 ^ k ≤ 256 ^ 3 := Nat.pow_le_pow_right (by decide) (by omega)
    cases hx : l[k]? with
    | none =>
      have e : l.length ≤ k := List.getElem?_eq_none_iff.1 hx
      rw [List.take_of_length_le (Nat.le_succ_of_le e)]
      rw [List.take_of_length_le e] at h1
      exact h1
    | some x =>
      have hb := x.isLt
      rw [numR_step hx, numN_step hx, BitVec.toNat_add, BitVec.toNat_mul, BitVec.toNat_setWidth, h1]
      show (256 * numN (l.take k) % 18446744073709551616 + x.toNat % 18446744073709551616) % 18446744073709551616 = _
      omega
theorem numR4 (l : List By) (h : l.length = 4) : (numR l).toNat = numN l := by
  have := numR_both l 4 (Nat.le_refl _)
  rw [List.take_of_length_le (by omega)] at this
  exact this
theorem layB {m : Nat} (h : m ≤ 65536) (k d : Nat) (q : BitVec 64) (hq : q.toNat = m / d) : ((q % 256#64).setWidth 8 : By) = BitVec.ofNat 8 (m / d) := by
  apply BitVec.eq_of_toNat_eq
  rw [BitVec.toNat_setWidth, BitVec.toNat_umod, hq, BitVec.toNat_ofNat]
  show m / d % 256 % 256 = m / d % 256
  omega
theorem lay_is {m : Nat} (h : m ≤ 65536) {n : BitVec 64} (hn : n = BitVec.ofNat 64 m) : ([((((n / 256#64) / 256#64) / 256#64) % 256#64).setWidth 8, (((n / 256#64) / 256#64) % 256#64).setWidth 8, ((n / 256#64) % 256#64).setWidth 8, (n % 256#64).setWidth 8] : List By) = lenB m := by
  have e0 : n.toNat = m := by rw [hn, BitVec.toNat_ofNat]; exact Nat.mod_eq_of_lt (by omega)
  have e1 : (n / 256#64).toNat = m / 256 := by rw [BitVec.toNat_udiv, e0]; rfl
  have e2 : ((n / 256#64) / 256#64).toNat = m / 65536 := by rw [BitVec.toNat_udiv, e1]; show m / 256 / 256 = _; omega
  have e3 : (((n / 256#64) / 256#64) / 256#64).toNat = m / 16777216 := by rw [BitVec.toNat_udiv, e2]; show m / 65536 / 256 = _; omega
  unfold lenB
  rw [layB h 0 16777216 _ e3, layB h 0 65536 _ e2, layB h 0 256 _ e1, layB h 0 1 n (by rw [e0, Nat.div_one]), Nat.div_one]
end Go.Proofs.Ytcidgbjgeegepaa
/- net and journal: the references. Printed by a program of this seat's prover. -/
namespace Go.Proofs.Ytcidgbjgeegepaa
open Go Go.RowKit
set_option maxRecDepth 10000
theorem rbeh_c (l : List By) (a : Option Addr) (cap : Nat) (w : World) (hv : SliceAt w a cap 1 byc l) (hcap : cap ≤ Go.maxLen) (m : List By) (b : Option Addr) (capb : Nat) (hu : SliceAt w b capb 1 byc m) (hcapb : capb ≤ Go.maxLen) (hl1 : l.length ≤ 1000000) (hm1 : m.length ≤ 1000000) : Calls Try.prog 44 #[.slice a l.length cap, .slice b m.length capb] w fun e w' => ∃ a' cap', e = .returned (.slice a' (l ++ m).length cap') ∧ Below w.heap.size w w' ∧ w'.ownsRow w.heap.size 5 1 (.slice a' (l ++ m).length cap') (l ++ m).length ((l ++ m).flatMap byc) := by
  have hvl := hv.1
  have hcp := hcap
  unfold Go.maxLen at hcp
  have hul := hu.1
  have hcp2 := hcapb
  unfold Go.maxLen at hcp2
  refine calls_of_T (l := [.slice a l.length cap, .slice b m.length capb]) 10 Try.func44 rfl rfl rfl ?_
  show T _ _ _ [(0, .slice a l.length cap), (1, .slice b m.length capb)] []
  refine T_seq (T_region ?_)
  refine TL_q (.slice none 0 0) (fun _ _ hρ _ => r_assign (hρ _ _ rfl)) rfl rfl rfl (w_n rfl) ?_
  refine TL_seq ?_
  refine T_seq (T_region ?_)
  refine TL_new 1 (.cells #[] 5) (fun B => .slice (some ⟨B, 0, none⟩) 0 0) (fun _ _ _ _ => r_buildSlice (vs := []) (by kernel_rfl) rfl) rfl rfl rfl (w_n rfl) ?_
  intro B1
  refine TL_q (.slice a l.length cap) (fun _ _ hρ _ => r_move (hρ _ _ rfl)) rfl rfl rfl (w_n rfl) ?_
  refine TL_mem ([(1, .row (.slice (some ⟨B1, 0, none⟩) 0 0) 5 1 0 [])]) (fun _ hm => MemOk.sub (hm.toRow (n := 0) (cap := 0) (s := 1) 1 rfl rfl (by omega) rfl _ rfl) (sub_cons rfl sub_nil)) ?_
  refine TL_append (n := 0) (m := l.length) (xs := []) (news := (l.flatMap byc)) (z := .int .u8 0) 1 rfl rfl rfl sl34 sz5 by5 (by kernel_rfl) rfl rfl (.inl rfl) (fun _ hm => by have := src_of byc_len (hv.keep hm.ext); simpa using this) (by intro u hu; first | exact byc_oneL u hu | (simp at hu; obtain ⟨x, _, rfl⟩ := hu; rfl)) (by omega) (by omega) rfl (w_n rfl) ?_
  intro a2 cap2
  refine TL_q (.slice b m.length capb) (fun _ _ hρ _ => r_move (hρ _ _ rfl)) rfl rfl rfl (w_n rfl) ?_
  refine TL_append (n := (0 + l.length)) (m := m.length) (xs := ([] ++ (l.flatMap byc))) (news := (m.flatMap byc)) (z := .int .u8 0) 1 rfl rfl rfl sl34 sz5 by5 (by kernel_rfl) rfl rfl (.inl rfl) (fun _ hm => by have := src_of byc_len (hu.keep hm.ext); simpa using this) (by intro u hu; first | exact byc_oneL u hu | (simp at hu; obtain ⟨x, _, rfl⟩ := hu; rfl)) (by omega) (by omega) rfl (w_n rfl) ?_
  intro a3 cap3
  refine TL_q (.slice a3 ((0 + l.length) + m.length) cap3) (fun _ _ hρ _ => r_assign (hρ _ _ rfl)) rfl rfl rfl (w_n rfl) ?_
  refine TL_seq ?_
  refine T_ret' ?_
  refine ret_of rfl (.slice a3 ((0 + l.length) + m.length) cap3) (fun tmps w hk hm => res1 rfl (res_tmp (hk 4 _ rfl))) (fun w hm => ?_)
  have hrow := hm.row 1 rfl
  have e1 : ((0 + l.length) + m.length) = (l ++ m).length := by simp
  have e2 : (([] ++ (l.flatMap byc)) ++ (m.flatMap byc)) = (l ++ m).flatMap byc := by simp
  rw [e1, e2] at hrow
  exact ⟨a3, cap3, by rw [e1], hm.ext, hrow⟩

theorem rlay_c (m : Nat) (hn : m ≤ 65536) (n : BitVec 64) (he : n = BitVec.ofNat 64 m) (w : World) : Calls Try.prog 82 #[.int .i64 4, .int .u64 (n.toNat : Int)] w fun e w' => ∃ a' cap', e = .returned (.slice a' (lenB m).length cap') ∧ Below w.heap.size w w' ∧ w'.ownsRow w.heap.size 5 1 (.slice a' (lenB m).length cap') (lenB m).length ((lenB m).flatMap byc) := by
  refine calls_of_T (l := [.int .i64 4, .int .u64 ((n).toNat : Int)]) 19 Try.func82 rfl rfl rfl ?_
  show T _ _ _ [(0, .int .i64 4), (1, .int .u64 ((n).toNat : Int))] []
  refine T_seq (T_region ?_)
  refine TL_q (.slice none 0 0) (fun _ _ hρ _ => r_assign (hρ _ _ rfl)) rfl rfl rfl (w_n rfl) ?_
  refine TL_seq ?_
  refine T_seq (T_region ?_)
  refine TL_q (.slice none 0 0) (fun _ _ hρ _ => r_assign (hρ _ _ rfl)) rfl rfl rfl (w_n rfl) ?_
  refine TL_seq ?_
  refine T_seq ?_
  refine T_seq (T_region ?_)
  refine TL_q (.int .i64 4) (fun _ _ hρ _ => r_move (hρ _ _ rfl)) rfl rfl rfl (w_n rfl) ?_
  refine TL_q (.int .i64 0) (fun _ _ hρ _ => r_move (hρ _ _ rfl)) rfl rfl rfl (w_n rfl) ?_
  refine TL_seq ?_
  refine T_block ?_
  refine T_rounds 5 ?_
  refine TR_succ ?_
  refine T_seq (T_region ?_)
  refine TL_q (.bool true) (fun _ _ hρ _ => r_as (r_lss (hρ _ _ rfl) (hρ _ _ rfl)) (by rfl)) rfl rfl rfl (w_n rfl) ?_
  refine TL_seq ?_
  refine T_seq ?_
  refine T_cond_t rfl ?_
  refine T_skip' ?_
  refine p_seq ?_
  refine T_seq ?_
  refine T_block ?_
  refine T_seq (T_region ?_)
  refine TL_q (.int .u64 ((n).toNat : Int)) (fun _ _ hρ _ => r_move (hρ _ _ rfl)) rfl rfl rfl (w_n rfl) ?_
  refine TL_q (.int .u64 ((n % (256#64)).toNat : Int)) (fun _ _ hρ _ => r_remB (k := .u64) (a := n) (b := (256#64)) rfl (hρ _ _ rfl) (hρ _ _ rfl)) rfl rfl rfl (w_n rfl) ?_
  refine TL_q (.int .u8 (((n % (256#64)).setWidth 8).toNat : Int)) (fun _ _ hρ _ => r_convB (k := .u64) (k' := .u8) (a := (n % (256#64))) un25 io5 rfl (hρ _ _ rfl)) rfl rfl rfl (w_n rfl) ?_
  refine TL_new 1 (.cells #[.int .u8 (((n % (256#64)).setWidth 8).toNat : Int)] 5) (fun B => .slice (some ⟨B, 0, none⟩) 1 1) (fun _ _ hρ _ => r_buildSlice (vs := [(0, .int .u8 (((n % (256#64)).setWidth 8).toNat : Int))]) (by kernel_rfl) (cons2 (pair2 (hρ _ _ rfl)) rfl)) rfl rfl rfl (w_n rfl) ?_
  intro B1
  refine TL_q (.slice none 0 0) (fun _ _ hρ _ => r_move (hρ _ _ rfl)) rfl rfl rfl (w_n rfl) ?_
  refine TL_mem ([(1, .row (.slice (some ⟨B1, 0, none⟩) 1 1) 5 1 1 [.int .u8 (((n % (256#64)).setWidth 8).toNat : Int)])]) (fun _ hm => MemOk.sub (hm.toRow (n := 1) (cap := 1) (s := 1) 1 rfl rfl (by omega) rfl _ rfl) (sub_cons rfl sub_nil)) ?_
  refine TL_append (n := 1) (m := 0) (xs := [.int .u8 (((n % (256#64)).setWidth 8).toNat : Int)]) (news := []) (z := .int .u8 0) 1 rfl rfl rfl sl34 sz5 by5 (by kernel_rfl) rfl rfl (.inl rfl) (fun _ _ => .inl ⟨rfl, rfl, rfl⟩) (by first | exact byc_oneL | exact fun _ h => nomatch h) (by omega) (by omega) rfl (w_n rfl) ?_
  intro a2 cap2
  refine TL_q (.slice a2 (1 + 0) cap2) (fun _ _ hρ _ => r_assign (hρ _ _ rfl)) rfl rfl rfl (w_n rfl) ?_
  refine TL_seq ?_
  have hn3 : (1 + 0) = ([((n % 256#64).setWidth 8)] : List By).length := by rfl
  have hx3 : ([.int .u8 (((n % (256#64)).setWidth 8).toNat : Int)] ++ []) = ([((n % 256#64).setWidth 8)] : List By).flatMap byc := by rfl
  rw [hx3, hn3]
  refine T_region ?_
  refine TL_q (.int .u64 ((n).toNat : Int)) (fun _ _ hρ _ => r_move (hρ _ _ rfl)) rfl rfl rfl (w_n rfl) ?_
  refine TL_q (.int .u64 ((n / (256#64)).toNat : Int)) (fun _ _ hρ _ => r_quoB (k := .u64) (a := n) (b := (256#64)) rfl rfl (hρ _ _ rfl) (hρ _ _ rfl)) rfl rfl rfl (w_n rfl) ?_
  refine TL_q (.int .u64 ((n / (256#64)).toNat : Int)) (fun _ _ hρ _ => r_assign (hρ _ _ rfl)) rfl rfl rfl (w_n rfl) ?_
  refine TL_nil ?_
  refine p_blk_n ?_
  refine p_seq ?_
  refine T_region ?_
  refine TL_q (.int .i64 1) (fun _ _ hρ _ => r_as (r_add (hρ _ _ rfl) (hρ _ _ rfl)) (by rfl)) rfl rfl rfl (w_n rfl) ?_
  refine TL_q (.int .i64 1) (fun _ _ hρ _ => r_move (hρ _ _ rfl)) rfl rfl rfl (w_n rfl) ?_
  refine TL_nil ?_
  refine p_round ?_
  refine TR_succ ?_
  refine T_seq (T_region ?_)
  refine TL_q (.bool true) (fun _ _ hρ _ => r_as (r_lss (hρ _ _ rfl) (hρ _ _ rfl)) (by rfl)) rfl rfl rfl (w_n rfl) ?_
  refine TL_seq ?_
  refine T_seq ?_
  refine T_cond_t rfl ?_
  refine T_skip' ?_
  refine p_seq ?_
  refine T_seq ?_
  refine T_block ?_
  refine T_seq (T_region ?_)
  refine TL_q (.int .u64 ((n / (256#64)).toNat : Int)) (fun _ _ hρ _ => r_move (hρ _ _ rfl)) rfl rfl rfl (w_n rfl) ?_
  refine TL_q (.int .u64 (((n / (256#64)) % (256#64)).toNat : Int)) (fun _ _ hρ _ => r_remB (k := .u64) (a := (n / (256#64))) (b := (256#64)) rfl (hρ _ _ rfl) (hρ _ _ rfl)) rfl rfl rfl (w_n rfl) ?_
  refine TL_q (.int .u8 ((((n / (256#64)) % (256#64)).setWidth 8).toNat : Int)) (fun _ _ hρ _ => r_convB (k := .u64) (k' := .u8) (a := ((n / (256#64)) % (256#64))) un25 io5 rfl (hρ _ _ rfl)) rfl rfl rfl (w_n rfl) ?_
  refine TL_new 2 (.cells #[.int .u8 ((((n / (256#64)) % (256#64)).setWidth 8).toNat : Int)] 5) (fun B => .slice (some ⟨B, 0, none⟩) 1 1) (fun _ _ hρ _ => r_buildSlice (vs := [(0, .int .u8 ((((n / (256#64)) % (256#64)).setWidth 8).toNat : Int))]) (by kernel_rfl) (cons2 (pair2 (hρ _ _ rfl)) rfl)) rfl rfl rfl (w_n rfl) ?_
  intro B4
  refine TL_q (.slice a2 (([((n % 256#64).setWidth 8)] : List By).length) cap2) (fun _ _ hρ _ => r_move (hρ _ _ rfl)) rfl rfl rfl (w_n rfl) ?_
  refine TL_mem ([(2, .row (.slice (some ⟨B4, 0, none⟩) 1 1) 5 1 1 [.int .u8 ((((n / (256#64)) % (256#64)).setWidth 8).toNat : Int)]), (1, .row (.slice a2 (([((n % 256#64).setWidth 8)] : List By).length) cap2) 5 1 (([((n % 256#64).setWidth 8)] : List By).length) (([((n % 256#64).setWidth 8)] : List By).flatMap byc))]) (fun _ hm => MemOk.sub (hm.toRow (n := 1) (cap := 1) (s := 1) 2 rfl rfl (by omega) rfl _ rfl) (sub_cons rfl (sub_cons rfl sub_nil))) ?_
  refine TL_append (n := 1) (m := ([((n % 256#64).setWidth 8)] : List By).length) (xs := [.int .u8 ((((n / (256#64)) % (256#64)).setWidth 8).toNat : Int)]) (news := (([((n % 256#64).setWidth 8)] : List By).flatMap byc)) (z := .int .u8 0) 2 rfl rfl rfl sl34 sz5 by5 (by kernel_rfl) rfl rfl (.inl rfl) (fun _ hm => src_of byc_len (SliceAt.own byc_len (hm.row 1 rfl) rfl rfl)) (by first | exact byc_oneL | exact fun _ h => nomatch h) (by omega) (by omega) rfl (w_n rfl) ?_
  intro a5 cap5
  refine TL_q (.slice a5 (1 + ([((n % 256#64).setWidth 8)] : List By).length) cap5) (fun _ _ hρ _ => r_assign (hρ _ _ rfl)) rfl rfl rfl (w_n rfl) ?_
  refine TL_seq ?_
  have hn6 : (1 + ([((n % 256#64).setWidth 8)] : List By).length) = ([(((n / (256#64)) % 256#64).setWidth 8), ((n % 256#64).setWidth 8)] : List By).length := by rfl
  have hx6 : ([.int .u8 ((((n / (256#64)) % (256#64)).setWidth 8).toNat : Int)] ++ (([((n % 256#64).setWidth 8)] : List By).flatMap byc)) = ([(((n / (256#64)) % 256#64).setWidth 8), ((n % 256#64).setWidth 8)] : List By).flatMap byc := by rfl
  rw [hx6, hn6]
  refine T_region ?_
  refine TL_q (.int .u64 ((n / (256#64)).toNat : Int)) (fun _ _ hρ _ => r_move (hρ _ _ rfl)) rfl rfl rfl (w_n rfl) ?_
  refine TL_q (.int .u64 (((n / (256#64)) / (256#64)).toNat : Int)) (fun _ _ hρ _ => r_quoB (k := .u64) (a := (n / (256#64))) (b := (256#64)) rfl rfl (hρ _ _ rfl) (hρ _ _ rfl)) rfl rfl rfl (w_n rfl) ?_
  refine TL_q (.int .u64 (((n / (256#64)) / (256#64)).toNat : Int)) (fun _ _ hρ _ => r_assign (hρ _ _ rfl)) rfl rfl rfl (w_n rfl) ?_
  refine TL_nil ?_
  refine p_blk_n ?_
  refine p_seq ?_
  refine T_region ?_
  refine TL_q (.int .i64 2) (fun _ _ hρ _ => r_as (r_add (hρ _ _ rfl) (hρ _ _ rfl)) (by rfl)) rfl rfl rfl (w_n rfl) ?_
  refine TL_q (.int .i64 2) (fun _ _ hρ _ => r_move (hρ _ _ rfl)) rfl rfl rfl (w_n rfl) ?_
  refine TL_nil ?_
  refine p_round ?_
  refine TR_succ ?_
  refine T_seq (T_region ?_)
  refine TL_q (.bool true) (fun _ _ hρ _ => r_as (r_lss (hρ _ _ rfl) (hρ _ _ rfl)) (by rfl)) rfl rfl rfl (w_n rfl) ?_
  refine TL_seq ?_
  refine T_sub [(4, .slice none 0 0), (6, .int .i64 4), (9, .int .u64 ((n / (256#64)).toNat : Int)), (10, .int .u64 (((n / (256#64)) % (256#64)).toNat : Int)), (11, .int .u8 ((((n / (256#64)) % (256#64)).setWidth 8).toNat : Int)), (12, .slice (some ⟨B4, 0, none⟩) 1 1), (13, .slice a2 (([((n % 256#64).setWidth 8)] : List By).length) cap2), (14, .slice a5 (([(((n / (256#64)) % 256#64).setWidth 8), ((n % 256#64).setWidth 8)] : List By).length) cap5), (5, .slice a5 (([(((n / (256#64)) % 256#64).setWidth 8), ((n % 256#64).setWidth 8)] : List By).length) cap5), (15, .int .u64 ((n / (256#64)).toNat : Int)), (16, .int .u64 (((n / (256#64)) / (256#64)).toNat : Int)), (1, .int .u64 (((n / (256#64)) / (256#64)).toNat : Int)), (17, .int .i64 2), (7, .int .i64 2), (8, .bool true)] [(2, .row (.slice a5 (([(((n / (256#64)) % 256#64).setWidth 8), ((n % 256#64).setWidth 8)] : List By).length) cap5) 5 1 (([(((n / (256#64)) % 256#64).setWidth 8), ((n % 256#64).setWidth 8)] : List By).length) (([(((n / (256#64)) % 256#64).setWidth 8), ((n % 256#64).setWidth 8)] : List By).flatMap byc)), (1, .row (.slice a2 (([((n % 256#64).setWidth 8)] : List By).length) cap2) 5 1 (([((n % 256#64).setWidth 8)] : List By).length) (([((n % 256#64).setWidth 8)] : List By).flatMap byc))] (sub_cons rfl (sub_cons rfl (sub_cons rfl (sub_cons rfl (sub_cons rfl (sub_cons rfl (sub_cons rfl (sub_cons rfl (sub_cons rfl (sub_cons rfl (sub_cons rfl (sub_cons rfl (sub_cons rfl (sub_cons rfl (sub_cons rfl sub_nil))))))))))))))) (sub_cons rfl (sub_cons rfl sub_nil)) ?_
  refine T_seq ?_
  refine T_cond_t rfl ?_
  refine T_skip' ?_
  refine p_seq ?_
  refine T_seq ?_
  refine T_block ?_
  refine T_seq (T_region ?_)
  refine TL_q (.int .u64 (((n / (256#64)) / (256#64)).toNat : Int)) (fun _ _ hρ _ => r_move (hρ _ _ rfl)) rfl rfl rfl (w_n rfl) ?_
  refine TL_q (.int .u64 ((((n / (256#64)) / (256#64)) % (256#64)).toNat : Int)) (fun _ _ hρ _ => r_remB (k := .u64) (a := ((n / (256#64)) / (256#64))) (b := (256#64)) rfl (hρ _ _ rfl) (hρ _ _ rfl)) rfl rfl rfl (w_n rfl) ?_
  refine TL_q (.int .u8 (((((n / (256#64)) / (256#64)) % (256#64)).setWidth 8).toNat : Int)) (fun _ _ hρ _ => r_convB (k := .u64) (k' := .u8) (a := (((n / (256#64)) / (256#64)) % (256#64))) un25 io5 rfl (hρ _ _ rfl)) rfl rfl rfl (w_n rfl) ?_
  refine TL_new 3 (.cells #[.int .u8 (((((n / (256#64)) / (256#64)) % (256#64)).setWidth 8).toNat : Int)] 5) (fun B => .slice (some ⟨B, 0, none⟩) 1 1) (fun _ _ hρ _ => r_buildSlice (vs := [(0, .int .u8 (((((n / (256#64)) / (256#64)) % (256#64)).setWidth 8).toNat : Int))]) (by kernel_rfl) (cons2 (pair2 (hρ _ _ rfl)) rfl)) rfl rfl rfl (w_n rfl) ?_
  intro B7
  refine TL_q (.slice a5 (([(((n / (256#64)) % 256#64).setWidth 8), ((n % 256#64).setWidth 8)] : List By).length) cap5) (fun _ _ hρ _ => r_move (hρ _ _ rfl)) rfl rfl rfl (w_n rfl) ?_
  refine TL_mem ([(3, .row (.slice (some ⟨B7, 0, none⟩) 1 1) 5 1 1 [.int .u8 (((((n / (256#64)) / (256#64)) % (256#64)).setWidth 8).toNat : Int)]), (2, .row (.slice a5 (([(((n / (256#64)) % 256#64).setWidth 8), ((n % 256#64).setWidth 8)] : List By).length) cap5) 5 1 (([(((n / (256#64)) % 256#64).setWidth 8), ((n % 256#64).setWidth 8)] : List By).length) (([(((n / (256#64)) % 256#64).setWidth 8), ((n % 256#64).setWidth 8)] : List By).flatMap byc)), (1, .row (.slice a2 (([((n % 256#64).setWidth 8)] : List By).length) cap2) 5 1 (([((n % 256#64).setWidth 8)] : List By).length) (([((n % 256#64).setWidth 8)] : List By).flatMap byc))]) (fun _ hm => MemOk.sub (hm.toRow (n := 1) (cap := 1) (s := 1) 3 rfl rfl (by omega) rfl _ rfl) (sub_cons rfl (sub_cons rfl (sub_cons rfl sub_nil)))) ?_
  refine TL_append (n := 1) (m := ([(((n / (256#64)) % 256#64).setWidth 8), ((n % 256#64).setWidth 8)] : List By).length) (xs := [.int .u8 (((((n / (256#64)) / (256#64)) % (256#64)).setWidth 8).toNat : Int)]) (news := (([(((n / (256#64)) % 256#64).setWidth 8), ((n % 256#64).setWidth 8)] : List By).flatMap byc)) (z := .int .u8 0) 3 rfl rfl rfl sl34 sz5 by5 (by kernel_rfl) rfl rfl (.inl rfl) (fun _ hm => src_of byc_len (SliceAt.own byc_len (hm.row 2 rfl) rfl rfl)) (by first | exact byc_oneL | exact fun _ h => nomatch h) (by omega) (by omega) rfl (w_n rfl) ?_
  intro a8 cap8
  refine TL_q (.slice a8 (1 + ([(((n / (256#64)) % 256#64).setWidth 8), ((n % 256#64).setWidth 8)] : List By).length) cap8) (fun _ _ hρ _ => r_assign (hρ _ _ rfl)) rfl rfl rfl (w_n rfl) ?_
  refine TL_seq ?_
  have hn9 : (1 + ([(((n / (256#64)) % 256#64).setWidth 8), ((n % 256#64).setWidth 8)] : List By).length) = ([((((n / (256#64)) / (256#64)) % 256#64).setWidth 8), (((n / (256#64)) % 256#64).setWidth 8), ((n % 256#64).setWidth 8)] : List By).length := by rfl
  have hx9 : ([.int .u8 (((((n / (256#64)) / (256#64)) % (256#64)).setWidth 8).toNat : Int)] ++ (([(((n / (256#64)) % 256#64).setWidth 8), ((n % 256#64).setWidth 8)] : List By).flatMap byc)) = ([((((n / (256#64)) / (256#64)) % 256#64).setWidth 8), (((n / (256#64)) % 256#64).setWidth 8), ((n % 256#64).setWidth 8)] : List By).flatMap byc := by rfl
  rw [hx9, hn9]
  refine T_region ?_
  refine TL_q (.int .u64 (((n / (256#64)) / (256#64)).toNat : Int)) (fun _ _ hρ _ => r_move (hρ _ _ rfl)) rfl rfl rfl (w_n rfl) ?_
  refine TL_q (.int .u64 ((((n / (256#64)) / (256#64)) / (256#64)).toNat : Int)) (fun _ _ hρ _ => r_quoB (k := .u64) (a := ((n / (256#64)) / (256#64))) (b := (256#64)) rfl rfl (hρ _ _ rfl) (hρ _ _ rfl)) rfl rfl rfl (w_n rfl) ?_
  refine TL_q (.int .u64 ((((n / (256#64)) / (256#64)) / (256#64)).toNat : Int)) (fun _ _ hρ _ => r_assign (hρ _ _ rfl)) rfl rfl rfl (w_n rfl) ?_
  refine TL_nil ?_
  refine p_blk_n ?_
  refine p_seq ?_
  refine T_region ?_
  refine TL_q (.int .i64 3) (fun _ _ hρ _ => r_as (r_add (hρ _ _ rfl) (hρ _ _ rfl)) (by rfl)) rfl rfl rfl (w_n rfl) ?_
  refine TL_q (.int .i64 3) (fun _ _ hρ _ => r_move (hρ _ _ rfl)) rfl rfl rfl (w_n rfl) ?_
  refine TL_nil ?_
  refine p_round ?_
  refine TR_succ ?_
  refine T_seq (T_region ?_)
  refine TL_q (.bool true) (fun _ _ hρ _ => r_as (r_lss (hρ _ _ rfl) (hρ _ _ rfl)) (by rfl)) rfl rfl rfl (w_n rfl) ?_
  refine TL_seq ?_
  refine T_seq ?_
  refine T_cond_t rfl ?_
  refine T_skip' ?_
  refine p_seq ?_
  refine T_seq ?_
  refine T_block ?_
  refine T_seq (T_region ?_)
  refine TL_q (.int .u64 ((((n / (256#64)) / (256#64)) / (256#64)).toNat : Int)) (fun _ _ hρ _ => r_move (hρ _ _ rfl)) rfl rfl rfl (w_n rfl) ?_
  refine TL_q (.int .u64 (((((n / (256#64)) / (256#64)) / (256#64)) % (256#64)).toNat : Int)) (fun _ _ hρ _ => r_remB (k := .u64) (a := (((n / (256#64)) / (256#64)) / (256#64))) (b := (256#64)) rfl (hρ _ _ rfl) (hρ _ _ rfl)) rfl rfl rfl (w_n rfl) ?_
  refine TL_q (.int .u8 ((((((n / (256#64)) / (256#64)) / (256#64)) % (256#64)).setWidth 8).toNat : Int)) (fun _ _ hρ _ => r_convB (k := .u64) (k' := .u8) (a := ((((n / (256#64)) / (256#64)) / (256#64)) % (256#64))) un25 io5 rfl (hρ _ _ rfl)) rfl rfl rfl (w_n rfl) ?_
  refine TL_new 4 (.cells #[.int .u8 ((((((n / (256#64)) / (256#64)) / (256#64)) % (256#64)).setWidth 8).toNat : Int)] 5) (fun B => .slice (some ⟨B, 0, none⟩) 1 1) (fun _ _ hρ _ => r_buildSlice (vs := [(0, .int .u8 ((((((n / (256#64)) / (256#64)) / (256#64)) % (256#64)).setWidth 8).toNat : Int))]) (by kernel_rfl) (cons2 (pair2 (hρ _ _ rfl)) rfl)) rfl rfl rfl (w_n rfl) ?_
  intro B10
  refine TL_q (.slice a8 (([((((n / (256#64)) / (256#64)) % 256#64).setWidth 8), (((n / (256#64)) % 256#64).setWidth 8), ((n % 256#64).setWidth 8)] : List By).length) cap8) (fun _ _ hρ _ => r_move (hρ _ _ rfl)) rfl rfl rfl (w_n rfl) ?_
  refine TL_mem ([(4, .row (.slice (some ⟨B10, 0, none⟩) 1 1) 5 1 1 [.int .u8 ((((((n / (256#64)) / (256#64)) / (256#64)) % (256#64)).setWidth 8).toNat : Int)]), (3, .row (.slice a8 (([((((n / (256#64)) / (256#64)) % 256#64).setWidth 8), (((n / (256#64)) % 256#64).setWidth 8), ((n % 256#64).setWidth 8)] : List By).length) cap8) 5 1 (([((((n / (256#64)) / (256#64)) % 256#64).setWidth 8), (((n / (256#64)) % 256#64).setWidth 8), ((n % 256#64).setWidth 8)] : List By).length) (([((((n / (256#64)) / (256#64)) % 256#64).setWidth 8), (((n / (256#64)) % 256#64).setWidth 8), ((n % 256#64).setWidth 8)] : List By).flatMap byc)), (2, .row (.slice a5 (([(((n / (256#64)) % 256#64).setWidth 8), ((n % 256#64).setWidth 8)] : List By).length) cap5) 5 1 (([(((n / (256#64)) % 256#64).setWidth 8), ((n % 256#64).setWidth 8)] : List By).length) (([(((n / (256#64)) % 256#64).setWidth 8), ((n % 256#64).setWidth 8)] : List By).flatMap byc)), (1, .row (.slice a2 (([((n % 256#64).setWidth 8)] : List By).length) cap2) 5 1 (([((n % 256#64).setWidth 8)] : List By).length) (([((n % 256#64).setWidth 8)] : List By).flatMap byc))]) (fun _ hm => MemOk.sub (hm.toRow (n := 1) (cap := 1) (s := 1) 4 rfl rfl (by omega) rfl _ rfl) (sub_cons rfl (sub_cons rfl (sub_cons rfl (sub_cons rfl sub_nil))))) ?_
  refine TL_append (n := 1) (m := ([((((n / (256#64)) / (256#64)) % 256#64).setWidth 8), (((n / (256#64)) % 256#64).setWidth 8), ((n % 256#64).setWidth 8)] : List By).length) (xs := [.int .u8 ((((((n / (256#64)) / (256#64)) / (256#64)) % (256#64)).setWidth 8).toNat : Int)]) (news := (([((((n / (256#64)) / (256#64)) % 256#64).setWidth 8), (((n / (256#64)) % 256#64).setWidth 8), ((n % 256#64).setWidth 8)] : List By).flatMap byc)) (z := .int .u8 0) 4 rfl rfl rfl sl34 sz5 by5 (by kernel_rfl) rfl rfl (.inl rfl) (fun _ hm => src_of byc_len (SliceAt.own byc_len (hm.row 3 rfl) rfl rfl)) (by first | exact byc_oneL | exact fun _ h => nomatch h) (by omega) (by omega) rfl (w_n rfl) ?_
  intro a11 cap11
  refine TL_q (.slice a11 (1 + ([((((n / (256#64)) / (256#64)) % 256#64).setWidth 8), (((n / (256#64)) % 256#64).setWidth 8), ((n % 256#64).setWidth 8)] : List By).length) cap11) (fun _ _ hρ _ => r_assign (hρ _ _ rfl)) rfl rfl rfl (w_n rfl) ?_
  refine TL_seq ?_
  have hn12 : (1 + ([((((n / (256#64)) / (256#64)) % 256#64).setWidth 8), (((n / (256#64)) % 256#64).setWidth 8), ((n % 256#64).setWidth 8)] : List By).length) = ([(((((n / (256#64)) / (256#64)) / (256#64)) % 256#64).setWidth 8), ((((n / (256#64)) / (256#64)) % 256#64).setWidth 8), (((n / (256#64)) % 256#64).setWidth 8), ((n % 256#64).setWidth 8)] : List By).length := by rfl
  have hx12 : ([.int .u8 ((((((n / (256#64)) / (256#64)) / (256#64)) % (256#64)).setWidth 8).toNat : Int)] ++ (([((((n / (256#64)) / (256#64)) % 256#64).setWidth 8), (((n / (256#64)) % 256#64).setWidth 8), ((n % 256#64).setWidth 8)] : List By).flatMap byc)) = ([(((((n / (256#64)) / (256#64)) / (256#64)) % 256#64).setWidth 8), ((((n / (256#64)) / (256#64)) % 256#64).setWidth 8), (((n / (256#64)) % 256#64).setWidth 8), ((n % 256#64).setWidth 8)] : List By).flatMap byc := by rfl
  rw [hx12, hn12]
  refine T_region ?_
  refine TL_q (.int .u64 ((((n / (256#64)) / (256#64)) / (256#64)).toNat : Int)) (fun _ _ hρ _ => r_move (hρ _ _ rfl)) rfl rfl rfl (w_n rfl) ?_
  refine TL_q (.int .u64 (((((n / (256#64)) / (256#64)) / (256#64)) / (256#64)).toNat : Int)) (fun _ _ hρ _ => r_quoB (k := .u64) (a := (((n / (256#64)) / (256#64)) / (256#64))) (b := (256#64)) rfl rfl (hρ _ _ rfl) (hρ _ _ rfl)) rfl rfl rfl (w_n rfl) ?_
  refine TL_q (.int .u64 (((((n / (256#64)) / (256#64)) / (256#64)) / (256#64)).toNat : Int)) (fun _ _ hρ _ => r_assign (hρ _ _ rfl)) rfl rfl rfl (w_n rfl) ?_
  refine TL_nil ?_
  refine p_blk_n ?_
  refine p_seq ?_
  refine T_region ?_
  refine TL_q (.int .i64 4) (fun _ _ hρ _ => r_as (r_add (hρ _ _ rfl) (hρ _ _ rfl)) (by rfl)) rfl rfl rfl (w_n rfl) ?_
  refine TL_q (.int .i64 4) (fun _ _ hρ _ => r_move (hρ _ _ rfl)) rfl rfl rfl (w_n rfl) ?_
  refine TL_nil ?_
  refine p_round ?_
  refine TR_succ ?_
  refine T_seq (T_region ?_)
  refine TL_q (.bool false) (fun _ _ hρ _ => r_as (r_lss (hρ _ _ rfl) (hρ _ _ rfl)) (by rfl)) rfl rfl rfl (w_n rfl) ?_
  refine TL_seq ?_
  refine T_seq ?_
  refine T_cond_f rfl ?_
  refine T_exit' ?_
  refine p_then_x ?_
  refine p_then_x ?_
  refine p_blk_x ?_
  refine p_seq ?_
  refine T_seq (T_region ?_)
  refine TL_q (.slice a11 (([(((((n / (256#64)) / (256#64)) / (256#64)) % 256#64).setWidth 8), ((((n / (256#64)) / (256#64)) % 256#64).setWidth 8), (((n / (256#64)) % 256#64).setWidth 8), ((n % 256#64).setWidth 8)] : List By).length) cap11) (fun _ _ hρ _ => r_move (hρ _ _ rfl)) rfl rfl rfl (w_n rfl) ?_
  refine TL_q (.slice a11 (([(((((n / (256#64)) / (256#64)) / (256#64)) % 256#64).setWidth 8), ((((n / (256#64)) / (256#64)) % 256#64).setWidth 8), (((n / (256#64)) % 256#64).setWidth 8), ((n % 256#64).setWidth 8)] : List By).length) cap11) (fun _ _ hρ _ => r_assign (hρ _ _ rfl)) rfl rfl rfl (w_n rfl) ?_
  refine TL_seq ?_
  refine T_ret' ?_
  refine ret_of rfl (.slice a11 (([(((((n / (256#64)) / (256#64)) / (256#64)) % 256#64).setWidth 8), ((((n / (256#64)) / (256#64)) % 256#64).setWidth 8), (((n / (256#64)) % 256#64).setWidth 8), ((n % 256#64).setWidth 8)] : List By).length) cap11) (fun tmps w hk hm => res1 rfl (res_tmp (hk 4 _ rfl))) (fun w hm => ?_)
  have hrow := hm.row 4 rfl
  rw [lay_is hn he] at hrow ⊢
  exact ⟨a11, cap11, rfl, hm.ext, hrow⟩

theorem rnumber_c (l : List By) (a : Option Addr) (cap : Nat) (w : World) (hv : SliceAt w a cap 1 byc l) (hcap : cap ≤ Go.maxLen) : Calls Try.prog 88 #[.slice a l.length cap] w fun e w' => e = .returned (.int .u64 ((numR l).toNat : Int)) ∧ Below w.heap.size w w' := by
  have hvl := hv.1
  have hcp := hcap
  unfold Go.maxLen at hcp
  refine calls_of_T (l := [.slice a l.length cap]) 19 Try.func88 rfl rfl rfl ?_
  show T _ _ _ [(0, .slice a l.length cap)] []
  refine T_seq (T_region ?_)
  refine TL_q (.int .u64 0) (fun _ _ hρ _ => r_assign (hρ _ _ rfl)) rfl rfl rfl (w_n rfl) ?_
  refine TL_seq ?_
  refine T_seq (T_region ?_)
  refine TL_q (.int .u64 0) (fun _ _ hρ _ => r_assign (hρ _ _ rfl)) rfl rfl rfl (w_n rfl) ?_
  refine TL_seq ?_
  refine T_seq ?_
  refine T_seq (T_region ?_)
  refine TL_q (.slice a l.length cap) (fun _ _ hρ _ => r_move (hρ _ _ rfl)) rfl rfl rfl (w_n rfl) ?_
  refine TL_q (.int .i64 ((l.length : Nat) : Int)) (fun _ _ hρ _ => r_len sl34 (hρ _ _ rfl)) rfl rfl rfl (w_n rfl) ?_
  refine TL_q (.int .i64 0) (fun _ _ hρ _ => r_move (hρ _ _ rfl)) rfl rfl rfl (w_n rfl) ?_
  refine TL_seq ?_
  refine T_block ?_
  refine T_loop (ι := Nat) (fun (k : Nat) => k ≤ l.length) (fun (k : Nat) => [(2, .int .u64 0), (6, .slice a l.length cap), (7, .int .i64 ((l.length : Nat) : Int)), (8, .int .i64 ((k : Nat) : Int)), (3, .int .u64 ((numR (l.take k)).toNat : Int))]) (fun (k : Nat) => []) (fun (k : Nat) => l.length - k) 0 (Nat.zero_le _) (sub_cons rfl (sub_cons rfl (sub_cons rfl (sub_cons rfl (sub_cons rfl sub_nil))))) sub_nil ?_
  rintro k hp
  have hk := hp
  show T _ _ _ [(2, .int .u64 0), (6, .slice a l.length cap), (7, .int .i64 ((l.length : Nat) : Int)), (8, .int .i64 ((k : Nat) : Int)), (3, .int .u64 ((numR (l.take k)).toNat : Int))] []
  refine T_seq (T_region ?_)
  refine TL_q (.bool (decide (((k : Nat) : Int) < ((l.length : Nat) : Int)))) (fun _ _ hρ _ => r_lss (hρ _ _ rfl) (hρ _ _ rfl)) rfl rfl rfl (w_n rfl) ?_
  refine TL_seq ?_
  refine T_seq ?_
  refine T_cond rfl (fun h1 => ?_) (fun h1 => ?_)
  · replace h1 := of_decide_eq_true h1
    refine T_skip' ?_
    refine p_seq ?_
    refine T_seq ?_
    refine T_block ?_
    obtain ⟨x, hx⟩ : ∃ x, l[k]? = some x := ⟨_, List.getElem?_eq_getElem (by omega)⟩
    obtain ⟨b1, of1, cs1, T1, fz1, ha1, hq1, hr1⟩ := hv.open (i := k) (by omega)
    subst ha1
    refine T_seq (T_region ?_)
    refine TL_q (.pointer (some ⟨b1, of1 + k * 1, none⟩)) (fun _ _ hρ _ => r_indexAddrS (i := k) sl34 sz5 (hρ _ _ rfl) (hρ _ _ rfl) (by omega)) rfl rfl rfl (w_n rfl) ?_
    refine TL_q (.int .u8 ((x).toNat : Int)) (fun _ _ hρ hm => r_loadRow1 (f := byc) (u := x) ag5 (hρ _ _ rfl) (hm.old hq1) hr1 hx rfl) rfl rfl rfl (w_n rfl) ?_
    refine TL_q (.int .u8 ((x).toNat : Int)) (fun _ _ hρ _ => r_assign (hρ _ _ rfl)) rfl rfl rfl (w_n rfl) ?_
    refine TL_seq ?_
    refine T_region ?_
    refine TL_q (.int .u64 ((numR (l.take k)).toNat : Int)) (fun _ _ hρ _ => r_move (hρ _ _ rfl)) rfl rfl rfl (w_n rfl) ?_
    refine TL_q (.int .u64 (((256#64) * (numR (l.take k))).toNat : Int)) (fun _ _ hρ _ => r_mulB (k := .u64) (a := (256#64)) (b := (numR (l.take k))) rfl (hρ _ _ rfl) (hρ _ _ rfl)) rfl rfl rfl (w_n rfl) ?_
    refine TL_q (.int .u8 ((x).toNat : Int)) (fun _ _ hρ _ => r_move (hρ _ _ rfl)) rfl rfl rfl (w_n rfl) ?_
    refine TL_q (.int .u64 ((x.setWidth 64).toNat : Int)) (fun _ _ hρ _ => r_convB (k := .u8) (k' := .u64) (a := x) un5 io25 rfl (hρ _ _ rfl)) rfl rfl rfl (w_n rfl) ?_
    refine TL_q (.int .u64 ((((256#64) * (numR (l.take k))) + (x.setWidth 64)).toNat : Int)) (fun _ _ hρ _ => r_addB (k := .u64) (a := ((256#64) * (numR (l.take k)))) (b := (x.setWidth 64)) rfl (hρ _ _ rfl) (hρ _ _ rfl)) rfl rfl rfl (w_n rfl) ?_
    refine TL_q (.int .u64 ((((256#64) * (numR (l.take k))) + (x.setWidth 64)).toNat : Int)) (fun _ _ hρ _ => r_assign (hρ _ _ rfl)) rfl rfl rfl (w_n rfl) ?_
    refine TL_nil ?_
    refine p_blk_n ?_
    refine p_seq ?_
    refine T_region ?_
    refine TL_q (.int .i64 ((k + 1 : Nat) : Int)) (fun _ _ hρ _ => r_as (r_add (hρ _ _ rfl) (hρ _ _ rfl)) (int_as ((wrap64 (by omega) (by omega)).trans (by omega)))) rfl rfl rfl (w_n rfl) ?_
    refine TL_q (.int .i64 ((k + 1 : Nat) : Int)) (fun _ _ hρ _ => r_move (hρ _ _ rfl)) rfl rfl rfl (w_n rfl) ?_
    refine TL_nil ?_
    rw [← numR_step hx]
    exact p_at (k + 1) ⟨by omega, by omega⟩ (sub_cons rfl (sub_cons rfl (sub_cons rfl (sub_cons rfl (sub_cons rfl sub_nil))))) sub_nil
  · replace h1 := of_decide_eq_false h1
    refine T_exit' ?_
    refine p_then_x ?_
    refine p_then_x ?_
    refine p_blk_x ?_
    refine p_seq ?_
    refine T_seq (T_region ?_)
    refine TL_q (.int .u64 ((numR (l.take k)).toNat : Int)) (fun _ _ hρ _ => r_move (hρ _ _ rfl)) rfl rfl rfl (w_n rfl) ?_
    refine TL_q (.int .u64 ((numR (l.take k)).toNat : Int)) (fun _ _ hρ _ => r_assign (hρ _ _ rfl)) rfl rfl rfl (w_n rfl) ?_
    refine TL_seq ?_
    refine T_ret' ?_
    refine ret_of rfl (.int .u64 ((numR (l.take k)).toNat : Int)) (fun tmps w hk hm => res1 rfl (res_tmp (hk 2 _ rfl))) (fun w hm => ?_)
    have hke : k = l.length := by omega
    subst hke
    rw [List.take_length]
    exact ⟨rfl, hm.ext⟩

theorem rrec_c (l : List By) (a : Option Addr) (cap : Nat) (w : World) (hv : SliceAt w a cap 1 byc l) (hcap : cap ≤ Go.maxLen) (h : l.length ≤ 65536) : Calls Try.prog 41 #[.slice a l.length cap] w fun e w' => ∃ a' cap', e = .returned (.slice a' (recP l).length cap') ∧ Below w.heap.size w w' ∧ w'.ownsRow w.heap.size 5 1 (.slice a' (recP l).length cap') (recP l).length ((recP l).flatMap byc) := by
  have hvl := hv.1
  have hcp := hcap
  unfold Go.maxLen at hcp
  have hlb := lenB_len l.length
  refine calls_of_T (l := [.slice a l.length cap]) 10 Try.func41 rfl rfl rfl ?_
  show T _ _ _ [(0, .slice a l.length cap)] []
  refine T_seq (T_region ?_)
  refine TL_q (.slice none 0 0) (fun _ _ hρ _ => r_assign (hρ _ _ rfl)) rfl rfl rfl (w_n rfl) ?_
  refine TL_seq ?_
  refine T_seq (T_region ?_)
  refine TL_q (.slice a l.length cap) (fun _ _ hρ _ => r_move (hρ _ _ rfl)) rfl rfl rfl (w_n rfl) ?_
  refine TL_q (.int .i64 ((l.length : Nat) : Int)) (fun _ _ hρ _ => r_len sl34 (hρ _ _ rfl)) rfl rfl rfl (w_n rfl) ?_
  refine TL_q (.int .u64 ((BitVec.ofNat 64 l.length).toNat : Int)) (fun _ _ hρ _ => r_convN (k := .i64) (k' := .u64) (n := l.length) un3 io25 rfl (hρ _ _ rfl)) rfl rfl rfl (w_n rfl) ?_
  refine TL_callN (fun (_ : Option Addr × Nat) => True) (fun (ar1, cr1) => .slice ar1 ((lenB l.length).length) cr1) (fun (ar1, cr1) => [(1, .row (.slice ar1 ((lenB l.length).length) cr1) 5 1 ((lenB l.length).length) ((lenB l.length).flatMap byc))]) (fun _ _ hρ _ => r_call (args := [.int .i64 4, .int .u64 ((BitVec.ofNat 64 l.length).toNat : Int)]) (enters_of Try.func82 (by kernel_rfl) rfl) (hρ _ _ rfl) ((cons2 (hρ _ _ rfl) (cons2 (hρ _ _ rfl) rfl))) rfl) (fun w _ => (rlay_c l.length (by omega) _ rfl w).mono fun e w' ⟨a', cap', he, hb, hr⟩ => ⟨(a', cap'), trivial, he, hb, newOk1 1 hr⟩) rfl rfl rfl (w_n rfl) ?_
  rintro ⟨ar1, cr1⟩ -
  refine TL_q (.slice a l.length cap) (fun _ _ hρ _ => r_move (hρ _ _ rfl)) rfl rfl rfl (w_n rfl) ?_
  refine TL_callN (fun (_ : Option Addr × Nat) => True) (fun (ar2, cr2) => .slice ar2 (((lenB l.length) ++ l).length) cr2) (fun (ar2, cr2) => [(2, .row (.slice ar2 (((lenB l.length) ++ l).length) cr2) 5 1 (((lenB l.length) ++ l).length) (((lenB l.length) ++ l).flatMap byc))]) (fun _ _ hρ _ => r_call (args := [.slice ar1 ((lenB l.length).length) cr1, .slice a l.length cap]) (enters_of Try.func44 (by kernel_rfl) rfl) (hρ _ _ rfl) ((cons2 (hρ _ _ rfl) (cons2 (hρ _ _ rfl) rfl))) rfl) (fun w hm => (rbeh_c (lenB l.length) ar1 cr1 w (SliceAt.own byc_len (hm.row 1 rfl) rfl rfl) (row_cap (hm.row 1 rfl)) l a cap (hv.keep hm.ext) hcap (by omega) (by omega)).mono fun e w' ⟨a', cap', he, hb, hr⟩ => ⟨(a', cap'), trivial, he, hb, newOk1 2 hr⟩) rfl rfl rfl (w_n rfl) ?_
  rintro ⟨ar2, cr2⟩ -
  refine TL_callN (fun (_ : Option Addr × Nat) => True) (fun (ar3, cr3) => .slice ar3 ((sealP ((lenB l.length) ++ l)).length) cr3) (fun (ar3, cr3) => [(3, .row (.slice ar3 ((sealP ((lenB l.length) ++ l)).length) cr3) 5 1 ((sealP ((lenB l.length) ++ l)).length) ((sealP ((lenB l.length) ++ l)).flatMap byc))]) (fun _ _ hρ _ => r_call (args := [.slice ar2 (((lenB l.length) ++ l).length) cr2]) (enters_of Try.func81 (by kernel_rfl) rfl) (hρ _ _ rfl) ((cons2 (hρ _ _ rfl) rfl)) rfl) (fun w hm => (seal_ref ((lenB l.length) ++ l) ar2 cr2 w (SliceAt.own byc_len (hm.row 2 rfl) rfl rfl) (by rw [List.length_append, lenB_len]; omega)).mono fun e w' ⟨a', cap', he, hb, hr⟩ => ⟨(a', cap'), trivial, he, hb, newOk1 3 hr⟩) rfl rfl rfl (w_n rfl) ?_
  rintro ⟨ar3, cr3⟩ -
  refine TL_q (.slice ar3 ((sealP ((lenB l.length) ++ l)).length) cr3) (fun _ _ hρ _ => r_assign (hρ _ _ rfl)) rfl rfl rfl (w_n rfl) ?_
  refine TL_seq ?_
  refine T_ret' ?_
  refine ret_of rfl (.slice ar3 ((sealP ((lenB l.length) ++ l)).length) cr3) (fun tmps w hk hm => res1 rfl (res_tmp (hk 2 _ rfl))) (fun w hm => ?_)
  exact ⟨ar3, cr3, rfl, hm.ext, hm.row 3 rfl⟩

theorem rjoin_ok (rs : List (RowG By)) (a : Option Addr) (cap : Nat) (w : World) (hv : SliceAt w a cap 1 RowG.cells rs) (hcap : cap ≤ Go.maxLen) (hx : RowsIn w rs) (hn : rs.length ≤ 10) (h : ∀ r ∈ rs, r.l.length ≤ 65536) : Calls Try.prog 39 #[.slice a rs.length cap] w fun e w' => ∃ a' cap', e = .returned (.tuple #[.slice a' (joinP (rls rs)).length cap', .bool true]) ∧ Below w.heap.size w w' ∧ w'.ownsRow w.heap.size 5 1 (.slice a' (joinP (rls rs)).length cap') (joinP (rls rs)).length ((joinP (rls rs)).flatMap byc) := by
  have hvl := hv.1
  have hcp := hcap
  unfold Go.maxLen at hcp
  refine calls_of_T (l := [.slice a rs.length cap]) 22 Try.func39 rfl rfl rfl ?_
  show T _ _ _ [(0, .slice a rs.length cap)] []
  refine T_seq (T_region ?_)
  refine TL_q (.slice none 0 0) (fun _ _ hρ _ => r_assign (hρ _ _ rfl)) rfl rfl rfl (w_n rfl) ?_
  refine TL_q (.bool false) (fun _ _ hρ _ => r_assign (hρ _ _ rfl)) rfl rfl rfl (w_n rfl) ?_
  refine TL_seq ?_
  refine T_seq (T_region ?_)
  refine TL_q (.slice none 0 0) (fun _ _ hρ _ => r_assign (hρ _ _ rfl)) rfl rfl rfl (w_n rfl) ?_
  refine TL_seq ?_
  refine T_seq ?_
  refine T_seq (T_region ?_)
  refine TL_q (.slice a rs.length cap) (fun _ _ hρ _ => r_move (hρ _ _ rfl)) rfl rfl rfl (w_n rfl) ?_
  refine TL_q (.int .i64 ((rs.length : Nat) : Int)) (fun _ _ hρ _ => r_len sl63 (hρ _ _ rfl)) rfl rfl rfl (w_n rfl) ?_
  refine TL_q (.int .i64 0) (fun _ _ hρ _ => r_move (hρ _ _ rfl)) rfl rfl rfl (w_n rfl) ?_
  refine TL_seq ?_
  refine T_block ?_
  refine T_mem (_ :: _) (fun _ hm => hm.nilRow 941 5 1) ?_
  refine T_loop (ι := Nat × Option Addr × Nat) (fun (z : Nat × Option Addr × Nat) => match z with | (k, a2, cap2) => k ≤ rs.length ∧ ∀ x ∈ rs.take k, x.l.length ≤ 65536) (fun (z : Nat × Option Addr × Nat) => match z with | (k, a2, cap2) => [(7, .slice a rs.length cap), (8, .int .i64 ((rs.length : Nat) : Int)), (9, .int .i64 ((k : Nat) : Int)), (4, .slice a2 ((joinP ((rls rs).take k)).length) cap2)]) (fun (z : Nat × Option Addr × Nat) => match z with | (k, a2, cap2) => [(941, .row (.slice a2 ((joinP ((rls rs).take k)).length) cap2) 5 1 ((joinP ((rls rs).take k)).length) ((joinP ((rls rs).take k)).flatMap byc))]) (fun (z : Nat × Option Addr × Nat) => match z with | (k, a2, cap2) => rs.length - k) (0, none, 0) ⟨Nat.zero_le _, fun _ h => nomatch h⟩ (sub_cons rfl (sub_cons rfl (sub_cons rfl (sub_cons rfl sub_nil)))) (sub_cons rfl sub_nil) ?_
  rintro ⟨k, a2, cap2⟩ hp
  obtain ⟨hk, hup⟩ := hp
  show T _ _ _ [(7, .slice a rs.length cap), (8, .int .i64 ((rs.length : Nat) : Int)), (9, .int .i64 ((k : Nat) : Int)), (4, .slice a2 ((joinP ((rls rs).take k)).length) cap2)] [(941, .row (.slice a2 ((joinP ((rls rs).take k)).length) cap2) 5 1 ((joinP ((rls rs).take k)).length) ((joinP ((rls rs).take k)).flatMap byc))]
  refine T_seq (T_region ?_)
  refine TL_q (.bool (decide (((k : Nat) : Int) < ((rs.length : Nat) : Int)))) (fun _ _ hρ _ => r_lss (hρ _ _ rfl) (hρ _ _ rfl)) rfl rfl rfl (w_n rfl) ?_
  refine TL_seq ?_
  refine T_seq ?_
  refine T_cond rfl (fun h1 => ?_) (fun h1 => ?_)
  · replace h1 := of_decide_eq_true h1
    refine T_skip' ?_
    refine p_seq ?_
    refine T_seq ?_
    refine T_block ?_
    obtain ⟨r, hr⟩ : ∃ x, rs[k]? = some x := ⟨_, List.getElem?_eq_getElem (by omega)⟩
    have hro := hx r (List.mem_of_getElem? hr)
    have hrl := hro.1.1
    have hrc := hro.2
    unfold Go.maxLen at hrc
    have hst := join_step hr
    have hbd := join_bound hup
    rw [List.length_take] at hbd
    have hrp := recP_len r.l
    obtain ⟨b1, of1, cs1, T1, fz1, ha1, hq1, hr1⟩ := hv.open (i := k) (by omega)
    subst ha1
    refine T_seq (T_region ?_)
    refine TL_q (.pointer (some ⟨b1, of1 + k * 1, none⟩)) (fun _ _ hρ _ => r_indexAddrS (i := k) sl63 sz34 (hρ _ _ rfl) (hρ _ _ rfl) (by omega)) rfl rfl rfl (w_n rfl) ?_
    refine TL_q (.slice r.a r.l.length r.cap) (fun _ _ hρ hm => r_loadRow1 (f := RowG.cells) (u := r) ag34 (hρ _ _ rfl) (hm.old hq1) hr1 hr rfl) rfl rfl rfl (w_n rfl) ?_
    refine TL_q (.slice r.a r.l.length r.cap) (fun _ _ hρ _ => r_assign (hρ _ _ rfl)) rfl rfl rfl (w_n rfl) ?_
    refine TL_seq ?_
    refine T_seq ?_
    refine T_seq (T_region ?_)
    refine TL_q (.slice r.a r.l.length r.cap) (fun _ _ hρ _ => r_move (hρ _ _ rfl)) rfl rfl rfl (w_n rfl) ?_
    refine TL_q (.int .i64 ((r.l.length : Nat) : Int)) (fun _ _ hρ _ => r_len sl34 (hρ _ _ rfl)) rfl rfl rfl (w_n rfl) ?_
    refine TL_q (.bool (decide ((65536 : Int) < ((r.l.length : Nat) : Int)))) (fun _ _ hρ _ => r_gtr (hρ _ _ rfl) (hρ _ _ rfl)) rfl rfl rfl (w_n rfl) ?_
    refine TL_seq ?_
    refine T_cond rfl (fun h2 => ?_) (fun h2 => ?_)
    · replace h2 := of_decide_eq_true h2
      refine T_seq (T_region ?_)
      refine TL_q (.slice none 0 0) (fun _ _ hρ _ => r_assign (hρ _ _ rfl)) rfl rfl rfl (w_n rfl) ?_
      refine TL_q (.bool false) (fun _ _ hρ _ => r_assign (hρ _ _ rfl)) rfl rfl rfl (w_n rfl) ?_
      refine TL_seq ?_
      refine T_ret' ?_
      refine p_then_r ?_
      refine p_blk_r ?_
      refine p_then_r ?_
      refine p_then_r ?_
      refine p_blk_r ?_
      refine p_then_r ?_
      refine ret_of rfl (.tuple #[.slice none 0 0, .bool false]) (fun tmps w hk hm => res2 rfl (res_tmp (hk 2 _ rfl)) (res_tmp (hk 3 _ rfl))) (fun w hm => ?_)
      first | exact absurd (h r (List.mem_of_getElem? hr)) (by omega) | exact ⟨rfl, hm.ext⟩
    · replace h2 := of_decide_eq_false h2
      refine T_skip' ?_
      refine p_seq ?_
      refine T_region ?_
      refine TL_q (.slice a2 ((joinP ((rls rs).take k)).length) cap2) (fun _ _ hρ _ => r_move (hρ _ _ rfl)) rfl rfl rfl (w_n rfl) ?_
      refine TL_q (.slice r.a r.l.length r.cap) (fun _ _ hρ _ => r_move (hρ _ _ rfl)) rfl rfl rfl (w_n rfl) ?_
      refine TL_callN (fun (_ : Option Addr × Nat) => True) (fun (ar2, cr2) => .slice ar2 ((recP r.l).length) cr2) (fun (ar2, cr2) => [(1, .row (.slice ar2 ((recP r.l).length) cr2) 5 1 ((recP r.l).length) ((recP r.l).flatMap byc))]) (fun _ _ hρ _ => r_call (args := [.slice r.a r.l.length r.cap]) (enters_of Try.func41 (by kernel_rfl) rfl) (hρ _ _ rfl) ((cons2 (hρ _ _ rfl) rfl)) rfl) (fun w hm => (rrec_c r.l r.a r.cap w (hro.1.keep hm.ext) hro.2 (by omega)).mono fun e w' ⟨a', cap', he, hb, hr⟩ => ⟨(a', cap'), trivial, he, hb, newOk1 1 hr⟩) rfl rfl rfl (w_n rfl) ?_
      rintro ⟨ar2, cr2⟩ -
      refine TL_callN (fun (_ : Option Addr × Nat) => True) (fun (ar3, cr3) => .slice ar3 (((joinP ((rls rs).take k)) ++ (recP r.l)).length) cr3) (fun (ar3, cr3) => [(2, .row (.slice ar3 (((joinP ((rls rs).take k)) ++ (recP r.l)).length) cr3) 5 1 (((joinP ((rls rs).take k)) ++ (recP r.l)).length) (((joinP ((rls rs).take k)) ++ (recP r.l)).flatMap byc))]) (fun _ _ hρ _ => r_call (args := [.slice a2 ((joinP ((rls rs).take k)).length) cap2, .slice ar2 ((recP r.l).length) cr2]) (enters_of Try.func44 (by kernel_rfl) rfl) (hρ _ _ rfl) ((cons2 (hρ _ _ rfl) (cons2 (hρ _ _ rfl) rfl))) rfl) (fun w hm => (rbeh_c (joinP ((rls rs).take k)) a2 cap2 w (SliceAt.own byc_len (hm.row 941 rfl) rfl rfl) (row_cap (hm.row 941 rfl)) (recP r.l) ar2 cr2 (SliceAt.own byc_len (hm.row 1 rfl) rfl rfl) (row_cap (hm.row 1 rfl)) (by omega) (by rw [recP_len]; omega)).mono fun e w' ⟨a', cap', he, hb, hr⟩ => ⟨(a', cap'), trivial, he, hb, newOk1 2 hr⟩) rfl rfl rfl (w_n rfl) ?_
      rintro ⟨ar3, cr3⟩ -
      refine TL_q (.slice ar3 (((joinP ((rls rs).take k)) ++ (recP r.l)).length) cr3) (fun _ _ hρ _ => r_assign (hρ _ _ rfl)) rfl rfl rfl (w_n rfl) ?_
      refine TL_nil ?_
      refine p_blk_n ?_
      refine p_seq ?_
      refine T_region ?_
      refine TL_q (.int .i64 ((k + 1 : Nat) : Int)) (fun _ _ hρ _ => r_as (r_add (hρ _ _ rfl) (hρ _ _ rfl)) (int_as ((wrap64 (by omega) (by omega)).trans (by omega)))) rfl rfl rfl (w_n rfl) ?_
      refine TL_q (.int .i64 ((k + 1 : Nat) : Int)) (fun _ _ hρ _ => r_move (hρ _ _ rfl)) rfl rfl rfl (w_n rfl) ?_
      refine TL_nil ?_
      refine p_mem (_ :: _ :: _) (fun _ hm => hm.move 941 2 rfl rfl) ?_
      rw [← hst]
      exact p_at (k + 1, ar3, cr3) ⟨⟨by omega, upto_step hup hr (by omega)⟩, by dsimp only; omega⟩ (sub_cons rfl (sub_cons rfl (sub_cons rfl (sub_cons rfl sub_nil)))) (sub_cons rfl sub_nil)
  · replace h1 := of_decide_eq_false h1
    refine T_exit' ?_
    refine p_then_x ?_
    refine p_then_x ?_
    refine p_blk_x ?_
    refine p_seq ?_
    refine T_seq (T_region ?_)
    refine TL_q (.slice a2 ((joinP ((rls rs).take k)).length) cap2) (fun _ _ hρ _ => r_move (hρ _ _ rfl)) rfl rfl rfl (w_n rfl) ?_
    refine TL_q (.slice a2 ((joinP ((rls rs).take k)).length) cap2) (fun _ _ hρ _ => r_assign (hρ _ _ rfl)) rfl rfl rfl (w_n rfl) ?_
    refine TL_q (.bool true) (fun _ _ hρ _ => r_assign (hρ _ _ rfl)) rfl rfl rfl (w_n rfl) ?_
    refine TL_seq ?_
    refine T_ret' ?_
    refine ret_of rfl (.tuple #[.slice a2 ((joinP ((rls rs).take k)).length) cap2, .bool true]) (fun tmps w hk hm => res2 rfl (res_tmp (hk 2 _ rfl)) (res_tmp (hk 3 _ rfl))) (fun w hm => ?_)
    have hke : k = rs.length := by omega
    subst hke
    have hrow := hm.row 941 rfl
    have et : (rls rs).take rs.length = rls rs := by rw [← List.map_take, List.take_length]
    rw [et] at hrow ⊢
    exact ⟨a2, cap2, rfl, hm.ext, hrow⟩

theorem rjoin_no (rs : List (RowG By)) (a : Option Addr) (cap : Nat) (w : World) (hv : SliceAt w a cap 1 RowG.cells rs) (hcap : cap ≤ Go.maxLen) (hx : RowsIn w rs) (hn : rs.length ≤ 10) (h : ¬ ∀ r ∈ rs, r.l.length ≤ 65536) : Calls Try.prog 39 #[.slice a rs.length cap] w fun e w' => e = .returned (.tuple #[.slice none 0 0, .bool false]) ∧ Below w.heap.size w w' := by
  have hvl := hv.1
  have hcp := hcap
  unfold Go.maxLen at hcp
  refine calls_of_T (l := [.slice a rs.length cap]) 22 Try.func39 rfl rfl rfl ?_
  show T _ _ _ [(0, .slice a rs.length cap)] []
  refine T_seq (T_region ?_)
  refine TL_q (.slice none 0 0) (fun _ _ hρ _ => r_assign (hρ _ _ rfl)) rfl rfl rfl (w_n rfl) ?_
  refine TL_q (.bool false) (fun _ _ hρ _ => r_assign (hρ _ _ rfl)) rfl rfl rfl (w_n rfl) ?_
  refine TL_seq ?_
  refine T_seq (T_region ?_)
  refine TL_q (.slice none 0 0) (fun _ _ hρ _ => r_assign (hρ _ _ rfl)) rfl rfl rfl (w_n rfl) ?_
  refine TL_seq ?_
  refine T_seq ?_
  refine T_seq (T_region ?_)
  refine TL_q (.slice a rs.length cap) (fun _ _ hρ _ => r_move (hρ _ _ rfl)) rfl rfl rfl (w_n rfl) ?_
  refine TL_q (.int .i64 ((rs.length : Nat) : Int)) (fun _ _ hρ _ => r_len sl63 (hρ _ _ rfl)) rfl rfl rfl (w_n rfl) ?_
  refine TL_q (.int .i64 0) (fun _ _ hρ _ => r_move (hρ _ _ rfl)) rfl rfl rfl (w_n rfl) ?_
  refine TL_seq ?_
  refine T_block ?_
  refine T_mem (_ :: _) (fun _ hm => hm.nilRow 941 5 1) ?_
  refine T_loop (ι := Nat × Option Addr × Nat) (fun (z : Nat × Option Addr × Nat) => match z with | (k, a2, cap2) => k ≤ rs.length ∧ ∀ x ∈ rs.take k, x.l.length ≤ 65536) (fun (z : Nat × Option Addr × Nat) => match z with | (k, a2, cap2) => [(7, .slice a rs.length cap), (8, .int .i64 ((rs.length : Nat) : Int)), (9, .int .i64 ((k : Nat) : Int)), (4, .slice a2 ((joinP ((rls rs).take k)).length) cap2)]) (fun (z : Nat × Option Addr × Nat) => match z with | (k, a2, cap2) => [(941, .row (.slice a2 ((joinP ((rls rs).take k)).length) cap2) 5 1 ((joinP ((rls rs).take k)).length) ((joinP ((rls rs).take k)).flatMap byc))]) (fun (z : Nat × Option Addr × Nat) => match z with | (k, a2, cap2) => rs.length - k) (0, none, 0) ⟨Nat.zero_le _, fun _ h => nomatch h⟩ (sub_cons rfl (sub_cons rfl (sub_cons rfl (sub_cons rfl sub_nil)))) (sub_cons rfl sub_nil) ?_
  rintro ⟨k, a2, cap2⟩ hp
  obtain ⟨hk, hup⟩ := hp
  show T _ _ _ [(7, .slice a rs.length cap), (8, .int .i64 ((rs.length : Nat) : Int)), (9, .int .i64 ((k : Nat) : Int)), (4, .slice a2 ((joinP ((rls rs).take k)).length) cap2)] [(941, .row (.slice a2 ((joinP ((rls rs).take k)).length) cap2) 5 1 ((joinP ((rls rs).take k)).length) ((joinP ((rls rs).take k)).flatMap byc))]
  refine T_seq (T_region ?_)
  refine TL_q (.bool (decide (((k : Nat) : Int) < ((rs.length : Nat) : Int)))) (fun _ _ hρ _ => r_lss (hρ _ _ rfl) (hρ _ _ rfl)) rfl rfl rfl (w_n rfl) ?_
  refine TL_seq ?_
  refine T_seq ?_
  refine T_cond rfl (fun h1 => ?_) (fun h1 => ?_)
  · replace h1 := of_decide_eq_true h1
    refine T_skip' ?_
    refine p_seq ?_
    refine T_seq ?_
    refine T_block ?_
    obtain ⟨r, hr⟩ : ∃ x, rs[k]? = some x := ⟨_, List.getElem?_eq_getElem (by omega)⟩
    have hro := hx r (List.mem_of_getElem? hr)
    have hrl := hro.1.1
    have hrc := hro.2
    unfold Go.maxLen at hrc
    have hst := join_step hr
    have hbd := join_bound hup
    rw [List.length_take] at hbd
    have hrp := recP_len r.l
    obtain ⟨b1, of1, cs1, T1, fz1, ha1, hq1, hr1⟩ := hv.open (i := k) (by omega)
    subst ha1
    refine T_seq (T_region ?_)
    refine TL_q (.pointer (some ⟨b1, of1 + k * 1, none⟩)) (fun _ _ hρ _ => r_indexAddrS (i := k) sl63 sz34 (hρ _ _ rfl) (hρ _ _ rfl) (by omega)) rfl rfl rfl (w_n rfl) ?_
    refine TL_q (.slice r.a r.l.length r.cap) (fun _ _ hρ hm => r_loadRow1 (f := RowG.cells) (u := r) ag34 (hρ _ _ rfl) (hm.old hq1) hr1 hr rfl) rfl rfl rfl (w_n rfl) ?_
    refine TL_q (.slice r.a r.l.length r.cap) (fun _ _ hρ _ => r_assign (hρ _ _ rfl)) rfl rfl rfl (w_n rfl) ?_
    refine TL_seq ?_
    refine T_seq ?_
    refine T_seq (T_region ?_)
    refine TL_q (.slice r.a r.l.length r.cap) (fun _ _ hρ _ => r_move (hρ _ _ rfl)) rfl rfl rfl (w_n rfl) ?_
    refine TL_q (.int .i64 ((r.l.length : Nat) : Int)) (fun _ _ hρ _ => r_len sl34 (hρ _ _ rfl)) rfl rfl rfl (w_n rfl) ?_
    refine TL_q (.bool (decide ((65536 : Int) < ((r.l.length : Nat) : Int)))) (fun _ _ hρ _ => r_gtr (hρ _ _ rfl) (hρ _ _ rfl)) rfl rfl rfl (w_n rfl) ?_
    refine TL_seq ?_
    refine T_cond rfl (fun h2 => ?_) (fun h2 => ?_)
    · replace h2 := of_decide_eq_true h2
      refine T_seq (T_region ?_)
      refine TL_q (.slice none 0 0) (fun _ _ hρ _ => r_assign (hρ _ _ rfl)) rfl rfl rfl (w_n rfl) ?_
      refine TL_q (.bool false) (fun _ _ hρ _ => r_assign (hρ _ _ rfl)) rfl rfl rfl (w_n rfl) ?_
      refine TL_seq ?_
      refine T_ret' ?_
      refine p_then_r ?_
      refine p_blk_r ?_
      refine p_then_r ?_
      refine p_then_r ?_
      refine p_blk_r ?_
      refine p_then_r ?_
      refine ret_of rfl (.tuple #[.slice none 0 0, .bool false]) (fun tmps w hk hm => res2 rfl (res_tmp (hk 2 _ rfl)) (res_tmp (hk 3 _ rfl))) (fun w hm => ?_)
      first | exact absurd (h r (List.mem_of_getElem? hr)) (by omega) | exact ⟨rfl, hm.ext⟩
    · replace h2 := of_decide_eq_false h2
      refine T_skip' ?_
      refine p_seq ?_
      refine T_region ?_
      refine TL_q (.slice a2 ((joinP ((rls rs).take k)).length) cap2) (fun _ _ hρ _ => r_move (hρ _ _ rfl)) rfl rfl rfl (w_n rfl) ?_
      refine TL_q (.slice r.a r.l.length r.cap) (fun _ _ hρ _ => r_move (hρ _ _ rfl)) rfl rfl rfl (w_n rfl) ?_
      refine TL_callN (fun (_ : Option Addr × Nat) => True) (fun (ar2, cr2) => .slice ar2 ((recP r.l).length) cr2) (fun (ar2, cr2) => [(1, .row (.slice ar2 ((recP r.l).length) cr2) 5 1 ((recP r.l).length) ((recP r.l).flatMap byc))]) (fun _ _ hρ _ => r_call (args := [.slice r.a r.l.length r.cap]) (enters_of Try.func41 (by kernel_rfl) rfl) (hρ _ _ rfl) ((cons2 (hρ _ _ rfl) rfl)) rfl) (fun w hm => (rrec_c r.l r.a r.cap w (hro.1.keep hm.ext) hro.2 (by omega)).mono fun e w' ⟨a', cap', he, hb, hr⟩ => ⟨(a', cap'), trivial, he, hb, newOk1 1 hr⟩) rfl rfl rfl (w_n rfl) ?_
      rintro ⟨ar2, cr2⟩ -
      refine TL_callN (fun (_ : Option Addr × Nat) => True) (fun (ar3, cr3) => .slice ar3 (((joinP ((rls rs).take k)) ++ (recP r.l)).length) cr3) (fun (ar3, cr3) => [(2, .row (.slice ar3 (((joinP ((rls rs).take k)) ++ (recP r.l)).length) cr3) 5 1 (((joinP ((rls rs).take k)) ++ (recP r.l)).length) (((joinP ((rls rs).take k)) ++ (recP r.l)).flatMap byc))]) (fun _ _ hρ _ => r_call (args := [.slice a2 ((joinP ((rls rs).take k)).length) cap2, .slice ar2 ((recP r.l).length) cr2]) (enters_of Try.func44 (by kernel_rfl) rfl) (hρ _ _ rfl) ((cons2 (hρ _ _ rfl) (cons2 (hρ _ _ rfl) rfl))) rfl) (fun w hm => (rbeh_c (joinP ((rls rs).take k)) a2 cap2 w (SliceAt.own byc_len (hm.row 941 rfl) rfl rfl) (row_cap (hm.row 941 rfl)) (recP r.l) ar2 cr2 (SliceAt.own byc_len (hm.row 1 rfl) rfl rfl) (row_cap (hm.row 1 rfl)) (by omega) (by rw [recP_len]; omega)).mono fun e w' ⟨a', cap', he, hb, hr⟩ => ⟨(a', cap'), trivial, he, hb, newOk1 2 hr⟩) rfl rfl rfl (w_n rfl) ?_
      rintro ⟨ar3, cr3⟩ -
      refine TL_q (.slice ar3 (((joinP ((rls rs).take k)) ++ (recP r.l)).length) cr3) (fun _ _ hρ _ => r_assign (hρ _ _ rfl)) rfl rfl rfl (w_n rfl) ?_
      refine TL_nil ?_
      refine p_blk_n ?_
      refine p_seq ?_
      refine T_region ?_
      refine TL_q (.int .i64 ((k + 1 : Nat) : Int)) (fun _ _ hρ _ => r_as (r_add (hρ _ _ rfl) (hρ _ _ rfl)) (int_as ((wrap64 (by omega) (by omega)).trans (by omega)))) rfl rfl rfl (w_n rfl) ?_
      refine TL_q (.int .i64 ((k + 1 : Nat) : Int)) (fun _ _ hρ _ => r_move (hρ _ _ rfl)) rfl rfl rfl (w_n rfl) ?_
      refine TL_nil ?_
      refine p_mem (_ :: _ :: _) (fun _ hm => hm.move 941 2 rfl rfl) ?_
      rw [← hst]
      exact p_at (k + 1, ar3, cr3) ⟨⟨by omega, upto_step hup hr (by omega)⟩, by dsimp only; omega⟩ (sub_cons rfl (sub_cons rfl (sub_cons rfl (sub_cons rfl sub_nil)))) (sub_cons rfl sub_nil)
  · replace h1 := of_decide_eq_false h1
    refine T_exit' ?_
    refine p_then_x ?_
    refine p_then_x ?_
    refine p_blk_x ?_
    refine p_seq ?_
    refine T_seq (T_region ?_)
    refine TL_q (.slice a2 ((joinP ((rls rs).take k)).length) cap2) (fun _ _ hρ _ => r_move (hρ _ _ rfl)) rfl rfl rfl (w_n rfl) ?_
    refine TL_q (.slice a2 ((joinP ((rls rs).take k)).length) cap2) (fun _ _ hρ _ => r_assign (hρ _ _ rfl)) rfl rfl rfl (w_n rfl) ?_
    refine TL_q (.bool true) (fun _ _ hρ _ => r_assign (hρ _ _ rfl)) rfl rfl rfl (w_n rfl) ?_
    refine TL_seq ?_
    refine T_ret' ?_
    refine ret_of rfl (.tuple #[.slice a2 ((joinP ((rls rs).take k)).length) cap2, .bool true]) (fun tmps w hk hm => res2 rfl (res_tmp (hk 2 _ rfl)) (res_tmp (hk 3 _ rfl))) (fun w hm => ?_)
    have hke : k = rs.length := by omega
    subst hke
    rw [List.take_length] at hup
    exact absurd hup h
end Go.Proofs.Ytcidgbjgeegepaa
/- net and journal: the references First, Scan; few, same. Printed by a program of this seat's prover. -/
namespace Go.Proofs.Ytcidgbjgeegepaa
open Go Go.RowKit
set_option maxRecDepth 10000
theorem openB_is (l : List By) : openB l = decide (openE l = 0) := by
  unfold openB openE
  cases openP l <;> rfl

theorem rfirst_c (l : List By) (a : Option Addr) (cap : Nat) (w : World) (hv : SliceAt w a cap 1 byc l) (hcap : cap ≤ Go.maxLen) (h : firstE l = 0) : Calls Try.prog 51 #[.slice a l.length cap] w fun e w' => ∃ a' cap', e = .returned (.tuple #[.slice a' (heldP l).length cap', .int .i64 0]) ∧ Below w.heap.size w w' ∧ (Res.sl a' cap' (heldP l)).ok w.heap.size w' := by
  have hvl := hv.1
  have hcp := hcap
  unfold Go.maxLen at hcp
  have hnl := numP_lt l
  have c1 := (first_ok h).1
  have c2 := (first_ok h).2.1
  have c3 := (first_ok h).2.2.1
  have hopE : openE (l.take (numP l + 8)) = 0 := (first_e4 c1 c2 c3).symm.trans h
  refine calls_of_T (l := [.slice a l.length cap]) 33 Try.func51 rfl rfl rfl ?_
  show T _ _ _ [(0, .slice a l.length cap)] []
  refine T_seq (T_region ?_)
  refine TL_q (.slice none 0 0) (fun _ _ hρ _ => r_assign (hρ _ _ rfl)) rfl rfl rfl (w_n rfl) ?_
  refine TL_q (.int .i64 0) (fun _ _ hρ _ => r_assign (hρ _ _ rfl)) rfl rfl rfl (w_n rfl) ?_
  refine TL_seq ?_
  refine T_seq ?_
  refine T_seq (T_region ?_)
  refine TL_q (.slice a l.length cap) (fun _ _ hρ _ => r_move (hρ _ _ rfl)) rfl rfl rfl (w_n rfl) ?_
  refine TL_q (.int .i64 ((l.length : Nat) : Int)) (fun _ _ hρ _ => r_len sl34 (hρ _ _ rfl)) rfl rfl rfl (w_n rfl) ?_
  refine TL_q (.bool false) (fun _ _ hρ _ => r_as (r_lss (hρ _ _ rfl) (hρ _ _ rfl)) (bool_as (decide_eq_false (by omega)))) rfl rfl rfl (w_n rfl) ?_
  refine TL_seq ?_
  refine T_cond_f rfl ?_
  refine T_skip' ?_
  refine p_seq ?_
  refine T_seq (T_region ?_)
  refine TL_q (.slice a l.length cap) (fun _ _ hρ _ => r_move (hρ _ _ rfl)) rfl rfl rfl (w_n rfl) ?_
  obtain ⟨l1, hl1, hn1⟩ : ∃ lz, lz = l.take 4 ∧ lz.length = 4 := ⟨_, rfl, by rw [List.length_take]; omega⟩
  have hs1 := SliceAt.front hv (n := 4) (m := cap) (by omega) (by omega) (by omega)
  rw [← hl1] at hs1
  refine TL_q (.slice a l1.length cap) (fun ρ _ hρ _ => r_as (r_sliceO sl34 sz5 (hρ _ _ rfl) (bd_none ρ _) (bd_some (n := 4) (hρ _ _ rfl)) (bd_none ρ _) (by simp) (by omega) (by omega) (by omega)) (by rw [hn1]; exact slo_zero _ _ _ _)) rfl rfl rfl (w_n rfl) ?_
  refine TL_call (.int .u64 ((numP l : Nat) : Int)) (fun _ _ hρ _ => r_call (args := [.slice a l1.length cap]) (enters_of Try.func88 (by kernel_rfl) rfl) (hρ _ _ rfl) ((cons2 (hρ _ _ rfl) rfl)) rfl) (fun w hm => (rnumber_c l1 a cap w (hs1.keep hm.ext) (by omega)).mono fun _ _ h => ⟨h.1.trans (congrArg Ending.returned (congrArg (fun n : Nat => Value.int .u64 (n : Int)) (show (numR l1).toNat = numP l by rw [numR4 l1 (by omega), hl1]; rfl))), h.2⟩) rfl rfl rfl (w_n rfl) ?_
  refine TL_q (.int .u64 ((numP l : Nat) : Int)) (fun _ _ hρ _ => r_assign (hρ _ _ rfl)) rfl rfl rfl (w_n rfl) ?_
  refine TL_seq ?_
  refine T_seq ?_
  refine T_seq (T_region ?_)
  refine TL_q (.int .u64 ((numP l : Nat) : Int)) (fun _ _ hρ _ => r_move (hρ _ _ rfl)) rfl rfl rfl (w_n rfl) ?_
  refine TL_q (.bool false) (fun _ _ hρ _ => r_as (r_gtr (hρ _ _ rfl) (hρ _ _ rfl)) (bool_as (decide_eq_false (by omega)))) rfl rfl rfl (w_n rfl) ?_
  refine TL_seq ?_
  refine T_cond_f rfl ?_
  refine T_skip' ?_
  refine p_seq ?_
  refine T_seq ?_
  refine T_seq (T_region ?_)
  refine TL_q (.slice a l.length cap) (fun _ _ hρ _ => r_move (hρ _ _ rfl)) rfl rfl rfl (w_n rfl) ?_
  refine TL_q (.int .i64 ((l.length : Nat) : Int)) (fun _ _ hρ _ => r_len sl34 (hρ _ _ rfl)) rfl rfl rfl (w_n rfl) ?_
  refine TL_q (.int .u64 ((l.length : Nat) : Int)) (fun _ _ hρ _ => r_as (r_conv un3 io25 (hρ _ _ rfl)) (int_as (wrap_u64 (by omega) (by omega)))) rfl rfl rfl (w_n rfl) ?_
  refine TL_q (.int .u64 ((numP l : Nat) : Int)) (fun _ _ hρ _ => r_move (hρ _ _ rfl)) rfl rfl rfl (w_n rfl) ?_
  refine TL_q (.int .u64 ((numP l + 8 : Nat) : Int)) (fun _ _ hρ _ => r_as (r_add (hρ _ _ rfl) (hρ _ _ rfl)) (int_as ((wrap_u64 (by omega) (by omega)).trans (by omega)))) rfl rfl rfl (w_n rfl) ?_
  refine TL_q (.bool false) (fun _ _ hρ _ => r_as (r_lss (hρ _ _ rfl) (hρ _ _ rfl)) (bool_as (decide_eq_false (by omega)))) rfl rfl rfl (w_n rfl) ?_
  refine TL_seq ?_
  refine T_cond_f rfl ?_
  refine T_skip' ?_
  refine p_seq ?_
  refine T_seq (T_region ?_)
  refine TL_q (.slice a l.length cap) (fun _ _ hρ _ => r_move (hρ _ _ rfl)) rfl rfl rfl (w_n rfl) ?_
  refine TL_q (.int .u64 ((numP l : Nat) : Int)) (fun _ _ hρ _ => r_move (hρ _ _ rfl)) rfl rfl rfl (w_n rfl) ?_
  refine TL_q (.int .u64 ((numP l + 8 : Nat) : Int)) (fun _ _ hρ _ => r_as (r_add (hρ _ _ rfl) (hρ _ _ rfl)) (int_as ((wrap_u64 (by omega) (by omega)).trans (by omega)))) rfl rfl rfl (w_n rfl) ?_
  obtain ⟨l2, hl2, hn2⟩ : ∃ lz, lz = l.take (numP l + 8) ∧ lz.length = numP l + 8 := ⟨_, rfl, by rw [List.length_take]; omega⟩
  have hs2 := SliceAt.front hv (n := numP l + 8) (m := cap) (by omega) (by omega) (by omega)
  rw [← hl2] at hs2
  refine TL_q (.slice a l2.length cap) (fun ρ _ hρ _ => r_as (r_sliceO sl34 sz5 (hρ _ _ rfl) (bd_none ρ _) (bd_some (n := numP l + 8) (hρ _ _ rfl)) (bd_none ρ _) (by simp) (by omega) (by omega) (by omega)) (by rw [hn2]; exact slo_zero _ _ _ _)) rfl rfl rfl (w_n rfl) ?_
  refine TL_callN (fun (_ : Option Addr × Nat) => True) (fun (ar3, cr3) => .tuple #[.slice ar3 ((openL l2).length) cr3, .bool true]) (fun (ar3, cr3) => [(1, .row (.slice ar3 ((openL l2).length) cr3) 5 1 ((openL l2).length) ((openL l2).flatMap byc))]) (fun _ _ hρ _ => r_call (args := [.slice a l2.length cap]) (enters_of Try.func89 (by kernel_rfl) rfl) (hρ _ _ rfl) ((cons2 (hρ _ _ rfl) rfl)) rfl) (fun w hm => (open_ref l2 a cap w (hs2.keep hm.ext) (by omega) (by omega)).mono fun e w' ⟨a', cap', he, hb, hr⟩ => ⟨(a', cap'), trivial, he.trans (by rw [show openB l2 = true by rw [openB_is, hl2]; exact decide_eq_true hopE]), hb, newOk1 1 hr⟩) rfl rfl rfl (w_n rfl) ?_
  rintro ⟨ar3, cr3⟩ -
  refine TL_q (.tuple #[.slice ar3 ((openL l2).length) cr3, .bool true]) (fun _ _ hρ _ => r_move (hρ _ _ rfl)) rfl rfl rfl (w_n rfl) ?_
  refine TL_q (.slice ar3 ((openL l2).length) cr3) (fun _ _ hρ _ => r_extract (hρ _ _ rfl) rfl) rfl rfl rfl (w_n rfl) ?_
  refine TL_q (.bool true) (fun _ _ hρ _ => r_extract (hρ _ _ rfl) rfl) rfl rfl rfl (w_n rfl) ?_
  refine TL_q (.slice ar3 ((openL l2).length) cr3) (fun _ _ hρ _ => r_assign (hρ _ _ rfl)) rfl rfl rfl (w_n rfl) ?_
  refine TL_q (.bool true) (fun _ _ hρ _ => r_assign (hρ _ _ rfl)) rfl rfl rfl (w_n rfl) ?_
  refine TL_seq ?_
  refine T_seq ?_
  refine T_rowcap 1 rfl (fun hrc => ?_)
  have hol := openL_len (l := l2) (by rw [hl2]; exact hopE)
  refine T_seq (T_region ?_)
  refine TL_q (.bool true) (fun _ _ hρ _ => r_move (hρ _ _ rfl)) rfl rfl rfl (w_n rfl) ?_
  refine TL_q (.bool false) (fun _ _ hρ _ => r_not (b := true) (hρ _ _ rfl)) rfl rfl rfl (w_n rfl) ?_
  refine TL_seq ?_
  refine T_cond_f rfl ?_
  refine T_skip' ?_
  refine p_seq ?_
  refine T_seq (T_region ?_)
  refine TL_q (.slice ar3 ((openL l2).length) cr3) (fun _ _ hρ _ => r_move (hρ _ _ rfl)) rfl rfl rfl (w_n rfl) ?_
  obtain ⟨l4, hl4, hn4⟩ : ∃ lz, lz = ((openL l2).drop 4).take ((openL l2).length - 4) ∧ lz.length = (openL l2).length - 4 := ⟨_, rfl, by rw [List.length_take, List.length_drop]; omega⟩
  obtain ⟨a4, ha4⟩ : ∃ az : Option Addr, az = (if cr3 = 4 then (ar3 : Option Addr) else Option.map (fun z : Addr => z.add (4 * 1)) (ar3 : Option Addr)) := ⟨_, rfl⟩
  refine TL_q (.slice a4 l4.length (cr3 - 4)) (fun ρ _ hρ _ => r_as (r_sliceO sl34 sz5 (hρ _ _ rfl) (bd_none ρ _) (bd_none ρ _) (bd_some (n := 4) (hρ _ _ rfl)) (by simp) (by omega) (by omega) (by omega)) (by rw [hn4, ha4])) rfl rfl rfl (w_n rfl) ?_
  refine TL_q (.slice a4 l4.length (cr3 - 4)) (fun _ _ hρ _ => r_assign (hρ _ _ rfl)) rfl rfl rfl (w_n rfl) ?_
  refine TL_q (.int .i64 0) (fun _ _ hρ _ => r_assign (hρ _ _ rfl)) rfl rfl rfl (w_n rfl) ?_
  refine TL_seq ?_
  refine T_sub [(2, .slice a4 l4.length (cr3 - 4)), (3, .int .i64 0)] [(1, .row (.slice ar3 ((openL l2).length) cr3) 5 1 ((openL l2).length) ((openL l2).flatMap byc))] (sub_cons rfl (sub_cons rfl sub_nil)) (sub_cons rfl sub_nil) ?_
  refine T_ret' ?_
  refine ret_of rfl (.tuple #[.slice a4 l4.length (cr3 - 4), .int .i64 0]) (fun tmps w hk hm => res2 rfl (res_tmp (hk 2 _ rfl)) (res_tmp (hk 3 _ rfl))) (fun w hm => ?_)
  have hrw := sl_ok (hm.row 1 rfl) rfl (lo := 4) (hi := (openL l2).length) (m := cr3) (by omega) (Nat.le_refl _) (by omega) (by omega)
  rw [← hl4, ← ha4] at hrw
  have hz : l4 = heldP l := by rw [hl4]; unfold heldP; rw [← hl2]; exact List.take_of_length_le (by rw [List.length_drop]; exact Nat.le_refl _)
  rw [hz] at hrw ⊢
  exact ⟨a4, (cr3 - 4), rfl, hm.ext, hrw⟩

theorem rfirst_p (l : List By) (a : Option Addr) (cap : Nat) (w : World) (hv : SliceAt w a cap 1 byc l) (hcap : cap ≤ Go.maxLen) (h : ¬ firstE l = 0) : Calls Try.prog 51 #[.slice a l.length cap] w fun e w' => e = .returned (.tuple #[.slice none 0 0, .int .i64 (firstE l)]) ∧ Below w.heap.size w w' := by
  have hvl := hv.1
  have hcp := hcap
  unfold Go.maxLen at hcp
  have hnl := numP_lt l
  refine calls_of_T (l := [.slice a l.length cap]) 33 Try.func51 rfl rfl rfl ?_
  show T _ _ _ [(0, .slice a l.length cap)] []
  refine T_seq (T_region ?_)
  refine TL_q (.slice none 0 0) (fun _ _ hρ _ => r_assign (hρ _ _ rfl)) rfl rfl rfl (w_n rfl) ?_
  refine TL_q (.int .i64 0) (fun _ _ hρ _ => r_assign (hρ _ _ rfl)) rfl rfl rfl (w_n rfl) ?_
  refine TL_seq ?_
  refine T_seq ?_
  by_cases c1 : ((l.length : Nat) : Int) < 4
  · skip
    refine T_seq (T_region ?_)
    refine TL_q (.slice a l.length cap) (fun _ _ hρ _ => r_move (hρ _ _ rfl)) rfl rfl rfl (w_n rfl) ?_
    refine TL_q (.int .i64 ((l.length : Nat) : Int)) (fun _ _ hρ _ => r_len sl34 (hρ _ _ rfl)) rfl rfl rfl (w_n rfl) ?_
    refine TL_q (.bool true) (fun _ _ hρ _ => r_as (r_lss (hρ _ _ rfl) (hρ _ _ rfl)) (bool_as (decide_eq_true c1))) rfl rfl rfl (w_n rfl) ?_
    refine TL_seq ?_
    refine T_cond_t rfl ?_
    refine T_seq (T_region ?_)
    refine TL_q (.slice none 0 0) (fun _ _ hρ _ => r_assign (hρ _ _ rfl)) rfl rfl rfl (w_n rfl) ?_
    refine TL_q (.int .i64 110) (fun _ _ hρ _ => r_assign (hρ _ _ rfl)) rfl rfl rfl (w_n rfl) ?_
    refine TL_seq ?_
    refine T_ret' ?_
    refine p_then_r ?_
    refine ret_of rfl (.tuple #[.slice none 0 0, .int .i64 110]) (fun tmps w hk hm => res2 rfl (res_tmp (hk 2 _ rfl)) (res_tmp (hk 3 _ rfl))) (fun w hm => ?_)
    exact ⟨by rw [first_e1 (by omega)], hm.ext⟩
  · skip
    refine T_seq (T_region ?_)
    refine TL_q (.slice a l.length cap) (fun _ _ hρ _ => r_move (hρ _ _ rfl)) rfl rfl rfl (w_n rfl) ?_
    refine TL_q (.int .i64 ((l.length : Nat) : Int)) (fun _ _ hρ _ => r_len sl34 (hρ _ _ rfl)) rfl rfl rfl (w_n rfl) ?_
    refine TL_q (.bool false) (fun _ _ hρ _ => r_as (r_lss (hρ _ _ rfl) (hρ _ _ rfl)) (bool_as (decide_eq_false c1))) rfl rfl rfl (w_n rfl) ?_
    refine TL_seq ?_
    refine T_cond_f rfl ?_
    refine T_skip' ?_
    refine p_seq ?_
    refine T_seq (T_region ?_)
    refine TL_q (.slice a l.length cap) (fun _ _ hρ _ => r_move (hρ _ _ rfl)) rfl rfl rfl (w_n rfl) ?_
    obtain ⟨l1, hl1, hn1⟩ : ∃ lz, lz = l.take 4 ∧ lz.length = 4 := ⟨_, rfl, by rw [List.length_take]; omega⟩
    have hs1 := SliceAt.front hv (n := 4) (m := cap) (by omega) (by omega) (by omega)
    rw [← hl1] at hs1
    refine TL_q (.slice a l1.length cap) (fun ρ _ hρ _ => r_as (r_sliceO sl34 sz5 (hρ _ _ rfl) (bd_none ρ _) (bd_some (n := 4) (hρ _ _ rfl)) (bd_none ρ _) (by simp) (by omega) (by omega) (by omega)) (by rw [hn1]; exact slo_zero _ _ _ _)) rfl rfl rfl (w_n rfl) ?_
    refine TL_call (.int .u64 ((numP l : Nat) : Int)) (fun _ _ hρ _ => r_call (args := [.slice a l1.length cap]) (enters_of Try.func88 (by kernel_rfl) rfl) (hρ _ _ rfl) ((cons2 (hρ _ _ rfl) rfl)) rfl) (fun w hm => (rnumber_c l1 a cap w (hs1.keep hm.ext) (by omega)).mono fun _ _ h => ⟨h.1.trans (congrArg Ending.returned (congrArg (fun n : Nat => Value.int .u64 (n : Int)) (show (numR l1).toNat = numP l by rw [numR4 l1 (by omega), hl1]; rfl))), h.2⟩) rfl rfl rfl (w_n rfl) ?_
    refine TL_q (.int .u64 ((numP l : Nat) : Int)) (fun _ _ hρ _ => r_assign (hρ _ _ rfl)) rfl rfl rfl (w_n rfl) ?_
    refine TL_seq ?_
    refine T_seq ?_
    by_cases c2 : (65536 : Int) < ((numP l : Nat) : Int)
    · skip
      refine T_seq (T_region ?_)
      refine TL_q (.int .u64 ((numP l : Nat) : Int)) (fun _ _ hρ _ => r_move (hρ _ _ rfl)) rfl rfl rfl (w_n rfl) ?_
      refine TL_q (.bool true) (fun _ _ hρ _ => r_as (r_gtr (hρ _ _ rfl) (hρ _ _ rfl)) (bool_as (decide_eq_true c2))) rfl rfl rfl (w_n rfl) ?_
      refine TL_seq ?_
      refine T_cond_t rfl ?_
      refine T_seq (T_region ?_)
      refine TL_q (.slice none 0 0) (fun _ _ hρ _ => r_assign (hρ _ _ rfl)) rfl rfl rfl (w_n rfl) ?_
      refine TL_q (.int .i64 3) (fun _ _ hρ _ => r_assign (hρ _ _ rfl)) rfl rfl rfl (w_n rfl) ?_
      refine TL_seq ?_
      refine T_ret' ?_
      refine p_then_r ?_
      refine ret_of rfl (.tuple #[.slice none 0 0, .int .i64 3]) (fun tmps w hk hm => res2 rfl (res_tmp (hk 2 _ rfl)) (res_tmp (hk 3 _ rfl))) (fun w hm => ?_)
      exact ⟨by rw [first_e2 (by omega) (by omega)], hm.ext⟩
    · skip
      refine T_seq (T_region ?_)
      refine TL_q (.int .u64 ((numP l : Nat) : Int)) (fun _ _ hρ _ => r_move (hρ _ _ rfl)) rfl rfl rfl (w_n rfl) ?_
      refine TL_q (.bool false) (fun _ _ hρ _ => r_as (r_gtr (hρ _ _ rfl) (hρ _ _ rfl)) (bool_as (decide_eq_false c2))) rfl rfl rfl (w_n rfl) ?_
      refine TL_seq ?_
      refine T_cond_f rfl ?_
      refine T_skip' ?_
      refine p_seq ?_
      refine T_seq ?_
      by_cases c3 : ((l.length : Nat) : Int) < ((numP l + 8 : Nat) : Int)
      · skip
        refine T_seq (T_region ?_)
        refine TL_q (.slice a l.length cap) (fun _ _ hρ _ => r_move (hρ _ _ rfl)) rfl rfl rfl (w_n rfl) ?_
        refine TL_q (.int .i64 ((l.length : Nat) : Int)) (fun _ _ hρ _ => r_len sl34 (hρ _ _ rfl)) rfl rfl rfl (w_n rfl) ?_
        refine TL_q (.int .u64 ((l.length : Nat) : Int)) (fun _ _ hρ _ => r_as (r_conv un3 io25 (hρ _ _ rfl)) (int_as (wrap_u64 (by omega) (by omega)))) rfl rfl rfl (w_n rfl) ?_
        refine TL_q (.int .u64 ((numP l : Nat) : Int)) (fun _ _ hρ _ => r_move (hρ _ _ rfl)) rfl rfl rfl (w_n rfl) ?_
        refine TL_q (.int .u64 ((numP l + 8 : Nat) : Int)) (fun _ _ hρ _ => r_as (r_add (hρ _ _ rfl) (hρ _ _ rfl)) (int_as ((wrap_u64 (by omega) (by omega)).trans (by omega)))) rfl rfl rfl (w_n rfl) ?_
        refine TL_q (.bool true) (fun _ _ hρ _ => r_as (r_lss (hρ _ _ rfl) (hρ _ _ rfl)) (bool_as (decide_eq_true c3))) rfl rfl rfl (w_n rfl) ?_
        refine TL_seq ?_
        refine T_cond_t rfl ?_
        refine T_seq (T_region ?_)
        refine TL_q (.slice none 0 0) (fun _ _ hρ _ => r_assign (hρ _ _ rfl)) rfl rfl rfl (w_n rfl) ?_
        refine TL_q (.int .i64 110) (fun _ _ hρ _ => r_assign (hρ _ _ rfl)) rfl rfl rfl (w_n rfl) ?_
        refine TL_seq ?_
        refine T_ret' ?_
        refine p_then_r ?_
        refine ret_of rfl (.tuple #[.slice none 0 0, .int .i64 110]) (fun tmps w hk hm => res2 rfl (res_tmp (hk 2 _ rfl)) (res_tmp (hk 3 _ rfl))) (fun w hm => ?_)
        exact ⟨by rw [first_e3 (by omega) (by omega) (by omega)], hm.ext⟩
      · skip
        refine T_seq (T_region ?_)
        refine TL_q (.slice a l.length cap) (fun _ _ hρ _ => r_move (hρ _ _ rfl)) rfl rfl rfl (w_n rfl) ?_
        refine TL_q (.int .i64 ((l.length : Nat) : Int)) (fun _ _ hρ _ => r_len sl34 (hρ _ _ rfl)) rfl rfl rfl (w_n rfl) ?_
        refine TL_q (.int .u64 ((l.length : Nat) : Int)) (fun _ _ hρ _ => r_as (r_conv un3 io25 (hρ _ _ rfl)) (int_as (wrap_u64 (by omega) (by omega)))) rfl rfl rfl (w_n rfl) ?_
        refine TL_q (.int .u64 ((numP l : Nat) : Int)) (fun _ _ hρ _ => r_move (hρ _ _ rfl)) rfl rfl rfl (w_n rfl) ?_
        refine TL_q (.int .u64 ((numP l + 8 : Nat) : Int)) (fun _ _ hρ _ => r_as (r_add (hρ _ _ rfl) (hρ _ _ rfl)) (int_as ((wrap_u64 (by omega) (by omega)).trans (by omega)))) rfl rfl rfl (w_n rfl) ?_
        refine TL_q (.bool false) (fun _ _ hρ _ => r_as (r_lss (hρ _ _ rfl) (hρ _ _ rfl)) (bool_as (decide_eq_false c3))) rfl rfl rfl (w_n rfl) ?_
        refine TL_seq ?_
        refine T_cond_f rfl ?_
        refine T_skip' ?_
        refine p_seq ?_
        by_cases hopE : openE (l.take (numP l + 8)) = 0
        · skip
          refine T_seq (T_region ?_)
          refine TL_q (.slice a l.length cap) (fun _ _ hρ _ => r_move (hρ _ _ rfl)) rfl rfl rfl (w_n rfl) ?_
          refine TL_q (.int .u64 ((numP l : Nat) : Int)) (fun _ _ hρ _ => r_move (hρ _ _ rfl)) rfl rfl rfl (w_n rfl) ?_
          refine TL_q (.int .u64 ((numP l + 8 : Nat) : Int)) (fun _ _ hρ _ => r_as (r_add (hρ _ _ rfl) (hρ _ _ rfl)) (int_as ((wrap_u64 (by omega) (by omega)).trans (by omega)))) rfl rfl rfl (w_n rfl) ?_
          obtain ⟨l2, hl2, hn2⟩ : ∃ lz, lz = l.take (numP l + 8) ∧ lz.length = numP l + 8 := ⟨_, rfl, by rw [List.length_take]; omega⟩
          have hs2 := SliceAt.front hv (n := numP l + 8) (m := cap) (by omega) (by omega) (by omega)
          rw [← hl2] at hs2
          refine TL_q (.slice a l2.length cap) (fun ρ _ hρ _ => r_as (r_sliceO sl34 sz5 (hρ _ _ rfl) (bd_none ρ _) (bd_some (n := numP l + 8) (hρ _ _ rfl)) (bd_none ρ _) (by simp) (by omega) (by omega) (by omega)) (by rw [hn2]; exact slo_zero _ _ _ _)) rfl rfl rfl (w_n rfl) ?_
          refine TL_callN (fun (_ : Option Addr × Nat) => True) (fun (ar3, cr3) => .tuple #[.slice ar3 ((openL l2).length) cr3, .bool true]) (fun (ar3, cr3) => [(1, .row (.slice ar3 ((openL l2).length) cr3) 5 1 ((openL l2).length) ((openL l2).flatMap byc))]) (fun _ _ hρ _ => r_call (args := [.slice a l2.length cap]) (enters_of Try.func89 (by kernel_rfl) rfl) (hρ _ _ rfl) ((cons2 (hρ _ _ rfl) rfl)) rfl) (fun w hm => (open_ref l2 a cap w (hs2.keep hm.ext) (by omega) (by omega)).mono fun e w' ⟨a', cap', he, hb, hr⟩ => ⟨(a', cap'), trivial, he.trans (by rw [show openB l2 = true by rw [openB_is, hl2]; exact decide_eq_true hopE]), hb, newOk1 1 hr⟩) rfl rfl rfl (w_n rfl) ?_
          rintro ⟨ar3, cr3⟩ -
          refine TL_q (.tuple #[.slice ar3 ((openL l2).length) cr3, .bool true]) (fun _ _ hρ _ => r_move (hρ _ _ rfl)) rfl rfl rfl (w_n rfl) ?_
          refine TL_q (.slice ar3 ((openL l2).length) cr3) (fun _ _ hρ _ => r_extract (hρ _ _ rfl) rfl) rfl rfl rfl (w_n rfl) ?_
          refine TL_q (.bool true) (fun _ _ hρ _ => r_extract (hρ _ _ rfl) rfl) rfl rfl rfl (w_n rfl) ?_
          refine TL_q (.slice ar3 ((openL l2).length) cr3) (fun _ _ hρ _ => r_assign (hρ _ _ rfl)) rfl rfl rfl (w_n rfl) ?_
          refine TL_q (.bool true) (fun _ _ hρ _ => r_assign (hρ _ _ rfl)) rfl rfl rfl (w_n rfl) ?_
          refine TL_seq ?_
          refine T_seq ?_
          refine T_rowcap 1 rfl (fun hrc => ?_)
          have hol := openL_len (l := l2) (by rw [hl2]; exact hopE)
          refine T_seq (T_region ?_)
          refine TL_q (.bool true) (fun _ _ hρ _ => r_move (hρ _ _ rfl)) rfl rfl rfl (w_n rfl) ?_
          refine TL_q (.bool false) (fun _ _ hρ _ => r_not (b := true) (hρ _ _ rfl)) rfl rfl rfl (w_n rfl) ?_
          refine TL_seq ?_
          refine T_cond_f rfl ?_
          refine T_skip' ?_
          refine p_seq ?_
          refine T_seq (T_region ?_)
          refine TL_q (.slice ar3 ((openL l2).length) cr3) (fun _ _ hρ _ => r_move (hρ _ _ rfl)) rfl rfl rfl (w_n rfl) ?_
          obtain ⟨l4, hl4, hn4⟩ : ∃ lz, lz = ((openL l2).drop 4).take ((openL l2).length - 4) ∧ lz.length = (openL l2).length - 4 := ⟨_, rfl, by rw [List.length_take, List.length_drop]; omega⟩
          obtain ⟨a4, ha4⟩ : ∃ az : Option Addr, az = (if cr3 = 4 then (ar3 : Option Addr) else Option.map (fun z : Addr => z.add (4 * 1)) (ar3 : Option Addr)) := ⟨_, rfl⟩
          refine TL_q (.slice a4 l4.length (cr3 - 4)) (fun ρ _ hρ _ => r_as (r_sliceO sl34 sz5 (hρ _ _ rfl) (bd_none ρ _) (bd_none ρ _) (bd_some (n := 4) (hρ _ _ rfl)) (by simp) (by omega) (by omega) (by omega)) (by rw [hn4, ha4])) rfl rfl rfl (w_n rfl) ?_
          refine TL_q (.slice a4 l4.length (cr3 - 4)) (fun _ _ hρ _ => r_assign (hρ _ _ rfl)) rfl rfl rfl (w_n rfl) ?_
          refine TL_q (.int .i64 0) (fun _ _ hρ _ => r_assign (hρ _ _ rfl)) rfl rfl rfl (w_n rfl) ?_
          refine TL_seq ?_
          refine T_sub [(2, .slice a4 l4.length (cr3 - 4)), (3, .int .i64 0)] [(1, .row (.slice ar3 ((openL l2).length) cr3) 5 1 ((openL l2).length) ((openL l2).flatMap byc))] (sub_cons rfl (sub_cons rfl sub_nil)) (sub_cons rfl sub_nil) ?_
          refine T_ret' ?_
          refine ret_of rfl (.tuple #[.slice a4 l4.length (cr3 - 4), .int .i64 0]) (fun tmps w hk hm => res2 rfl (res_tmp (hk 2 _ rfl)) (res_tmp (hk 3 _ rfl))) (fun w hm => ?_)
          exact absurd ((first_e4 (by omega) (by omega) (by omega)).trans hopE) h
        · skip
          refine T_seq (T_region ?_)
          refine TL_q (.slice a l.length cap) (fun _ _ hρ _ => r_move (hρ _ _ rfl)) rfl rfl rfl (w_n rfl) ?_
          refine TL_q (.int .u64 ((numP l : Nat) : Int)) (fun _ _ hρ _ => r_move (hρ _ _ rfl)) rfl rfl rfl (w_n rfl) ?_
          refine TL_q (.int .u64 ((numP l + 8 : Nat) : Int)) (fun _ _ hρ _ => r_as (r_add (hρ _ _ rfl) (hρ _ _ rfl)) (int_as ((wrap_u64 (by omega) (by omega)).trans (by omega)))) rfl rfl rfl (w_n rfl) ?_
          obtain ⟨l5, hl5, hn5⟩ : ∃ lz, lz = l.take (numP l + 8) ∧ lz.length = numP l + 8 := ⟨_, rfl, by rw [List.length_take]; omega⟩
          have hs5 := SliceAt.front hv (n := numP l + 8) (m := cap) (by omega) (by omega) (by omega)
          rw [← hl5] at hs5
          refine TL_q (.slice a l5.length cap) (fun ρ _ hρ _ => r_as (r_sliceO sl34 sz5 (hρ _ _ rfl) (bd_none ρ _) (bd_some (n := numP l + 8) (hρ _ _ rfl)) (bd_none ρ _) (by simp) (by omega) (by omega) (by omega)) (by rw [hn5]; exact slo_zero _ _ _ _)) rfl rfl rfl (w_n rfl) ?_
          refine TL_callN (fun (_ : Option Addr × Nat) => True) (fun (ar6, cr6) => .tuple #[.slice ar6 ((openL l5).length) cr6, .bool false]) (fun (ar6, cr6) => [(2, .row (.slice ar6 ((openL l5).length) cr6) 5 1 ((openL l5).length) ((openL l5).flatMap byc))]) (fun _ _ hρ _ => r_call (args := [.slice a l5.length cap]) (enters_of Try.func89 (by kernel_rfl) rfl) (hρ _ _ rfl) ((cons2 (hρ _ _ rfl) rfl)) rfl) (fun w hm => (open_ref l5 a cap w (hs5.keep hm.ext) (by omega) (by omega)).mono fun e w' ⟨a', cap', he, hb, hr⟩ => ⟨(a', cap'), trivial, he.trans (by rw [show openB l5 = false by rw [openB_is, hl5]; exact decide_eq_false hopE]), hb, newOk1 2 hr⟩) rfl rfl rfl (w_n rfl) ?_
          rintro ⟨ar6, cr6⟩ -
          refine TL_q (.tuple #[.slice ar6 ((openL l5).length) cr6, .bool false]) (fun _ _ hρ _ => r_move (hρ _ _ rfl)) rfl rfl rfl (w_n rfl) ?_
          refine TL_q (.slice ar6 ((openL l5).length) cr6) (fun _ _ hρ _ => r_extract (hρ _ _ rfl) rfl) rfl rfl rfl (w_n rfl) ?_
          refine TL_q (.bool false) (fun _ _ hρ _ => r_extract (hρ _ _ rfl) rfl) rfl rfl rfl (w_n rfl) ?_
          refine TL_q (.slice ar6 ((openL l5).length) cr6) (fun _ _ hρ _ => r_assign (hρ _ _ rfl)) rfl rfl rfl (w_n rfl) ?_
          refine TL_q (.bool false) (fun _ _ hρ _ => r_assign (hρ _ _ rfl)) rfl rfl rfl (w_n rfl) ?_
          refine TL_seq ?_
          refine T_seq ?_
          refine T_seq (T_region ?_)
          refine TL_q (.bool false) (fun _ _ hρ _ => r_move (hρ _ _ rfl)) rfl rfl rfl (w_n rfl) ?_
          refine TL_q (.bool true) (fun _ _ hρ _ => r_not (b := false) (hρ _ _ rfl)) rfl rfl rfl (w_n rfl) ?_
          refine TL_seq ?_
          refine T_cond_t rfl ?_
          refine T_seq (T_region ?_)
          refine TL_q (.slice none 0 0) (fun _ _ hρ _ => r_assign (hρ _ _ rfl)) rfl rfl rfl (w_n rfl) ?_
          refine TL_q (.int .i64 120) (fun _ _ hρ _ => r_assign (hρ _ _ rfl)) rfl rfl rfl (w_n rfl) ?_
          refine TL_seq ?_
          refine T_sub [(5, .slice ar6 ((openL l5).length) cr6), (2, .slice none 0 0), (3, .int .i64 120)] [(2, .row (.slice ar6 ((openL l5).length) cr6) 5 1 ((openL l5).length) ((openL l5).flatMap byc))] (sub_cons rfl (sub_cons rfl (sub_cons rfl sub_nil))) (sub_cons rfl sub_nil) ?_
          refine T_ret' ?_
          refine p_then_r ?_
          refine ret_of rfl (.tuple #[.slice none 0 0, .int .i64 120]) (fun tmps w hk hm => res2 rfl (res_tmp (hk 2 _ rfl)) (res_tmp (hk 3 _ rfl))) (fun w hm => ?_)
          exact ⟨by rw [first_e4 (by omega) (by omega) (by omega), openE_no hopE], hm.ext⟩

theorem rfirst_ok (l0 l : List By) (he : l = l0) (a : Option Addr) (cap : Nat) (w : World) (hv : SliceAt w a cap 1 byc l) (hcap : cap ≤ Go.maxLen) (h : firstE l0 = 0) : Calls Try.prog 51 #[.slice a l.length cap] w fun e w' => ∃ a' cap', e = .returned (.tuple #[.slice a' (heldP l0).length cap', .int .i64 0]) ∧ Below w.heap.size w w' ∧ (Res.sl a' cap' (heldP l0)).ok w.heap.size w' := by
  subst he; exact rfirst_c l a cap w hv hcap h
theorem rfirst_no (l0 l : List By) (he : l = l0) (a : Option Addr) (cap : Nat) (w : World) (hv : SliceAt w a cap 1 byc l) (hcap : cap ≤ Go.maxLen) (h : ¬ firstE l0 = 0) : Calls Try.prog 51 #[.slice a l.length cap] w fun e w' => e = .returned (.tuple #[.slice none 0 0, .int .i64 (firstE l0)]) ∧ Below w.heap.size w w' := by
  subst he; exact rfirst_p l a cap w hv hcap h
theorem rs_next {l : List By} {k at9 : Nat} (hd : (scanA 0 l).drop k = scanA at9 (l.drop at9)) (hz : firstE (l.drop at9) = 0) : (scanA 0 l).drop (k + 1) = scanA (at9 + (heldP (l.drop at9)).length + 8) (l.drop (at9 + (heldP (l.drop at9)).length + 8)) := by
  have := drop_next (hd.trans (scanA_h at9 hz))
  rw [this, List.drop_drop, Nat.add_assoc]

theorem rscan_c (l : List By) (a : Option Addr) (cap : Nat) (w : World) (hv : SliceAt w a cap 1 byc l) (hcap : cap ≤ Go.maxLen) (hl9 : l.length ≤ 1000000) : Calls Try.prog 42 #[.slice a l.length cap] w fun e w' => ∃ (n : RowG (RowG By)) (m : RowG Nat), rls n.l = heldsV l ∧ m.l = placesV l ∧ e = .returned (.tuple #[.slice n.a n.l.length n.cap, .slice m.a m.l.length m.cap, .int .i64 ((sizeV l : Nat) : Int)]) ∧ Below w.heap.size w w' ∧ NewOk w w' [(963, rowR n), (964, .rows n.l), (965, .row (.slice m.a m.l.length m.cap) 3 1 m.l.length (m.l.flatMap nic))] := by
  have hvl := hv.1
  have hcp := hcap
  unfold Go.maxLen at hcp
  refine calls_of_T (l := [.slice a l.length cap]) 35 Try.func42 rfl rfl rfl ?_
  show T _ _ _ [(0, .slice a l.length cap)] []
  refine T_seq (T_region ?_)
  refine TL_q (.slice none 0 0) (fun _ _ hρ _ => r_assign (hρ _ _ rfl)) rfl rfl rfl (w_n rfl) ?_
  refine TL_q (.slice none 0 0) (fun _ _ hρ _ => r_assign (hρ _ _ rfl)) rfl rfl rfl (w_n rfl) ?_
  refine TL_q (.int .i64 0) (fun _ _ hρ _ => r_assign (hρ _ _ rfl)) rfl rfl rfl (w_n rfl) ?_
  refine TL_seq ?_
  refine T_seq (T_region ?_)
  refine TL_q (.slice none 0 0) (fun _ _ hρ _ => r_assign (hρ _ _ rfl)) rfl rfl rfl (w_n rfl) ?_
  refine TL_seq ?_
  refine T_seq (T_region ?_)
  refine TL_q (.slice none 0 0) (fun _ _ hρ _ => r_assign (hρ _ _ rfl)) rfl rfl rfl (w_n rfl) ?_
  refine TL_seq ?_
  refine T_seq (T_region ?_)
  refine TL_q (.int .i64 0) (fun _ _ hρ _ => r_assign (hρ _ _ rfl)) rfl rfl rfl (w_n rfl) ?_
  refine TL_seq ?_
  refine T_block ?_
  refine T_mem (_ :: _ :: _ :: _) (fun _ hm => MemOk.nilRow (MemOk.shelf0 rowK (hm.nilRow 965 3 1) 964) 963 34 1) ?_
  refine T_loop (ι := Nat × Nat × RowG (RowG By) × RowG Nat) (fun (z : Nat × Nat × RowG (RowG By) × RowG Nat) => match z with | (k, at9, n8, m8) => k ≤ (scanA 0 l).length ∧ (scanA 0 l).drop k = scanA at9 (l.drop at9) ∧ at9 ≤ l.length ∧ rls n8.l = ((scanA 0 l).take k).map (·.2) ∧ m8.l = ((scanA 0 l).take k).map (·.1) ∧ at9 = endS ((scanA 0 l).take k) 0) (fun (z : Nat × Nat × RowG (RowG By) × RowG Nat) => match z with | (k, at9, n8, m8) => [(0, .slice a l.length cap), (5, .slice n8.a n8.l.length n8.cap), (6, .slice m8.a m8.l.length m8.cap), (7, .int .i64 ((at9 : Nat) : Int))]) (fun (z : Nat × Nat × RowG (RowG By) × RowG Nat) => match z with | (k, at9, n8, m8) => [(963, .row (.slice n8.a n8.l.length n8.cap) 34 1 n8.l.length (n8.l.flatMap RowG.cells)), (964, .rows n8.l), (965, .row (.slice m8.a m8.l.length m8.cap) 3 1 m8.l.length (m8.l.flatMap nic))]) (fun (z : Nat × Nat × RowG (RowG By) × RowG Nat) => match z with | (k, at9, n8, m8) => l.length - at9) (0, 0, ⟨none, 0, []⟩, ⟨none, 0, []⟩) ⟨Nat.zero_le _, rfl, Nat.zero_le _, rfl, rfl, rfl⟩ (sub_cons rfl (sub_cons rfl (sub_cons rfl (sub_cons rfl sub_nil)))) (sub_cons rfl (sub_cons rfl (sub_cons rfl sub_nil))) ?_
  rintro ⟨k, at9, n8, m8⟩ hp
  obtain ⟨hk, hd, hat, hnq, hmq, hsz⟩ := hp
  have hcn := scan_cnt hnq
  have hcm := scan_cnt hmq
  rw [rls_len] at hcn
  show T _ _ _ [(0, .slice a l.length cap), (5, .slice n8.a n8.l.length n8.cap), (6, .slice m8.a m8.l.length m8.cap), (7, .int .i64 ((at9 : Nat) : Int))] [(963, .row (.slice n8.a n8.l.length n8.cap) 34 1 n8.l.length (n8.l.flatMap RowG.cells)), (964, .rows n8.l), (965, .row (.slice m8.a m8.l.length m8.cap) 3 1 m8.l.length (m8.l.flatMap nic))]
  refine T_block ?_
  by_cases hz : firstE (l.drop at9) = 0
  · skip
    have hhl := heldP_len hz
    have c2 := (first_ok hz).2.1
    have c3 := (first_ok hz).2.2.1
    have hdl := List.length_drop (l := l) (i := at9)
    have hdx := hd.trans (scanA_h at9 hz)
    have hgx := drop_get hdx
    refine T_seq (T_region ?_)
    refine TL_q (.slice a l.length cap) (fun _ _ hρ _ => r_move (hρ _ _ rfl)) rfl rfl rfl (w_n rfl) ?_
    refine TL_q (.int .i64 ((at9 : Nat) : Int)) (fun _ _ hρ _ => r_move (hρ _ _ rfl)) rfl rfl rfl (w_n rfl) ?_
    obtain ⟨l1, hl1, hn1⟩ : ∃ lz, lz = (l.drop at9).take (l.length - at9) ∧ lz.length = l.length - at9 := ⟨_, rfl, by rw [List.length_take, List.length_drop]; omega⟩
    obtain ⟨a1, ha1⟩ : ∃ az : Option Addr, az = (if cap = at9 then a else Option.map (·.add (at9 * 1)) a) := ⟨_, rfl⟩
    have hs1 := SliceAt.part hv (lo := at9) (hi := l.length) (m := cap) (by omega) (by omega) (by omega) (by omega)
    rw [← hl1, ← ha1] at hs1
    refine TL_q (.slice a1 l1.length (cap - at9)) (fun ρ _ hρ _ => r_as (r_sliceO sl34 sz5 (hρ _ _ rfl) (bd_none ρ _) (bd_none ρ _) (bd_some (n := at9) (hρ _ _ rfl)) (by simp) (by omega) (by omega) (by omega)) (by rw [hn1, ha1])) rfl rfl rfl (w_n rfl) ?_
    refine TL_callN (fun (_ : Option Addr × Nat) => True) (fun (ag2, cg2) => .tuple #[.slice ag2 ((heldP (l.drop at9)).length) cg2, .int .i64 0]) (fun (ag2, cg2) => [(1, .sl ag2 cg2 (heldP (l.drop at9)))]) (fun _ _ hρ _ => r_call (args := [.slice a1 l1.length (cap - at9)]) (enters_of Try.func51 (by kernel_rfl) rfl) (hρ _ _ rfl) ((cons2 (hρ _ _ rfl) rfl)) rfl) (fun w hm => (rfirst_ok (l.drop at9) l1 (by rw [hl1]; exact List.take_of_length_le (by rw [List.length_drop]; exact Nat.le_refl _)) a1 (cap - at9) w (hs1.keep hm.ext) (by omega) hz).mono fun e w' ⟨a', cap', he, hb, hr⟩ => ⟨(a', cap'), trivial, he, hb, newOk1 1 hr⟩) rfl rfl rfl (w_n rfl) ?_
    rintro ⟨ag2, cg2⟩ -
    refine TL_q (.tuple #[.slice ag2 ((heldP (l.drop at9)).length) cg2, .int .i64 0]) (fun _ _ hρ _ => r_move (hρ _ _ rfl)) rfl rfl rfl (w_n rfl) ?_
    refine TL_q (.slice ag2 ((heldP (l.drop at9)).length) cg2) (fun _ _ hρ _ => r_extract (hρ _ _ rfl) rfl) rfl rfl rfl (w_n rfl) ?_
    refine TL_q (.int .i64 0) (fun _ _ hρ _ => r_extract (hρ _ _ rfl) rfl) rfl rfl rfl (w_n rfl) ?_
    refine TL_q (.slice ag2 ((heldP (l.drop at9)).length) cg2) (fun _ _ hρ _ => r_assign (hρ _ _ rfl)) rfl rfl rfl (w_n rfl) ?_
    refine TL_q (.int .i64 0) (fun _ _ hρ _ => r_assign (hρ _ _ rfl)) rfl rfl rfl (w_n rfl) ?_
    refine TL_seq ?_
    refine T_seq ?_
    refine T_seq (T_region ?_)
    refine TL_q (.int .i64 0) (fun _ _ hρ _ => r_move (hρ _ _ rfl)) rfl rfl rfl (w_n rfl) ?_
    refine TL_q (.bool false) (fun _ _ hρ _ => r_as (r_neq (hρ _ _ rfl) (hρ _ _ rfl)) (by rfl)) rfl rfl rfl (w_n rfl) ?_
    refine TL_seq ?_
    refine T_cond_f rfl ?_
    refine T_skip' ?_
    refine p_seq ?_
    refine T_seq (T_region ?_)
    refine TL_q (.slice n8.a n8.l.length n8.cap) (fun _ _ hρ _ => r_move (hρ _ _ rfl)) rfl rfl rfl (w_n rfl) ?_
    refine TL_q (.slice ag2 ((heldP (l.drop at9)).length) cg2) (fun _ _ hρ _ => r_move (hρ _ _ rfl)) rfl rfl rfl (w_n rfl) ?_
    refine TL_new 2 (.cells #[.slice ag2 ((heldP (l.drop at9)).length) cg2] 34) (fun B => .slice (some ⟨B, 0, none⟩) 1 1) (fun _ _ hρ _ => r_buildSlice (vs := [(0, .slice ag2 ((heldP (l.drop at9)).length) cg2)]) (by kernel_rfl) (cons2 (pair2 (hρ _ _ rfl)) rfl)) rfl rfl rfl (w_n rfl) ?_
    intro B3
    refine TL_append (n := n8.l.length) (m := 1) (xs := (n8.l.flatMap RowG.cells)) (news := [.slice ag2 ((heldP (l.drop at9)).length) cg2]) (z := .slice none 0 0) 963 rfl rfl rfl sl63 sz34 by34 (by kernel_rfl) rfl rfl (.inl rfl) (fun _ hm => src_blk (news := [.slice ag2 ((heldP (l.drop at9)).length) cg2]) (hm.at 2 rfl) rfl) (by simp [Value.oneCell']) (by omega) (by omega) rfl (w_n rfl) ?_
    intro a4 cap4
    refine TL_q (.slice m8.a m8.l.length m8.cap) (fun _ _ hρ _ => r_move (hρ _ _ rfl)) rfl rfl rfl (w_n rfl) ?_
    refine TL_q (.int .i64 ((at9 : Nat) : Int)) (fun _ _ hρ _ => r_move (hρ _ _ rfl)) rfl rfl rfl (w_n rfl) ?_
    refine TL_new 3 (.cells #[.int .i64 ((at9 : Nat) : Int)] 3) (fun B => .slice (some ⟨B, 0, none⟩) 1 1) (fun _ _ hρ _ => r_buildSlice (vs := [(0, .int .i64 ((at9 : Nat) : Int))]) (by kernel_rfl) (cons2 (pair2 (hρ _ _ rfl)) rfl)) rfl rfl rfl (w_n rfl) ?_
    intro B5
    refine TL_append (n := m8.l.length) (m := 1) (xs := (m8.l.flatMap nic)) (news := [.int .i64 ((at9 : Nat) : Int)]) (z := .int .i64 0) 965 rfl rfl rfl sl71 sz3 by3 (by kernel_rfl) rfl rfl (.inl rfl) (fun _ hm => src_blk (news := [.int .i64 ((at9 : Nat) : Int)]) (hm.at 3 rfl) rfl) (by simp [Value.oneCell']) (by omega) (by omega) rfl (w_n rfl) ?_
    intro a6 cap6
    refine TL_q (.slice a4 (n8.l.length + 1) cap4) (fun _ _ hρ _ => r_assign (hρ _ _ rfl)) rfl rfl rfl (w_n rfl) ?_
    refine TL_q (.slice a6 (m8.l.length + 1) cap6) (fun _ _ hρ _ => r_assign (hρ _ _ rfl)) rfl rfl rfl (w_n rfl) ?_
    refine TL_seq ?_
    refine T_region ?_
    refine TL_q (.int .i64 ((at9 : Nat) : Int)) (fun _ _ hρ _ => r_move (hρ _ _ rfl)) rfl rfl rfl (w_n rfl) ?_
    refine TL_q (.slice ag2 ((heldP (l.drop at9)).length) cg2) (fun _ _ hρ _ => r_move (hρ _ _ rfl)) rfl rfl rfl (w_n rfl) ?_
    refine TL_q (.int .i64 (((heldP (l.drop at9)).length : Nat) : Int)) (fun _ _ hρ _ => r_len sl34 (hρ _ _ rfl)) rfl rfl rfl (w_n rfl) ?_
    refine TL_q (.int .i64 ((at9 + ((heldP (l.drop at9)).length) : Nat) : Int)) (fun _ _ hρ _ => r_as (r_add (hρ _ _ rfl) (hρ _ _ rfl)) (int_as ((wrap64 (by omega) (by omega)).trans (by omega)))) rfl rfl rfl (w_n rfl) ?_
    refine TL_q (.int .i64 (((at9 + ((heldP (l.drop at9)).length)) + 8 : Nat) : Int)) (fun _ _ hρ _ => r_as (r_add (hρ _ _ rfl) (hρ _ _ rfl)) (int_as ((wrap64 (by omega) (by omega)).trans (by omega)))) rfl rfl rfl (w_n rfl) ?_
    refine TL_q (.int .i64 (((at9 + ((heldP (l.drop at9)).length)) + 8 : Nat) : Int)) (fun _ _ hρ _ => r_assign (hρ _ _ rfl)) rfl rfl rfl (w_n rfl) ?_
    refine TL_nil ?_
    refine p_blk_n ?_
    have hn7 : (n8.l.length + 1) = (n8.l ++ [(⟨ag2, cg2, (heldP (l.drop at9))⟩ : RowG By)]).length := by simp
    have hx7 : ((n8.l.flatMap RowG.cells) ++ [.slice ag2 ((heldP (l.drop at9)).length) cg2]) = (n8.l ++ [(⟨ag2, cg2, (heldP (l.drop at9))⟩ : RowG By)]).flatMap RowG.cells := by simp [RowG.cells]
    rw [hx7, hn7]
    have hn8 : (m8.l.length + 1) = (m8.l ++ [at9]).length := by simp
    have hx8 : ((m8.l.flatMap nic) ++ [.int .i64 ((at9 : Nat) : Int)]) = (m8.l ++ [at9]).flatMap nic := by simp [nic]
    rw [hx8, hn8]
    refine p_mem (_ :: _ :: _) (fun _ hm => hm.rowsPush 964 1 rfl rfl rfl) ?_
    exact p_at (k + 1, at9 + (heldP (l.drop at9)).length + 8, ⟨a4, cap4, n8.l ++ [(⟨ag2, cg2, (heldP (l.drop at9))⟩ : RowG By)]⟩, ⟨a6, cap6, m8.l ++ [at9]⟩) ⟨⟨drop_lt hdx, rs_next hd hz, by omega, scan_step hnq hgx, place_step hmq hgx, by rw [endS_at hgx]; exact (Nat.add_assoc _ _ _)⟩, by dsimp only; omega⟩ (sub_cons rfl (sub_cons rfl (sub_cons rfl (sub_cons rfl sub_nil)))) (sub_cons rfl (sub_cons rfl (sub_cons rfl sub_nil)))
  · skip
    refine T_seq (T_region ?_)
    refine TL_q (.slice a l.length cap) (fun _ _ hρ _ => r_move (hρ _ _ rfl)) rfl rfl rfl (w_n rfl) ?_
    refine TL_q (.int .i64 ((at9 : Nat) : Int)) (fun _ _ hρ _ => r_move (hρ _ _ rfl)) rfl rfl rfl (w_n rfl) ?_
    obtain ⟨l9, hl9, hn9⟩ : ∃ lz, lz = (l.drop at9).take (l.length - at9) ∧ lz.length = l.length - at9 := ⟨_, rfl, by rw [List.length_take, List.length_drop]; omega⟩
    obtain ⟨a9, ha9⟩ : ∃ az : Option Addr, az = (if cap = at9 then a else Option.map (·.add (at9 * 1)) a) := ⟨_, rfl⟩
    have hs9 := SliceAt.part hv (lo := at9) (hi := l.length) (m := cap) (by omega) (by omega) (by omega) (by omega)
    rw [← hl9, ← ha9] at hs9
    refine TL_q (.slice a9 l9.length (cap - at9)) (fun ρ _ hρ _ => r_as (r_sliceO sl34 sz5 (hρ _ _ rfl) (bd_none ρ _) (bd_none ρ _) (bd_some (n := at9) (hρ _ _ rfl)) (by simp) (by omega) (by omega) (by omega)) (by rw [hn9, ha9])) rfl rfl rfl (w_n rfl) ?_
    refine TL_call (.tuple #[.slice none 0 0, .int .i64 (firstE (l.drop at9))]) (fun _ _ hρ _ => r_call (args := [.slice a9 l9.length (cap - at9)]) (enters_of Try.func51 (by kernel_rfl) rfl) (hρ _ _ rfl) ((cons2 (hρ _ _ rfl) rfl)) rfl) (fun w hm => rfirst_no (l.drop at9) l9 (by rw [hl9]; exact List.take_of_length_le (by rw [List.length_drop]; exact Nat.le_refl _)) a9 (cap - at9) w (hs9.keep hm.ext) (by omega) hz) rfl rfl rfl (w_n rfl) ?_
    refine TL_q (.tuple #[.slice none 0 0, .int .i64 (firstE (l.drop at9))]) (fun _ _ hρ _ => r_move (hρ _ _ rfl)) rfl rfl rfl (w_n rfl) ?_
    refine TL_q (.slice none 0 0) (fun _ _ hρ _ => r_extract (hρ _ _ rfl) rfl) rfl rfl rfl (w_n rfl) ?_
    refine TL_q (.int .i64 (firstE (l.drop at9))) (fun _ _ hρ _ => r_extract (hρ _ _ rfl) rfl) rfl rfl rfl (w_n rfl) ?_
    refine TL_q (.slice none 0 0) (fun _ _ hρ _ => r_assign (hρ _ _ rfl)) rfl rfl rfl (w_n rfl) ?_
    refine TL_q (.int .i64 (firstE (l.drop at9))) (fun _ _ hρ _ => r_assign (hρ _ _ rfl)) rfl rfl rfl (w_n rfl) ?_
    refine TL_seq ?_
    refine T_seq ?_
    refine T_seq (T_region ?_)
    refine TL_q (.int .i64 (firstE (l.drop at9))) (fun _ _ hρ _ => r_move (hρ _ _ rfl)) rfl rfl rfl (w_n rfl) ?_
    refine TL_q (.bool true) (fun _ _ hρ _ => r_as (r_neq (hρ _ _ rfl) (hρ _ _ rfl)) (bool_as (by rw [decide_eq_false hz]; rfl))) rfl rfl rfl (w_n rfl) ?_
    refine TL_seq ?_
    refine T_cond_t rfl ?_
    refine T_seq (T_region ?_)
    refine TL_q (.slice n8.a n8.l.length n8.cap) (fun _ _ hρ _ => r_move (hρ _ _ rfl)) rfl rfl rfl (w_n rfl) ?_
    refine TL_q (.slice m8.a m8.l.length m8.cap) (fun _ _ hρ _ => r_move (hρ _ _ rfl)) rfl rfl rfl (w_n rfl) ?_
    refine TL_q (.int .i64 ((at9 : Nat) : Int)) (fun _ _ hρ _ => r_move (hρ _ _ rfl)) rfl rfl rfl (w_n rfl) ?_
    refine TL_q (.slice n8.a n8.l.length n8.cap) (fun _ _ hρ _ => r_assign (hρ _ _ rfl)) rfl rfl rfl (w_n rfl) ?_
    refine TL_q (.slice m8.a m8.l.length m8.cap) (fun _ _ hρ _ => r_assign (hρ _ _ rfl)) rfl rfl rfl (w_n rfl) ?_
    refine TL_q (.int .i64 ((at9 : Nat) : Int)) (fun _ _ hρ _ => r_assign (hρ _ _ rfl)) rfl rfl rfl (w_n rfl) ?_
    refine TL_seq ?_
    refine T_ret' ?_
    refine p_then_r ?_
    refine p_blk_r ?_
    refine p_then_r ?_
    refine p_blk_r ?_
    refine ret_of rfl (.tuple #[.slice n8.a n8.l.length n8.cap, .slice m8.a m8.l.length m8.cap, .int .i64 ((at9 : Nat) : Int)]) (fun tmps w hk hm => res3 rfl (res_tmp (hk 2 _ rfl)) (res_tmp (hk 3 _ rfl)) (res_tmp (hk 4 _ rfl))) (fun w hm => ?_)
    have hke := drop_none hk (hd.trans (scanA_f at9 hz))
    subst hke
    have hm2 := hm.sub (L' := [(963, rowR n8), (964, .rows n8.l), (965, .row (.slice m8.a m8.l.length m8.cap) 3 1 m8.l.length (m8.l.flatMap nic))]) (sub_cons rfl (sub_cons rfl (sub_cons rfl sub_nil)))
    rw [List.take_length] at hnq hmq hsz
    exact ⟨n8, m8, hnq, hmq, by rw [hsz], hm.ext, ⟨fun i r h => hm2.own i r h, fun i j r s h1 h2 => hm2.sep i j r s h1 h2⟩⟩

/-- What can be gone through of rows. -/
def fewR (l : List (List By)) : List (List By) := (l.take 6).map (·.take 65537)
theorem fewr_step {ls l1 : List (RowG By)} {k : Nat} {p : RowG By} {a : Option Addr} {c : Nat} {l : List By} (h : rls ls = (rls (l1.take k)).map (·.take 65537)) (hp : l1[k]? = some p) (e : l = p.l.take (min p.l.length 65537)) : rls (ls ++ [⟨a, c, l⟩]) = (rls (l1.take (k + 1))).map (·.take 65537) := by
  have e2 : l = p.l.take 65537 := by rw [e]; exact take_min _ _
  unfold rls at h ⊢
  rw [List.map_append, h, List.take_add_one, hp, List.map_append, List.map_append, e2]; rfl
theorem fewr_len {ls l1 : List (RowG By)} {k : Nat} (h : rls ls = (rls (l1.take k)).map (·.take 65537)) (hk : k ≤ l1.length) : ls.length = k := by
  have := congrArg List.length h
  unfold rls at this
  rw [List.length_map, List.length_map, List.length_map, List.length_take] at this
  omega
theorem fewr_all {ls l1 xs : List (RowG By)} (h : rls ls = (rls l1).map (·.take 65537)) (hl : l1 = xs.take (min xs.length 6)) : rls ls = fewR (rls xs) := by
  rw [h, hl]
  unfold fewR rls
  rw [List.map_take]
  congr 1
  rcases Nat.le_total xs.length 6 with e | e
  · rw [Nat.min_eq_left e, List.take_of_length_le (by simp), List.take_of_length_le (by simpa using e)]
  · rw [Nat.min_eq_right e]
theorem fewR_len (l : List (List By)) : (fewR l).length ≤ 6 := by unfold fewR; rw [List.length_map, List.length_take]; omega
theorem fewR_le (l : List (List By)) : ∀ r ∈ fewR l, r.length ≤ 65537 := fun r hr => by
  unfold fewR at hr
  obtain ⟨x, _, rfl⟩ := List.mem_map.1 hr
  rw [List.length_take]; omega
theorem rls_le {n : List (RowG By)} {m : Nat} {l : List (List By)} (h : rls n = l) (hl : ∀ r ∈ l, r.length ≤ m) : ∀ r ∈ n, r.l.length ≤ m := fun r hr => hl _ (by rw [← h]; exact List.mem_map.2 ⟨r, hr, rfl⟩)
theorem fewr_c (xs : List (RowG By)) (a : Option Addr) (cap : Nat) (w : World) (hv : SliceAt w a cap 1 RowG.cells xs) (hcap : cap ≤ Go.maxLen) (hx : RowsIn w xs) : Calls Try.prog 36 #[.slice a xs.length cap] w fun e w' => ∃ n : RowG (RowG By), rls n.l = fewR (rls xs) ∧ e = .returned (.slice n.a n.l.length n.cap) ∧ Below w.heap.size w w' ∧ (rowR n).ok w.heap.size w' ∧ (Res.pool 5 1 byc n.l).ok w.heap.size w' ∧ ∀ b, (rowR n).foot b → ¬ (Res.pool 5 1 byc n.l).foot b := by
  have hvl := hv.1
  unfold Go.maxLen at hcap
  refine calls_of_T (l := [.slice a xs.length cap]) 27 Try.func36 rfl rfl rfl ?_
  show T _ _ _ [(0, .slice a xs.length cap)] []
  refine T_seq (T_region ?_)
  refine TL_q (.slice none 0 0) (fun _ _ hρ _ => r_assign (hρ _ _ rfl)) rfl rfl rfl (w_n rfl) ?_
  refine TL_seq ?_
  refine T_seq (T_region ?_)
  refine TL_q (.slice none 0 0) (fun _ _ hρ _ => r_assign (hρ _ _ rfl)) rfl rfl rfl (w_n rfl) ?_
  refine TL_seq ?_
  refine T_seq ?_
  refine T_seq (T_region ?_)
  refine TL_q (.slice a xs.length cap) (fun _ _ hρ _ => r_move (hρ _ _ rfl)) rfl rfl rfl (w_n rfl) ?_
  refine TL_q (.slice a xs.length cap) (fun _ _ hρ _ => r_move (hρ _ _ rfl)) rfl rfl rfl (w_n rfl) ?_
  refine TL_q (.int .i64 ((xs.length : Nat) : Int)) (fun _ _ hρ _ => r_len sl63 (hρ _ _ rfl)) rfl rfl rfl (w_n rfl) ?_
  refine TL_q (.int .i64 ((min xs.length 6 : Nat) : Int)) (fun _ _ hρ _ => r_as (r_min (hρ _ _ rfl) (hρ _ _ rfl)) (int_as (minI _ 6))) rfl rfl rfl (w_n rfl) ?_
  obtain ⟨l1, hl1, hn1⟩ : ∃ lz, lz = xs.take (min xs.length 6) ∧ lz.length = min xs.length 6 := ⟨_, rfl, by rw [List.length_take]; omega⟩
  have hs1 := SliceAt.front hv (n := min xs.length 6) (m := cap) (by omega) (by omega) (by omega)
  rw [← hl1] at hs1
  refine TL_q (.slice a l1.length cap) (fun ρ _ hρ _ => r_as (r_sliceO sl63 sz34 (hρ _ _ rfl) (bd_none ρ _) (bd_some (n := min xs.length 6) (hρ _ _ rfl)) (bd_none ρ _) (by simp) (by omega) (by omega) (by omega)) (by rw [hn1]; exact slo_zero _ _ _ _)) rfl rfl rfl (w_n rfl) ?_
  refine TL_q (.int .i64 ((l1.length : Nat) : Int)) (fun _ _ hρ _ => r_len sl63 (hρ _ _ rfl)) rfl rfl rfl (w_n rfl) ?_
  refine TL_q (.int .i64 0) (fun _ _ hρ _ => r_move (hρ _ _ rfl)) rfl rfl rfl (w_n rfl) ?_
  refine TL_seq ?_
  refine T_block ?_
  refine T_mem (_ :: _ :: _) (fun _ hm => (hm.nilRow 963 34 1).pool0 964 5 1 byc) ?_
  refine T_loop (ι := Nat × List (RowG By) × Option Addr × Nat) (fun (z : Nat × List (RowG By) × Option Addr × Nat) => match z with | (k, ls, a2, cap2) => k ≤ l1.length ∧ rls ls = (rls (l1.take k)).map (·.take 65537)) (fun (z : Nat × List (RowG By) × Option Addr × Nat) => match z with | (k, ls, a2, cap2) => [(2, .slice none 0 0), (10, .slice a l1.length cap), (11, .int .i64 ((l1.length : Nat) : Int)), (12, .int .i64 ((k : Nat) : Int)), (3, .slice a2 ls.length cap2)]) (fun (z : Nat × List (RowG By) × Option Addr × Nat) => match z with | (k, ls, a2, cap2) => [(963, .row (.slice a2 ls.length cap2) 34 1 ls.length (ls.flatMap RowG.cells)), (964, .pool 5 1 byc ls)]) (fun (z : Nat × List (RowG By) × Option Addr × Nat) => match z with | (k, ls, a2, cap2) => l1.length - k) (0, [], none, 0) ⟨Nat.zero_le _, rfl⟩ (sub_cons rfl (sub_cons rfl (sub_cons rfl (sub_cons rfl (sub_cons rfl sub_nil))))) (sub_cons rfl (sub_cons rfl sub_nil)) ?_
  rintro ⟨k, ls, a2, cap2⟩ hp
  obtain ⟨hk, hl⟩ := hp
  have hlk := fewr_len hl hk
  show T _ _ _ [(2, .slice none 0 0), (10, .slice a l1.length cap), (11, .int .i64 ((l1.length : Nat) : Int)), (12, .int .i64 ((k : Nat) : Int)), (3, .slice a2 ls.length cap2)] [(963, .row (.slice a2 ls.length cap2) 34 1 ls.length (ls.flatMap RowG.cells)), (964, .pool 5 1 byc ls)]
  refine T_seq (T_region ?_)
  refine TL_q (.bool (decide (((k : Nat) : Int) < ((l1.length : Nat) : Int)))) (fun _ _ hρ _ => r_lss (hρ _ _ rfl) (hρ _ _ rfl)) rfl rfl rfl (w_n rfl) ?_
  refine TL_seq ?_
  refine T_seq ?_
  refine T_cond rfl (fun h1 => ?_) (fun h1 => ?_)
  · replace h1 := of_decide_eq_true h1
    refine T_skip' ?_
    refine p_seq ?_
    refine T_seq ?_
    refine T_block ?_
    obtain ⟨p, hp⟩ : ∃ x, l1[k]? = some x := ⟨_, List.getElem?_eq_getElem (by omega)⟩
    have hokp := hx p (by have h9 := List.mem_of_getElem? hp; rw [hl1] at h9; exact List.mem_of_mem_take h9)
    have hpl := hokp.1.1
    have hpc := hokp.2
    unfold Go.maxLen at hpc
    obtain ⟨b2, of2, cs2, T2, fz2, ha2, hq2, hr2⟩ := hs1.open (i := k) (by omega)
    subst ha2
    refine T_seq (T_region ?_)
    refine TL_q (.pointer (some ⟨b2, of2 + k * 1, none⟩)) (fun _ _ hρ _ => r_indexAddrS (i := k) sl63 sz34 (hρ _ _ rfl) (hρ _ _ rfl) (by omega)) rfl rfl rfl (w_n rfl) ?_
    refine TL_q (.slice p.a p.l.length p.cap) (fun _ _ hρ hm => r_loadRow1 (f := RowG.cells) (u := p) ag34 (hρ _ _ rfl) (hm.old hq2) hr2 hp rfl) rfl rfl rfl (w_n rfl) ?_
    refine TL_q (.slice p.a p.l.length p.cap) (fun _ _ hρ _ => r_assign (hρ _ _ rfl)) rfl rfl rfl (w_n rfl) ?_
    refine TL_seq ?_
    refine T_region ?_
    refine TL_q (.slice a2 ls.length cap2) (fun _ _ hρ _ => r_move (hρ _ _ rfl)) rfl rfl rfl (w_n rfl) ?_
    refine TL_q (.slice p.a p.l.length p.cap) (fun _ _ hρ _ => r_move (hρ _ _ rfl)) rfl rfl rfl (w_n rfl) ?_
    refine TL_q (.slice p.a p.l.length p.cap) (fun _ _ hρ _ => r_move (hρ _ _ rfl)) rfl rfl rfl (w_n rfl) ?_
    refine TL_q (.int .i64 ((p.l.length : Nat) : Int)) (fun _ _ hρ _ => r_len sl34 (hρ _ _ rfl)) rfl rfl rfl (w_n rfl) ?_
    refine TL_q (.int .i64 ((min p.l.length 65537 : Nat) : Int)) (fun _ _ hρ _ => r_as (r_min (hρ _ _ rfl) (hρ _ _ rfl)) (int_as (minI _ 65537))) rfl rfl rfl (w_n rfl) ?_
    obtain ⟨l3, hl3, hn3⟩ : ∃ lz, lz = p.l.take (min p.l.length 65537) ∧ lz.length = min p.l.length 65537 := ⟨_, rfl, by rw [List.length_take]; omega⟩
    have hs3 := SliceAt.front hokp.1 (n := min p.l.length 65537) (m := p.cap) (by omega) (by omega) (by omega)
    rw [← hl3] at hs3
    refine TL_q (.slice p.a l3.length p.cap) (fun ρ _ hρ _ => r_as (r_sliceO sl34 sz5 (hρ _ _ rfl) (bd_none ρ _) (bd_some (n := min p.l.length 65537) (hρ _ _ rfl)) (bd_none ρ _) (by simp) (by omega) (by omega) (by omega)) (by rw [hn3]; exact slo_zero _ _ _ _)) rfl rfl rfl (w_n rfl) ?_
    refine TL_callN (fun (_ : Option Addr × Nat) => True) (fun (ar4, cr4) => .slice ar4 ((l3).length) cr4) (fun (ar4, cr4) => [(1, .row (.slice ar4 ((l3).length) cr4) 5 1 ((l3).length) ((l3).flatMap byc))]) (fun _ _ hρ _ => r_call (args := [.slice p.a l3.length p.cap]) (enters_of Try.func37 (by kernel_rfl) rfl) (hρ _ _ rfl) ((cons2 (hρ _ _ rfl) rfl)) rfl) (fun w hm => (clone_b byc byc_len byc_one l3 p.a p.cap w (hs3.keep hm.ext) (by omega)).mono fun e w' ⟨a', cap', he, hb, hr⟩ => ⟨(a', cap'), trivial, he, hb, newOk1 1 hr⟩) rfl rfl rfl (w_n rfl) ?_
    rintro ⟨ar4, cr4⟩ -
    refine TL_new 2 (.cells #[.slice ar4 ((l3).length) cr4] 34) (fun B => .slice (some ⟨B, 0, none⟩) 1 1) (fun _ _ hρ _ => r_buildSlice (vs := [(0, .slice ar4 ((l3).length) cr4)]) (by kernel_rfl) (cons2 (pair2 (hρ _ _ rfl)) rfl)) rfl rfl rfl (w_n rfl) ?_
    intro B5
    refine TL_append (n := ls.length) (m := 1) (xs := (ls.flatMap RowG.cells)) (news := [.slice ar4 ((l3).length) cr4]) (z := .slice none 0 0) 963 rfl rfl rfl sl63 sz34 by34 (by kernel_rfl) rfl rfl (.inl rfl) (fun _ hm => src_blk (news := [.slice ar4 ((l3).length) cr4]) (hm.at 2 rfl) rfl) (by simp [Value.oneCell']) (by omega) (by omega) rfl (w_n rfl) ?_
    intro a6 cap6
    refine TL_q (.slice a6 (ls.length + 1) cap6) (fun _ _ hρ _ => r_assign (hρ _ _ rfl)) rfl rfl rfl (w_n rfl) ?_
    refine TL_nil ?_
    refine p_blk_n ?_
    refine p_seq ?_
    refine T_region ?_
    refine TL_q (.int .i64 ((k + 1 : Nat) : Int)) (fun _ _ hρ _ => r_as (r_add (hρ _ _ rfl) (hρ _ _ rfl)) (int_as ((wrap64 (by omega) (by omega)).trans (by omega)))) rfl rfl rfl (w_n rfl) ?_
    refine TL_q (.int .i64 ((k + 1 : Nat) : Int)) (fun _ _ hρ _ => r_move (hρ _ _ rfl)) rfl rfl rfl (w_n rfl) ?_
    refine TL_nil ?_
    have hn7 : (ls.length + 1) = (ls ++ [(⟨ar4, cr4, l3⟩ : RowG By)]).length := by simp
    have hx7 : ((ls.flatMap RowG.cells) ++ [.slice ar4 ((l3).length) cr4]) = (ls ++ [(⟨ar4, cr4, l3⟩ : RowG By)]).flatMap RowG.cells := by simp [RowG.cells]
    rw [hx7, hn7]
    refine p_mem (_ :: _ :: _) (fun _ hm => hm.poolPush 964 1 rfl rfl rfl rfl) ?_
    exact p_at (k + 1, ls ++ [(⟨ar4, cr4, l3⟩ : RowG By)], a6, cap6) ⟨⟨by omega, fewr_step hl hp hl3⟩, by dsimp only; omega⟩ (sub_cons rfl (sub_cons rfl (sub_cons rfl (sub_cons rfl (sub_cons rfl sub_nil))))) (sub_cons rfl (sub_cons rfl sub_nil))
  · replace h1 := of_decide_eq_false h1
    refine T_exit' ?_
    refine p_then_x ?_
    refine p_then_x ?_
    refine p_blk_x ?_
    refine p_seq ?_
    refine T_seq (T_region ?_)
    refine TL_q (.slice a2 ls.length cap2) (fun _ _ hρ _ => r_move (hρ _ _ rfl)) rfl rfl rfl (w_n rfl) ?_
    refine TL_q (.slice a2 ls.length cap2) (fun _ _ hρ _ => r_assign (hρ _ _ rfl)) rfl rfl rfl (w_n rfl) ?_
    refine TL_seq ?_
    refine T_ret' ?_
    refine ret_of rfl (.slice a2 ls.length cap2) (fun tmps w hk hm => res1 rfl (res_tmp (hk 2 _ rfl))) (fun w hm => ?_)
    have hke : k = l1.length := by omega
    subst hke
    rw [List.take_length] at hl
    exact ⟨⟨a2, cap2, ls⟩, fewr_all hl hl1, rfl, hm.ext, hm.own 963 _ rfl, hm.own 964 _ rfl, hm.sep 963 964 _ _ rfl rfl (by decide)⟩

theorem rls_step {ps qs : List (RowG By)} {k : Nat} {p q : RowG By} (h : rls (ps.take k) = rls (qs.take k)) (hp : ps[k]? = some p) (hq : qs[k]? = some q) (e : p.l = q.l) : rls (ps.take (k + 1)) = rls (qs.take (k + 1)) := by
  unfold rls at h ⊢
  rw [List.take_add_one, List.take_add_one, hp, hq, List.map_append, List.map_append, h]
  simp only [Option.toList_some, List.map_cons, List.map_nil, e]
theorem rls_at {ps qs : List (RowG By)} {k : Nat} {p q : RowG By} (h : rls ps = rls qs) (hp : ps[k]? = some p) (hq : qs[k]? = some q) : p.l = q.l := by
  have := congrArg (fun l => l[k]?) h
  simp only [List.getElem?_map, hp, hq, Option.map_some] at this
  exact Option.some.inj this

theorem same1_c (l m : List By) (a b : Option Addr) (cap capb : Nat) (w : World) (hv : SliceAt w a cap 1 byc l) (hu : SliceAt w b capb 1 byc m) (hl : l.length ≤ 1000000) (hl2 : m.length ≤ 1000000) : Calls Try.prog 86 #[.slice a l.length cap, .slice b m.length capb] w fun e w' => e = .returned (.bool (decide (l = m))) ∧ Below w.heap.size w w' := by
  refine calls_of_T (l := [.slice a l.length cap, .slice b m.length capb]) 8 Try.func86 rfl rfl rfl ?_
  show T _ _ _ [(0, .slice a l.length cap), (1, .slice b m.length capb)] []
  refine T_seq (T_region ?_)
  refine TL_q (.bool false) (fun _ _ hρ _ => r_assign (hρ _ _ rfl)) rfl rfl rfl (w_n rfl) ?_
  refine TL_seq ?_
  refine T_seq (T_region ?_)
  refine TL_q (.slice a l.length cap) (fun _ _ hρ _ => r_move (hρ _ _ rfl)) rfl rfl rfl (w_n rfl) ?_
  refine TL_q (.slice b m.length capb) (fun _ _ hρ _ => r_move (hρ _ _ rfl)) rfl rfl rfl (w_n rfl) ?_
  refine TL_call (.bool (decide (l = m))) (fun _ _ hρ _ => r_call (args := [.slice a l.length cap, .slice b m.length capb]) (enters_of Try.func16 (by kernel_rfl) rfl) (hρ _ _ rfl) ((cons2 (hρ _ _ rfl) (cons2 (hρ _ _ rfl) rfl))) rfl) (fun w hm => equal_b l m a b cap capb w (hv.keep hm.ext) (hu.keep hm.ext) (by omega) (by omega)) rfl rfl rfl (w_n rfl) ?_
  refine TL_q (.bool (decide (l = m))) (fun _ _ hρ _ => r_assign (hρ _ _ rfl)) rfl rfl rfl (w_n rfl) ?_
  refine TL_seq ?_
  refine T_ret' ?_
  refine ret_of rfl (.bool (decide (l = m))) (fun tmps w hk hm => res1 rfl (res_tmp (hk 4 _ rfl))) (fun w hm => ?_)
  exact ⟨rfl, hm.ext⟩

theorem eqf_c (ps : List (RowG By)) (a : Option Addr) (cap : Nat) (qs : List (RowG By)) (b : Option Addr) (capb : Nat) (w : World) (hv : SliceAt w a cap 1 RowG.cells ps) (hcap : cap ≤ Go.maxLen) (hx : RowsIn w ps) (hxb : ∀ r ∈ ps, r.l.length ≤ 1000000) (hu : SliceAt w b capb 1 RowG.cells qs) (hcapb : capb ≤ Go.maxLen) (hy : RowsIn w qs) (hyb : ∀ r ∈ qs, r.l.length ≤ 1000000) : Calls Try.prog 85 #[.slice a ps.length cap, .slice b qs.length capb, .func (.func 86) #[] #[]] w fun e w' => e = .returned (.bool (decide (rls ps = rls qs))) ∧ Below w.heap.size w w' := by
  have hvl := hv.1
  have hul := hu.1
  unfold Go.maxLen at hcap hcapb
  refine calls_of_T (l := [.slice a ps.length cap, .slice b qs.length capb, .func (.func 86) #[] #[]]) 32 Try.func85 rfl rfl rfl ?_
  show T _ _ _ [(0, .slice a ps.length cap), (1, .slice b qs.length capb), (2, .func (.func 86) #[] #[])] []
  refine T_seq (T_region ?_)
  refine TL_q (.bool false) (fun _ _ hρ _ => r_assign (hρ _ _ rfl)) rfl rfl rfl (w_n rfl) ?_
  refine TL_seq ?_
  refine T_seq ?_
  by_cases c1 : ((ps.length : Nat) : Int) = ((qs.length : Nat) : Int)
  · skip
    refine T_seq (T_region ?_)
    refine TL_q (.slice a ps.length cap) (fun _ _ hρ _ => r_move (hρ _ _ rfl)) rfl rfl rfl (w_n rfl) ?_
    refine TL_q (.int .i64 ((ps.length : Nat) : Int)) (fun _ _ hρ _ => r_len sl63 (hρ _ _ rfl)) rfl rfl rfl (w_n rfl) ?_
    refine TL_q (.slice b qs.length capb) (fun _ _ hρ _ => r_move (hρ _ _ rfl)) rfl rfl rfl (w_n rfl) ?_
    refine TL_q (.int .i64 ((qs.length : Nat) : Int)) (fun _ _ hρ _ => r_len sl63 (hρ _ _ rfl)) rfl rfl rfl (w_n rfl) ?_
    refine TL_q (.bool false) (fun _ _ hρ _ => r_as (r_neq (hρ _ _ rfl) (hρ _ _ rfl)) (bool_as (by rw [decide_eq_true c1]; rfl))) rfl rfl rfl (w_n rfl) ?_
    refine TL_seq ?_
    refine T_cond_f rfl ?_
    refine T_skip' ?_
    refine p_seq ?_
    refine T_seq ?_
    refine T_seq (T_region ?_)
    refine TL_q (.slice a ps.length cap) (fun _ _ hρ _ => r_move (hρ _ _ rfl)) rfl rfl rfl (w_n rfl) ?_
    refine TL_q (.int .i64 ((ps.length : Nat) : Int)) (fun _ _ hρ _ => r_len sl63 (hρ _ _ rfl)) rfl rfl rfl (w_n rfl) ?_
    refine TL_q (.int .i64 0) (fun _ _ hρ _ => r_move (hρ _ _ rfl)) rfl rfl rfl (w_n rfl) ?_
    refine TL_seq ?_
    refine T_block ?_
    refine T_loop (ι := Nat) (fun (k : Nat) => k ≤ ps.length ∧ rls (ps.take k) = rls (qs.take k)) (fun (k : Nat) => [(1, .slice b qs.length capb), (2, .func (.func 86) #[] #[]), (15, .slice a ps.length cap), (16, .int .i64 ((ps.length : Nat) : Int)), (17, .int .i64 ((k : Nat) : Int))]) (fun (k : Nat) => []) (fun (k : Nat) => ps.length - k) 0 ⟨Nat.zero_le _, by simp⟩ (sub_cons rfl (sub_cons rfl (sub_cons rfl (sub_cons rfl (sub_cons rfl sub_nil))))) sub_nil ?_
    rintro k hp
    obtain ⟨hk1, hk2⟩ := hp
    show T _ _ _ [(1, .slice b qs.length capb), (2, .func (.func 86) #[] #[]), (15, .slice a ps.length cap), (16, .int .i64 ((ps.length : Nat) : Int)), (17, .int .i64 ((k : Nat) : Int))] []
    refine T_seq (T_region ?_)
    refine TL_q (.bool (decide (((k : Nat) : Int) < ((ps.length : Nat) : Int)))) (fun _ _ hρ _ => r_lss (hρ _ _ rfl) (hρ _ _ rfl)) rfl rfl rfl (w_n rfl) ?_
    refine TL_seq ?_
    refine T_seq ?_
    refine T_cond rfl (fun h1 => ?_) (fun h1 => ?_)
    · replace h1 := of_decide_eq_true h1
      refine T_skip' ?_
      refine p_seq ?_
      refine T_seq ?_
      refine T_block ?_
      obtain ⟨p, hp⟩ : ∃ x, ps[k]? = some x := ⟨_, List.getElem?_eq_getElem (by omega)⟩
      have hokp := hx p (List.mem_of_getElem? hp)
      have hbdp := hxb p (List.mem_of_getElem? hp)
      obtain ⟨b1, of1, cs1, T1, fz1, ha1, hq1, hr1⟩ := hv.open (i := k) (by omega)
      subst ha1
      refine T_seq (T_region ?_)
      refine TL_q (.int .i64 ((k : Nat) : Int)) (fun _ _ hρ _ => r_move (hρ _ _ rfl)) rfl rfl rfl (w_n rfl) ?_
      refine TL_q (.pointer (some ⟨b1, of1 + k * 1, none⟩)) (fun _ _ hρ _ => r_indexAddrS (i := k) sl63 sz34 (hρ _ _ rfl) (hρ _ _ rfl) (by omega)) rfl rfl rfl (w_n rfl) ?_
      refine TL_q (.slice p.a p.l.length p.cap) (fun _ _ hρ hm => r_loadRow1 (f := RowG.cells) (u := p) ag34 (hρ _ _ rfl) (hm.old hq1) hr1 hp rfl) rfl rfl rfl (w_n rfl) ?_
      refine TL_q (.int .i64 ((k : Nat) : Int)) (fun _ _ hρ _ => r_assign (hρ _ _ rfl)) rfl rfl rfl (w_n rfl) ?_
      refine TL_q (.slice p.a p.l.length p.cap) (fun _ _ hρ _ => r_assign (hρ _ _ rfl)) rfl rfl rfl (w_n rfl) ?_
      refine TL_seq ?_
      obtain ⟨q, hq⟩ : ∃ x, qs[k]? = some x := ⟨_, List.getElem?_eq_getElem (by omega)⟩
      have hokq := hy q (List.mem_of_getElem? hq)
      have hbdq := hyb q (List.mem_of_getElem? hq)
      obtain ⟨b2, of2, cs2, T2, fz2, ha2, hq2, hr2⟩ := hu.open (i := k) (by omega)
      subst ha2
      refine T_seq (T_region ?_)
      refine TL_q (.slice (some ⟨b2, of2, none⟩) qs.length capb) (fun _ _ hρ _ => r_move (hρ _ _ rfl)) rfl rfl rfl (w_n rfl) ?_
      refine TL_q (.int .i64 ((k : Nat) : Int)) (fun _ _ hρ _ => r_move (hρ _ _ rfl)) rfl rfl rfl (w_n rfl) ?_
      refine TL_q (.pointer (some ⟨b2, of2 + k * 1, none⟩)) (fun _ _ hρ _ => r_indexAddrS (i := k) sl63 sz34 (hρ _ _ rfl) (hρ _ _ rfl) (by omega)) rfl rfl rfl (w_n rfl) ?_
      refine TL_q (.slice q.a q.l.length q.cap) (fun _ _ hρ hm => r_loadRow1 (f := RowG.cells) (u := q) ag34 (hρ _ _ rfl) (hm.old hq2) hr2 hq rfl) rfl rfl rfl (w_n rfl) ?_
      refine TL_q (.slice q.a q.l.length q.cap) (fun _ _ hρ _ => r_assign (hρ _ _ rfl)) rfl rfl rfl (w_n rfl) ?_
      refine TL_seq ?_
      by_cases he : p.l = q.l
      · skip
        refine T_seq (T_region ?_)
        refine TL_q (.func (.func 86) #[] #[]) (fun _ _ hρ _ => r_move (hρ _ _ rfl)) rfl rfl rfl (w_n rfl) ?_
        refine TL_q (.slice p.a p.l.length p.cap) (fun _ _ hρ _ => r_move (hρ _ _ rfl)) rfl rfl rfl (w_n rfl) ?_
        refine TL_q (.slice q.a q.l.length q.cap) (fun _ _ hρ _ => r_move (hρ _ _ rfl)) rfl rfl rfl (w_n rfl) ?_
        refine TL_call (.bool true) (fun _ _ hρ _ => r_call (args := [.slice p.a p.l.length p.cap, .slice q.a q.l.length q.cap]) (enters_of Try.func86 (by kernel_rfl) rfl) (hρ _ _ rfl) ((cons2 (hρ _ _ rfl) (cons2 (hρ _ _ rfl) rfl))) rfl) (fun w hm => (same1_c p.l q.l p.a q.a p.cap q.cap w (hokp.1.keep hm.ext) (hokq.1.keep hm.ext) hbdp hbdq).mono fun _ _ h => ⟨h.1.trans (congrArg Ending.returned (bool_as (decide_eq_true he))), h.2⟩) rfl rfl rfl (w_n rfl) ?_
        refine TL_q (.bool false) (fun _ _ hρ _ => r_not (b := true) (hρ _ _ rfl)) rfl rfl rfl (w_n rfl) ?_
        refine TL_seq ?_
        refine T_cond_f rfl ?_
        refine T_skip' ?_
        refine p_blk_n ?_
        refine p_seq ?_
        refine T_region ?_
        refine TL_q (.int .i64 ((k + 1 : Nat) : Int)) (fun _ _ hρ _ => r_as (r_add (hρ _ _ rfl) (hρ _ _ rfl)) (int_as ((wrap64 (by omega) (by omega)).trans (by omega)))) rfl rfl rfl (w_n rfl) ?_
        refine TL_q (.int .i64 ((k + 1 : Nat) : Int)) (fun _ _ hρ _ => r_move (hρ _ _ rfl)) rfl rfl rfl (w_n rfl) ?_
        refine TL_nil ?_
        exact p_at (k + 1) ⟨⟨by omega, rls_step hk2 hp hq he⟩, by omega⟩ (sub_cons rfl (sub_cons rfl (sub_cons rfl (sub_cons rfl (sub_cons rfl sub_nil))))) sub_nil
      · skip
        refine T_seq (T_region ?_)
        refine TL_q (.func (.func 86) #[] #[]) (fun _ _ hρ _ => r_move (hρ _ _ rfl)) rfl rfl rfl (w_n rfl) ?_
        refine TL_q (.slice p.a p.l.length p.cap) (fun _ _ hρ _ => r_move (hρ _ _ rfl)) rfl rfl rfl (w_n rfl) ?_
        refine TL_q (.slice q.a q.l.length q.cap) (fun _ _ hρ _ => r_move (hρ _ _ rfl)) rfl rfl rfl (w_n rfl) ?_
        refine TL_call (.bool false) (fun _ _ hρ _ => r_call (args := [.slice p.a p.l.length p.cap, .slice q.a q.l.length q.cap]) (enters_of Try.func86 (by kernel_rfl) rfl) (hρ _ _ rfl) ((cons2 (hρ _ _ rfl) (cons2 (hρ _ _ rfl) rfl))) rfl) (fun w hm => (same1_c p.l q.l p.a q.a p.cap q.cap w (hokp.1.keep hm.ext) (hokq.1.keep hm.ext) hbdp hbdq).mono fun _ _ h => ⟨h.1.trans (congrArg Ending.returned (bool_as (decide_eq_false he))), h.2⟩) rfl rfl rfl (w_n rfl) ?_
        refine TL_q (.bool true) (fun _ _ hρ _ => r_not (b := false) (hρ _ _ rfl)) rfl rfl rfl (w_n rfl) ?_
        refine TL_seq ?_
        refine T_cond_t rfl ?_
        refine T_seq (T_region ?_)
        refine TL_q (.bool false) (fun _ _ hρ _ => r_assign (hρ _ _ rfl)) rfl rfl rfl (w_n rfl) ?_
        refine TL_seq ?_
        refine T_ret' ?_
        refine p_blk_r ?_
        refine p_then_r ?_
        refine p_then_r ?_
        refine p_blk_r ?_
        refine p_then_r ?_
        refine ret_of rfl (.bool false) (fun tmps w hk hm => res1 rfl (res_tmp (hk 6 _ rfl))) (fun w hm => ?_)
        exact ⟨congrArg Ending.returned (bool_as (decide_eq_false (fun e => he (rls_at e hp hq))).symm), hm.ext⟩
    · replace h1 := of_decide_eq_false h1
      refine T_exit' ?_
      refine p_then_x ?_
      refine p_then_x ?_
      refine p_blk_x ?_
      refine p_seq ?_
      refine T_seq (T_region ?_)
      refine TL_q (.bool true) (fun _ _ hρ _ => r_assign (hρ _ _ rfl)) rfl rfl rfl (w_n rfl) ?_
      refine TL_seq ?_
      refine T_ret' ?_
      refine ret_of rfl (.bool true) (fun tmps w hk hm => res1 rfl (res_tmp (hk 6 _ rfl))) (fun w hm => ?_)
      have hke : k = ps.length := by omega
      subst hke
      rw [List.take_length, show ps.length = qs.length by omega, List.take_length] at hk2
      exact ⟨congrArg Ending.returned (bool_as (decide_eq_true hk2).symm), hm.ext⟩
  · skip
    refine T_seq (T_region ?_)
    refine TL_q (.slice a ps.length cap) (fun _ _ hρ _ => r_move (hρ _ _ rfl)) rfl rfl rfl (w_n rfl) ?_
    refine TL_q (.int .i64 ((ps.length : Nat) : Int)) (fun _ _ hρ _ => r_len sl63 (hρ _ _ rfl)) rfl rfl rfl (w_n rfl) ?_
    refine TL_q (.slice b qs.length capb) (fun _ _ hρ _ => r_move (hρ _ _ rfl)) rfl rfl rfl (w_n rfl) ?_
    refine TL_q (.int .i64 ((qs.length : Nat) : Int)) (fun _ _ hρ _ => r_len sl63 (hρ _ _ rfl)) rfl rfl rfl (w_n rfl) ?_
    refine TL_q (.bool true) (fun _ _ hρ _ => r_as (r_neq (hρ _ _ rfl) (hρ _ _ rfl)) (bool_as (by rw [decide_eq_false c1]; rfl))) rfl rfl rfl (w_n rfl) ?_
    refine TL_seq ?_
    refine T_cond_t rfl ?_
    refine T_seq (T_region ?_)
    refine TL_q (.bool false) (fun _ _ hρ _ => r_assign (hρ _ _ rfl)) rfl rfl rfl (w_n rfl) ?_
    refine TL_seq ?_
    refine T_ret' ?_
    refine p_then_r ?_
    refine ret_of rfl (.bool false) (fun tmps w hk hm => res1 rfl (res_tmp (hk 6 _ rfl))) (fun w hm => ?_)
    exact ⟨congrArg Ending.returned (bool_as (decide_eq_false (fun e => c1 (by have := congrArg List.length e; rw [rls_len, rls_len] at this; omega))).symm), hm.ext⟩

theorem same_c (ps : List (RowG By)) (a : Option Addr) (cap : Nat) (qs : List (RowG By)) (b : Option Addr) (capb : Nat) (w : World) (hv : SliceAt w a cap 1 RowG.cells ps) (hcap : cap ≤ Go.maxLen) (hx : RowsIn w ps) (hxb : ∀ r ∈ ps, r.l.length ≤ 1000000) (hu : SliceAt w b capb 1 RowG.cells qs) (hcapb : capb ≤ Go.maxLen) (hy : RowsIn w qs) (hyb : ∀ r ∈ qs, r.l.length ≤ 1000000) : Calls Try.prog 45 #[.slice a ps.length cap, .slice b qs.length capb] w fun e w' => e = .returned (.bool (decide (rls ps = rls qs))) ∧ Below w.heap.size w w' := by
  refine calls_of_T (l := [.slice a ps.length cap, .slice b qs.length capb]) 8 Try.func45 rfl rfl rfl ?_
  show T _ _ _ [(0, .slice a ps.length cap), (1, .slice b qs.length capb)] []
  refine T_seq (T_region ?_)
  refine TL_q (.bool false) (fun _ _ hρ _ => r_assign (hρ _ _ rfl)) rfl rfl rfl (w_n rfl) ?_
  refine TL_seq ?_
  refine T_seq (T_region ?_)
  refine TL_q (.slice a ps.length cap) (fun _ _ hρ _ => r_move (hρ _ _ rfl)) rfl rfl rfl (w_n rfl) ?_
  refine TL_q (.slice b qs.length capb) (fun _ _ hρ _ => r_move (hρ _ _ rfl)) rfl rfl rfl (w_n rfl) ?_
  refine TL_call (.bool (decide (rls ps = rls qs))) (fun _ _ hρ _ => r_call (args := [.slice a ps.length cap, .slice b qs.length capb, .func (.func 86) #[] #[]]) (enters_of Try.func85 (by kernel_rfl) rfl) (hρ _ _ rfl) ((cons2 (hρ _ _ rfl) (cons2 (hρ _ _ rfl) (cons2 (hρ _ _ rfl) rfl)))) rfl) (fun w hm => eqf_c ps a cap qs b capb w (hv.keep hm.ext) hcap (hx.keep hm.ext) hxb (hu.keep hm.ext) hcapb (hy.keep hm.ext) hyb) rfl rfl rfl (w_n rfl) ?_
  refine TL_q (.bool (decide (rls ps = rls qs))) (fun _ _ hρ _ => r_assign (hρ _ _ rfl)) rfl rfl rfl (w_n rfl) ?_
  refine TL_seq ?_
  refine T_ret' ?_
  refine ret_of rfl (.bool (decide (rls ps = rls qs))) (fun tmps w hk hm => res1 rfl (res_tmp (hk 4 _ rfl))) (fun w hm => ?_)
  exact ⟨rfl, hm.ext⟩
end Go.Proofs.Ytcidgbjgeegepaa
