/- Rows of one's own: made, copied into, stored into. Over any program. -/
import Derived.Test.YtbiapeaghbndoaaLst
import Derived.Laws.MakeOwn
import Derived.Laws.CopyOwn
import Derived.Laws.IdiomCopy
namespace Go.Proofs.Ytbiapeaghbndoaa
open Go Go.RowKit
section
variable {P : Program} {w : World}
theorem made_one {z v : Value} (hz : z.cells = #[v]) (c : Nat) : (madeCells z.cells c).toList = List.replicate c v := by
  apply List.ext_getElem?
  intro i
  unfold madeCells
  rw [hz]
  by_cases h : i < c
  · simp [h, List.getElem?_replicate, Nat.mod_one]
  · simp [h, List.getElem?_replicate]
theorem flat_rep {α : Type} {f : α → List Value} {u : α} {v : Value} (hf : f u = [v]) : ∀ n, (List.replicate n u).flatMap f = List.replicate n v
  | 0 => rfl
  | n + 1 => by rw [List.replicate_succ, List.flatMap_cons, hf, flat_rep hf n]; rfl
/-- A row of one cell an element, made. -/
theorem run_makeX {w₀ : World} {L : Heap} (hm : MemOk w₀ L w) {t e : TypeId} {n cap by' : Nat} {z v : Value} {α : Type} {f : α → List Value} {u : α} (i : Nat) (hfr : lk L i = none) (ht : sliOf P t = some e) (hby : byOf P e = some by') (hs : szOf P e = some 1) (hz : zeroOf P e = some z) (hzc : z.cells = #[v]) (hf : f u = [v])
    (hnc : n ≤ cap) (h63 : cap ≤ 4611686018427387904) (hb : by' * cap ≤ 140737488355328) :
    ∃ w' B, (Instr.makeSlice t (.int .i64 (n : Nat)) (.int .i64 (cap : Nat))).run P w = .ok (.slice (some ⟨B, 0, none⟩) n cap) w' ∧ MemOk w₀ ((i, .row (.slice (some ⟨B, 0, none⟩) n cap) e 1 n ((List.replicate n u).flatMap f)) :: L) w' := by
  obtain ⟨ti, hi, hsz⟩ := Option.map_eq_some_iff.1 hs
  obtain ⟨ti', hi', hbz⟩ := Option.map_eq_some_iff.1 hby
  rw [hi] at hi'; cases hi'
  have hzz : ti.zero = some z := by simpa [zeroOf, hi] using hz
  have hb' : (ti.bytes : Int) * (cap : Int) ≤ 281474976710656 := by
    have h : ((ti.bytes * cap : Nat) : Int) ≤ 281474976710656 := by rw [hbz]; omega
    rwa [Int.natCast_mul] at h
  have hr := run_make (P := P) w t e ti z (und_sli ht) hi hzz .i64 .i64 n cap (by omega) (by omega) hb' (by omega)
  simp only [Int.toNat_natCast] at hr
  refine ⟨_, w.heap.size, hr, ?_⟩
  refine hm.grow (n := 0) (xs := []) (.inr ⟨hfr, (rfl : (Value.slice none 0 0).ownBlock = none)⟩) (World.grownBy_alloc w _ none) ⟨?_, .inr ⟨w.heap.size, cap, _, rfl, hm.ext.size, Go.heap_alloc_new w _, hnc, by unfold Go.maxLen; omega, ?_, ?_⟩⟩ (.inr rfl)
  · rw [flat_rep hf, List.length_replicate, Nat.mul_one]
  · rw [hsz, Nat.mul_one]; simp [madeCells]
  · rw [flat_rep hf, hsz, Nat.mul_one, made_one hzc, Nat.mul_one, List.take_replicate, Nat.min_eq_left hnc]
/-- All of a row of one's own is copied over. -/
theorem run_copyX {w₀ : World} {L : Heap} (hm : MemOk w₀ L w) {t t2 ty e : TypeId} {n cap B : Nat} {v2 : Value} {xs news : List Value} (i : Nat) (hi : lk L i = some (.row (.slice (some ⟨B, 0, none⟩) n cap) e 1 n xs)) (ht : sliOf P t = some e) (hs : szOf P e = some 1) (hsrc : Src w v2 1 n news) (hone : ∀ u ∈ news, u.oneCell' = true) :
    ∃ w', (Builtin.copy_ #[t, t2] ty #[.slice (some ⟨B, 0, none⟩) n cap, v2]).run P w = .ok (.int .i64 (n : Nat)) w' ∧ MemOk w₀ ((i, .row (.slice (some ⟨B, 0, none⟩) n cap) e 1 n news) :: L) w' := by
  have hrow := hm.row i hi
  have same : n = 0 → news = [] → MemOk w₀ ((i, .row (.slice (some ⟨B, 0, none⟩) n cap) e 1 n news) :: L) w := by
    intro h0 hn
    have hx : xs = [] := List.eq_nil_of_length_eq_zero (by rw [hrow.1, h0])
    subst hn hx
    exact hm.of (lk_dup hi)
  rcases hsrc with ⟨rfl, h0, hn⟩ | ⟨x, c, rfl, h0, hn⟩ | ⟨b, off, c, rfl, hl, hcell⟩
  · refine ⟨w, ?_, same h0 hn⟩
    rw [run_copy_none w t t2 ty e _ _ _ _ _ _ (und_sli ht) hs rfl, h0]; rfl
  · refine ⟨w, ?_, same h0 hn⟩
    rw [run_copy_none w t t2 ty e _ _ _ _ _ _ (und_sli ht) hs (by simp), h0]; rfl
  · rcases hrow.2 with ⟨h1, _⟩ | ⟨g, cap', cur, h1, hbg, hg, hnc, hcm, hcs, htk⟩
    · cases h1
    · cases h1
      rw [Nat.mul_one] at hl hcs
      have hr := run_copy_row (P := P) w t t2 ty e B 0 n cap ⟨b, off, none⟩ n c cur e news (und_sli ht) hs hg (by rw [hl]; exact (Nat.min_self n).symm) (fun j u hu => by rw [addr_add]; exact hcell j u hu) (by omega) hone
      refine ⟨_, by rw [hr, hl]; rfl, ?_⟩
      refine hm.grow (.inl hi) ⟨rfl, rfl, rfl, by simp, fun k _ hk => setRow_other w B k _ (fun e => hk (by simp [Value.ownBlock, e]))⟩ ⟨by rw [hl, Nat.mul_one], .inr ⟨B, cap, _, rfl, hbg, setRow_heap w B cur _ e _ hg, hnc, hcm, ?_, ?_⟩⟩ (.inl rfl)
      · simp only [List.size_toArray, List.length_append, List.length_take, List.length_drop, Array.length_toList]
        omega
      · rw [List.take_zero, List.nil_append, Nat.mul_one, ← hl]
        exact List.take_left
/-- An element of a row of one's own, stored. -/
theorem run_storeX {w₀ : World} {L : Heap} (hm : MemOk w₀ L w) {t e : TypeId} {s n cap B k : Nat} {v : Value} {α : Type} {f : α → List Value} {l : List α} {u : α} (i : Nat) (hi : lk L i = some (.row (.slice (some ⟨B, 0, none⟩) n cap) e s n (l.flatMap f))) (hn : n = l.length) (hs : szOf P t = some s) (hf : ∀ x, (f x).length = s)
    (hk : k < l.length) (hv : v.cells = (f u).toArray) (ho : (f u).all isOne = true) :
    ∃ w', (storeVar t ⟨B, 0 + k * s, none⟩ v).run P w = .ok () w' ∧ MemOk w₀ ((i, .row (.slice (some ⟨B, 0, none⟩) n cap) e s n ((l.set k u).flatMap f)) :: L) w' := by
  subst hn
  have hrow := hm.row i hi
  rcases hrow.2 with ⟨h1, _⟩ | ⟨g, cap', cur, h1, hbg, hg, hnc, hcm, hcs, htk⟩
  · cases h1
  · cases h1
    obtain ⟨post, hpost⟩ : ∃ post, cur.toList = l.flatMap f ++ post := ⟨cur.toList.drop (l.length * s), by rw [← htk, List.take_append_drop]⟩
    obtain ⟨pre, xs, po, e1, e2, e3, e4⟩ := flat_set hf hk u
    have hle : k * s + s ≤ l.length * s := by
      have := Nat.mul_le_mul_right s (show k + 1 ≤ l.length from hk)
      rwa [Nat.add_mul, Nat.one_mul] at this
    have hle2 : l.length * s ≤ cap * s := Nat.mul_le_mul_right s hnc
    obtain ⟨w', hr, hu⟩ := run_storeVar (P := P) (t := t) (off := 0 + k * s) hs hg (by rw [hv, List.size_toArray, hf]) (by omega) (by rw [hv]; exact ho)
    have hcur : wrC cur (0 + k * s) v.cells.toList = ((l.set k u).flatMap f ++ post).toArray := by
      have : cur = (pre ++ xs ++ (po ++ post)).toArray := by apply Array.ext'; rw [hpost, e1]; simp
      rw [this, Nat.zero_add, ← e2, hv]
      rw [wrC_list _ _ _ _ (by rw [e3, hf]), e4]; simp
    rw [hcur] at hu
    refine ⟨w', hr, hm.grow (.inl hi) ⟨hu.os, hu.tape, hu.output, by rw [hu.size]; exact Nat.le_refl _, fun j _ hj => hu.other j (fun e => hj (by rw [e]; rfl))⟩ ⟨by rw [flat_len hf, List.length_set], .inr ⟨B, cap, _, rfl, hbg, hu.this, hnc, hcm, ?_, ?_⟩⟩ (.inl rfl)⟩
    · have hc1 : cur.size = (l.flatMap f ++ post).length := by rw [← hpost, Array.length_toList]
      rw [List.size_toArray, List.length_append, flat_len hf, List.length_set]
      rw [List.length_append, flat_len hf] at hc1
      omega
    · have hq : ((l.set k u).flatMap f).length = l.length * s := by rw [flat_len hf, List.length_set]
      rw [← hq]
      exact List.take_left
end
section
variable {C : Cx} {ops : Array Oper} {os : List Oper} {Q : Post} {K : List (Nat × Value)} {L : Heap} {dd : Option Tmp} {ty : TypeId} {ps : String} {af : Array Edge} {g : Option (Nat × Bool)}
theorem TL_makeSlice {d : Nat} {x y : Operand} {t e : TypeId} {n cap by' : Nat} {z v : Value} {α : Type} {f : α → List Value} {u : α} (i : Nat) (hfr : lk L i = none) (hx : ev K x = some (.int .i64 (n : Nat))) (hy : ev K y = some (.int .i64 (cap : Nat))) (ht : sliOf C.P t = some e) (hby : byOf C.P e = some by') (hs : szOf C.P e = some 1)
    (hz : zeroOf C.P e = some z) (hzc : z.cells = #[v]) (hf : f u = [v]) (hnc : n ≤ cap) (h63 : cap ≤ 4611686018427387904) (hb : by' * cap ≤ 140737488355328) (hN : Nat.blt d C.N = true) (hw : Want ops K (mk (some d) (.makeSlice t x y) ty ps af g) true)
    (h : ∀ B, TL C ops os Q ((d, .slice (some ⟨B, 0, none⟩) n cap) :: K) ((i, .row (.slice (some ⟨B, 0, none⟩) n cap) e 1 n ((List.replicate n u).flatMap f)) :: L)) : TL C ops (mk (some d) (.makeSlice t x y) ty ps af g :: os) Q K L := by
  intro a w hfk hm
  unfold wpListIn
  rw [hw.is hfk, if_pos rfl]
  obtain ⟨w', B, hr, hm'⟩ := run_makeX (P := C.P) hm i hfr ht hby hs hz hzc hf hnc h63 hb
  refine step_val (v := .slice (some ⟨B, 0, none⟩) n cap) (w' := w') rfl (run_v ?_) (h B _ _ (hfk.put _ hN) hm')
  rw [hfk.rd _ _ hx, hfk.rd _ _ hy]; exact hr
theorem TL_copy {d : Nat} {x y : Operand} {t t2 e : TypeId} {ats : Array TypeId} {n cap B : Nat} {v2 : Value} {xs news : List Value} (i : Nat) (hi : lk L i = some (.row (.slice (some ⟨B, 0, none⟩) n cap) e 1 n xs)) (hx : ev K x = some (.slice (some ⟨B, 0, none⟩) n cap)) (hy : ev K y = some v2) (hat : ats = #[t, t2]) (ht : sliOf C.P t = some e) (hs : szOf C.P e = some 1)
    (hsrc : ∀ w, MemOk C.w₀ L w → Src w v2 1 n news) (hone : ∀ u ∈ news, u.oneCell' = true) (hN : Nat.blt d C.N = true) (hw : Want ops K (mk (some d) (.call { callee := .builtin .copy, args := #[x, y], argTypes := ats }) ty ps af g) true)
    (h : TL C ops os Q ((d, .int .i64 (n : Nat)) :: K) ((i, .row (.slice (some ⟨B, 0, none⟩) n cap) e 1 n news) :: L)) : TL C ops (mk (some d) (.call { callee := .builtin .copy, args := #[x, y], argTypes := ats }) ty ps af g :: os) Q K L := by
  intro a w hf hm
  subst hat
  unfold wpListIn
  rw [hw.is hf, if_pos rfl]
  obtain ⟨w', hr, hm'⟩ := run_copyX (P := C.P) (t2 := t2) (ty := ty) hm i hi ht hs (hsrc w hm) hone
  refine step_val (v := .int .i64 (n : Nat)) (w' := w') rfl ?_ (h _ _ (hf.put _ hN) hm')
  rw [run_builtin]
  simp only [List.map_toArray, List.map_cons, List.map_nil, hf.rd _ _ hx, hf.rd _ _ hy]
  exact run_v hr
theorem TL_storeRow {x y : Operand} {t e : TypeId} {s n cap B k : Nat} {v : Value} {α : Type} {f : α → List Value} {l : List α} {u : α} (i : Nat) (hi : lk L i = some (.row (.slice (some ⟨B, 0, none⟩) n cap) e s n (l.flatMap f))) (hn : n = l.length) (hx : ev K x = some (.pointer (some ⟨B, 0 + k * s, none⟩))) (hy : ev K y = some v) (hs : szOf C.P t = some s)
    (hf : ∀ x, (f x).length = s) (hk : k < l.length) (hv : v.cells = (f u).toArray) (ho : (f u).all isOne = true) (hw : Want ops K (mk none (.store t x y) ty ps af g) true)
    (h : TL C ops os Q K ((i, .row (.slice (some ⟨B, 0, none⟩) n cap) e s n ((l.set k u).flatMap f)) :: L)) : TL C ops (mk none (.store t x y) ty ps af g :: os) Q K L := by
  intro a w hfk hm
  unfold wpListIn
  rw [hw.is hfk, if_pos rfl]
  obtain ⟨w', hr, hm'⟩ := run_storeX (P := C.P) hm i hi hn hs hf hk hv ho
  refine step_skip (w' := w') rfl ?_ (h _ _ hfk hm')
  show (do Instr.storeAt t (a.eval x) (a.eval y); pure Next.skip : Sem Next).run C.P w = _
  rw [hfk.rd _ _ hx, hfk.rd _ _ hy, run_bind_ok (a := ()) (w' := w')]
  · rfl
  · unfold Instr.storeAt
    rw [run_bind_ok (a := ⟨B, 0 + k * s, none⟩) (w' := w) rfl]
    exact hr
end
section
variable {C : Cx} {R : Rg} {Q : Post} {K0 V : List (Nat × Value)} {lo : Nat} {L : Heap} {ty : TypeId} {ps : String} {af : Array Edge} {g : Option (Nat × Bool)}
theorem LOb_makeSlice {c d : Nat} {x y : Operand} {t e : TypeId} {n cap by' : Nat} {z v : Value} {α : Type} {f : α → List Value} {u : α} (i : Nat) (nws : Nat → List (Nat × Value)) (hfr : lk L i = none) (ho : R.ops[c]? = some (mk (some d) (.makeSlice t x y) ty ps af g)) (hw : WantV V (mk (some d) (.makeSlice t x y) ty ps af g) true)
    (hx : ev (kOf K0 V (R.S.getD c [])) x = some (.int .i64 (n : Nat))) (hy : ev (kOf K0 V (R.S.getD c [])) y = some (.int .i64 (cap : Nat))) (ht : sliOf C.P t = some e) (hby : byOf C.P e = some by') (hs : szOf C.P e = some 1)
    (hz : zeroOf C.P e = some z) (hzc : z.cells = #[v]) (hf : f u = [v]) (hnc : n ≤ cap) (h63 : cap ≤ 4611686018427387904) (hb : by' * cap ≤ 140737488355328) (hnew : ∀ B, newsOk R c (nws B) = true)
    (h : ∀ B, G C R Q K0 (lo ||| 2 ^ c) (nws B ++ (c, .slice (some ⟨B, 0, none⟩) n cap) :: V) ((i, .row (.slice (some ⟨B, 0, none⟩) n cap) e 1 n ((List.replicate n u).flatMap f)) :: L)) : LOb C R Q K0 lo V L c := by
  refine ⟨_, ho, hw, fun a w next hrd hm _ hnext => ?_⟩
  obtain ⟨w', B, hr, hm'⟩ := run_makeX (P := C.P) hm i hfr ht hby hs hz hzc hf hnc h63 hb
  refine step_val (v := .slice (some ⟨B, 0, none⟩) n cap) (w' := w') rfl (run_v ?_) ?_
  · rw [hrd _ _ hx, hrd _ _ hy]; exact hr
  · have hnw := hnew B
    simp only [newsOk, Bool.and_eq_true, Bool.not_eq_true'] at hnw
    exact hnext _ _ _ _ (.inl (lk_app _ _ _ hnw.2)) (extV _ _ _ hnw.1) hm' (h B)
theorem LOb_storeRow {c : Nat} {x y : Operand} {t e : TypeId} {s n cap B k : Nat} {v : Value} {α : Type} {f : α → List Value} {l : List α} {u : α} (i : Nat) (nws : List (Nat × Value)) (hi : lk L i = some (.row (.slice (some ⟨B, 0, none⟩) n cap) e s n (l.flatMap f))) (hn : n = l.length) (ho1 : R.ops[c]? = some (mk none (.store t x y) ty ps af g)) (hw : WantV V (mk none (.store t x y) ty ps af g) true)
    (hx : ev (kOf K0 V (R.S.getD c [])) x = some (.pointer (some ⟨B, 0 + k * s, none⟩))) (hy : ev (kOf K0 V (R.S.getD c [])) y = some v) (hs : szOf C.P t = some s)
    (hf : ∀ x, (f x).length = s) (hk : k < l.length) (hv : v.cells = (f u).toArray) (ho : (f u).all isOne = true) (hnew : newsOk R c nws = true)
    (h : G C R Q K0 (lo ||| 2 ^ c) (nws ++ (c, undef) :: V) ((i, .row (.slice (some ⟨B, 0, none⟩) n cap) e s n ((l.set k u).flatMap f)) :: L)) : LOb C R Q K0 lo V L c := by
  refine ⟨_, ho1, hw, fun a w next hrd hm _ hnext => ?_⟩
  obtain ⟨w', hr, hm'⟩ := run_storeX (P := C.P) hm i hi hn hs hf hk hv ho
  refine step_skip (w' := w') rfl ?_ ?_
  · show (do Instr.storeAt t (a.eval x) (a.eval y); pure Next.skip : Sem Next).run C.P w = _
    rw [hrd _ _ hx, hrd _ _ hy, run_bind_ok (a := ()) (w' := w')]
    · rfl
    · unfold Instr.storeAt
      rw [run_bind_ok (a := ⟨B, 0 + k * s, none⟩) (w' := w) rfl]
      exact hr
  · simp only [newsOk, Bool.and_eq_true, Bool.not_eq_true'] at hnew
    exact hnext _ _ _ _ (.inr rfl) (extV _ _ _ hnew.1) hm' h
end
end Go.Proofs.Ytbiapeaghbndoaa
