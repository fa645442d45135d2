/- Operations told by what is known of memory before and behind. Over any program. -/
import Derived.Test.YtbiapeaghbndoaaRow2
import Derived.Test.YtbiapeaghbndoaaRng
import Derived.Test.YtbiapeaghbndoaaOwns
namespace Go.Proofs.Ytbiapeaghbndoaa
open Go Go.RowKit
section
variable {C : Cx} {ops : Array Oper} {os : List Oper} {Q : Post} {K : List (Nat × Value)} {L : Heap} {o : Oper}
theorem TL_op {ι : Type} {d : Nat} (v : ι → Value) (LN : ι → Heap) (hr : ∀ ρ w, Rd K ρ → MemOk C.w₀ L w → ∃ x w', (execOp ρ o).run C.P w = .ok (.value (v x)) w' ∧ MemOk C.w₀ (LN x) w') (hd : o.dst = some d) (hN : Nat.blt d C.N = true) (hn : isDefer o.op = false) (hw : Want ops K o true)
    (h : ∀ x, TL C ops os Q ((d, v x) :: K) (LN x)) : TL C ops (o :: os) Q K L := by
  intro a w hf hm
  unfold wpListIn
  rw [hw.is hf, if_pos rfl]
  obtain ⟨x, w', h1, h2⟩ := hr _ _ hf.rd hm
  refine step_val hn h1 ?_
  rw [hd]
  exact h x _ _ (hf.put _ hN) h2
end
section
variable {C : Cx} {R : Rg} {Q : Post} {K0 V : List (Nat × Value)} {lo : Nat} {L : Heap}
theorem LOb_op {ι : Type} {c d : Nat} {o : Oper} (v : ι → Value) (LN : ι → Heap) (news : ι → List (Nat × Value)) (ho : R.ops[c]? = some o) (hw : WantV V o true) (hd : o.dst = some d) (hn : isDefer o.op = false)
    (hr : ∀ ρ w, Rd (kOf K0 V (R.S.getD c [])) ρ → MemOk C.w₀ L w → ∃ x w', (execOp ρ o).run C.P w = .ok (.value (v x)) w' ∧ MemOk C.w₀ (LN x) w') (hnew : ∀ x, newsOk R c (news x) = true)
    (h : ∀ x, G C R Q K0 (lo ||| 2 ^ c) (news x ++ (c, v x) :: V) (LN x)) : LOb C R Q K0 lo V L c := by
  refine ⟨o, ho, hw, fun a w next hrd hm _ hnext => ?_⟩
  obtain ⟨x, w', h1, h2⟩ := hr _ _ hrd hm
  refine step_val hn h1 ?_
  have hnw := hnew x
  simp only [newsOk, Bool.and_eq_true, Bool.not_eq_true'] at hnw
  exact hnext _ _ _ _ (.inl (lk_app _ _ _ hnw.2)) (extV _ _ _ hnw.1) h2 (h x)
theorem LOb_op1 {c d : Nat} {o : Oper} (v : Value) (L' : Heap) (news : List (Nat × Value)) (ho : R.ops[c]? = some o) (hw : WantV V o true) (hd : o.dst = some d) (hn : isDefer o.op = false)
    (hr : ∀ ρ w, Rd (kOf K0 V (R.S.getD c [])) ρ → MemOk C.w₀ L w → ∃ w', (execOp ρ o).run C.P w = .ok (.value v) w' ∧ MemOk C.w₀ L' w') (hnew : newsOk R c news = true)
    (h : G C R Q K0 (lo ||| 2 ^ c) (news ++ (c, v) :: V) L') : LOb C R Q K0 lo V L c :=
  LOb_op (ι := Unit) (fun _ => v) (fun _ => L') (fun _ => news) ho hw hd hn (fun ρ w hρ hm => ⟨(), hr ρ w hρ hm⟩) (fun _ => hnew) (fun _ => h)
theorem LOb_opS {c : Nat} {o : Oper} (L' : Heap) (news : List (Nat × Value)) (ho : R.ops[c]? = some o) (hw : WantV V o true) (hd : o.dst = none) (hn : isDefer o.op = false)
    (hr : ∀ ρ w, Rd (kOf K0 V (R.S.getD c [])) ρ → MemOk C.w₀ L w → ∃ w', (execOp ρ o).run C.P w = .ok .skip w' ∧ MemOk C.w₀ L' w') (hnew : newsOk R c news = true)
    (h : G C R Q K0 (lo ||| 2 ^ c) (news ++ (c, undef) :: V) L') : LOb C R Q K0 lo V L c := by
  refine ⟨o, ho, hw, fun a w next hrd hm _ hnext => ?_⟩
  obtain ⟨w', h1, h2⟩ := hr _ _ hrd hm
  refine step_skip hn h1 ?_
  simp only [newsOk, Bool.and_eq_true, Bool.not_eq_true'] at hnew
  exact hnext _ _ _ _ (.inr hd) (extV _ _ _ hnew.1) h2 h
end
section
variable {C : Cx} {Q : Post} {K : List (Nat × Value)} {L : Heap}
theorem p_mem {e : Exit} (L' : Heap) (hL : ∀ w, MemOk C.w₀ L w → MemOk C.w₀ L' w) (h : POk C Q e K L') : POk C Q e K L := fun a w hf hm => h a w hf (hL w hm)
end
theorem row_cap {w : World} {base n s cap : Nat} {e : TypeId} {a : Option Addr} {xs : List Value} (h : w.ownsRow base e s (.slice a n cap) n xs) : cap ≤ Go.maxLen := by
  rcases h.2 with ⟨h1, _⟩ | ⟨g, cap', cur, h1, _, _, _, h5, _⟩
  · cases h1; decide
  · cases h1; exact h5
/-! ### rows of elements of any size: made, copied into, stored into -/
section
variable {P : Program} {w₀ w : World} {L : Heap} {ρ : Operand → Value} {d : Option Tmp} {ty : TypeId} {ps : String} {af : Array Edge} {g : Option (Nat × Bool)}
theorem made_toList {z : Array Value} {s : Nat} (hz : z.size = s) (hs : 0 < s) : ∀ n, (madeCells z (n * s)).toList = (List.replicate n z.toList).flatten
  | 0 => by simp [madeCells]
  | n + 1 => by
    apply List.ext_getElem?
    intro i
    rw [List.replicate_succ, List.flatten_cons]
    by_cases h : i < s
    · rw [List.getElem?_append_left (by rw [Array.length_toList, hz]; exact h)]
      unfold madeCells
      have h2 : i < (n + 1) * s := by rw [Nat.add_mul, Nat.one_mul]; omega
      simp [h2, hz, Nat.mod_eq_of_lt h, h]
    · rw [List.getElem?_append_right (by rw [Array.length_toList, hz]; omega), Array.length_toList, hz, ← made_toList hz hs n]
      unfold madeCells
      by_cases h2 : i < (n + 1) * s
      · have h3 : i - s < n * s := by rw [Nat.add_mul, Nat.one_mul] at h2; omega
        have h4 : i % s = (i - s) % s := by rw [← Nat.mod_eq_sub_mod (by omega)]
        simp [h2, h3, hz, h4]
      · have h3 : ¬ i - s < n * s := by rw [Nat.add_mul, Nat.one_mul] at h2; omega
        simp [h2, h3]
theorem flat_repl {α : Type} {f : α → List Value} {u : α} {xs : List Value} (hf : f u = xs) (n : Nat) : (List.replicate n u).flatMap f = (List.replicate n xs).flatten := by
  rw [List.flatMap_def, List.map_replicate, hf]
theorem o_make {x y : Operand} {t e : TypeId} {n cap by' s : Nat} {z : Value} {α : Type} {f : α → List Value} {u : α} (i : Nat) (hfr : lk L i = none) (hx : ρ x = .int .i64 (n : Nat)) (hy : ρ y = .int .i64 (cap : Nat)) (ht : sliOf P t = some e) (hby : byOf P e = some by') (hs : szOf P e = some s) (hs0 : Nat.blt 0 s = true)
    (hz : zeroOf P e = some z) (hzc : z.cells.toList = f u) (hfl : ∀ x, (f x).length = s) (hnc : n ≤ cap) (h63 : cap ≤ 4611686018427387904) (hb : by' * cap ≤ 140737488355328) (hm : MemOk w₀ L w) :
    ∃ B w', (execOp ρ (mk d (.makeSlice t x y) ty ps af g)).run P w = .ok (.value (.slice (some ⟨B, 0, none⟩) n cap)) w' ∧ MemOk w₀ ((i, .row (.slice (some ⟨B, 0, none⟩) n cap) e s n ((List.replicate n u).flatMap f)) :: L) w' := by
  obtain ⟨ti, hi, hsz⟩ := Option.map_eq_some_iff.1 hs
  obtain ⟨ti', hi', hbz⟩ := Option.map_eq_some_iff.1 hby
  rw [hi] at hi'; cases hi'
  have hzz : ti.zero = some z := by simpa [zeroOf, hi] using hz
  have hs1 : 0 < s := by rw [Nat.blt_eq] at hs0; exact hs0
  have hb' : (ti.bytes : Int) * (cap : Int) ≤ 281474976710656 := by
    have h : ((ti.bytes * cap : Nat) : Int) ≤ 281474976710656 := by rw [hbz]; omega
    rwa [Int.natCast_mul] at h
  have hr := run_make (P := P) w t e ti z (und_sli ht) hi hzz .i64 .i64 n cap (by omega) (by omega) hb' (by omega)
  simp only [Int.toNat_natCast] at hr
  refine ⟨w.heap.size, _, run_v (by rw [hx, hy]; exact hr), ?_⟩
  have hzs : z.cells.size = s := by rw [← Array.length_toList, hzc, hfl]
  refine hm.grow (n := 0) (xs := []) (.inr ⟨hfr, (rfl : (Value.slice none 0 0).ownBlock = none)⟩) (World.grownBy_alloc w _ none) ⟨?_, .inr ⟨w.heap.size, cap, _, rfl, hm.ext.size, Go.heap_alloc_new w _, hnc, by unfold Go.maxLen; omega, ?_, ?_⟩⟩ (.inr rfl)
  · rw [flat_len hfl, List.length_replicate]
  · rw [hsz]; simp [madeCells]
  · rw [hsz, made_toList hzs hs1, hzc, ← flat_repl rfl]
    have : ((List.replicate cap u).flatMap f).take (n * s) = ((List.replicate cap u).take n).flatMap f := by
      have h1 : List.replicate cap u = List.replicate n u ++ List.replicate (cap - n) u := by rw [List.replicate_append_replicate]; congr 1; omega
      rw [h1, List.flatMap_append, List.take_left' (by rw [flat_len hfl, List.length_replicate]), List.take_left' (by rw [List.length_replicate])]
    rw [this, List.take_replicate, Nat.min_eq_left hnc]
theorem o_copy {x y : Operand} {t t2 e : TypeId} {ats : Array TypeId} {n cap B s : Nat} {v2 : Value} {xs news : List Value} (i : Nat) (hi : lk L i = some (.row (.slice (some ⟨B, 0, none⟩) n cap) e s n xs)) (hx : ρ x = .slice (some ⟨B, 0, none⟩) n cap) (hy : ρ y = v2) (hat : ats = #[t, t2])
    (ht : sliOf P t = some e) (hs : szOf P e = some s) (hsrc : Src w v2 s n news) (hone : ∀ u ∈ news, u.oneCell' = true) (hm : MemOk w₀ L w) :
    ∃ w', (execOp ρ (mk d (.call { callee := .builtin .copy, args := #[x, y], argTypes := ats }) ty ps af g)).run P w = .ok (.value (.int .i64 (n : Nat))) w' ∧ MemOk w₀ ((i, .row (.slice (some ⟨B, 0, none⟩) n cap) e s n news) :: L) w' := by
  subst hat
  have hrow := hm.row i hi
  obtain ⟨ti, hti, hsz⟩ := Option.map_eq_some_iff.1 hs
  suffices hg : ∃ w', (Builtin.copy_ #[t, t2] ty #[.slice (some ⟨B, 0, none⟩) n cap, v2]).run P w = .ok (.int .i64 (n : Nat)) w' ∧ MemOk w₀ ((i, .row (.slice (some ⟨B, 0, none⟩) n cap) e s n news) :: L) w' by
    obtain ⟨w', h1, h2⟩ := hg
    refine ⟨w', ?_, h2⟩
    rw [run_builtin]
    simp only [List.map_toArray, List.map_cons, List.map_nil, hx, hy]
    exact run_v h1
  have same : n = 0 → news = [] → MemOk w₀ ((i, .row (.slice (some ⟨B, 0, none⟩) n cap) e s n news) :: L) w := by
    intro h0 hn
    have hx : xs = [] := List.eq_nil_of_length_eq_zero (by rw [hrow.1, h0, Nat.zero_mul])
    subst hn hx
    exact hm.of (lk_dup hi)
  have hl0 : ∀ (x : Addr), (loadCells x 0).run P w = .ok #[] w := fun x => by simpa using run_loadCells_list (P := P) w x [] (by simp)
  rcases hsrc with ⟨rfl, h0, hn⟩ | ⟨x, c, rfl, h0, hn⟩ | ⟨b, off, c, rfl, hl, hcell⟩
  · refine ⟨w, ?_, same h0 hn⟩
    subst h0
    simp [Builtin.copy_, run_underlying (und_sli ht), Builtin.lenOf, Builtin.firstCells, sizeOf, typeInfo, hti, storeCells, goInt]
  · refine ⟨w, ?_, same h0 hn⟩
    subst h0
    simp [Builtin.copy_, run_underlying (und_sli ht), Builtin.lenOf, Builtin.firstCells, sizeOf, typeInfo, hti, storeCells, goInt, hl0]
  · rcases hrow.2 with ⟨h1, _⟩ | ⟨g, cap', cur, h1, hbg, hg, hnc, hcm, hcs, htk⟩
    · cases h1
    · cases h1
      have hle := Nat.mul_le_mul_right s hnc
      have hld := run_loadCells_list (P := P) w ⟨b, off, none⟩ news (fun j u hu => by rw [addr_add]; exact hcell j u hu)
      have hst := run_storeCells_at P B 0 e news 0 cur w hg (by omega) hone
      have hr : (Builtin.copy_ #[t, t2] ty #[.slice (some ⟨B, 0, none⟩) n cap, .slice (some ⟨b, off, none⟩) n c]).run P w = .ok (.int .i64 (n : Nat)) (w.setRow B (cur.toList.take 0 ++ news ++ cur.toList.drop (0 + news.length)).toArray) := by
        simp only [Nat.add_zero] at hst
        simp [Builtin.copy_, run_underlying (und_sli ht), Builtin.lenOf, Builtin.firstCells, sizeOf, typeInfo, hti, hsz, goInt, ← hl, hld]
        simp at hst
        rw [hst]
        rfl
      refine ⟨_, hr, ?_⟩
      refine hm.grow (.inl hi) ⟨rfl, rfl, rfl, by simp, fun k _ hk => setRow_other w B k _ (fun e => hk (by simp [Value.ownBlock, e]))⟩ ⟨hl, .inr ⟨B, cap, _, rfl, hbg, setRow_heap w B cur _ e _ hg, hnc, hcm, ?_, ?_⟩⟩ (.inl rfl)
      · simp only [List.size_toArray, List.length_append, List.length_take, List.length_drop, Array.length_toList]
        omega
      · rw [List.take_zero, List.nil_append, ← hl]
        exact List.take_left
/-- A part of a row of one's own, stored. -/
theorem o_storeC {x y : Operand} {t e : TypeId} {s n cap B off q : Nat} {v : Value} {xs xs' : List Value} (i : Nat) (hi : lk L i = some (.row (.slice (some ⟨B, 0, none⟩) n cap) e s n xs)) (hx : ρ x = .pointer (some ⟨B, off, none⟩)) (hy : ρ y = v) (hs : szOf P t = some q) (hv : v.cells.size = q)
    (ho : v.cells.toList.all isOne = true) (hoff : off + q ≤ n * s) (hlen : xs'.length = n * s) (hxs : ∀ post, wrC (xs ++ post).toArray off v.cells.toList = (xs' ++ post).toArray) (hm : MemOk w₀ L w) :
    ∃ w', (execOp ρ (mk none (.store t x y) ty ps af g)).run P w = .ok .skip w' ∧ MemOk w₀ ((i, .row (.slice (some ⟨B, 0, none⟩) n cap) e s n xs') :: L) w' := by
  have hrow := hm.row i hi
  rcases hrow.2 with ⟨h1, _⟩ | ⟨g', cap', cur, h1, hbg, hg, hnc, hcm, hcs, htk⟩
  · cases h1
  · cases h1
    have hle2 : n * s ≤ cap * s := Nat.mul_le_mul_right s hnc
    obtain ⟨post, hpost⟩ : ∃ post, cur.toList = xs ++ post := ⟨cur.toList.drop (n * s), by rw [← htk, List.take_append_drop]⟩
    obtain ⟨w', hr, hu⟩ := run_storeVar (P := P) (t := t) (off := off) hs hg hv (by omega) ho
    have hcur : wrC cur off v.cells.toList = (xs' ++ post).toArray := by
      rw [← hxs post]; congr 1; apply Array.ext'; rw [hpost]
    rw [hcur] at hu
    have hxl : xs.length = n * s := hrow.1
    refine ⟨w', ?_, hm.grow (.inl hi) ⟨hu.os, hu.tape, hu.output, by rw [hu.size]; exact Nat.le_refl _, fun j _ hj => hu.other j (fun e => hj (by rw [e]; rfl))⟩ ⟨hlen, .inr ⟨B, cap, _, rfl, hbg, hu.this, hnc, hcm, ?_, ?_⟩⟩ (.inl rfl)⟩
    · show (do Instr.storeAt t (ρ x) (ρ y); pure Next.skip : Sem Next).run P w = _
      rw [hx, hy, run_bind_ok (a := ()) (w' := w')]
      · rfl
      · unfold Instr.storeAt
        rw [run_bind_ok (a := ⟨B, off, none⟩) (w' := w) rfl]
        exact hr
    · have hc1 : cur.size = (xs ++ post).length := by rw [← hpost, Array.length_toList]
      rw [List.length_append] at hc1
      rw [List.size_toArray, List.length_append]
      omega
    · show (xs' ++ post).take (n * s) = xs'
      rw [← hlen]
      exact List.take_left
theorem wr_part {α : Type} {f : α → List Value} {s : Nat} (hf : ∀ x, (f x).length = s) {l : List α} {k : Nat} {u u' : α} {pre mid suf vs : List Value} (hu : l[k]? = some u) (h1 : f u = pre ++ mid ++ suf) (h2 : f u' = pre ++ vs ++ suf) (hl : mid.length = vs.length) (off : Nat) (hoff : off = k * s + pre.length) (post : List Value) :
    wrC (l.flatMap f ++ post).toArray off vs = ((l.set k u').flatMap f ++ post).toArray := by
  have hk := (List.getElem?_eq_some_iff.1 hu).1
  obtain ⟨p, x, q, e1, e2, e3, e4⟩ := flat_set hf hk u'
  have ex : x = f u := by
    have h5 : (l.flatMap f).drop (k * s) = f u ++ (l.drop (k + 1)).flatMap f := by
      rw [flat_drop hf, List.drop_eq_getElem_cons hk, List.flatMap_cons]
      congr 2
      rw [List.getElem?_eq_getElem hk] at hu
      exact Option.some.inj hu
    rw [e1, ← e2, List.append_assoc, List.drop_left] at h5
    have := congrArg (List.take s) h5
    rwa [List.take_left' e3, List.take_left' (hf u)] at this
  rw [e1, e4, ex, h1, h2, hoff, ← e2]
  have := wrC_list vs mid (p ++ pre) (suf ++ q ++ post) hl
  rw [List.length_append] at this
  simpa using this
/-- A store into a thing told otherwise. -/
theorem o_storeAbs {x y : Operand} {t : TypeId} {q n : Nat} {v : Value} {cs cs' : Array Value} {T : TypeId} (i : Nat) {F : Nat → Prop} {H H' : World → Prop} (hi : lk L i = some (.abs F H)) (hx : ρ x = .pointer (some ⟨q, 0, none⟩)) (hy : ρ y = v) (hs : szOf P t = some n) (hF : F q) (hb : hp w q = some (.cells cs T (0, 0)))
    (hc : cs.size = n) (hv : v.cells = cs') (hc' : cs'.size = n) (ho : cs'.toList.all isOne = true) (hH : ∀ w', H w → Upd w q (.cells cs' T (0, 0)) w' → H' w') (hk : ∀ w1 w2, H' w1 → (∀ b, F b → hp w2 b = hp w1 b) → H' w2) (hm : MemOk w₀ L w) :
    ∃ w', (execOp ρ (mk none (.store t x y) ty ps af g)).run P w = .ok .skip w' ∧ MemOk w₀ ((i, .abs F H') :: L) w' := by
  obtain ⟨w', hr, hu⟩ := run_storeVar (P := P) (t := t) (off := 0) hs hb (v := v) (by rw [hv]; exact hc') (by omega) (by rw [hv]; exact ho)
  have e : wrC cs 0 v.cells.toList = cs' := by
    have := wrC_list cs'.toList cs.toList [] [] (by simp [hc, hc'])
    rw [hv]; simpa using this
  rw [e] at hu
  have ok := hm.own i _ hi
  refine ⟨w', ?_, ?_⟩
  · show (do Instr.storeAt t (ρ x) (ρ y); pure Next.skip : Sem Next).run P w = _
    rw [hx, hy, run_bind_ok (a := ()) (w' := w')]
    · rfl
    · unfold Instr.storeAt
      rw [run_bind_ok (a := ⟨q, 0, none⟩) (w' := w) rfl]
      exact hr
  · have hlo := ok.2.1 q hF
    refine hm.set i _ ⟨hu.os.trans hm.ext.os, hu.tape.trans hm.ext.tape, hu.output.trans hm.ext.output, by rw [hu.size]; exact hm.ext.size, fun k hk => (hu.other k (by omega)).trans (hm.ext.block k hk)⟩ ⟨hH w' ok.1 hu, fun b hb => ?_, hk⟩ (fun j r hl hne b hr2 => ⟨hu.other b (fun e => ?_), fun hFb => hm.sep i j _ _ hi hl (Ne.symm hne) b hFb hr2⟩)
    · rw [hu.size]; exact ok.2.1 b hb
    · subst e
      exact hm.sep i j _ _ hi hl (Ne.symm hne) b hF hr2
end
/-! ### maps: an entry laid, an entry that has come -/
section
variable {κ μ : Type} {fk : κ → Value} {fv : μ → Value} [DecidableEq κ] {P : Program} {w : World} {kt : TypeId} {ρ : Operand → Value} {d : Option Tmp} {ty : TypeId} {ps : String} {af : Array Edge} {g : Option (Nat × Bool)} {x y v : Operand} {t e : TypeId}
theorem put_none (u : μ) (c : κ) : ∀ (l : List (κ × μ)) (i : Nat), fndM c l i = none → putM c u l = l ++ [(c, u)]
  | [], _, _ => rfl
  | (k, v) :: l, i, h => by
    unfold fndM at h
    unfold putM
    by_cases hc : c = k
    · rw [if_pos hc] at h; cases h
    · rw [if_neg hc] at h ⊢
      rw [put_none u c l (i + 1) h]; rfl
theorem r_mapUpdate {b : Nat} {c : κ} {z u : μ} {l : List (κ × μ)} (K : KeyOk P kt fk) (ht : mapOf P t = some (kt, e)) (hx : ρ x = .map (some b)) (hy : ρ y = fk c) (hv : ρ v = fv u) (hb : hp w b = some (mapO fk fv l)) :
    ∃ w', (execOp ρ (mk d (.mapUpdate t x y v) ty ps af g)).run P w = .ok .skip w' ∧ Upd w b (mapO fk fv (putM c u l)) w' := by
  refine ⟨w.putObj b (mapO fk fv (putM c u l)), ?_, upd_put hb⟩
  show (do Instr.mapUpdate t (ρ x) (ρ y) (ρ v); pure Next.skip : Sem Next).run P w = _
  rw [hx, hy, hv, run_bind_ok (a := ()) (w' := w.putObj b (mapO fk fv (putM c u l)))]
  · rfl
  · unfold Instr.mapUpdate
    rw [run_underlying (und_map ht)]
    dsimp only
    rw [run_bind_ok (run_getMap hb)]
    unfold mapO
    dsimp only
    rw [run_bind_ok (K.chk _ c w), run_bind_ok (run_findKey K c l)]
    obtain ⟨h1, h2, h3, h4⟩ := fnd_get z c l 0
    cases h : fndM c l 0 with
    | none =>
      simp only [Option.map_none]
      rw [put_none u c l 0 h]
      have : (ents fk fv l 0).toArray.push ({ key := fk c, val := fv u, born := l.length } : MapEntry) = (ents fk fv (l ++ [(c, u)]) 0).toArray := by
        rw [ents_app, List.push_toArray]
        show _ = (_ ++ [({ key := fk c, val := fv u, born := 0 + l.length } : MapEntry)]).toArray
        rw [Nat.zero_add]
      rw [this, List.length_append, List.length_singleton]
      exact run_setMap _ hb
    | some q =>
      obtain ⟨i, u'⟩ := q
      obtain ⟨h5, h6, h7, h8⟩ := h3 i u' h
      rw [Nat.zero_add] at h5
      subst h5
      simp only [Option.map_some]
      have hk : (Instr.keyThatStays ((((ents fk fv l 0).toArray[idxM c l]?).map (·.key)).getD (fk c)) (fk c)).run P w = .ok (fk c) w := by
        rw [List.getElem?_toArray, ents_at, h8]
        unfold Instr.keyThatStays
        show (if Instr.sameBits 10000 (fk c) (fk c) = true then pure (fk c) else _ : Sem Value).run P w = _
        rw [if_pos (K.same c)]; rfl
      rw [run_bind_ok hk]
      have e1 : setM (idxM c l) u l = putM c u l := by
        have := set_ent z u c l
        rwa [h7] at this
      have e2 : (ents fk fv l 0).toArray.modify (idxM c l) (fun e => { e with key := fk c, val := fv u }) = (ents fk fv (putM c u l) 0).toArray := by
        apply Array.ext_getElem?
        intro j
        rw [← e1, Array.getElem?_modify, List.getElem?_toArray, List.getElem?_toArray, ents_set]
        by_cases hj : idxM c l = j
        · subst hj
          rw [if_pos rfl, if_pos rfl, ents_at, h8]; rfl
        · rw [if_neg hj, if_neg hj]
      rw [e2, ← e1, setM_len]
      exact run_setMap _ hb
omit [DecidableEq κ] in
omit [DecidableEq κ] in
theorem r_entry {b r j : Nat} {k : κ} {u : μ} {l : List (κ × μ)} {seen : List Nat} (hx : ρ x = .pointer (some ⟨r, 0, none⟩)) (hr : hp w r = some (itO b l.length (seen ++ [j]))) (hb : hp w b = some (mapO fk fv l)) (hj : l[j]? = some (k, u)) :
    (execOp ρ (mk d (.entry x) ty ps af g)).run P w = .ok (.value (.tuple #[fk k, fv u])) w := by
  refine run_v ?_
  rw [hx]
  have hm : ({ key := fk k, val := fv u, born := j } : MapEntry) ∈ (ents fk fv l 0) := List.mem_of_getElem? (i := j) (by rw [ents_at, hj]; simp)
  have hn : ((ents fk fv l 0).map (·.born)).Nodup := by
    have : ∀ (l : List (κ × μ)) (n : Nat), (ents fk fv l n).map (·.born) = List.range' n l.length := by
      intro l
      induction l with
      | nil => intro n; rfl
      | cons z l ih => intro n; obtain ⟨a, b⟩ := z; unfold ents; rw [List.map_cons, ih, List.length_cons, List.range'_succ]
    rw [this]
    exact List.nodup_range'
  have hr' : w.heap[r]? = some (.mapIter (some b) l.length (seen.toArray.push j) l.length) := by
    have : hp w r = some (itO b l.length (seen ++ [j])) := hr
    unfold itO at this
    rw [List.push_toArray]; exact this
  exact run_entry_at (P := P) w r b l.length seen.toArray (ents fk fv l 0).toArray l.length _ hr' hb (by simpa using hm) (by simpa using hn)
end
end Go.Proofs.Ytbiapeaghbndoaa
