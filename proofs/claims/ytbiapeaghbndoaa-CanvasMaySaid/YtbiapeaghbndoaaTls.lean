/- canvas: tiles in memory, many of them; what is new. -/
import Derived.Test.YtbiapeaghbndoaaCv
import Derived.Test.YtbiapeaghbndoaaOpx
import Derived.Test.YtbiapeaghbndoaaBld
import Derived.Test.YtbiapeaghbndoaaPtr
namespace Go.Proofs.Ytbiapeaghbndoaa
open Go Go.RowKit
section
variable {α : Type} {f : α → Nat × T64}
/-- Tiles, each in a block. -/
def tlsF (f : α → Nat × T64) (l : List α) (b : Nat) : Prop := ∃ x ∈ l, (f x).1 = b
def tlsH (f : α → Nat × T64) (l : List α) (w : World) : Prop := (∀ x ∈ l, hp w (f x).1 = some (tilO (f x).2)) ∧ l.Pairwise fun x y => (f x).1 ≠ (f y).1
abbrev Res.tls (f : α → Nat × T64) (l : List α) : Res := .abs (tlsF f l) (tlsH f l)
theorem tls_keep {l : List α} (w1 w2 : World) (h : tlsH f l w1) (hb : ∀ b, tlsF f l b → hp w2 b = hp w1 b) : tlsH f l w2 := ⟨fun x hx => (hb _ ⟨x, hx, rfl⟩).trans (h.1 x hx), h.2⟩
theorem MemOk.tls0 {w₀ w : World} {L : Heap} (h : MemOk w₀ L w) (k : Nat) (f : α → Nat × T64) : MemOk w₀ ((k, .tls f []) :: L) w :=
  h.set k _ h.ext ⟨⟨(fun x hx => nomatch hx), List.Pairwise.nil⟩, (fun b hb => by obtain ⟨r, hr, _⟩ := hb; cases hr), tls_keep⟩ (fun _ _ _ _ b _ => ⟨rfl, fun hb => by obtain ⟨r, hr, _⟩ := hb; cases hr⟩)
theorem MemOk.tl {w₀ w : World} {L : Heap} (h : MemOk w₀ L w) (k : Nat) {l : List α} (hk : lk L k = some (.tls f l)) {x : α} (hx : x ∈ l) : hp w (f x).1 = some (tilO (f x).2) := (h.own k _ hk).1.1 x hx
theorem MemOk.tlPush {w₀ w : World} {L : Heap} (h : MemOk w₀ L w) (k j : Nat) {l : List α} {q : Nat} {o : Obj} (x : α) (hk : lk L k = some (.tls f l)) (hj : lk L j = some (.blk q o)) (hq : (f x).1 = q) (ho : tilO (f x).2 = o) (hne : Nat.beq k j = false) :
    MemOk w₀ ((k, .tls f (l ++ [x])) :: (j, .no) :: L) w := by
  have hkj : k ≠ j := fun e => by subst e; rw [Nat.beq_refl] at hne; cases hne
  have ok1 := h.own k _ hk
  have ok2 := h.own j _ hj
  have h0 : MemOk w₀ ((j, .no) :: L) w := h.set j _ h.ext ⟨trivial, (fun _ hb => hb.elim), fun _ _ _ _ => trivial⟩ (fun _ _ _ _ b _ => ⟨rfl, id⟩)
  subst hq ho
  refine h0.set k _ h0.ext ⟨⟨fun y hy => ?_, ?_⟩, ?_, tls_keep⟩ (fun i r hi hne' b hb => ⟨rfl, ?_⟩)
  · rcases List.mem_append.1 hy with h1 | h1
    · exact ok1.1.1 y h1
    · rw [List.mem_singleton.1 h1]; exact ok2.2
  · refine List.pairwise_append.2 ⟨ok1.1.2, List.pairwise_singleton _ _, fun y hy z hz => ?_⟩
    rw [List.mem_singleton.1 hz]
    exact fun e => h.sep k j _ _ hk hj hkj (f x).1 ⟨y, hy, e⟩ rfl
  · rintro b ⟨y, hy, hb⟩
    rcases List.mem_append.1 hy with h1 | h1
    · exact ok1.2.1 b ⟨y, h1, hb⟩
    · rw [List.mem_singleton.1 h1] at hb; subst hb; exact ⟨ok2.1, hp_lt ok2.2⟩
  · rintro ⟨y, hy, hyb⟩
    by_cases e2 : j = i
    · subst e2; rw [lk_cons_same] at hi; cases hi; exact hb
    · rw [lk_cons_other _ _ e2] at hi
      rcases List.mem_append.1 hy with h1 | h1
      · exact h.sep k i _ _ hk hi (Ne.symm hne') b ⟨y, h1, hyb⟩ hb
      · rw [List.mem_singleton.1 h1] at hyb
        subst hyb
        exact h.sep j i _ _ hj hi e2 (f x).1 rfl hb
end
/-- A tile and its block; a row of their addresses. -/
abbrev BT := Nat × T64
abbrev BT.ptr (x : BT) : List Value := [.pointer (some ⟨x.1, 0, none⟩)]
theorem bt_flat : ∀ l : List BT, l.flatMap BT.ptr = (l.map (·.1)).flatMap ptrc
  | [] => rfl
  | x :: l => by rw [List.flatMap_cons, List.map_cons, List.flatMap_cons, bt_flat l]
theorem bt_at {l : List BT} {ts : List T64} {i q : Nat} {t : T64} (h : l.map (·.2) = ts) (hq : (l.map (·.1))[i]? = some q) (ht : ts[i]? = some t) : (q, t) ∈ l := by
  subst h
  rw [List.getElem?_map] at hq ht
  obtain ⟨x, hx, rfl⟩ := Option.map_eq_some_iff.1 hq
  rw [hx] at ht
  cases ht
  exact List.mem_of_getElem? hx
theorem snd_step {α β : Type} {l : List (α × β)} {ts : List β} {k : Nat} {a : α} {t : β} (h : l.map (·.2) = ts.take k) (ht : ts[k]? = some t) : (l ++ [(a, t)]).map (·.2) = ts.take (k + 1) := by
  rw [List.map_append, h, List.take_add_one, ht]; rfl
theorem snd_all {α β : Type} {l : List (α × β)} {ts : List β} (h : l.map (·.2) = ts.take ts.length) : l.map (·.2) = ts := by rw [h, List.take_length]
theorem map_len {α β : Type} {l : List (α × β)} {ts : List β} (h : l.map (·.2) = ts) : l.length = ts.length := by rw [← h, List.length_map]
theorem map_len' {α β : Type} {l : List (α × β)} {ts : List β} {k : Nat} (h : l.map (·.2) = ts.take k) (hk : k ≤ ts.length) : l.length = k := by
  have := congrArg List.length h
  rw [List.length_map, List.length_take] at this; omega
abbrev optc (q : Option Nat) : List Value := [.pointer (q.map fun b => ⟨b, 0, none⟩)]
theorem optc_len (q : Option Nat) : (optc q).length = 1 := rfl
theorem ptr_flat : ∀ l : List Nat, (l.map some).flatMap optc = l.flatMap ptrc
  | [] => rfl
  | x :: l => by rw [List.map_cons, List.flatMap_cons, List.flatMap_cons, ptr_flat l]; rfl
theorem ptrc_one1 : ∀ {l : List Nat}, ∀ u ∈ l.flatMap ptrc, u.oneCell' = true := by
  intro l u hu
  obtain ⟨x, _, hx⟩ := List.mem_flatMap.1 hu
  rw [List.mem_singleton.1 hx]; rfl
/-- A canvas that is new, but for what it shares with others. -/
structure CvNew (w w' : World) (l : List Cv) (d : Cv) : Prop where
  below : Below w.heap.size w w'
  at' : CvAt w' d
  foot : ∀ b, d.foot b → w.heap.size ≤ b ∨ cvsF l b
theorem MemOk.cvGet {w₀ w w' : World} {L : Heap} (h : MemOk w₀ L w) (k : Nat) {l m : List Cv} (hk : lk L k = some (.cvs l)) {d : Cv} (hd : CvNew w w' m d) (hml : ∀ c ∈ m, c ∈ l) : MemOk w₀ ((k, .cvs (d :: l)) :: L) w' :=
  h.cvAdd hd.below k hk hd.at' fun b hb => (hd.foot b hb).imp id fun ⟨c, hc, hcf⟩ => ⟨c, hml c hc, hcf⟩
/-- One thing, a row. -/
theorem run_build1 {P : Program} {t e : TypeId} {s : Nat} {z : Value} {cs : Array Value} (w : World) (ht : sliOf P t = some e) (hs : szOf P e = some s) (hz : zeroOf P e = some z) (h0 : Nat.blt 0 s = true) (hb : Nat.ble s 16777216 = true) (hc : cs.size = s) :
    (Instr.buildSlice t 1 #[(0, .agg cs)]).run P w = .ok (.slice (some ⟨w.heap.size, 0, none⟩) 1 1) (w.alloc (.cells cs e)) := by
  have hs0 : 0 < s := by rw [Nat.blt_eq] at h0; exact h0
  have hb' := Nat.le_of_ble_eq_true hb
  have hn : ¬ s = 0 := by omega
  have hn2 : ¬ 16777216 < s := by omega
  unfold Instr.buildSlice
  rw [run_underlying (und_sli ht)]
  dsimp only
  rw [run_bind_ok (run_sizeOf hs)]
  rw [Nat.one_mul, if_neg (by simpa using hn2)]
  simp only [if_neg hn]
  have hzr := run_zero (w := w) hz
  have hf : Instr.fill (fun i => some (i * s, s)) ((Array.range s).map (z.cells[· % z.cells.size]!)) [(0, .agg cs)] = some cs := fill_one (by simp) (by simp) hc
  simp [hzr, hf, newRow, hn, hc, Result.andThen]
theorem build_one {t : T64} (w : World) : (Instr.buildSlice 22 1 #[(0, til t.l)]).run Try.prog w = .ok (.slice (some ⟨w.heap.size, 0, none⟩) 1 1) (w.alloc (.cells (lst C4.cells t.l) 39)) :=
  run_build1 (z := .agg (lst C4.cells zero64)) w sl22 sz39 (by kernel_rfl) rfl rfl (tsz t.h)
end Go.Proofs.Ytbiapeaghbndoaa
