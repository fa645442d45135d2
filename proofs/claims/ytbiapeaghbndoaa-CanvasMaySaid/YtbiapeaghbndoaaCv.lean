/- canvas: canvases in memory. -/
import Derived.Test.YtbiapeaghbndoaaTile
import Derived.Test.YtbiapeaghbndoaaOwns
import Derived.Test.YtbiapeaghbndoaaApp
namespace Go.Proofs.Ytbiapeaghbndoaa
open Go Go.RowKit
abbrev ptrc (q : Nat) : List Value := [.pointer (some ⟨q, 0, none⟩)]
theorem ptrc_len (q : Nat) : (ptrc q).length = 1 := rfl
abbrev tilO (t : T64) : Obj := .cells (lst C4.cells t.l) 39
/-- A canvas: its block, its row of tiles, their blocks, its sizes, and what the tiles show. -/
structure Cv where
  p : Nat
  a : Option Addr
  cap : Nat
  ps : List Nat
  wd : Nat
  hg : Nat
  ts : List T64
def Cv.foot (c : Cv) (b : Nat) : Prop := b = c.p ∨ (∃ x, c.a = some x ∧ x.block = b) ∨ b ∈ c.ps
structure CvAt (w : World) (c : Cv) : Prop where
  blk : hp w c.p = some (.cells #[.int .i64 (c.wd : Int), .int .i64 (c.hg : Int), .slice c.a c.ps.length c.cap] 111)
  row : SliceAt w c.a c.cap 1 ptrc c.ps
  capok : c.cap ≤ Go.maxLen
  tl : ∀ (i : Nat) (q : Nat) (t : T64), c.ps[i]? = some q → c.ts[i]? = some t → hp w q = some (tilO t)
  len : c.ps.length = c.wd * c.hg
  len2 : c.ts.length = c.ps.length
  wd4 : 1 ≤ c.wd ∧ c.wd ≤ 4
  hg4 : 1 ≤ c.hg ∧ c.hg ≤ 4
theorem size4 {m n : Nat} (hm : 1 ≤ m ∧ m ≤ 4) (hn : 1 ≤ n ∧ n ≤ 4) : 1 ≤ m * n ∧ m * n ≤ 16 := ⟨Nat.mul_le_mul hm.1 hn.1, Nat.mul_le_mul hm.2 hn.2⟩
theorem CvAt.keep {w1 w2 : World} {c : Cv} (h : CvAt w1 c) (hb : ∀ b, c.foot b → hp w2 b = hp w1 b) : CvAt w2 c := by
  refine ⟨(hb _ (.inl rfl)).trans h.blk, ⟨h.row.1, h.row.2.1, ?_⟩, h.capok, fun i q t hq ht => (hb q (.inr (.inr (List.mem_of_getElem? hq)))).trans (h.tl i q t hq ht), h.len, h.len2, h.wd4, h.hg4⟩
  rcases h.row.2.2 with h1 | ⟨b, off, cs, T, fz, e1, e2, e3⟩
  · exact .inl h1
  · exact .inr ⟨b, off, cs, T, fz, e1, (hb b (.inr (.inl ⟨_, e1, rfl⟩))).trans e2, e3⟩
theorem CvAt.low {w : World} {c : Cv} (h : CvAt w c) {b : Nat} (hb : c.foot b) : b < w.heap.size := by
  rcases hb with rfl | ⟨x, hx, rfl⟩ | hm
  · exact hp_lt h.blk
  · rcases h.row.2.2 with h1 | ⟨b, off, cs, T, fz, e1, e2, e3⟩
    · have := (size4 h.wd4 h.hg4).1
      rw [← h.len, h1] at this; cases this
    · rw [e1] at hx; cases hx; exact hp_lt e2
  · obtain ⟨i, hi⟩ := List.getElem?_of_mem hm
    have hl := (List.getElem?_eq_some_iff.1 hi).1
    exact hp_lt (h.tl i b _ hi (List.getElem?_eq_getElem (by rw [h.len2]; exact hl)))
theorem CvAt.below {w w' : World} {c : Cv} (h : CvAt w c) (hb : Below w.heap.size w w') : CvAt w' c := h.keep fun b hf => hb.block b (h.low hf)
/-- Canvases of one's own. -/
def cvsF (l : List Cv) (b : Nat) : Prop := ∃ c ∈ l, c.foot b
abbrev Res.cvs (l : List Cv) : Res := .abs (cvsF l) (fun w => ∀ c ∈ l, CvAt w c)
theorem cvs_keep {l : List Cv} (w1 w2 : World) (h : ∀ c ∈ l, CvAt w1 c) (hb : ∀ b, cvsF l b → hp w2 b = hp w1 b) : ∀ c ∈ l, CvAt w2 c := fun c hc => (h c hc).keep fun b hf => hb b ⟨c, hc, hf⟩
theorem MemOk.cv {w₀ w : World} {L : Heap} (h : MemOk w₀ L w) (k : Nat) {l : List Cv} (hk : lk L k = some (.cvs l)) {c : Cv} (hc : c ∈ l) : CvAt w c := (h.own k _ hk).1 c hc
theorem MemOk.cvs0 {w₀ w : World} {L : Heap} (h : MemOk w₀ L w) (k : Nat) : MemOk w₀ ((k, .cvs []) :: L) w :=
  h.set k _ h.ext ⟨(fun r hr => nomatch hr), (fun b hb => by obtain ⟨r, hr, _⟩ := hb; cases hr), cvs_keep⟩ (fun _ _ _ _ b _ => ⟨rfl, fun hb => by obtain ⟨r, hr, _⟩ := hb; cases hr⟩)
/-- One more, in new memory but for tiles of those that there are. -/
theorem MemOk.cvAdd {w₀ w w' : World} {L : Heap} (h : MemOk w₀ L w) (hb : Below w.heap.size w w') (k : Nat) {l : List Cv} (hk : lk L k = some (.cvs l)) {d : Cv} (hd : CvAt w' d) (hf : ∀ b, d.foot b → w.heap.size ≤ b ∨ cvsF l b) : MemOk w₀ ((k, .cvs (d :: l)) :: L) w' := by
  have hm := h.below hb
  have ok := h.own k _ hk
  have ok' := hm.own k _ hk
  refine hm.set k _ hm.ext ⟨fun c hc => ?_, ?_, cvs_keep⟩ (fun i r hi hne b hr => ⟨rfl, ?_⟩)
  · rcases List.mem_cons.1 hc with rfl | hc
    · exact hd
    · exact ok'.1 c hc
  · rintro b ⟨c, hc, hcf⟩
    rcases List.mem_cons.1 hc with rfl | hc
    · refine ⟨?_, hd.low hcf⟩
      rcases hf b hcf with h1 | h1
      · exact Nat.le_trans h.ext.size h1
      · exact (ok.2.1 b h1).1
    · exact ok'.2.1 b ⟨c, hc, hcf⟩
  · rintro ⟨c, hc, hcf⟩
    have hlt := (Res.low (h.own i r hi) hr).2
    rcases List.mem_cons.1 hc with rfl | hc
    · rcases hf b hcf with h1 | h1
      · omega
      · exact h.sep k i _ _ hk hi (Ne.symm hne) b h1 hr
    · exact h.sep k i _ _ hk hi (Ne.symm hne) b ⟨c, hc, hcf⟩ hr
/-! ### plainly -/
/-- Is a point on a canvas of these sizes? -/
def onC (wd hg : Nat) (x y : Int) : Bool := decide (0 ≤ x ∧ 0 ≤ y ∧ x < 8 * wd ∧ y < 8 * hg)
theorem onC_nat {wd hg : Nat} {x y : Int} (h : onC wd hg x y = true) : ∃ u v : Nat, x = u ∧ y = v ∧ u < 8 * wd ∧ v < 8 * hg := by
  have h := of_decide_eq_true h
  exact ⟨x.toNat, y.toNat, by omega, by omega, by omega, by omega⟩
theorem idx_lt {wd hg u v : Nat} (hu : u < 8 * wd) (hv : v < 8 * hg) : v / 8 * wd + u / 8 < wd * hg := by
  have h1 : v / 8 + 1 ≤ hg := by omega
  have h2 := Nat.mul_le_mul_right wd h1
  rw [Nat.add_mul, Nat.one_mul, Nat.mul_comm hg wd] at h2
  omega
abbrev tileAt (ts : List T64) (i : Nat) : T64 := ts.getD i zeroT
theorem tileAt_some {ts : List T64} {i : Nat} {t : T64} (h : ts[i]? = some t) : tileAt ts i = t := by
  show ts.getD i zeroT = t
  rw [List.getD_eq_getElem?_getD, h]; rfl
/-- The colour at a point. -/
def colAt (wd : Nat) (ts : List T64) (u v : Nat) : C4 := get (tileAt ts (v / 8 * wd + u / 8)).l (8 * (v % 8) + u % 8)
def colI (wd hg : Nat) (ts : List T64) (x y : Int) : C4 := if onC wd hg x y then colAt wd ts x.toNat y.toNat else zeroC
theorem colI_on {wd hg : Nat} {ts : List T64} {u v : Nat} (hu : u < 8 * wd) (hv : v < 8 * hg) : colI wd hg ts u v = colAt wd ts u v := by
  unfold colI
  rw [if_pos (show onC wd hg u v = true from decide_eq_true ⟨by omega, by omega, by omega, by omega⟩)]; rfl
theorem colI_off {wd hg : Nat} {ts : List T64} {x y : Int} (h : ¬ onC wd hg x y = true) : colI wd hg ts x y = zeroC := if_neg h
end Go.Proofs.Ytbiapeaghbndoaa
