/- Texts of this seat, merged: part 5. -/
import Derived.Test.YtbiapeaghbndoaaMg4
/- stamp: what the reference lays. -/
namespace Go.Proofs.Ytbiapeaghbndoaa
open Go Go.RowKit
def ptsU (W n : Nat) : List (Nat × Nat) := (List.range n).map fun k => (k % W, k / W)
theorem ptsU_succ {x y W : Nat} (hx : x < W) : ptsU W (y * W + (x + 1)) = ptsU W (y * W + x) ++ [(x, y)] := by
  obtain ⟨h1, h2⟩ := dm2 (x := x) (y := y) (W := W) hx
  unfold ptsU
  rw [← Nat.add_assoc, List.range_succ, List.map_append]
  simp only [List.map_cons, List.map_nil, h1, h2]
def rlF (wd : Nat) (ts : List T64) (p q : Nat) (px : List C4) (X Y : Int) (x : Nat × Nat) : Option Dt :=
  if X ≤ x.1 ∧ Y ≤ x.2 ∧ (x.1 : Int) - p < X ∧ (x.2 : Int) - q < Y then some ⟨x.1, x.2, overC (colAt wd ts x.1 x.2) (get px (((x.2 : Int) - Y).toNat * p + ((x.1 : Int) - X).toNat))⟩ else none
def rlD (wd : Nat) (ts : List T64) (p q : Nat) (px : List C4) (X Y : Int) (n : Nat) : List Dt := (ptsU (8 * wd) n).filterMap (rlF wd ts p q px X Y)
theorem rlD_y {wd p q x y a b : Nat} {ts : List T64} {px : List C4} {X Y : Int} {c : C4} (hx : x < 8 * wd) (h1 : (x : Int) - X = a) (h2 : (y : Int) - Y = b) (ha : a < p) (hb : b < q) (hc : px[b * p + a]? = some c) :
    rlD wd ts p q px X Y (y * (8 * wd) + (x + 1)) = rlD wd ts p q px X Y (y * (8 * wd) + x) ++ [⟨x, y, overC (colAt wd ts x y) c⟩] := by
  unfold rlD
  rw [ptsU_succ hx, List.filterMap_append]
  congr 1
  have e : rlF wd ts p q px X Y (x, y) = some ⟨x, y, overC (colAt wd ts x y) c⟩ := by
    unfold rlF
    dsimp only
    rw [if_pos ⟨by omega, by omega, by omega, by omega⟩, h1, h2, Int.toNat_natCast, Int.toNat_natCast, get_of hc]
  simp [e]
theorem rlD_n {wd p q x y : Nat} {ts : List T64} {px : List C4} {X Y : Int} (hx : x < 8 * wd) (h : ¬ (X ≤ x ∧ Y ≤ y ∧ (x : Int) - p < X ∧ (y : Int) - q < Y)) : rlD wd ts p q px X Y (y * (8 * wd) + (x + 1)) = rlD wd ts p q px X Y (y * (8 * wd) + x) := by
  unfold rlD
  rw [ptsU_succ hx, List.filterMap_append]
  have : rlF wd ts p q px X Y (x, y) = none := if_neg h
  simp [this]
theorem putDs_snoc (wd hg : Nat) (ts : List T64) (ds : List Dt) (u : Dt) : putDs wd hg ts (ds ++ [u]) = putD wd hg (putDs wd hg ts ds) u := by
  unfold putDs
  rw [List.foldl_append]; rfl
end Go.Proofs.Ytbiapeaghbndoaa
/- canvas: wakes. Printed by a program of this seat's prover. -/
namespace Go.Proofs.Ytbiapeaghbndoaa
open Go Go.RowKit
set_option maxRecDepth 10000
theorem MemOk.cvUnder {w₀ w : World} {L : Heap} (h : MemOk w₀ L w) (k : Nat) {l : List Cv} (hk : lk L k = some (.cvs l)) : ∀ x ∈ l, ∀ q ∈ x.ps, q < w.heap.size := fun _ hx _ hq => (h.cv k hk hx).low (.inr (.inr hq))
end Go.Proofs.Ytbiapeaghbndoaa
/- canvas: the plain law. -/
namespace Go.Proofs.Ytbiapeaghbndoaa
open Go Go.RowKit
theorem idx_inj {w a b c d : Nat} (ha : a < w) (hc : c < w) (h : b * w + a = d * w + c) : a = c ∧ b = d := by
  obtain ⟨_, h1, h2⟩ := row_in (x := a) (y := b) (H := b + 1) ha (Nat.lt_succ_self b)
  obtain ⟨_, h3, h4⟩ := row_in (x := c) (y := d) (H := d + 1) hc (Nat.lt_succ_self d)
  rw [h] at h1 h2
  exact ⟨h1.symm.trans h3, h2.symm.trans h4⟩
theorem get_set (l : List C4) (i j : Nat) (c : C4) (hi : i < l.length) : get (l.set i c) j = if i = j then c else get l j := by
  unfold get
  rw [List.getD_eq_getElem?_getD, List.getElem?_set, List.getD_eq_getElem?_getD]
  by_cases h : i = j
  · rw [if_pos h, if_pos h, if_pos hi]; rfl
  · rw [if_neg h, if_neg h]
theorem colAt_putD {wd hg : Nat} {ts : List T64} {d : Dt} {u v : Nat} (hl : ts.length = wd * hg) (hu : u < 8 * wd) (hv : v < 8 * hg) : colAt wd (putD wd hg ts d) u v = if d.x = (u : Int) ∧ d.y = (v : Int) then d.c else colAt wd ts u v := by
  unfold putD
  by_cases hon : onC wd hg d.x d.y = true
  · rw [if_pos hon]
    obtain ⟨p, q, hp, hq, hpx, hqy⟩ := onC_nat hon
    have ht : tix wd d.x d.y = q / 8 * wd + p / 8 := by unfold tix; rw [hp, hq]; rfl
    have hpos : tpos d.x d.y = q % 8 * 8 + p % 8 := by unfold tpos; rw [hp, hq]; rfl
    have hi : q / 8 * wd + p / 8 < ts.length := by rw [hl]; exact idx_lt hpx hqy
    have hpl := tpos_lt d.x d.y
    rw [ht, hp, hq]
    unfold colAt
    by_cases e : v / 8 * wd + u / 8 = q / 8 * wd + p / 8
    · obtain ⟨e1, e2⟩ := idx_inj (by omega) (by omega) e
      have e3 : tileAt (ts.set (q / 8 * wd + p / 8) ((tileAt ts (q / 8 * wd + p / 8)).set (tpos p q) d.c)) (v / 8 * wd + u / 8) = (tileAt ts (q / 8 * wd + p / 8)).set (tpos p q) d.c := by
        rw [e]
        exact tileAt_some (List.getElem?_set_self hi)
      rw [e3, e]
      show get ((tileAt ts (q / 8 * wd + p / 8)).l.set (tpos p q) d.c) _ = _
      have hpos2 : tpos (p : Int) (q : Int) = q % 8 * 8 + p % 8 := rfl
      rw [get_set _ _ _ _ (by rw [T64.h]; omega), hpos2]
      by_cases e4 : q % 8 * 8 + p % 8 = 8 * (v % 8) + u % 8
      · rw [if_pos e4, if_pos (by omega)]
      · rw [if_neg e4, if_neg (by omega)]
    · rw [if_neg (by
        rintro ⟨e1, e2⟩
        have e1 : p = u := by omega
        have e2 : q = v := by omega
        rw [e1, e2] at e; exact e rfl)]
      have e3 : tileAt (ts.set (q / 8 * wd + p / 8) ((tileAt ts (q / 8 * wd + p / 8)).set (tpos p q) d.c)) (v / 8 * wd + u / 8) = tileAt ts (v / 8 * wd + u / 8) := by
        show (ts.set _ _).getD _ _ = ts.getD _ _
        rw [List.getD_eq_getElem?_getD, List.getElem?_set_ne (Ne.symm e), ← List.getD_eq_getElem?_getD]
      rw [e3]
  · rw [if_neg hon, if_neg (by
      rintro ⟨e1, e2⟩
      exact hon (decide_eq_true ⟨by omega, by omega, by omega, by omega⟩))]
def lastD (ds : List Dt) (u v : Nat) : Option C4 := ds.foldl (fun o d => if d.x = (u : Int) ∧ d.y = (v : Int) then some d.c else o) none
theorem last_step {ds : List Dt} {k : Nat} {d : Dt} {u v : Nat} (h : ds[k]? = some d) : lastD (ds.take (k + 1)) u v = if d.x = (u : Int) ∧ d.y = (v : Int) then some d.c else lastD (ds.take k) u v := by
  unfold lastD
  rw [List.take_add_one, h, List.foldl_append]; rfl
theorem colAt_putDs {wd hg : Nat} {ts : List T64} {u v : Nat} (hl : ts.length = wd * hg) (hu : u < 8 * wd) (hv : v < 8 * hg) (ds : List Dt) : ∀ k, k ≤ ds.length → colAt wd (putDs wd hg ts (ds.take k)) u v = (lastD (ds.take k) u v).getD (colAt wd ts u v)
  | 0, _ => rfl
  | k + 1, hk => by
    have ih := colAt_putDs hl hu hv ds k (by omega)
    obtain ⟨d, hd⟩ : ∃ d, ds[k]? = some d := ⟨_, List.getElem?_eq_getElem (by omega)⟩
    rw [putDs_step hd, colAt_putD (by rw [putDs_len]; exact hl) hu hv, last_step hd]
    split
    · rfl
    · exact ih
theorem til_ne {t u : T64} (h : t ≠ u) : ∃ j, j < 64 ∧ get t.l j ≠ get u.l j := by
  refine Classical.byContradiction fun hn => h (t64_ext ?_)
  refine List.ext_getElem (by rw [t.h, u.h]) fun i h1 h2 => ?_
  have hi : i < 64 := by rw [t.h] at h1; exact h1
  have e : get t.l i = get u.l i := Classical.byContradiction fun e => hn ⟨i, hi, e⟩
  have a := get_some t.h hi
  have b := get_some u.h hi
  rw [List.getElem?_eq_getElem h1] at a
  rw [List.getElem?_eq_getElem h2] at b
  rw [Option.some.inj a, Option.some.inj b, e]
end Go.Proofs.Ytbiapeaghbndoaa
/- stamp: what is laid, point by point. -/
namespace Go.Proofs.Ytbiapeaghbndoaa
open Go Go.RowKit
theorem ts_ext {wd hg : Nat} {ts us : List T64} (hwd : 1 ≤ wd) (h1 : ts.length = wd * hg) (h2 : us.length = wd * hg) (h : ∀ u v, u < 8 * wd → v < 8 * hg → colAt wd ts u v = colAt wd us u v) : ts = us := by
  refine List.ext_getElem? fun i => ?_
  by_cases hi : i < wd * hg
  · obtain ⟨t, ht⟩ : ∃ t, ts[i]? = some t := ⟨_, List.getElem?_eq_getElem (by omega)⟩
    obtain ⟨u, hu⟩ : ∃ u, us[i]? = some u := ⟨_, List.getElem?_eq_getElem (by omega)⟩
    refine Classical.byContradiction fun e => ?_
    obtain ⟨j, hj, hne⟩ := til_ne (t := t) (u := u) (fun e2 => e (by rw [ht, hu, e2]))
    have ha : i % wd < wd := Nat.mod_lt _ hwd
    have hb : i / wd < hg := (Nat.div_lt_iff_lt_mul hwd).2 (by rw [Nat.mul_comm]; exact hi)
    have hii : i / wd * wd + i % wd = i := by rw [Nat.mul_comm]; exact Nat.div_add_mod i wd
    have h3 := h (8 * (i % wd) + j % 8) (8 * (i / wd) + j / 8) (by omega) (by omega)
    unfold colAt at h3
    have e3 : (8 * (i / wd) + j / 8) / 8 * wd + (8 * (i % wd) + j % 8) / 8 = i := by
      rw [show (8 * (i / wd) + j / 8) / 8 = i / wd by omega, show (8 * (i % wd) + j % 8) / 8 = i % wd by omega]; exact hii
    rw [e3, tileAt_some ht, tileAt_some hu, show 8 * ((8 * (i / wd) + j / 8) % 8) + (8 * (i % wd) + j % 8) % 8 = j by omega] at h3
    exact hne h3
  · rw [List.getElem?_eq_none (by omega), List.getElem?_eq_none (by omega)]
theorem last_aux {u v : Nat} {c : C4} : ∀ (ds : List Dt) (o : Option C4), (∀ d ∈ ds, d.x = (u : Int) → d.y = (v : Int) → d.c = c) → (o = some c ∨ ∃ d ∈ ds, d.x = (u : Int) ∧ d.y = (v : Int)) → ds.foldl (fun o d => if d.x = (u : Int) ∧ d.y = (v : Int) then some d.c else o) o = some c
  | [], o, _, h => by
    rcases h with h | ⟨d, hd, _⟩
    · exact h
    · cases hd
  | d :: ds, o, h1, h2 => by
    rw [List.foldl_cons]
    refine last_aux ds _ (fun e he => h1 e (List.mem_cons_of_mem _ he)) ?_
    by_cases hd : d.x = (u : Int) ∧ d.y = (v : Int)
    · rw [if_pos hd, h1 d List.mem_cons_self hd.1 hd.2]; exact .inl rfl
    · rw [if_neg hd]
      rcases h2 with h2 | ⟨e, he, h3⟩
      · exact .inl h2
      · rcases List.mem_cons.1 he with rfl | he
        · exact absurd h3 hd
        · exact .inr ⟨e, he, h3⟩
theorem last_aux0 {u v : Nat} : ∀ (ds : List Dt), (∀ d ∈ ds, ¬ (d.x = (u : Int) ∧ d.y = (v : Int))) → ∀ o : Option C4, ds.foldl (fun o d => if d.x = (u : Int) ∧ d.y = (v : Int) then some d.c else o) o = o
  | [], _, _ => rfl
  | d :: ds, h, o => by
    rw [List.foldl_cons, if_neg (h d List.mem_cons_self)]
    exact last_aux0 ds (fun e he => h e (List.mem_cons_of_mem _ he)) o
theorem putDs_at {wd hg : Nat} {ts : List T64} {u v : Nat} {ds : List Dt} {c : C4} (E : Prop) [Decidable E] (hl : ts.length = wd * hg) (hu : u < 8 * wd) (hv : v < 8 * hg) (h1 : ∀ d ∈ ds, d.x = (u : Int) → d.y = (v : Int) → E ∧ d.c = c) (h2 : E → ∃ d ∈ ds, d.x = (u : Int) ∧ d.y = (v : Int)) :
    colAt wd (putDs wd hg ts ds) u v = if E then c else colAt wd ts u v := by
  have h := colAt_putDs hl hu hv ds ds.length (Nat.le_refl _)
  rw [List.take_length] at h
  rw [h]
  by_cases e : E
  · rw [if_pos e]
    have : lastD ds u v = some c := last_aux ds none (fun d hd a b => (h1 d hd a b).2) (.inr (h2 e))
    rw [this]; rfl
  · rw [if_neg e]
    have : lastD ds u v = none := last_aux0 ds (fun d hd a => e (h1 d hd a.1 a.2).1) none
    rw [this]; rfl
section
variable {wd hg p q : Nat} {ts : List T64} {px : List C4} {X Y : Int}
theorem mem_layD {d : Dt} : d ∈ layD wd hg ts p q px X Y (q * p) ↔ ∃ a b : Nat, a < p ∧ b < q ∧ onC wd hg (X + a) (Y + b) = true ∧ d = ⟨X + a, Y + b, overC (colI wd hg ts (X + a) (Y + b)) (get px (b * p + a))⟩ := by
  unfold layD
  rw [List.take_of_length_le (by rw [ptsG_len]; exact Nat.le_refl _), List.mem_filterMap]
  constructor
  · rintro ⟨x, hx, h⟩
    obtain ⟨i, hi⟩ := List.getElem?_of_mem hx
    obtain ⟨h1, h2, -, -⟩ := ptsG_in hi
    unfold layF at h
    split at h
    · rename_i ho
      cases h
      exact ⟨x.1, x.2, h1, h2, ho, rfl⟩
    · cases h
  · rintro ⟨a, b, h1, h2, ho, rfl⟩
    refine ⟨(a, b), List.mem_of_getElem? (ptsG_at h1 h2), ?_⟩
    unfold layF
    rw [if_pos ho]
theorem mem_rlD {d : Dt} : d ∈ rlD wd ts p q px X Y (8 * hg * (8 * wd)) ↔ ∃ x y : Nat, x < 8 * wd ∧ y < 8 * hg ∧ (X ≤ x ∧ Y ≤ y ∧ (x : Int) - p < X ∧ (y : Int) - q < Y) ∧ d = ⟨x, y, overC (colAt wd ts x y) (get px (((y : Int) - Y).toNat * p + ((x : Int) - X).toNat))⟩ := by
  unfold rlD
  rw [List.mem_filterMap]
  constructor
  · rintro ⟨x, hx, h⟩
    obtain ⟨i, hi⟩ := List.getElem?_of_mem (show x ∈ ptsG (8 * wd) (8 * hg) from hx)
    obtain ⟨h1, h2, -, -⟩ := ptsG_in hi
    unfold rlF at h
    split at h
    · rename_i ho
      cases h
      exact ⟨x.1, x.2, h1, h2, ho, rfl⟩
    · cases h
  · rintro ⟨x, y, h1, h2, ho, rfl⟩
    refine ⟨(x, y), (List.mem_of_getElem? (ptsG_at h1 h2) : (x, y) ∈ ptsG (8 * wd) (8 * hg)), ?_⟩
    unfold rlF
    rw [if_pos ho]
abbrev under (p q : Nat) (X Y : Int) (u v : Nat) : Prop := X ≤ u ∧ Y ≤ v ∧ (u : Int) - p < X ∧ (v : Int) - q < Y
theorem lay_at {u v : Nat} (hl : ts.length = wd * hg) (hu : u < 8 * wd) (hv : v < 8 * hg) :
    colAt wd (putDs wd hg ts (layD wd hg ts p q px X Y (q * p))) u v = if under p q X Y u v then overC (colAt wd ts u v) (get px (((v : Int) - Y).toNat * p + ((u : Int) - X).toNat)) else colAt wd ts u v := by
  refine putDs_at _ hl hu hv (fun d hd h1 h2 => ?_) (fun h => ?_)
  · obtain ⟨a, b, ha, hb, ho, rfl⟩ := mem_layD.1 hd
    dsimp only at h1 h2
    refine ⟨⟨by omega, by omega, by omega, by omega⟩, ?_⟩
    rw [h1, h2, colI_on hu hv, show ((u : Int) - X).toNat = a by omega, show ((v : Int) - Y).toNat = b by omega]
  · obtain ⟨h1, h2, h3, h4⟩ := h
    refine ⟨_, mem_layD.2 ⟨((u : Int) - X).toNat, ((v : Int) - Y).toNat, by omega, by omega, ?_, rfl⟩, by dsimp only; omega, by dsimp only; omega⟩
    exact decide_eq_true ⟨by omega, by omega, by omega, by omega⟩
theorem rl_at {u v : Nat} (hl : ts.length = wd * hg) (hu : u < 8 * wd) (hv : v < 8 * hg) :
    colAt wd (putDs wd hg ts (rlD wd ts p q px X Y (8 * hg * (8 * wd)))) u v = if under p q X Y u v then overC (colAt wd ts u v) (get px (((v : Int) - Y).toNat * p + ((u : Int) - X).toNat)) else colAt wd ts u v := by
  refine putDs_at _ hl hu hv (fun d hd h1 h2 => ?_) (fun h => ?_)
  · obtain ⟨x, y, hx, hy, ho, rfl⟩ := mem_rlD.1 hd
    dsimp only at h1 h2
    have e1 : x = u := by omega
    have e2 : y = v := by omega
    subst e1 e2
    exact ⟨ho, rfl⟩
  · exact ⟨_, mem_rlD.2 ⟨u, v, hu, hv, h, rfl⟩, rfl, rfl⟩
theorem lay_ref (hwd : 1 ≤ wd) (hl : ts.length = wd * hg) (U : Pt) : putDs wd hg ts (rlD wd ts p q px U.x U.y (8 * hg * (8 * wd))) = lay1 wd hg p q px ts U :=
  ts_ext hwd (by rw [putDs_len, hl]) (by unfold lay1; rw [putDs_len, hl]) fun u v hu hv => by rw [rl_at hl hu hv]; unfold lay1; rw [lay_at hl hu hv]
theorem lay1_len (U : Pt) : (lay1 wd hg p q px ts U).length = ts.length := by unfold lay1; rw [putDs_len]
end
theorem colAt_ok {wd : Nat} {ts : List T64} (h : TsOk ts) (x y : Nat) : (colAt wd ts x y).ok := get_ok (tileAt_ok h _) _
theorem rowB_next2 {wd hg : Nat} {ts : List T64} {ds : List Dt} {u : Dt} {t1 t2 : Bool} {a a1 a2 : Option Addr} {c c1 c2 : Nat} (h1 : t1 = false → a1 = a ∧ c1 = c ∧ putDs wd hg ts ds = ts) (h2 : t2 = false → a2 = a1 ∧ c2 = c1 ∧ putD wd hg (putDs wd hg ts ds) u = putDs wd hg ts ds) :
    (t1 || t2) = false → a2 = a ∧ c2 = c ∧ putDs wd hg ts (ds ++ [u]) = ts := by
  intro h
  rw [Bool.or_eq_false_iff] at h
  obtain ⟨rfl, rfl, e1⟩ := h1 h.1
  obtain ⟨rfl, rfl, e2⟩ := h2 h.2
  exact ⟨rfl, rfl, by rw [putDs_snoc, e2, e1]⟩
end Go.Proofs.Ytbiapeaghbndoaa
/- Arguments that are slices of what lies in memory (slices of slices ..), read. Over any program. -/
namespace Go.Proofs.Ytbiapeaghbndoaa
open Go Go.RowKit Go.ChangeShapes Go.WideShapes Go.Deep
def RdsAt (P : Program) (w : World) (t : TypeId) {α : Type} (f : α → List Value) (ok : α → Prop) : Prop :=
  ∀ (H : Type) (enc : TypeId × Value → H) (base : Nat) (spare : Nat → Bool) (held : Bool) (fuel : Nat) (cs : List Value) (x : DataW H × List MemPlace), DataW.trod enc P w base spare held fuel t cs = some x → ∃ a, cs = f a ∧ ok a
theorem Rds.at {P : Program} {t : TypeId} {α : Type} {f : α → List Value} {ok : α → Prop} (h : Rds P t f ok) (w : World) : RdsAt P w t f ok := fun H enc base spare held fuel cs x hx => h H enc w base spare held fuel cs x hx
theorem RdsAt.mapIf {P : Program} {w : World} {t : TypeId} {α β : Type} {f : α → List Value} {ok : α → Prop} (h : RdsAt P w t f ok) (g : α → β) {f' : β → List Value} {ok' : β → Prop} (hf : ∀ a, ok a → f a = f' (g a)) (ho : ∀ a, ok a → ok' (g a)) : RdsAt P w t f' ok' := by
  intro H enc base spare held fuel cs x hx
  obtain ⟨a, h1, h2⟩ := h H enc base spare held fuel cs x hx
  exact ⟨g a, by rw [h1, hf a h2], ho a h2⟩
theorem read_sliceW {P : Program} {t e : TypeId} {s : Nat} {α : Type} {f : α → List Value} {ok : α → Prop} (ht : sliOf P t = some e) (hs : szOf P e = some s) (hf : ∀ x, (f x).length = s) (hsp : 0 < s) {w : World} (h : RdsAt P w e f ok)
    {H : Type} {enc : TypeId × Value → H} {base : Nat} {spare : Nat → Bool} {held : Bool} {fuel : Nat} {cs : List Value} {x : DataW H × List MemPlace} (hx : DataW.trod enc P w base spare held fuel t cs = some x) :
    ∃ (l : List α) (a : Option Addr) (cap : Nat), cs = [.slice a l.length cap] ∧ SliceAt w a cap s f l ∧ (∀ x ∈ l, ok x) ∧ cap ≤ Go.maxLen := by
  rcases open_slice (und_sli ht) hx with ⟨rfl, _⟩ | ⟨a, len, cap, m, n, D, Pl, rfl, hb, hl, hm, hmm, _, hi⟩
  · exact ⟨[], none, 0, rfl, sliceNil w, (fun x hx => by cases hx), by unfold Go.maxLen; omega⟩
  · have hlm : len ≤ m := by rw [hmm]; split <;> omega
    rw [cellsOf_sz hs] at hi
    by_cases h0 : len = 0
    · subst h0
      exact ⟨[], some a, cap, rfl, ⟨by simp, (fun e => by cases e), .inl rfl⟩, (fun x hx => by cases hx), hm⟩
    · obtain ⟨l, h1, h2⟩ := list_of (p := fun i y => (∀ j, j < s → w.cell? ((a.add (i * s)).add j) = (f y)[j]?) ∧ ok y) len (fun i hil => by
        obtain ⟨cs', hc, ht'⟩ := hi i (by omega)
        obtain ⟨y, hy, oy⟩ := h _ enc base spare held n _ _ ht'
        obtain ⟨_, _, hcell⟩ := World.cells?_some hc
        exact ⟨y, fun j hj => by rw [hcell j hj, hy], oy⟩)
      have hl0 : l[0]? = some (l[0]'(by omega)) := List.getElem?_eq_getElem (by omega)
      have hc0 := (h2 0 _ hl0).1 0 hsp
      rw [List.getElem?_eq_getElem (by rw [hf]; exact hsp)] at hc0
      simp only [Nat.zero_mul, Addr.add, if_true] at hc0
      obtain ⟨b, off, sp⟩ := a
      unfold World.cell? at hc0
      split at hc0
      · rename_i c T fz hheap
        split at hc0
        · cases hc0
        · rename_i hspot
          have hsp0 : sp = none := by simpa using hspot
          subst hsp0
          subst h1
          refine ⟨l, some ⟨b, off, none⟩, cap, rfl, ⟨hl, (fun e => by cases e), .inr ⟨b, off, c, T, fz, rfl, hheap, ?_⟩⟩, fun x hx => by obtain ⟨i, hi⟩ := List.getElem?_of_mem hx; exact (h2 i x hi).2, hm⟩
          intro i y hy
          have hcells : ∀ j, j < s → c[off + i * s + j]? = (f y)[j]? := fun j hj => by
            have := (h2 i y hy).1 j hj
            rw [addr_add, addr_add] at this
            simpa [World.cell?, hheap] using this
          have hsz : off + i * s + s ≤ c.size := by
            have := hcells (s - 1) (by omega)
            rw [List.getElem?_eq_getElem (by rw [hf]; omega)] at this
            have := (Array.getElem?_eq_some_iff.1 this).1
            omega
          refine ⟨hsz, ?_⟩
          apply Array.ext_getElem?
          intro j
          rw [Array.getElem?_extract]
          by_cases hj : j < s
          · rw [if_pos (by omega), hcells j hj]; simp
          · rw [if_neg (by omega)]
            rw [Array.getElem?_eq_none]
            simp [hf]; omega
      · cases hc0
theorem rds_slice {P : Program} {w : World} {t e : TypeId} {s : Nat} {α : Type} {f : α → List Value} {ok : α → Prop} (ht : sliOf P t = some e) (hs : szOf P e = some s) (hf : ∀ x, (f x).length = s) (hsp : 0 < s) (h : RdsAt P w e f ok) :
    RdsAt P w t (RowG.cells (α := α)) (fun r => r.ok s f w ∧ (∀ x ∈ r.l, ok x) ∧ r.cap ≤ Go.maxLen) := by
  intro H enc base spare held fuel cs x hx
  obtain ⟨l, a, cap, h1, h2, h3, h4⟩ := read_sliceW ht hs hf hsp h hx
  exact ⟨⟨a, cap, l⟩, h1, h2, h3, h4⟩
section
variable {P : Program} {w : World} {r : Reach} {b0 : Nat} {t : TypeId} {v : Value} {H : Type} {enc : TypeId × Value → H} {base : Nat} {spare : Nat → Bool} {held : Bool} {d : DataW H} {ps : List MemPlace}
theorem param_aggW {α : Type} {f : α → List Value} {ok : α → Prop} (ha : aggOf P t = some true) (hr : RdsAt P w t f ok) (hv : Value.okWide P w r b0 t v) (h : DataW.Trod enc P w base spare held t v d ps) : ∃ x, v = .agg (f x).toArray ∧ ok x := by
  obtain ⟨fuel, hf⟩ := h
  obtain ⟨x, hx, ox⟩ := hr _ enc base spare held fuel _ _ hf
  simp only [aggOf, Option.map_eq_some_iff] at ha
  obtain ⟨dd, hd, he⟩ := ha
  have : ∃ cs, v = .agg cs := by
    unfold Value.okWide at hv
    rw [hd] at hv
    cases dd <;> first | (cases he; done) | (obtain ⟨cs, h1, _⟩ := hv; exact ⟨cs, h1⟩)
  obtain ⟨cs, rfl⟩ := this
  exact ⟨x, by rw [← hx]; rfl, ox⟩
end
end Go.Proofs.Ytbiapeaghbndoaa
/- Arguments that are structs whose parts lie in memory, read. Over any program. -/
namespace Go.Proofs.Ytbiapeaghbndoaa
open Go Go.RowKit Go.ChangeShapes Go.WideShapes Go.Deep
section
variable {P : Program} {w : World} {t : TypeId}
theorem rdsA_field {i off n : Nat} {ft : TypeId} {α : Type} {f : α → List Value} {ok : α → Prop} (hfl : fldOf P t i = some (ft, off)) (hs : szOf P ft = some n) (h : RdsAt P w ft f ok)
    {H : Type} {enc : TypeId × Value → H} {base : Nat} {spare : Nat → Bool} {held : Bool} {fuel : Nat} {cs : List Value} {x : DataW H × List MemPlace} (hx : DataW.trod enc P w base spare held fuel t cs = some x) :
    ∃ a, (cs.drop off).take n = f a ∧ ok a := by
  obtain ⟨fs, hu, fl, hfi, rfl, rfl⟩ := und_fld hfl
  obtain ⟨xs, m, _, _, _, hlen, hg⟩ := DataW.trod_struct hu hx
  have hi := hg i fl hfi
  have hil : i < fs.size := (Array.getElem?_eq_some_iff.1 hfi).1
  rw [cellsOf_sz hs, List.getElem?_eq_getElem (by omega)] at hi
  exact h _ enc base spare held m _ _ hi
theorem cut1 {α : Type} {cs : List α} {a b : Nat} (h : cs.length = a + b) : cs = cs.take a ++ (cs.drop a).take b := by
  rw [List.take_of_length_le (l := cs.drop a) (by rw [List.length_drop]; omega), List.take_append_drop]
theorem rdsA2 {t0 t1 : TypeId} {s0 s1 : Nat} {α β : Type} {f0 : α → List Value} {f1 : β → List Value} {o0 : α → Prop} {o1 : β → Prop} (h0 : fldOf P t 0 = some (t0, 0)) (h1 : fldOf P t 1 = some (t1, s0)) (z0 : szOf P t0 = some s0) (z1 : szOf P t1 = some s1)
    (z : szOf P t = some (s0 + s1)) (r0 : RdsAt P w t0 f0 o0) (r1 : RdsAt P w t1 f1 o1) : RdsAt P w t (fun p : α × β => f0 p.1 ++ f1 p.2) (fun p => o0 p.1 ∧ o1 p.2) := by
  intro H enc base spare held fuel cs x hx
  obtain ⟨a, ha, oa⟩ := rdsA_field h0 z0 r0 hx
  obtain ⟨b, hb, ob⟩ := rdsA_field h1 z1 r1 hx
  have hl := rds_len h0 z hx
  refine ⟨(a, b), ?_, oa, ob⟩
  show cs = f0 a ++ f1 b
  rw [← ha, ← hb, List.drop_zero]
  exact cut1 hl
theorem rdsA3 {t0 t1 t2 : TypeId} {s0 s1 s2 : Nat} {α β γ : Type} {f0 : α → List Value} {f1 : β → List Value} {f2 : γ → List Value} {o0 : α → Prop} {o1 : β → Prop} {o2 : γ → Prop} (h0 : fldOf P t 0 = some (t0, 0)) (h1 : fldOf P t 1 = some (t1, s0)) (h2 : fldOf P t 2 = some (t2, s0 + s1)) (z0 : szOf P t0 = some s0) (z1 : szOf P t1 = some s1) (z2 : szOf P t2 = some s2)
    (z : szOf P t = some (s0 + s1 + s2)) (r0 : RdsAt P w t0 f0 o0) (r1 : RdsAt P w t1 f1 o1) (r2 : RdsAt P w t2 f2 o2) : RdsAt P w t (fun p : α × β × γ => f0 p.1 ++ (f1 p.2.1 ++ f2 p.2.2)) (fun p => o0 p.1 ∧ o1 p.2.1 ∧ o2 p.2.2) := by
  intro H enc base spare held fuel cs x hx
  obtain ⟨a, ha, oa⟩ := rdsA_field h0 z0 r0 hx
  obtain ⟨b, hb, ob⟩ := rdsA_field h1 z1 r1 hx
  obtain ⟨c, hc, oc⟩ := rdsA_field h2 z2 r2 hx
  have hl := rds_len h0 z hx
  refine ⟨(a, b, c), ?_, oa, ob, oc⟩
  show cs = f0 a ++ (f1 b ++ f2 c)
  rw [← ha, ← hb, ← hc, List.drop_zero, ← List.drop_drop]
  rw [← cut1 (cs := cs.drop s0) (by rw [List.length_drop]; omega), List.take_append_drop]
theorem rdsA5 {t0 t1 t2 t3 t4 : TypeId} {s0 s1 s2 s3 s4 : Nat} {α β γ δ ε : Type} {f0 : α → List Value} {f1 : β → List Value} {f2 : γ → List Value} {f3 : δ → List Value} {f4 : ε → List Value} {o0 : α → Prop} {o1 : β → Prop} {o2 : γ → Prop} {o3 : δ → Prop} {o4 : ε → Prop} (h0 : fldOf P t 0 = some (t0, 0)) (h1 : fldOf P t 1 = some (t1, s0)) (h2 : fldOf P t 2 = some (t2, s0 + s1)) (h3 : fldOf P t 3 = some (t3, s0 + s1 + s2)) (h4 : fldOf P t 4 = some (t4, s0 + s1 + s2 + s3))
    (z0 : szOf P t0 = some s0) (z1 : szOf P t1 = some s1) (z2 : szOf P t2 = some s2) (z3 : szOf P t3 = some s3) (z4 : szOf P t4 = some s4)
    (z : szOf P t = some (s0 + s1 + s2 + s3 + s4)) (r0 : RdsAt P w t0 f0 o0) (r1 : RdsAt P w t1 f1 o1) (r2 : RdsAt P w t2 f2 o2) (r3 : RdsAt P w t3 f3 o3) (r4 : RdsAt P w t4 f4 o4) : RdsAt P w t (fun p : α × β × γ × δ × ε => f0 p.1 ++ (f1 p.2.1 ++ (f2 p.2.2.1 ++ (f3 p.2.2.2.1 ++ f4 p.2.2.2.2)))) (fun p => o0 p.1 ∧ o1 p.2.1 ∧ o2 p.2.2.1 ∧ o3 p.2.2.2.1 ∧ o4 p.2.2.2.2) := by
  intro H enc base spare held fuel cs x hx
  obtain ⟨a, ha, oa⟩ := rdsA_field h0 z0 r0 hx
  obtain ⟨b, hb, ob⟩ := rdsA_field h1 z1 r1 hx
  obtain ⟨c, hc, oc⟩ := rdsA_field h2 z2 r2 hx
  obtain ⟨d, hd, od⟩ := rdsA_field h3 z3 r3 hx
  obtain ⟨e, he, oe⟩ := rdsA_field h4 z4 r4 hx
  have hl := rds_len h0 z hx
  refine ⟨(a, b, c, d, e), ?_, oa, ob, oc, od, oe⟩
  show cs = f0 a ++ (f1 b ++ (f2 c ++ (f3 d ++ f4 e)))
  have e1 : cs.drop (s0 + s1) = (cs.drop s0).drop s1 := by rw [List.drop_drop]
  have e2 : cs.drop (s0 + s1 + s2) = ((cs.drop s0).drop s1).drop s2 := by rw [List.drop_drop, List.drop_drop]; congr 1; omega
  have e3 : cs.drop (s0 + s1 + s2 + s3) = (((cs.drop s0).drop s1).drop s2).drop s3 := by rw [List.drop_drop, List.drop_drop, List.drop_drop]; congr 1; omega
  rw [← ha, ← hb, ← hc, ← hd, ← he, List.drop_zero, e1, e2, e3]
  rw [← cut1 (cs := ((cs.drop s0).drop s1).drop s2) (by rw [List.length_drop, List.length_drop, List.length_drop]; omega), List.take_append_drop, List.take_append_drop, List.take_append_drop]
end
end Go.Proofs.Ytbiapeaghbndoaa
/- canvas: arguments of the laws, read. -/
namespace Go.Proofs.Ytbiapeaghbndoaa
open Go Go.RowKit Go.ChangeShapes Go.WideShapes
def T64.of (l : List C4) : T64 := if h : l.length = 64 then ⟨l, h⟩ else zeroT
theorem T64.of_l {l : List C4} (h : l.length = 64) : (T64.of l).l = l := by unfold T64.of; rw [dif_pos h]
def inI (n : Int) : Prop := -9223372036854775808 ≤ n ∧ n ≤ 9223372036854775807
theorem rds_pt (w : World) : RdsAt Try.prog w 47 Pt.cells (fun p => inI p.x ∧ inI p.y) :=
  RdsAt.mapIf (rdsA2 fl47_0 fl47_1 sz3 sz3 sz47 ((rds_int io3).at w) ((rds_int io3).at w)) (fun p => ⟨p.1, p.2⟩) (fun _ _ => rfl) (fun _ h => ⟨wf_i64 h.1, wf_i64 h.2⟩)
structure Pic where
  x : Int
  y : Int
  r : RowG T64
abbrev Pic.cells (p : Pic) : List Value := [.int .i64 p.x, .int .i64 p.y, .slice p.r.a p.r.l.length p.r.cap]
def Pic.ok (w : World) (p : Pic) : Prop := inI p.x ∧ inI p.y ∧ p.r.ok 256 T64.cells w ∧ p.r.cap ≤ Go.maxLen
end Go.Proofs.Ytbiapeaghbndoaa
/- canvas: the reference of Lay, a pixel; Of. Printed by a program of this seat's prover. -/
namespace Go.Proofs.Ytbiapeaghbndoaa
open Go Go.RowKit
set_option maxRecDepth 10000
set_option maxHeartbeats 2000000 in
theorem rlay_w (wd hg : Nat) (ts : List T64) (a : Option Addr) (cap : Nat) (w : World) (hs : SliceAt w a cap 256 T64.cells ts) (hcapt : cap ≤ Go.maxLen) (hlen : ts.length = wd * hg) (hwd : 1 ≤ wd ∧ wd ≤ 4) (hhg : 1 ≤ hg ∧ hg ≤ 4) (p q : Nat) (px : List C4) (ap : Option Addr) (capp : Nat) (hv : SliceAt w ap capp 4 C4.cells px) (hcap : capp ≤ Go.maxLen) (hp8 : 1 ≤ p ∧ p ≤ 8) (hq8 : 1 ≤ q ∧ q ≤ 8) (hpl : px.length = p * q) (X Y : Int) (hX : inI X) (hY : inI Y) (hpx : ∀ c ∈ px, c.ok) (hts : TsOk ts) : Calls Try.prog 63 #[.agg #[.int .i64 (wd : Int), .int .i64 (hg : Int), .slice a ts.length cap], .agg #[.int .i64 (p : Int), .int .i64 (q : Int), .slice ap px.length capp], .agg #[.int .i64 X, .int .i64 Y]] w fun e w' => ∃ (tB : Bool) (a' : Option Addr) (cap' : Nat), e = .returned (.agg #[.int .i64 (wd : Int), .int .i64 (hg : Int), .slice a' ts.length cap']) ∧ (tB = false → a' = a ∧ cap' = cap ∧ (putDs wd hg ts (rlD wd ts p q px X Y (8 * hg * (8 * wd)))) = ts) ∧ Below w.heap.size w w' ∧ (Res.rowB tB (.slice a' ts.length cap') 39 256 ts.length (((putDs wd hg ts (rlD wd ts p q px X Y (8 * hg * (8 * wd))))).flatMap T64.cells)).ok w.heap.size w' := by
 have hvl := hv.1
 have hsl := hs.1
 have h16 := size4 hwd hhg
 have h64 := size8 hp8 hq8
 obtain ⟨hX1, hX2⟩ := hX
 obtain ⟨hY1, hY2⟩ := hY
 unfold Go.maxLen at hcap hcapt
 refine calls_of_T (l := [.agg #[iN wd, iN hg, .slice a ts.length cap], .agg #[iN p, iN q, .slice ap px.length capp], .agg #[.int .i64 X, .int .i64 Y]]) 74 Try.func63 rfl rfl rfl ?_
 show T _ _ _ [(0, .agg #[iN wd, iN hg, .slice a ts.length cap]), (1, .agg #[iN p, iN q, .slice ap px.length capp]), (2, .agg #[.int .i64 X, .int .i64 Y])] []
 refine T_seq (T_region ?_)
 refine TL_new 1 (.cells #[iN wd, iN hg, .slice a ts.length cap] 24) (fun B => pt B 0) (fun _ _ j _ => r_box (j _ _ rfl) rfl) rfl rfl rfl (w_n rfl) ?_
 intro B1
 refine TL_new 2 (.cells #[iN p, iN q, .slice ap px.length capp] 75) (fun B => pt B 0) (fun _ _ j _ => r_box (j _ _ rfl) rfl) rfl rfl rfl (w_n rfl) ?_
 intro B2
 refine TL_new 3 (.cells #[.int .i64 X, .int .i64 Y] 47) (fun B => pt B 0) (fun _ _ j _ => r_box (j _ _ rfl) rfl) rfl rfl rfl (w_n rfl) ?_
 intro B3
 refine TL_new 4 (.cells #[.int .i64 0, .int .i64 0, .slice none 0 0] 24) (fun B => pt B 0) (fun _ _ _ _ => r_alloc (v := .agg #[.int .i64 0, .int .i64 0, .slice none 0 0]) (by kernel_rfl) rfl) rfl rfl rfl (w_n rfl) ?_
 intro B4
 refine TL_seq ?_
 refine T_seq (T_region ?_)
 refine TL_v (.agg #[iN wd, iN hg, .slice a ts.length cap]) (s_la ag24 sz24 rfl 1 rfl rfl rfl) rfl rfl ?_
 refine TL_new 5 (.cells #[.int .i64 0, .int .i64 0, .slice none 0 0] 24) (fun B => pt B 0) (fun _ _ _ _ => r_alloc (v := .agg #[.int .i64 0, .int .i64 0, .slice none 0 0]) (by kernel_rfl) rfl) rfl rfl rfl (w_n rfl) ?_
 intro B5
 refine TL_store 5 (.cells #[iN wd, iN hg, .slice a ts.length cap] 24) rfl (s_st sz24 rfl rfl 5 rfl rfl rfl rfl rfl) rfl rfl (w_n rfl) ?_
 refine TL_seq ?_
 refine T_seq ?_
 refine T_seq (T_region ?_)
 refine TL_v (pt B1 1) (s_fa fl24_1 sz3 rfl) rfl rfl ?_
 refine TL_v (iN hg) (s_ld ag3 rfl 1 rfl rfl) rfl rfl ?_
 refine TL_v (iN (8 * hg)) (s_op r_mul rfl rfl (iw (by omega) (by omega) (by omega))) rfl rfl ?_
 refine TL_v (.int .i64 0) (s_mv rfl) rfl rfl ?_
 refine TL_seq ?_
 refine T_block ?_
 refine T_mem (_ :: _) (fun _ hm => hm.rowB0 905 (.slice a ts.length cap) 39 256 ts.length (ts.flatMap T64.cells)) ?_
 refine T_loop (ι := Nat × Bool × Option Addr × Nat) (fun (z : Nat × Bool × Option Addr × Nat) => match z with | (y, tB, a2, cap2) => y ≤ 8 * hg ∧ (tB = false → a2 = a ∧ cap2 = cap ∧ (putDs wd hg ts (rlD wd ts p q px X Y (y * (8 * wd)))) = ts)) (fun (z : Nat × Bool × Option Addr × Nat) => match z with | (y, tB, a2, cap2) => [(3, pt B1 0), (4, pt B2 0), (5, pt B3 0), (6, pt B4 0), (7, pt B5 0), (13, iN (8 * hg)), (14, iN y)]) (fun (z : Nat × Bool × Option Addr × Nat) => match z with | (y, tB, a2, cap2) => [(1, .blk B1 (.cells #[iN wd, iN hg, .slice a ts.length cap] 24)), (2, .blk B2 (.cells #[iN p, iN q, .slice ap px.length capp] 75)), (3, .blk B3 (.cells #[.int .i64 X, .int .i64 Y] 47)), (4, .blk B4 (.cells #[.int .i64 0, .int .i64 0, .slice none 0 0] 24)), (5, .blk B5 (.cells #[iN wd, iN hg, .slice a2 ts.length cap2] 24)), (905, .rowB tB (.slice a2 ts.length cap2) 39 256 ts.length ((putDs wd hg ts (rlD wd ts p q px X Y (y * (8 * wd)))).flatMap T64.cells))]) (fun (z : Nat × Bool × Option Addr × Nat) => match z with | (y, tB, a2, cap2) => 8 * hg - y) (0, false, a, cap) ⟨Nat.zero_le _, fun _ => ⟨rfl, rfl, by rw [Nat.zero_mul]; rfl⟩⟩ (sc4 rfl rfl rfl rfl (sc rfl (sc rfl (sc rfl sub_nil)))) (sc4 rfl rfl rfl rfl (sc rfl (sub_cons (by rw [Nat.zero_mul]; rfl) sub_nil))) ?_
 rintro ⟨y, tB, a2, cap2⟩ hp
 obtain ⟨hy, hbf⟩ := hp
 show T _ _ _ [(3, pt B1 0), (4, pt B2 0), (5, pt B3 0), (6, pt B4 0), (7, pt B5 0), (13, iN (8 * hg)), (14, iN y)] [(1, .blk B1 (.cells #[iN wd, iN hg, .slice a ts.length cap] 24)), (2, .blk B2 (.cells #[iN p, iN q, .slice ap px.length capp] 75)), (3, .blk B3 (.cells #[.int .i64 X, .int .i64 Y] 47)), (4, .blk B4 (.cells #[.int .i64 0, .int .i64 0, .slice none 0 0] 24)), (5, .blk B5 (.cells #[iN wd, iN hg, .slice a2 ts.length cap2] 24)), (905, .rowB tB (.slice a2 ts.length cap2) 39 256 ts.length ((putDs wd hg ts (rlD wd ts p q px X Y (y * (8 * wd)))).flatMap T64.cells))]
 refine T_seq (T_region ?_)
 refine TL_v (.bool (decide (((y : Nat) : Int) < ((8 * hg : Nat) : Int)))) (fun _ _ j _ => r_lss (j _ _ rfl) (j _ _ rfl)) rfl rfl ?_
 refine TL_seq ?_
 refine T_seq ?_
 refine T_cond rfl (fun h1 => ?_) (fun h1 => ?_)
 ·replace h1 := of_decide_eq_true h1
  refine T_skip' ?_
  refine p_seq ?_
  refine T_seq ?_
  refine T_block ?_
  refine T_seq (T_region ?_)
  refine TL_v (iN y) (s_mv rfl) rfl rfl ?_
  refine TL_v (iN y) (s_as rfl) rfl rfl ?_
  refine TL_seq ?_
  refine T_seq (T_region ?_)
  refine TL_v (pt B1 0) (s_fa fl24_0 sz3 rfl) rfl rfl ?_
  refine TL_v (iN wd) (s_ld ag3 rfl 1 rfl rfl) rfl rfl ?_
  refine TL_v (iN (8 * wd)) (s_op r_mul rfl rfl (iw (by omega) (by omega) (by omega))) rfl rfl ?_
  refine TL_v (.int .i64 0) (s_mv rfl) rfl rfl ?_
  refine TL_seq ?_
  refine T_block ?_
  refine T_loop (ι := Nat × Bool × Option Addr × Nat) (fun (z : Nat × Bool × Option Addr × Nat) => match z with | (x, tC, a3, cap3) => x ≤ 8 * wd ∧ (tC = false → a3 = a ∧ cap3 = cap ∧ (putDs wd hg ts (rlD wd ts p q px X Y (y * (8 * wd) + x))) = ts)) (fun (z : Nat × Bool × Option Addr × Nat) => match z with | (x, tC, a3, cap3) => [(3, pt B1 0), (4, pt B2 0), (5, pt B3 0), (6, pt B4 0), (7, pt B5 0), (13, iN (8 * hg)), (14, iN y), (15, .bool (decide (((y : Nat) : Int) < ((8 * hg : Nat) : Int)))), (16, iN y), (8, iN y), (17, pt B1 0), (18, iN wd), (19, iN (8 * wd)), (20, iN x)]) (fun (z : Nat × Bool × Option Addr × Nat) => match z with | (x, tC, a3, cap3) => [(1, .blk B1 (.cells #[iN wd, iN hg, .slice a ts.length cap] 24)), (2, .blk B2 (.cells #[iN p, iN q, .slice ap px.length capp] 75)), (3, .blk B3 (.cells #[.int .i64 X, .int .i64 Y] 47)), (4, .blk B4 (.cells #[.int .i64 0, .int .i64 0, .slice none 0 0] 24)), (5, .blk B5 (.cells #[iN wd, iN hg, .slice a3 ts.length cap3] 24)), (905, .rowB tC (.slice a3 ts.length cap3) 39 256 ts.length ((putDs wd hg ts (rlD wd ts p q px X Y (y * (8 * wd) + x))).flatMap T64.cells))]) (fun (z : Nat × Bool × Option Addr × Nat) => match z with | (x, tC, a3, cap3) => 8 * wd - x) (0, tB, a2, cap2) ⟨Nat.zero_le _, hbf⟩ (sc4 rfl rfl rfl rfl (sc4 rfl rfl rfl rfl (sc4 rfl rfl rfl rfl (sc rfl (sc rfl sub_nil))))) (sc4 rfl rfl rfl rfl (sc rfl (sc rfl sub_nil))) ?_
  rintro ⟨x, tC, a3, cap3⟩ hp
  obtain ⟨hx, hbg⟩ := hp
  show T _ _ _ [(3, pt B1 0), (4, pt B2 0), (5, pt B3 0), (6, pt B4 0), (7, pt B5 0), (13, iN (8 * hg)), (14, iN y), (15, .bool (decide (((y : Nat) : Int) < ((8 * hg : Nat) : Int)))), (16, iN y), (8, iN y), (17, pt B1 0), (18, iN wd), (19, iN (8 * wd)), (20, iN x)] [(1, .blk B1 (.cells #[iN wd, iN hg, .slice a ts.length cap] 24)), (2, .blk B2 (.cells #[iN p, iN q, .slice ap px.length capp] 75)), (3, .blk B3 (.cells #[.int .i64 X, .int .i64 Y] 47)), (4, .blk B4 (.cells #[.int .i64 0, .int .i64 0, .slice none 0 0] 24)), (5, .blk B5 (.cells #[iN wd, iN hg, .slice a3 ts.length cap3] 24)), (905, .rowB tC (.slice a3 ts.length cap3) 39 256 ts.length ((putDs wd hg ts (rlD wd ts p q px X Y (y * (8 * wd) + x))).flatMap T64.cells))]
  refine T_seq (T_region ?_)
  refine TL_v (.bool (decide (((x : Nat) : Int) < ((8 * wd : Nat) : Int)))) (fun _ _ j _ => r_lss (j _ _ rfl) (j _ _ rfl)) rfl rfl ?_
  refine TL_seq ?_
  refine T_seq ?_
  refine T_cond rfl (fun h2 => ?_) (fun h2 => ?_)
  ·replace h2 := of_decide_eq_true h2
   refine T_skip' ?_
   refine p_seq ?_
   refine T_seq ?_
   refine T_block ?_
   refine T_seq (T_region ?_)
   refine TL_v (iN x) (s_mv rfl) rfl rfl ?_
   refine TL_v (iN x) (s_as rfl) rfl rfl ?_
   refine TL_seq ?_
   refine T_seq ?_
   by_cases f1 : ((x : Nat) : Int) < X
   ·skip
    refine T_seq (T_region ?_)
    refine TL_v (pt B3 0) (s_fa fl47_0 sz3 rfl) rfl rfl ?_
    refine TL_v (.int .i64 X) (s_ld ag3 rfl 3 rfl rfl) rfl rfl ?_
    refine TL_v (iN x) (s_mv rfl) rfl rfl ?_
    refine TL_v (.bool true) (s_op r_gtr rfl rfl (bool_as (decide_eq_true f1))) rfl rfl ?_
    refine TL_v (.bool true) (s_mv rfl) rfl rfl ?_
    refine TL_x 27 rfl rfl rfl rfl rfl ?_
    refine TL_x 27 rfl rfl rfl rfl rfl ?_
    refine TL_x 27 rfl rfl rfl rfl rfl ?_
    refine TL_x 27 rfl rfl rfl rfl rfl ?_
    refine TL_v (.bool true) (s_pt rfl rfl) rfl rfl ?_
    refine TL_v (.bool true) (s_mv rfl) rfl rfl ?_
    refine TL_x 33 rfl rfl rfl rfl rfl ?_
    refine TL_x 33 rfl rfl rfl rfl rfl ?_
    refine TL_x 33 rfl rfl rfl rfl rfl ?_
    refine TL_x 33 rfl rfl rfl rfl rfl ?_
    refine TL_x 33 rfl rfl rfl rfl rfl ?_
    refine TL_x 33 rfl rfl rfl rfl rfl ?_
    refine TL_x 33 rfl rfl rfl rfl rfl ?_
    refine TL_v (.bool true) (s_pt rfl rfl) rfl rfl ?_
    refine TL_v (.bool true) (s_mv rfl) rfl rfl ?_
    refine TL_x 42 rfl rfl rfl rfl rfl ?_
    refine TL_x 42 rfl rfl rfl rfl rfl ?_
    refine TL_x 42 rfl rfl rfl rfl rfl ?_
    refine TL_x 42 rfl rfl rfl rfl rfl ?_
    refine TL_x 42 rfl rfl rfl rfl rfl ?_
    refine TL_x 42 rfl rfl rfl rfl rfl ?_
    refine TL_x 42 rfl rfl rfl rfl rfl ?_
    refine TL_v (.bool true) (s_pt rfl rfl) rfl rfl ?_
    refine TL_seq ?_
    refine T_sub [(3, pt B1 0), (4, pt B2 0), (5, pt B3 0), (6, pt B4 0), (7, pt B5 0), (13, iN (8 * hg)), (14, iN y), (15, .bool (decide (((y : Nat) : Int) < ((8 * hg : Nat) : Int)))), (16, iN y), (8, iN y), (17, pt B1 0), (18, iN wd), (19, iN (8 * wd)), (20, iN x), (21, .bool (decide (((x : Nat) : Int) < ((8 * wd : Nat) : Int)))), (22, iN x), (9, iN x), (23, pt B3 0), (24, .int .i64 X), (25, iN x), (26, .bool true), (27, .bool true), (28, undef), (29, undef), (30, undef), (31, undef), (32, .bool true), (33, .bool true), (34, undef), (35, undef), (36, undef), (37, undef), (38, undef), (39, undef), (40, undef), (41, .bool true), (42, .bool true), (43, undef), (44, undef), (45, undef), (46, undef), (47, undef), (48, undef), (49, undef), (50, .bool true)] [(1, .blk B1 (.cells #[iN wd, iN hg, .slice a ts.length cap] 24)), (2, .blk B2 (.cells #[iN p, iN q, .slice ap px.length capp] 75)), (3, .blk B3 (.cells #[.int .i64 X, .int .i64 Y] 47)), (4, .blk B4 (.cells #[.int .i64 0, .int .i64 0, .slice none 0 0] 24)), (5, .blk B5 (.cells #[iN wd, iN hg, .slice a3 ts.length cap3] 24)), (905, .rowB tC (.slice a3 ts.length cap3) 39 256 ts.length ((putDs wd hg ts (rlD wd ts p q px X Y (y * (8 * wd) + x))).flatMap T64.cells))] (sc4 rfl rfl rfl rfl (sc4 rfl rfl rfl rfl (sc4 rfl rfl rfl rfl (sc4 rfl rfl rfl rfl (sc4 rfl rfl rfl rfl (sc4 rfl rfl rfl rfl (sc4 rfl rfl rfl rfl (sc4 rfl rfl rfl rfl (sc4 rfl rfl rfl rfl (sc4 rfl rfl rfl rfl (sc4 rfl rfl rfl rfl (sc rfl sub_nil)))))))))))) (sc4 rfl rfl rfl rfl (sc rfl (sc rfl sub_nil))) ?_
    refine T_cond_t rfl ?_
    refine T_exit' ?_
    refine p_then_x ?_
    refine p_blk_x ?_
    refine p_seq ?_
    refine T_region ?_
    refine TL_v (iN (x + 1)) (s_op r_add rfl rfl (iw (by omega) (by omega) (by omega))) rfl rfl ?_
    refine TL_v (iN (x + 1)) (s_mv rfl) rfl rfl ?_
    refine TL_nil ?_
    have hno := rlD_n (wd := wd) (p := p) (q := q) (ts := ts) (px := px) (X := X) (Y := Y) (show x < 8 * wd by omega) (y := y) (by omega)
    exact p_at (x + 1, tC, a3, cap3) ⟨⟨by omega, by rw [hno]; exact hbg⟩, by dsimp only; omega⟩ (sc4 rfl rfl rfl rfl (sc4 rfl rfl rfl rfl (sc4 rfl rfl rfl rfl (sc rfl (sc rfl sub_nil))))) (sc4 rfl rfl rfl rfl (sc rfl (sub_cons (by rw [hno]; rfl) sub_nil)))
   ·skip
    by_cases f2 : ((y : Nat) : Int) < Y
    ·skip
     refine T_seq (T_region ?_)
     refine TL_v (pt B3 0) (s_fa fl47_0 sz3 rfl) rfl rfl ?_
     refine TL_v (.int .i64 X) (s_ld ag3 rfl 3 rfl rfl) rfl rfl ?_
     refine TL_v (iN x) (s_mv rfl) rfl rfl ?_
     refine TL_v (.bool false) (s_op r_gtr rfl rfl (bool_as (decide_eq_false f1))) rfl rfl ?_
     refine TL_v (.bool false) (s_mv rfl) rfl rfl ?_
     refine TL_q (pt B3 1) (s_fa fl47_1 sz3 rfl) rfl rfl rfl (want_y 27 rfl rfl rfl) ?_
     refine TL_q (.int .i64 Y) (s_ld ag3 rfl 3 rfl rfl) rfl rfl rfl (want_y 27 rfl rfl rfl) ?_
     refine TL_q (iN y) (s_mv rfl) rfl rfl rfl (want_y 27 rfl rfl rfl) ?_
     refine TL_q (.bool true) (s_op r_gtr rfl rfl (bool_as (decide_eq_true f2))) rfl rfl rfl (want_y 27 rfl rfl rfl) ?_
     refine TL_v (.bool true) (s_pf rfl rfl) rfl rfl ?_
     refine TL_v (.bool true) (s_mv rfl) rfl rfl ?_
     refine TL_x 33 rfl rfl rfl rfl rfl ?_
     refine TL_x 33 rfl rfl rfl rfl rfl ?_
     refine TL_x 33 rfl rfl rfl rfl rfl ?_
     refine TL_x 33 rfl rfl rfl rfl rfl ?_
     refine TL_x 33 rfl rfl rfl rfl rfl ?_
     refine TL_x 33 rfl rfl rfl rfl rfl ?_
     refine TL_x 33 rfl rfl rfl rfl rfl ?_
     refine TL_v (.bool true) (s_pt rfl rfl) rfl rfl ?_
     refine TL_v (.bool true) (s_mv rfl) rfl rfl ?_
     refine TL_x 42 rfl rfl rfl rfl rfl ?_
     refine TL_x 42 rfl rfl rfl rfl rfl ?_
     refine TL_x 42 rfl rfl rfl rfl rfl ?_
     refine TL_x 42 rfl rfl rfl rfl rfl ?_
     refine TL_x 42 rfl rfl rfl rfl rfl ?_
     refine TL_x 42 rfl rfl rfl rfl rfl ?_
     refine TL_x 42 rfl rfl rfl rfl rfl ?_
     refine TL_v (.bool true) (s_pt rfl rfl) rfl rfl ?_
     refine TL_seq ?_
     refine T_sub [(3, pt B1 0), (4, pt B2 0), (5, pt B3 0), (6, pt B4 0), (7, pt B5 0), (13, iN (8 * hg)), (14, iN y), (15, .bool (decide (((y : Nat) : Int) < ((8 * hg : Nat) : Int)))), (16, iN y), (8, iN y), (17, pt B1 0), (18, iN wd), (19, iN (8 * wd)), (20, iN x), (21, .bool (decide (((x : Nat) : Int) < ((8 * wd : Nat) : Int)))), (22, iN x), (9, iN x), (23, pt B3 0), (24, .int .i64 X), (25, iN x), (26, .bool false), (27, .bool false), (28, pt B3 1), (29, .int .i64 Y), (30, iN y), (31, .bool true), (32, .bool true), (33, .bool true), (34, undef), (35, undef), (36, undef), (37, undef), (38, undef), (39, undef), (40, undef), (41, .bool true), (42, .bool true), (43, undef), (44, undef), (45, undef), (46, undef), (47, undef), (48, undef), (49, undef), (50, .bool true)] [(1, .blk B1 (.cells #[iN wd, iN hg, .slice a ts.length cap] 24)), (2, .blk B2 (.cells #[iN p, iN q, .slice ap px.length capp] 75)), (3, .blk B3 (.cells #[.int .i64 X, .int .i64 Y] 47)), (4, .blk B4 (.cells #[.int .i64 0, .int .i64 0, .slice none 0 0] 24)), (5, .blk B5 (.cells #[iN wd, iN hg, .slice a3 ts.length cap3] 24)), (905, .rowB tC (.slice a3 ts.length cap3) 39 256 ts.length ((putDs wd hg ts (rlD wd ts p q px X Y (y * (8 * wd) + x))).flatMap T64.cells))] (sc4 rfl rfl rfl rfl (sc4 rfl rfl rfl rfl (sc4 rfl rfl rfl rfl (sc4 rfl rfl rfl rfl (sc4 rfl rfl rfl rfl (sc4 rfl rfl rfl rfl (sc4 rfl rfl rfl rfl (sc4 rfl rfl rfl rfl (sc4 rfl rfl rfl rfl (sc4 rfl rfl rfl rfl (sc4 rfl rfl rfl rfl (sc rfl sub_nil)))))))))))) (sc4 rfl rfl rfl rfl (sc rfl (sc rfl sub_nil))) ?_
     refine T_cond_t rfl ?_
     refine T_exit' ?_
     refine p_then_x ?_
     refine p_blk_x ?_
     refine p_seq ?_
     refine T_region ?_
     refine TL_v (iN (x + 1)) (s_op r_add rfl rfl (iw (by omega) (by omega) (by omega))) rfl rfl ?_
     refine TL_v (iN (x + 1)) (s_mv rfl) rfl rfl ?_
     refine TL_nil ?_
     have hno := rlD_n (wd := wd) (p := p) (q := q) (ts := ts) (px := px) (X := X) (Y := Y) (show x < 8 * wd by omega) (y := y) (by omega)
     exact p_at (x + 1, tC, a3, cap3) ⟨⟨by omega, by rw [hno]; exact hbg⟩, by dsimp only; omega⟩ (sc4 rfl rfl rfl rfl (sc4 rfl rfl rfl rfl (sc4 rfl rfl rfl rfl (sc rfl (sc rfl sub_nil))))) (sc4 rfl rfl rfl rfl (sc rfl (sub_cons (by rw [hno]; rfl) sub_nil)))
    ·skip
     by_cases f3 : X ≤ ((x : Nat) : Int) - ((p : Nat) : Int)
     ·skip
      refine T_seq (T_region ?_)
      refine TL_v (pt B3 0) (s_fa fl47_0 sz3 rfl) rfl rfl ?_
      refine TL_v (.int .i64 X) (s_ld ag3 rfl 3 rfl rfl) rfl rfl ?_
      refine TL_v (iN x) (s_mv rfl) rfl rfl ?_
      refine TL_v (.bool false) (s_op r_gtr rfl rfl (bool_as (decide_eq_false f1))) rfl rfl ?_
      refine TL_v (.bool false) (s_mv rfl) rfl rfl ?_
      refine TL_q (pt B3 1) (s_fa fl47_1 sz3 rfl) rfl rfl rfl (want_y 27 rfl rfl rfl) ?_
      refine TL_q (.int .i64 Y) (s_ld ag3 rfl 3 rfl rfl) rfl rfl rfl (want_y 27 rfl rfl rfl) ?_
      refine TL_q (iN y) (s_mv rfl) rfl rfl rfl (want_y 27 rfl rfl rfl) ?_
      refine TL_q (.bool false) (s_op r_gtr rfl rfl (bool_as (decide_eq_false f2))) rfl rfl rfl (want_y 27 rfl rfl rfl) ?_
      refine TL_v (.bool false) (s_pf rfl rfl) rfl rfl ?_
      refine TL_v (.bool false) (s_mv rfl) rfl rfl ?_
      refine TL_q (pt B3 0) (s_fa fl47_0 sz3 rfl) rfl rfl rfl (want_y 33 rfl rfl rfl) ?_
      refine TL_q (.int .i64 X) (s_ld ag3 rfl 3 rfl rfl) rfl rfl rfl (want_y 33 rfl rfl rfl) ?_
      refine TL_q (iN x) (s_mv rfl) rfl rfl rfl (want_y 33 rfl rfl rfl) ?_
      refine TL_q (pt B2 0) (s_fa fl75_0 sz3 rfl) rfl rfl rfl (want_y 33 rfl rfl rfl) ?_
      refine TL_q (iN p) (s_ld ag3 rfl 2 rfl rfl) rfl rfl rfl (want_y 33 rfl rfl rfl) ?_
      refine TL_q (.int .i64 (((x : Nat) : Int) - ((p : Nat) : Int))) (s_op r_sub rfl rfl (int_as (wrap64 (by omega) (by omega)))) rfl rfl rfl (want_y 33 rfl rfl rfl) ?_
      refine TL_q (.bool true) (s_op r_leq rfl rfl (bool_as (decide_eq_true f3))) rfl rfl rfl (want_y 33 rfl rfl rfl) ?_
      refine TL_v (.bool true) (s_pf rfl rfl) rfl rfl ?_
      refine TL_v (.bool true) (s_mv rfl) rfl rfl ?_
      refine TL_x 42 rfl rfl rfl rfl rfl ?_
      refine TL_x 42 rfl rfl rfl rfl rfl ?_
      refine TL_x 42 rfl rfl rfl rfl rfl ?_
      refine TL_x 42 rfl rfl rfl rfl rfl ?_
      refine TL_x 42 rfl rfl rfl rfl rfl ?_
      refine TL_x 42 rfl rfl rfl rfl rfl ?_
      refine TL_x 42 rfl rfl rfl rfl rfl ?_
      refine TL_v (.bool true) (s_pt rfl rfl) rfl rfl ?_
      refine TL_seq ?_
      refine T_sub [(3, pt B1 0), (4, pt B2 0), (5, pt B3 0), (6, pt B4 0), (7, pt B5 0), (13, iN (8 * hg)), (14, iN y), (15, .bool (decide (((y : Nat) : Int) < ((8 * hg : Nat) : Int)))), (16, iN y), (8, iN y), (17, pt B1 0), (18, iN wd), (19, iN (8 * wd)), (20, iN x), (21, .bool (decide (((x : Nat) : Int) < ((8 * wd : Nat) : Int)))), (22, iN x), (9, iN x), (23, pt B3 0), (24, .int .i64 X), (25, iN x), (26, .bool false), (27, .bool false), (28, pt B3 1), (29, .int .i64 Y), (30, iN y), (31, .bool false), (32, .bool false), (33, .bool false), (34, pt B3 0), (35, .int .i64 X), (36, iN x), (37, pt B2 0), (38, iN p), (39, .int .i64 (((x : Nat) : Int) - ((p : Nat) : Int))), (40, .bool true), (41, .bool true), (42, .bool true), (43, undef), (44, undef), (45, undef), (46, undef), (47, undef), (48, undef), (49, undef), (50, .bool true)] [(1, .blk B1 (.cells #[iN wd, iN hg, .slice a ts.length cap] 24)), (2, .blk B2 (.cells #[iN p, iN q, .slice ap px.length capp] 75)), (3, .blk B3 (.cells #[.int .i64 X, .int .i64 Y] 47)), (4, .blk B4 (.cells #[.int .i64 0, .int .i64 0, .slice none 0 0] 24)), (5, .blk B5 (.cells #[iN wd, iN hg, .slice a3 ts.length cap3] 24)), (905, .rowB tC (.slice a3 ts.length cap3) 39 256 ts.length ((putDs wd hg ts (rlD wd ts p q px X Y (y * (8 * wd) + x))).flatMap T64.cells))] (sc4 rfl rfl rfl rfl (sc4 rfl rfl rfl rfl (sc4 rfl rfl rfl rfl (sc4 rfl rfl rfl rfl (sc4 rfl rfl rfl rfl (sc4 rfl rfl rfl rfl (sc4 rfl rfl rfl rfl (sc4 rfl rfl rfl rfl (sc4 rfl rfl rfl rfl (sc4 rfl rfl rfl rfl (sc4 rfl rfl rfl rfl (sc rfl sub_nil)))))))))))) (sc4 rfl rfl rfl rfl (sc rfl (sc rfl sub_nil))) ?_
      refine T_cond_t rfl ?_
      refine T_exit' ?_
      refine p_then_x ?_
      refine p_blk_x ?_
      refine p_seq ?_
      refine T_region ?_
      refine TL_v (iN (x + 1)) (s_op r_add rfl rfl (iw (by omega) (by omega) (by omega))) rfl rfl ?_
      refine TL_v (iN (x + 1)) (s_mv rfl) rfl rfl ?_
      refine TL_nil ?_
      have hno := rlD_n (wd := wd) (p := p) (q := q) (ts := ts) (px := px) (X := X) (Y := Y) (show x < 8 * wd by omega) (y := y) (by omega)
      exact p_at (x + 1, tC, a3, cap3) ⟨⟨by omega, by rw [hno]; exact hbg⟩, by dsimp only; omega⟩ (sc4 rfl rfl rfl rfl (sc4 rfl rfl rfl rfl (sc4 rfl rfl rfl rfl (sc rfl (sc rfl sub_nil))))) (sc4 rfl rfl rfl rfl (sc rfl (sub_cons (by rw [hno]; rfl) sub_nil)))
     ·skip
      by_cases f4 : Y ≤ ((y : Nat) : Int) - ((q : Nat) : Int)
      ·skip
       refine T_seq (T_region ?_)
       refine TL_v (pt B3 0) (s_fa fl47_0 sz3 rfl) rfl rfl ?_
       refine TL_v (.int .i64 X) (s_ld ag3 rfl 3 rfl rfl) rfl rfl ?_
       refine TL_v (iN x) (s_mv rfl) rfl rfl ?_
       refine TL_v (.bool false) (s_op r_gtr rfl rfl (bool_as (decide_eq_false f1))) rfl rfl ?_
       refine TL_v (.bool false) (s_mv rfl) rfl rfl ?_
       refine TL_q (pt B3 1) (s_fa fl47_1 sz3 rfl) rfl rfl rfl (want_y 27 rfl rfl rfl) ?_
       refine TL_q (.int .i64 Y) (s_ld ag3 rfl 3 rfl rfl) rfl rfl rfl (want_y 27 rfl rfl rfl) ?_
       refine TL_q (iN y) (s_mv rfl) rfl rfl rfl (want_y 27 rfl rfl rfl) ?_
       refine TL_q (.bool false) (s_op r_gtr rfl rfl (bool_as (decide_eq_false f2))) rfl rfl rfl (want_y 27 rfl rfl rfl) ?_
       refine TL_v (.bool false) (s_pf rfl rfl) rfl rfl ?_
       refine TL_v (.bool false) (s_mv rfl) rfl rfl ?_
       refine TL_q (pt B3 0) (s_fa fl47_0 sz3 rfl) rfl rfl rfl (want_y 33 rfl rfl rfl) ?_
       refine TL_q (.int .i64 X) (s_ld ag3 rfl 3 rfl rfl) rfl rfl rfl (want_y 33 rfl rfl rfl) ?_
       refine TL_q (iN x) (s_mv rfl) rfl rfl rfl (want_y 33 rfl rfl rfl) ?_
       refine TL_q (pt B2 0) (s_fa fl75_0 sz3 rfl) rfl rfl rfl (want_y 33 rfl rfl rfl) ?_
       refine TL_q (iN p) (s_ld ag3 rfl 2 rfl rfl) rfl rfl rfl (want_y 33 rfl rfl rfl) ?_
       refine TL_q (.int .i64 (((x : Nat) : Int) - ((p : Nat) : Int))) (s_op r_sub rfl rfl (int_as (wrap64 (by omega) (by omega)))) rfl rfl rfl (want_y 33 rfl rfl rfl) ?_
       refine TL_q (.bool false) (s_op r_leq rfl rfl (bool_as (decide_eq_false f3))) rfl rfl rfl (want_y 33 rfl rfl rfl) ?_
       refine TL_v (.bool false) (s_pf rfl rfl) rfl rfl ?_
       refine TL_v (.bool false) (s_mv rfl) rfl rfl ?_
       refine TL_q (pt B3 1) (s_fa fl47_1 sz3 rfl) rfl rfl rfl (want_y 42 rfl rfl rfl) ?_
       refine TL_q (.int .i64 Y) (s_ld ag3 rfl 3 rfl rfl) rfl rfl rfl (want_y 42 rfl rfl rfl) ?_
       refine TL_q (iN y) (s_mv rfl) rfl rfl rfl (want_y 42 rfl rfl rfl) ?_
       refine TL_q (pt B2 1) (s_fa fl75_1 sz3 rfl) rfl rfl rfl (want_y 42 rfl rfl rfl) ?_
       refine TL_q (iN q) (s_ld ag3 rfl 2 rfl rfl) rfl rfl rfl (want_y 42 rfl rfl rfl) ?_
       refine TL_q (.int .i64 (((y : Nat) : Int) - ((q : Nat) : Int))) (s_op r_sub rfl rfl (int_as (wrap64 (by omega) (by omega)))) rfl rfl rfl (want_y 42 rfl rfl rfl) ?_
       refine TL_q (.bool true) (s_op r_leq rfl rfl (bool_as (decide_eq_true f4))) rfl rfl rfl (want_y 42 rfl rfl rfl) ?_
       refine TL_v (.bool true) (s_pf rfl rfl) rfl rfl ?_
       refine TL_seq ?_
       refine T_sub [(3, pt B1 0), (4, pt B2 0), (5, pt B3 0), (6, pt B4 0), (7, pt B5 0), (13, iN (8 * hg)), (14, iN y), (15, .bool (decide (((y : Nat) : Int) < ((8 * hg : Nat) : Int)))), (16, iN y), (8, iN y), (17, pt B1 0), (18, iN wd), (19, iN (8 * wd)), (20, iN x), (21, .bool (decide (((x : Nat) : Int) < ((8 * wd : Nat) : Int)))), (22, iN x), (9, iN x), (23, pt B3 0), (24, .int .i64 X), (25, iN x), (26, .bool false), (27, .bool false), (28, pt B3 1), (29, .int .i64 Y), (30, iN y), (31, .bool false), (32, .bool false), (33, .bool false), (34, pt B3 0), (35, .int .i64 X), (36, iN x), (37, pt B2 0), (38, iN p), (39, .int .i64 (((x : Nat) : Int) - ((p : Nat) : Int))), (40, .bool false), (41, .bool false), (42, .bool false), (43, pt B3 1), (44, .int .i64 Y), (45, iN y), (46, pt B2 1), (47, iN q), (48, .int .i64 (((y : Nat) : Int) - ((q : Nat) : Int))), (49, .bool true), (50, .bool true)] [(1, .blk B1 (.cells #[iN wd, iN hg, .slice a ts.length cap] 24)), (2, .blk B2 (.cells #[iN p, iN q, .slice ap px.length capp] 75)), (3, .blk B3 (.cells #[.int .i64 X, .int .i64 Y] 47)), (4, .blk B4 (.cells #[.int .i64 0, .int .i64 0, .slice none 0 0] 24)), (5, .blk B5 (.cells #[iN wd, iN hg, .slice a3 ts.length cap3] 24)), (905, .rowB tC (.slice a3 ts.length cap3) 39 256 ts.length ((putDs wd hg ts (rlD wd ts p q px X Y (y * (8 * wd) + x))).flatMap T64.cells))] (sc4 rfl rfl rfl rfl (sc4 rfl rfl rfl rfl (sc4 rfl rfl rfl rfl (sc4 rfl rfl rfl rfl (sc4 rfl rfl rfl rfl (sc4 rfl rfl rfl rfl (sc4 rfl rfl rfl rfl (sc4 rfl rfl rfl rfl (sc4 rfl rfl rfl rfl (sc4 rfl rfl rfl rfl (sc4 rfl rfl rfl rfl (sc rfl sub_nil)))))))))))) (sc4 rfl rfl rfl rfl (sc rfl (sc rfl sub_nil))) ?_
       refine T_cond_t rfl ?_
       refine T_exit' ?_
       refine p_then_x ?_
       refine p_blk_x ?_
       refine p_seq ?_
       refine T_region ?_
       refine TL_v (iN (x + 1)) (s_op r_add rfl rfl (iw (by omega) (by omega) (by omega))) rfl rfl ?_
       refine TL_v (iN (x + 1)) (s_mv rfl) rfl rfl ?_
       refine TL_nil ?_
       have hno := rlD_n (wd := wd) (p := p) (q := q) (ts := ts) (px := px) (X := X) (Y := Y) (show x < 8 * wd by omega) (y := y) (by omega)
       exact p_at (x + 1, tC, a3, cap3) ⟨⟨by omega, by rw [hno]; exact hbg⟩, by dsimp only; omega⟩ (sc4 rfl rfl rfl rfl (sc4 rfl rfl rfl rfl (sc4 rfl rfl rfl rfl (sc rfl (sc rfl sub_nil))))) (sc4 rfl rfl rfl rfl (sc rfl (sub_cons (by rw [hno]; rfl) sub_nil)))
      ·skip
       refine T_seq (T_region ?_)
       refine TL_v (pt B3 0) (s_fa fl47_0 sz3 rfl) rfl rfl ?_
       refine TL_v (.int .i64 X) (s_ld ag3 rfl 3 rfl rfl) rfl rfl ?_
       refine TL_v (iN x) (s_mv rfl) rfl rfl ?_
       refine TL_v (.bool false) (s_op r_gtr rfl rfl (bool_as (decide_eq_false f1))) rfl rfl ?_
       refine TL_v (.bool false) (s_mv rfl) rfl rfl ?_
       refine TL_q (pt B3 1) (s_fa fl47_1 sz3 rfl) rfl rfl rfl (want_y 27 rfl rfl rfl) ?_
       refine TL_q (.int .i64 Y) (s_ld ag3 rfl 3 rfl rfl) rfl rfl rfl (want_y 27 rfl rfl rfl) ?_
       refine TL_q (iN y) (s_mv rfl) rfl rfl rfl (want_y 27 rfl rfl rfl) ?_
       refine TL_q (.bool false) (s_op r_gtr rfl rfl (bool_as (decide_eq_false f2))) rfl rfl rfl (want_y 27 rfl rfl rfl) ?_
       refine TL_v (.bool false) (s_pf rfl rfl) rfl rfl ?_
       refine TL_v (.bool false) (s_mv rfl) rfl rfl ?_
       refine TL_q (pt B3 0) (s_fa fl47_0 sz3 rfl) rfl rfl rfl (want_y 33 rfl rfl rfl) ?_
       refine TL_q (.int .i64 X) (s_ld ag3 rfl 3 rfl rfl) rfl rfl rfl (want_y 33 rfl rfl rfl) ?_
       refine TL_q (iN x) (s_mv rfl) rfl rfl rfl (want_y 33 rfl rfl rfl) ?_
       refine TL_q (pt B2 0) (s_fa fl75_0 sz3 rfl) rfl rfl rfl (want_y 33 rfl rfl rfl) ?_
       refine TL_q (iN p) (s_ld ag3 rfl 2 rfl rfl) rfl rfl rfl (want_y 33 rfl rfl rfl) ?_
       refine TL_q (.int .i64 (((x : Nat) : Int) - ((p : Nat) : Int))) (s_op r_sub rfl rfl (int_as (wrap64 (by omega) (by omega)))) rfl rfl rfl (want_y 33 rfl rfl rfl) ?_
       refine TL_q (.bool false) (s_op r_leq rfl rfl (bool_as (decide_eq_false f3))) rfl rfl rfl (want_y 33 rfl rfl rfl) ?_
       refine TL_v (.bool false) (s_pf rfl rfl) rfl rfl ?_
       refine TL_v (.bool false) (s_mv rfl) rfl rfl ?_
       refine TL_q (pt B3 1) (s_fa fl47_1 sz3 rfl) rfl rfl rfl (want_y 42 rfl rfl rfl) ?_
       refine TL_q (.int .i64 Y) (s_ld ag3 rfl 3 rfl rfl) rfl rfl rfl (want_y 42 rfl rfl rfl) ?_
       refine TL_q (iN y) (s_mv rfl) rfl rfl rfl (want_y 42 rfl rfl rfl) ?_
       refine TL_q (pt B2 1) (s_fa fl75_1 sz3 rfl) rfl rfl rfl (want_y 42 rfl rfl rfl) ?_
       refine TL_q (iN q) (s_ld ag3 rfl 2 rfl rfl) rfl rfl rfl (want_y 42 rfl rfl rfl) ?_
       refine TL_q (.int .i64 (((y : Nat) : Int) - ((q : Nat) : Int))) (s_op r_sub rfl rfl (int_as (wrap64 (by omega) (by omega)))) rfl rfl rfl (want_y 42 rfl rfl rfl) ?_
       refine TL_q (.bool false) (s_op r_leq rfl rfl (bool_as (decide_eq_false f4))) rfl rfl rfl (want_y 42 rfl rfl rfl) ?_
       refine TL_v (.bool false) (s_pf rfl rfl) rfl rfl ?_
       refine TL_seq ?_
       refine T_sub [(3, pt B1 0), (4, pt B2 0), (5, pt B3 0), (6, pt B4 0), (7, pt B5 0), (13, iN (8 * hg)), (14, iN y), (15, .bool (decide (((y : Nat) : Int) < ((8 * hg : Nat) : Int)))), (16, iN y), (8, iN y), (17, pt B1 0), (18, iN wd), (19, iN (8 * wd)), (20, iN x), (21, .bool (decide (((x : Nat) : Int) < ((8 * wd : Nat) : Int)))), (22, iN x), (9, iN x), (23, pt B3 0), (24, .int .i64 X), (25, iN x), (26, .bool false), (27, .bool false), (28, pt B3 1), (29, .int .i64 Y), (30, iN y), (31, .bool false), (32, .bool false), (33, .bool false), (34, pt B3 0), (35, .int .i64 X), (36, iN x), (37, pt B2 0), (38, iN p), (39, .int .i64 (((x : Nat) : Int) - ((p : Nat) : Int))), (40, .bool false), (41, .bool false), (42, .bool false), (43, pt B3 1), (44, .int .i64 Y), (45, iN y), (46, pt B2 1), (47, iN q), (48, .int .i64 (((y : Nat) : Int) - ((q : Nat) : Int))), (49, .bool false), (50, .bool false)] [(1, .blk B1 (.cells #[iN wd, iN hg, .slice a ts.length cap] 24)), (2, .blk B2 (.cells #[iN p, iN q, .slice ap px.length capp] 75)), (3, .blk B3 (.cells #[.int .i64 X, .int .i64 Y] 47)), (4, .blk B4 (.cells #[.int .i64 0, .int .i64 0, .slice none 0 0] 24)), (5, .blk B5 (.cells #[iN wd, iN hg, .slice a3 ts.length cap3] 24)), (905, .rowB tC (.slice a3 ts.length cap3) 39 256 ts.length ((putDs wd hg ts (rlD wd ts p q px X Y (y * (8 * wd) + x))).flatMap T64.cells))] (sc4 rfl rfl rfl rfl (sc4 rfl rfl rfl rfl (sc4 rfl rfl rfl rfl (sc4 rfl rfl rfl rfl (sc4 rfl rfl rfl rfl (sc4 rfl rfl rfl rfl (sc4 rfl rfl rfl rfl (sc4 rfl rfl rfl rfl (sc4 rfl rfl rfl rfl (sc4 rfl rfl rfl rfl (sc4 rfl rfl rfl rfl (sc rfl sub_nil)))))))))))) (sc4 rfl rfl rfl rfl (sc rfl (sc rfl sub_nil))) ?_
       refine T_cond_f rfl ?_
       refine T_skip' ?_
       refine p_seq ?_
       obtain ⟨xa, hxa⟩ : ∃ n : Nat, (x : Int) - X = n := ⟨((x : Int) - X).toNat, by omega⟩
       obtain ⟨yb, hyb⟩ : ∃ n : Nat, (y : Int) - Y = n := ⟨((y : Int) - Y).toNat, by omega⟩
       have hxp : xa < p := by omega
       have hyq : yb < q := by omega
       obtain ⟨e0, he0⟩ : ∃ c, px[yb * p + xa]? = some c := ⟨_, List.getElem?_eq_getElem (by have := in_px hxp hyq; omega)⟩
       refine T_draw (V := [(0, .agg #[iN wd, iN hg, .slice a3 ts.length cap3]), (1, iN x), (2, iN y), (3, .agg #[iN wd, iN hg, .slice a ts.length cap]), (4, iN x), (5, iN y), (7, .agg #[iN p, iN q, .slice ap px.length capp]), (8, iN x), (9, pt B3 0), (10, .int .i64 X), (11, iN xa), (12, iN y), (13, pt B3 1), (14, .int .i64 Y), (15, iN yb)]) [0, 0, 0, 0, 0, 0, 56, 0, 0, 0, 512, 1792, 0, 0, 8192, 28672, 65528, 131064, 262142, 524287, 1048575] [[(7, none)], [(9, none)], [(8, none)], [(3, none)], [(9, none)], [(8, none)], [(54, some 3), (55, some 4), (56, some 5)], [(4, none)], [(9, none)], [(5, none)], [(60, some 9)], [(59, some 8), (61, some 10)], [(8, none)], [(5, none)], [(64, some 13)], [(63, some 12), (65, some 14)], [(58, some 7), (62, some 11), (66, some 15)], [(57, some 6), (67, some 16)], [(52, some 1), (53, some 2), (68, some 17)], [(51, some 0), (69, some 18)], [(7, none), (70, some 19)]] 1769536 mixed (by kernel_rfl) ?_
       refine G_step [0, 1, 2, 3, 4, 5, 7, 8, 9, 10, 11, 12, 13, 14, 15] 6 [] (by kernel_rfl) (allM (all_cons (q_r (.agg #[iN wd, iN hg, .slice a3 ts.length cap3]) rfl rfl rfl (s_la ag24 sz24 rfl 5 rfl rfl rfl)) (all_cons (q_r (iN x) rfl rfl rfl (s_mv rfl)) (all_cons (q_r (iN y) rfl rfl rfl (s_mv rfl)) (all_cons (q_r (.agg #[iN wd, iN hg, .slice a ts.length cap]) rfl rfl rfl (s_la ag24 sz24 rfl 1 rfl rfl rfl)) (all_cons (q_r (iN x) rfl rfl rfl (s_mv rfl)) (all_cons (q_r (iN y) rfl rfl rfl (s_mv rfl)) (all_cons (q_r (.agg #[iN p, iN q, .slice ap px.length capp]) rfl rfl rfl (s_la ag75 sz75 rfl 2 rfl rfl rfl)) (all_cons (q_r (iN x) rfl rfl rfl (s_mv rfl)) (all_cons (q_r (pt B3 0) rfl rfl rfl (s_fa fl47_0 sz3 rfl)) (all_cons (q_r (.int .i64 X) rfl rfl rfl (s_ld ag3 rfl 3 rfl rfl)) (all_cons (q_r (iN xa) rfl rfl rfl (s_op r_sub rfl rfl (int_as ((wrap64 (by omega) (by omega)).trans hxa)))) (all_cons (q_r (iN y) rfl rfl rfl (s_mv rfl)) (all_cons (q_r (pt B3 1) rfl rfl rfl (s_fa fl47_1 sz3 rfl)) (all_cons (q_r (.int .i64 Y) rfl rfl rfl (s_ld ag3 rfl 3 rfl rfl)) (all_cons (q_r (iN yb) rfl rfl rfl (s_op r_sub rfl rfl (int_as ((wrap64 (by omega) (by omega)).trans hyb)))) all_nil)))))))))))))))) (allM (all_cons ?_ all_nil))
       refine LOb_call (.agg #[.int .u8 ((colAt wd ts x y).r), .int .u8 ((colAt wd ts x y).g), .int .u8 ((colAt wd ts x y).b), .int .u8 ((colAt wd ts x y).a)]) [] rfl (wv_n rfl) rfl rfl (fun _ _ j _ => r_call (args := [.agg #[iN wd, iN hg, .slice a ts.length cap], iN x, iN y]) (enters_of Try.func36 (by kernel_rfl) rfl) (j _ _ rfl) ((cons2 (j _ _ rfl) (cons2 (j _ _ rfl) (cons2 (j _ _ rfl) rfl)))) rfl) (fun w hm => rat_c wd hg ts a cap w (hs.keep hm.ext) hlen hwd hhg x y (by omega) (by omega)) (by kernel_rfl) ?_
       refine G_step [0, 1, 2, 7, 8, 9, 10, 11, 12, 13, 14, 15] 16 [] (by kernel_rfl) (allM (all_cons (q_r (.agg #[iN wd, iN hg, .slice a3 ts.length cap3]) rfl rfl rfl (s_la ag24 sz24 rfl 5 rfl rfl rfl)) (all_cons (q_r (iN x) rfl rfl rfl (s_mv rfl)) (all_cons (q_r (iN y) rfl rfl rfl (s_mv rfl)) (all_cons (q_r (.agg #[iN p, iN q, .slice ap px.length capp]) rfl rfl rfl (s_la ag75 sz75 rfl 2 rfl rfl rfl)) (all_cons (q_r (iN x) rfl rfl rfl (s_mv rfl)) (all_cons (q_r (pt B3 0) rfl rfl rfl (s_fa fl47_0 sz3 rfl)) (all_cons (q_r (.int .i64 X) rfl rfl rfl (s_ld ag3 rfl 3 rfl rfl)) (all_cons (q_r (iN xa) rfl rfl rfl (s_op r_sub rfl rfl (int_as ((wrap64 (by omega) (by omega)).trans hxa)))) (all_cons (q_r (iN y) rfl rfl rfl (s_mv rfl)) (all_cons (q_r (pt B3 1) rfl rfl rfl (s_fa fl47_1 sz3 rfl)) (all_cons (q_r (.int .i64 Y) rfl rfl rfl (s_ld ag3 rfl 3 rfl rfl)) (all_cons (q_r (iN yb) rfl rfl rfl (s_op r_sub rfl rfl (int_as ((wrap64 (by omega) (by omega)).trans hyb)))) all_nil))))))))))))) (allM (all_cons ?_ all_nil))
       refine LOb_call (.agg #[.int .u8 e0.r, .int .u8 e0.g, .int .u8 e0.b, .int .u8 e0.a]) [] rfl (wv_n rfl) rfl rfl (fun _ _ j _ => r_call (args := [.agg #[iN p, iN q, .slice ap px.length capp], iN xa, iN yb]) (enters_of Try.func57 (by kernel_rfl) rfl) (j _ _ rfl) ((cons2 (j _ _ rfl) (cons2 (j _ _ rfl) (cons2 (j _ _ rfl) rfl)))) rfl) (fun w hm => srat_c p q px ap capp w (hv.keep hm.ext) hcap hp8 hq8 hpl xa yb hxp hyq e0 he0) (by kernel_rfl) ?_
       refine G_step [0, 1, 2] 17 [] (by kernel_rfl) (allM (all_cons (q_r (.agg #[iN wd, iN hg, .slice a3 ts.length cap3]) rfl rfl rfl (s_la ag24 sz24 rfl 5 rfl rfl rfl)) (all_cons (q_r (iN x) rfl rfl rfl (s_mv rfl)) (all_cons (q_r (iN y) rfl rfl rfl (s_mv rfl)) all_nil)))) (allM (all_cons ?_ all_nil))
       refine LOb_call (.agg #[.int .u8 ((overC (colAt wd ts x y) e0).r), .int .u8 ((overC (colAt wd ts x y) e0).g), .int .u8 ((overC (colAt wd ts x y) e0).b), .int .u8 ((overC (colAt wd ts x y) e0).a)]) [(18, .agg #[iN x, iN y, .int .u8 ((overC (colAt wd ts x y) e0).r), .int .u8 ((overC (colAt wd ts x y) e0).g), .int .u8 ((overC (colAt wd ts x y) e0).b), .int .u8 ((overC (colAt wd ts x y) e0).a)])] rfl (wv_n rfl) rfl rfl (fun _ _ j _ => r_call (args := [.agg #[.int .u8 ((colAt wd ts x y).r), .int .u8 ((colAt wd ts x y).g), .int .u8 ((colAt wd ts x y).b), .int .u8 ((colAt wd ts x y).a)], .agg #[.int .u8 e0.r, .int .u8 e0.g, .int .u8 e0.b, .int .u8 e0.a]]) (enters_of Try.func99 (by kernel_rfl) rfl) (j _ _ rfl) ((cons2 (j _ _ rfl) (cons2 (j _ _ rfl) rfl))) rfl) (fun w _ => over_ref (colAt wd ts x y) e0 w (colAt_ok hts _ _) (hpx e0 (List.mem_of_getElem? he0))) (by kernel_rfl) ?_
       refine G_step [0, 1, 2, 18] 19 [] (by kernel_rfl) (allM (all_cons (q_r (.agg #[iN wd, iN hg, .slice a3 ts.length cap3]) rfl rfl rfl (s_la ag24 sz24 rfl 5 rfl rfl rfl)) (all_cons (q_r (iN x) rfl rfl rfl (s_mv rfl)) (all_cons (q_r (iN y) rfl rfl rfl (s_mv rfl)) (all_cons (q_r (.agg #[iN x, iN y, .int .u8 ((overC (colAt wd ts x y) e0).r), .int .u8 ((overC (colAt wd ts x y) e0).g), .int .u8 ((overC (colAt wd ts x y) e0).b), .int .u8 ((overC (colAt wd ts x y) e0).a)]) rfl rfl rfl (fun _ _ j _ => r_build (vs := [(0, iN x), (1, iN y), (2, .agg #[.int .u8 ((overC (colAt wd ts x y) e0).r), .int .u8 ((overC (colAt wd ts x y) e0).g), .int .u8 ((overC (colAt wd ts x y) e0).b), .int .u8 ((overC (colAt wd ts x y) e0).a)])]) (by kernel_rfl) (cons2 (pair2 (j _ _ rfl)) (cons2 (pair2 (j _ _ rfl)) (cons2 (pair2 (j _ _ rfl)) rfl))))) all_nil))))) (allM (all_cons ?_ all_nil))
       refine LOb_callN (fun (z : Bool × Option Addr × Nat) => z.1 = false → z.2.1 = a3 ∧ z.2.2 = cap3 ∧ (putD wd hg (putDs wd hg ts (rlD wd ts p q px X Y (y * (8 * wd) + x))) ⟨((x : Nat) : Int), ((y : Nat) : Int), (overC (colAt wd ts x y) e0)⟩) = (putDs wd hg ts (rlD wd ts p q px X Y (y * (8 * wd) + x)))) (fun (tb7, ab7, cb7) => .agg #[iN wd, iN hg, .slice ab7 ts.length cb7]) (fun (tb7, ab7, cb7) => [(6, .rowB tb7 (.slice ab7 ts.length cb7) 39 256 ts.length ((putD wd hg (putDs wd hg ts (rlD wd ts p q px X Y (y * (8 * wd) + x))) ⟨((x : Nat) : Int), ((y : Nat) : Int), (overC (colAt wd ts x y) e0)⟩).flatMap T64.cells))]) (fun (tb7, ab7, cb7) => []) rfl (wv_n rfl) rfl rfl (fun _ _ j _ => r_call (args := [.agg #[iN wd, iN hg, .slice a3 ts.length cap3], .agg #[iN x, iN y, .int .u8 ((overC (colAt wd ts x y) e0).r), .int .u8 ((overC (colAt wd ts x y) e0).g), .int .u8 ((overC (colAt wd ts x y) e0).b), .int .u8 ((overC (colAt wd ts x y) e0).a)]]) (enters_of Try.func69 (by kernel_rfl) rfl) (j _ _ rfl) ((cons2 (j _ _ rfl) (cons2 (j _ _ rfl) rfl))) rfl) (fun w hm => (by have hz := rput_c wd hg (putDs wd hg ts (rlD wd ts p q px X Y (y * (8 * wd) + x))) a3 cap3 w (rowB_at T64.cells_len (hm.rowB 905 rfl) (by rw [putDs_len]) hbg (hs.keep hm.ext)) (by rw [putDs_len, hlen]) hwd hhg ((x : Nat) : Int) ((y : Nat) : Int) (overC (colAt wd ts x y) e0); rw [putDs_len] at hz; exact hz.mono fun e w' ⟨tB, a', cap', he, hb, h1, h2⟩ => ⟨(tB, a', cap'), hb, he, h1, newOk1 6 h2⟩)) (fun (tb7, ab7, cb7) => by kernel_rfl) ?_
       rintro ⟨tb7, ab7, cb7⟩ hrb7
       dsimp only at hrb7
       refine G_step [] 20 [] (by kernel_rfl) (allM all_nil) (allM (all_cons ?_ all_nil))
       refine LOb_store 5 (.cells #[iN wd, iN hg, .slice ab7 ts.length cb7] 24) [] rfl (wv_n rfl) rfl rfl rfl (s_st sz24 rfl rfl 5 rfl rfl rfl rfl rfl) (by kernel_rfl) ?_
       refine G_lastQ [] [(3, pt B1 0), (4, pt B2 0), (5, pt B3 0), (6, pt B4 0), (7, pt B5 0), (13, iN (8 * hg)), (14, iN y), (15, .bool (decide (((y : Nat) : Int) < ((8 * hg : Nat) : Int)))), (16, iN y), (8, iN y), (17, pt B1 0), (18, iN wd), (19, iN (8 * wd)), (20, iN x), (21, .bool (decide (((x : Nat) : Int) < ((8 * wd : Nat) : Int)))), (22, iN x), (9, iN x), (23, pt B3 0), (24, .int .i64 X), (25, iN x), (26, .bool false), (27, .bool false), (28, pt B3 1), (29, .int .i64 Y), (30, iN y), (31, .bool false), (32, .bool false), (33, .bool false), (34, pt B3 0), (35, .int .i64 X), (36, iN x), (37, pt B2 0), (38, iN p), (39, .int .i64 (((x : Nat) : Int) - ((p : Nat) : Int))), (40, .bool false), (41, .bool false), (42, .bool false), (43, pt B3 1), (44, .int .i64 Y), (45, iN y), (46, pt B2 1), (47, iN q), (48, .int .i64 (((y : Nat) : Int) - ((q : Nat) : Int))), (49, .bool false), (50, .bool false), (51, .agg #[iN wd, iN hg, .slice a3 ts.length cap3]), (52, iN x), (53, iN y), (54, .agg #[iN wd, iN hg, .slice a ts.length cap]), (55, iN x), (56, iN y), (57, .agg #[.int .u8 ((colAt wd ts x y).r), .int .u8 ((colAt wd ts x y).g), .int .u8 ((colAt wd ts x y).b), .int .u8 ((colAt wd ts x y).a)]), (58, .agg #[iN p, iN q, .slice ap px.length capp]), (59, iN x), (60, pt B3 0), (61, .int .i64 X), (62, iN xa), (63, iN y), (64, pt B3 1), (65, .int .i64 Y), (66, iN yb), (67, .agg #[.int .u8 e0.r, .int .u8 e0.g, .int .u8 e0.b, .int .u8 e0.a]), (68, .agg #[.int .u8 ((overC (colAt wd ts x y) e0).r), .int .u8 ((overC (colAt wd ts x y) e0).g), .int .u8 ((overC (colAt wd ts x y) e0).b), .int .u8 ((overC (colAt wd ts x y) e0).a)]), (69, .agg #[iN x, iN y, .int .u8 ((overC (colAt wd ts x y) e0).r), .int .u8 ((overC (colAt wd ts x y) e0).g), .int .u8 ((overC (colAt wd ts x y) e0).b), .int .u8 ((overC (colAt wd ts x y) e0).a)]), (70, .agg #[iN wd, iN hg, .slice ab7 ts.length cb7])] (by kernel_rfl) (allM all_nil) (end_old rfl rfl (end_old rfl rfl (end_old rfl rfl (end_old rfl rfl (end_old rfl rfl (end_old rfl rfl (end_old rfl rfl (end_old rfl rfl (end_old rfl rfl (end_old rfl rfl (end_old rfl rfl (end_old rfl rfl (end_old rfl rfl (end_old rfl rfl (end_old rfl rfl (end_old rfl rfl (end_old rfl rfl (end_old rfl rfl (end_old rfl rfl (end_old rfl rfl (end_old rfl rfl (end_old rfl rfl (end_old rfl rfl (end_old rfl rfl (end_old rfl rfl (end_old rfl rfl (end_old rfl rfl (end_old rfl rfl (end_old rfl rfl (end_old rfl rfl (end_old rfl rfl (end_old rfl rfl (end_old rfl rfl (end_old rfl rfl (end_old rfl rfl (end_old rfl rfl (end_old rfl rfl (end_old rfl rfl (end_old rfl rfl (end_old rfl rfl (end_old rfl rfl (end_old rfl rfl (end_old rfl rfl (end_old rfl rfl (end_old rfl rfl (end_new 0 rfl rfl (end_new 1 rfl rfl (end_new 2 rfl rfl (end_new 3 rfl rfl (end_new 4 rfl rfl (end_new 5 rfl rfl (end_new 6 rfl rfl (end_new 7 rfl rfl (end_new 8 rfl rfl (end_new 9 rfl rfl (end_new 10 rfl rfl (end_new 11 rfl rfl (end_new 12 rfl rfl (end_new 13 rfl rfl (end_new 14 rfl rfl (end_new 15 rfl rfl (end_new 16 rfl rfl (end_new 17 rfl rfl (end_new 18 rfl rfl (end_new 19 rfl rfl end_nil))))))))))))))))))))))))))))))))))))))))))))))))))))))))))))))))) ?_
       refine p_blk_n ?_
       refine p_seq ?_
       refine T_region ?_
       refine TL_v (iN (x + 1)) (s_op r_add rfl rfl (iw (by omega) (by omega) (by omega))) rfl rfl ?_
       refine TL_v (iN (x + 1)) (s_mv rfl) rfl rfl ?_
       refine TL_nil ?_
       refine p_mem (_ :: _) (fun _ hm => hm.rowB2 905 6 rfl rfl (fun h => by obtain ⟨h1, h2, h3⟩ := hrb7 h; rw [h1, h2, h3]; exact ⟨rfl, rfl, rfl⟩) rfl) ?_
       have hyes := rlD_y (ts := ts) (px := px) (show x < 8 * wd by omega) hxa hyb hxp hyq he0
       exact p_at (x + 1, tC || tb7, ab7, cb7) ⟨⟨by omega, by rw [hyes]; exact rowB_next2 hbg hrb7⟩, by dsimp only; omega⟩ (sc4 rfl rfl rfl rfl (sc4 rfl rfl rfl rfl (sc4 rfl rfl rfl rfl (sc rfl (sc rfl sub_nil))))) (sc4 rfl rfl rfl rfl (sc rfl (sub_cons (by rw [hyes, putDs_snoc]; rfl) sub_nil)))
  ·replace h2 := of_decide_eq_false h2
   refine T_exit' ?_
   refine p_then_x ?_
   refine p_then_x ?_
   refine p_blk_x ?_
   refine p_blk_n ?_
   refine p_seq ?_
   have hx8 : x = 8 * wd := by omega
   subst hx8
   refine T_region ?_
   refine TL_v (iN (y + 1)) (s_op r_add rfl rfl (iw (by omega) (by omega) (by omega))) rfl rfl ?_
   refine TL_v (iN (y + 1)) (s_mv rfl) rfl rfl ?_
   refine TL_nil ?_
   rw [row_end y (8 * wd)] at hbg ⊢
   exact p_at (y + 1, tC, a3, cap3) ⟨⟨by omega, hbg⟩, by dsimp only; omega⟩ (sc4 rfl rfl rfl rfl (sc rfl (sc rfl (sc rfl sub_nil)))) (sc4 rfl rfl rfl rfl (sc rfl (sc rfl sub_nil)))
 ·replace h1 := of_decide_eq_false h1
  refine T_exit' ?_
  refine p_then_x ?_
  refine p_then_x ?_
  refine p_blk_x ?_
  refine p_seq ?_
  refine T_seq (T_region ?_)
  refine TL_v (.agg #[iN wd, iN hg, .slice a2 ts.length cap2]) (s_la ag24 sz24 rfl 5 rfl rfl rfl) rfl rfl ?_
  refine TL_store 4 (.cells #[iN wd, iN hg, .slice a2 ts.length cap2] 24) rfl (s_st sz24 rfl rfl 4 rfl rfl rfl rfl rfl) rfl rfl (w_n rfl) ?_
  refine TL_seq ?_
  refine T_ret' ?_
  refine ret_of rfl (.agg #[iN wd, iN hg, .slice a2 ts.length cap2]) (fun tmps w hk hm => res1 rfl (res_cell (hk 6 _ rfl) (run_loadVar_agg ag24 sz24 (hm.at 4 rfl) (Nat.le_of_ble_eq_true rfl) rfl))) (fun w hm => ?_)
  have hy8 : y = 8 * hg := by omega
  subst hy8
  exact ⟨tB, a2, cap2, rfl, hbf, hm.ext, hm.own 905 _ rfl⟩

theorem rlay_c (wd hg : Nat) (ts : List T64) (a : Option Addr) (cap : Nat) (w : World) (hs : SliceAt w a cap 256 T64.cells ts) (hcapt : cap ≤ Go.maxLen) (hlen : ts.length = wd * hg) (hwd : 1 ≤ wd ∧ wd ≤ 4) (hhg : 1 ≤ hg ∧ hg ≤ 4) (p q : Nat) (px : List C4) (ap : Option Addr) (capp : Nat) (hv : SliceAt w ap capp 4 C4.cells px) (hcap : capp ≤ Go.maxLen) (hp8 : 1 ≤ p ∧ p ≤ 8) (hq8 : 1 ≤ q ∧ q ≤ 8) (hpl : px.length = p * q) (X Y : Int) (hX : inI X) (hY : inI Y) (hpx : ∀ c ∈ px, c.ok) (hts : TsOk ts) : Calls Try.prog 63 #[.agg #[.int .i64 (wd : Int), .int .i64 (hg : Int), .slice a ts.length cap], .agg #[.int .i64 (p : Int), .int .i64 (q : Int), .slice ap px.length capp], .agg #[.int .i64 X, .int .i64 Y]] w fun e w' => ∃ (tB : Bool) (a' : Option Addr) (cap' : Nat), e = .returned (.agg #[.int .i64 (wd : Int), .int .i64 (hg : Int), .slice a' (lay1 wd hg p q px ts ⟨X, Y⟩).length cap']) ∧ (tB = false → a' = a ∧ cap' = cap ∧ (lay1 wd hg p q px ts ⟨X, Y⟩) = ts) ∧ Below w.heap.size w w' ∧ (Res.rowB tB (.slice a' (lay1 wd hg p q px ts ⟨X, Y⟩).length cap') 39 256 (lay1 wd hg p q px ts ⟨X, Y⟩).length ((lay1 wd hg p q px ts ⟨X, Y⟩).flatMap T64.cells)).ok w.heap.size w' := by
 have e := lay_ref (wd := wd) (hg := hg) (p := p) (q := q) (px := px) hwd.1 hlen ⟨X, Y⟩
 dsimp only at e
 have h := rlay_w wd hg ts a cap w hs hcapt hlen hwd hhg p q px ap capp hv hcap hp8 hq8 hpl X Y hX hY hpx hts
 rw [e] at h
 rw [lay1_len]
 exact h

end Go.Proofs.Ytbiapeaghbndoaa
/- stamp: turned four times, flipped twice. -/
namespace Go.Proofs.Ytbiapeaghbndoaa
open Go Go.RowKit
section
variable {p q : Nat} {px : List C4}
theorem turn_one (p q : Nat) (px : List C4) : turnS (q4 1) p q px = turnS 1 p q px := by
  rw [show q4 1 = 1 from by decide]
end
theorem px64 {p q n : Nat} (hp : 1 ≤ p ∧ p ≤ 8) (hq : 1 ≤ q ∧ q ≤ 8) (h : n = p * q) : n ≤ 64 := by rw [h]; exact (size8 hp hq).2
theorem px64b {p q n : Nat} (hp : 1 ≤ p ∧ p ≤ 8) (hq : 1 ≤ q ∧ q ≤ 8) (h : n = p * q) : n ≤ 4611686018427387904 := Nat.le_trans (px64 hp hq h) (Nat.le_of_ble_eq_true rfl)
end Go.Proofs.Ytbiapeaghbndoaa
/- canvas: wakes. Printed by a program of this seat's prover. -/
namespace Go.Proofs.Ytbiapeaghbndoaa
open Go Go.RowKit
set_option maxRecDepth 10000
abbrev wkPx : List C4 := [(⟨1, 0, 0, 255⟩ : C4), (⟨0, 1, 0, 255⟩ : C4), (⟨0, 0, 1, 255⟩ : C4), (⟨0, 0, 0, 255⟩ : C4)]
theorem wkPx_ok : ∀ c ∈ wkPx, c.ok := by unfold C4.ok ok8; decide
theorem zeroTs_ok (n : Nat) : TsOk (List.replicate n zeroT) := fun t ht c hc => by
 rw [List.eq_of_mem_replicate ht] at hc
 rw [List.eq_of_mem_replicate (show c ∈ List.replicate 64 zeroC from hc)]; exact zeroC_ok
def wkT : List T64 := layN 1 1 2 2 wkPx (List.replicate (1 * 1) zeroT) [(⟨7, 0⟩ : Pt)]
theorem swk1 : cutL 1 wkT 7 0 1 2 = [(⟨1, 0, 0, 255⟩ : C4), (⟨0, 0, 1, 255⟩ : C4)] := by decide +kernel
theorem swk2 : (difC 1 1 (List.replicate (1 * 1) zeroT) wkT).length = 2 := by decide +kernel
theorem swk3 : quarL 2 2 wkPx = [(⟨0, 0, 1, 255⟩ : C4), (⟨1, 0, 0, 255⟩ : C4), (⟨0, 0, 0, 255⟩ : C4), (⟨0, 1, 0, 255⟩ : C4)] := by decide +kernel
theorem swk4 : flpL 2 2 wkPx = [(⟨0, 1, 0, 255⟩ : C4), (⟨1, 0, 0, 255⟩ : C4), (⟨0, 0, 0, 255⟩ : C4), (⟨0, 0, 1, 255⟩ : C4)] := by decide +kernel
theorem swk5 : wearN wkPx 4 = 4 := by decide +kernel
theorem turn_q (p q : Nat) (px : List C4) (a : Option Addr) (cap : Nat) (w : World) (hv : SliceAt w a cap 4 C4.cells px) (hcap : cap ≤ Go.maxLen) (hp : 1 ≤ p ∧ p ≤ 8) (hq : 1 ≤ q ∧ q ≤ 8) (hlen : px.length = p * q) : Calls Try.prog 48 #[.agg #[.int .i64 (p : Int), .int .i64 (q : Int), .slice a px.length cap], .int .i64 1] w fun e w' => ∃ a' cap', e = .returned (.tuple #[.agg #[.int .i64 (q : Int), .int .i64 (p : Int), .slice a' (quarL p q px).length cap'], .int .i64 0]) ∧ Below w.heap.size w w' ∧ w'.ownsRow w.heap.size 37 4 (.slice a' (quarL p q px).length cap') (quarL p q px).length ((quarL p q px).flatMap C4.cells) := by
 have h := turn_ok p q 1 px a cap w hv hcap hp hq hlen
 rw [turn_one] at h
 exact h

set_option maxHeartbeats 2000000 in
theorem swakes_c (w : World) : Calls Try.prog 39 #[] w fun e w' => e = .returned (.bool true) ∧ Below w.heap.size w w' := by
 refine calls_of_T (l := []) 130 Try.func39 rfl rfl rfl ?_
 show T _ _ _ [] []
 refine T_seq (T_region ?_)
 refine TL_v (.bool false) (s_as rfl) rfl rfl ?_
 refine TL_seq ?_
 refine T_mem (_ :: _) (fun _ hm => hm.cvs0 960) ?_
 refine T_seq (T_region ?_)
 refine TL_v (.agg #[.int .u8 1, z8, z8, .int .u8 255]) (fun _ _ j _ => r_build (vs := [(0, .int .u8 1), (3, .int .u8 255)]) (by kernel_rfl) (cons2 (pair2 (j _ _ rfl)) (cons2 (pair2 (j _ _ rfl)) rfl))) rfl rfl ?_
 refine TL_v (.agg #[z8, .int .u8 1, z8, .int .u8 255]) (fun _ _ j _ => r_build (vs := [(1, .int .u8 1), (3, .int .u8 255)]) (by kernel_rfl) (cons2 (pair2 (j _ _ rfl)) (cons2 (pair2 (j _ _ rfl)) rfl))) rfl rfl ?_
 refine TL_v (.agg #[z8, z8, .int .u8 1, .int .u8 255]) (fun _ _ j _ => r_build (vs := [(2, .int .u8 1), (3, .int .u8 255)]) (by kernel_rfl) (cons2 (pair2 (j _ _ rfl)) (cons2 (pair2 (j _ _ rfl)) rfl))) rfl rfl ?_
 refine TL_v (.agg #[z8, z8, z8, .int .u8 255]) (fun _ _ j _ => r_build (vs := [(3, .int .u8 255)]) (by kernel_rfl) (cons2 (pair2 (j _ _ rfl)) rfl)) rfl rfl ?_
 refine TL_new 1 (.cells #[z8, z8, z8, z8] 37) (fun B => pt B 0) (fun _ _ _ _ => r_alloc (v := .agg #[z8, z8, z8, z8]) (by kernel_rfl) rfl) rfl rfl rfl (w_n rfl) ?_
 intro B1
 refine TL_new 2 (.cells #[z8, z8, z8, z8] 37) (fun B => pt B 0) (fun _ _ _ _ => r_alloc (v := .agg #[z8, z8, z8, z8]) (by kernel_rfl) rfl) rfl rfl rfl (w_n rfl) ?_
 intro B2
 refine TL_new 3 (.cells #[z8, z8, z8, z8] 37) (fun B => pt B 0) (fun _ _ _ _ => r_alloc (v := .agg #[z8, z8, z8, z8]) (by kernel_rfl) rfl) rfl rfl rfl (w_n rfl) ?_
 intro B3
 refine TL_new 4 (.cells #[z8, z8, z8, z8] 37) (fun B => pt B 0) (fun _ _ _ _ => r_alloc (v := .agg #[z8, z8, z8, z8]) (by kernel_rfl) rfl) rfl rfl rfl (w_n rfl) ?_
 intro B4
 refine TL_store 1 (.cells #[.int .u8 1, z8, z8, .int .u8 255] 37) rfl (s_st sz37 rfl rfl 1 rfl rfl rfl rfl rfl) rfl rfl (w_n rfl) ?_
 refine TL_store 2 (.cells #[z8, .int .u8 1, z8, .int .u8 255] 37) rfl (s_st sz37 rfl rfl 2 rfl rfl rfl rfl rfl) rfl rfl (w_n rfl) ?_
 refine TL_store 3 (.cells #[z8, z8, .int .u8 1, .int .u8 255] 37) rfl (s_st sz37 rfl rfl 3 rfl rfl rfl rfl rfl) rfl rfl (w_n rfl) ?_
 refine TL_store 4 (.cells #[z8, z8, z8, .int .u8 255] 37) rfl (s_st sz37 rfl rfl 4 rfl rfl rfl rfl rfl) rfl rfl (w_n rfl) ?_
 refine TL_seq ?_
 refine T_seq (T_region ?_)
 refine TL_v (.agg #[.int .u8 1, z8, z8, .int .u8 255]) (s_la ag37 sz37 rfl 1 rfl rfl rfl) rfl rfl ?_
 refine TL_v (.agg #[z8, .int .u8 1, z8, .int .u8 255]) (s_la ag37 sz37 rfl 2 rfl rfl rfl) rfl rfl ?_
 refine TL_v (.agg #[z8, z8, .int .u8 1, .int .u8 255]) (s_la ag37 sz37 rfl 3 rfl rfl rfl) rfl rfl ?_
 refine TL_v (.agg #[z8, z8, z8, .int .u8 255]) (s_la ag37 sz37 rfl 4 rfl rfl rfl) rfl rfl ?_
 refine TL_new 5 (.cells #[.int .u8 1, z8, z8, .int .u8 255, z8, .int .u8 1, z8, .int .u8 255, z8, z8, .int .u8 1, .int .u8 255, z8, z8, z8, .int .u8 255] 37) (fun B => .slice (some ⟨B, 0, none⟩) 4 4) (fun _ _ j _ => r_buildSlice (vs := [(0, .agg #[.int .u8 1, z8, z8, .int .u8 255]), (1, .agg #[z8, .int .u8 1, z8, .int .u8 255]), (2, .agg #[z8, z8, .int .u8 1, .int .u8 255]), (3, .agg #[z8, z8, z8, .int .u8 255])]) (by kernel_rfl) (cons2 (pair2 (j _ _ rfl)) (cons2 (pair2 (j _ _ rfl)) (cons2 (pair2 (j _ _ rfl)) (cons2 (pair2 (j _ _ rfl)) rfl))))) rfl rfl rfl (w_n rfl) ?_
 intro B5
 refine TL_callN (fun (_ : Option Addr × Nat) => True) (fun (ar6, cr6) => .tuple #[.agg #[.int .i64 2, .int .i64 2, .slice ar6 (([(⟨1, 0, 0, 255⟩ : C4), (⟨0, 1, 0, 255⟩ : C4), (⟨0, 0, 1, 255⟩ : C4), (⟨0, 0, 0, 255⟩ : C4)]).length) cr6], .int .i64 0]) (fun (ar6, cr6) => [(6, .row (.slice ar6 (([(⟨1, 0, 0, 255⟩ : C4), (⟨0, 1, 0, 255⟩ : C4), (⟨0, 0, 1, 255⟩ : C4), (⟨0, 0, 0, 255⟩ : C4)]).length) cr6) 37 4 (([(⟨1, 0, 0, 255⟩ : C4), (⟨0, 1, 0, 255⟩ : C4), (⟨0, 0, 1, 255⟩ : C4), (⟨0, 0, 0, 255⟩ : C4)]).length) (([(⟨1, 0, 0, 255⟩ : C4), (⟨0, 1, 0, 255⟩ : C4), (⟨0, 0, 1, 255⟩ : C4), (⟨0, 0, 0, 255⟩ : C4)]).flatMap C4.cells))]) (fun _ _ j _ => r_call (args := [.int .i64 2, .slice (some ⟨B5, 0, none⟩) 4 4]) (enters_of Try.func44 (by kernel_rfl) rfl) (j _ _ rfl) ((cons2 (j _ _ rfl) (cons2 (j _ _ rfl) rfl))) rfl) (fun w hm => (sof_ok 2 2 [(⟨1, 0, 0, 255⟩ : C4), (⟨0, 1, 0, 255⟩ : C4), (⟨0, 0, 1, 255⟩ : C4), (⟨0, 0, 0, 255⟩ : C4)] (some ⟨B5, 0, none⟩) 4 w ⟨Nat.le_of_ble_eq_true rfl, (fun e => by cases e), .inr ⟨_, 0, _, _, _, rfl, (hm.at 5 rfl), row_of_take (fun _ => rfl) rfl⟩⟩ (Nat.le_of_ble_eq_true rfl) (by decide) (by decide) (by decide)).mono fun e w' ⟨a', cap', he, hb, hr⟩ => ⟨(a', cap'), trivial, he, hb, newOk1 6 hr⟩) rfl rfl rfl (w_n rfl) ?_
 rintro ⟨ar6, cr6⟩ -
 refine TL_v (.tuple #[.agg #[.int .i64 2, .int .i64 2, .slice ar6 (([(⟨1, 0, 0, 255⟩ : C4), (⟨0, 1, 0, 255⟩ : C4), (⟨0, 0, 1, 255⟩ : C4), (⟨0, 0, 0, 255⟩ : C4)]).length) cr6], .int .i64 0]) (s_mv rfl) rfl rfl ?_
 refine TL_v (.agg #[.int .i64 2, .int .i64 2, .slice ar6 (([(⟨1, 0, 0, 255⟩ : C4), (⟨0, 1, 0, 255⟩ : C4), (⟨0, 0, 1, 255⟩ : C4), (⟨0, 0, 0, 255⟩ : C4)]).length) cr6]) (s_ex rfl rfl) rfl rfl ?_
 refine TL_v (.int .i64 0) (s_ex rfl rfl) rfl rfl ?_
 refine TL_new 7 (.cells #[.int .i64 0, .int .i64 0, .slice none 0 0] 75) (fun B => pt B 0) (fun _ _ _ _ => r_alloc (v := .agg #[.int .i64 0, .int .i64 0, .slice none 0 0]) (by kernel_rfl) rfl) rfl rfl rfl (w_n rfl) ?_
 intro B7
 refine TL_store 7 (.cells #[.int .i64 2, .int .i64 2, .slice ar6 (([(⟨1, 0, 0, 255⟩ : C4), (⟨0, 1, 0, 255⟩ : C4), (⟨0, 0, 1, 255⟩ : C4), (⟨0, 0, 0, 255⟩ : C4)]).length) cr6] 75) rfl (s_st sz75 rfl rfl 7 rfl rfl rfl rfl rfl) rfl rfl (w_n rfl) ?_
 refine TL_v (.int .i64 0) (s_as rfl) rfl rfl ?_
 refine TL_seq ?_
 refine T_seq (T_region ?_)
 refine TL_v (.agg #[.int .i64 2, .int .i64 2, .slice ar6 (([(⟨1, 0, 0, 255⟩ : C4), (⟨0, 1, 0, 255⟩ : C4), (⟨0, 0, 1, 255⟩ : C4), (⟨0, 0, 0, 255⟩ : C4)]).length) cr6]) (s_la ag75 sz75 rfl 7 rfl rfl rfl) rfl rfl ?_
 refine TL_callN (fun (_ : Option Addr × Nat) => True) (fun (ar8, cr8) => .tuple #[.agg #[.int .i64 2, .int .i64 2, .slice ar8 ((quarL 2 2 [(⟨1, 0, 0, 255⟩ : C4), (⟨0, 1, 0, 255⟩ : C4), (⟨0, 0, 1, 255⟩ : C4), (⟨0, 0, 0, 255⟩ : C4)]).length) cr8], .int .i64 0]) (fun (ar8, cr8) => [(8, .row (.slice ar8 ((quarL 2 2 [(⟨1, 0, 0, 255⟩ : C4), (⟨0, 1, 0, 255⟩ : C4), (⟨0, 0, 1, 255⟩ : C4), (⟨0, 0, 0, 255⟩ : C4)]).length) cr8) 37 4 ((quarL 2 2 [(⟨1, 0, 0, 255⟩ : C4), (⟨0, 1, 0, 255⟩ : C4), (⟨0, 0, 1, 255⟩ : C4), (⟨0, 0, 0, 255⟩ : C4)]).length) ((quarL 2 2 [(⟨1, 0, 0, 255⟩ : C4), (⟨0, 1, 0, 255⟩ : C4), (⟨0, 0, 1, 255⟩ : C4), (⟨0, 0, 0, 255⟩ : C4)]).flatMap C4.cells))]) (fun _ _ j _ => r_call (args := [.agg #[.int .i64 2, .int .i64 2, .slice ar6 (([(⟨1, 0, 0, 255⟩ : C4), (⟨0, 1, 0, 255⟩ : C4), (⟨0, 0, 1, 255⟩ : C4), (⟨0, 0, 0, 255⟩ : C4)]).length) cr6], .int .i64 1]) (enters_of Try.func48 (by kernel_rfl) rfl) (j _ _ rfl) ((cons2 (j _ _ rfl) (cons2 (j _ _ rfl) rfl))) rfl) (fun w hm => (turn_q 2 2 [(⟨1, 0, 0, 255⟩ : C4), (⟨0, 1, 0, 255⟩ : C4), (⟨0, 0, 1, 255⟩ : C4), (⟨0, 0, 0, 255⟩ : C4)] ar6 cr6 w (SliceAt.own C4.cells_len (hm.row 6 rfl) rfl rfl) (row_cap (hm.row 6 rfl)) (by decide) (by decide) (by decide)).mono fun e w' ⟨a', cap', he, hb, hr⟩ => ⟨(a', cap'), trivial, he, hb, newOk1 8 hr⟩) rfl rfl rfl (w_n rfl) ?_
 rintro ⟨ar8, cr8⟩ -
 refine TL_v (.tuple #[.agg #[.int .i64 2, .int .i64 2, .slice ar8 ((quarL 2 2 [(⟨1, 0, 0, 255⟩ : C4), (⟨0, 1, 0, 255⟩ : C4), (⟨0, 0, 1, 255⟩ : C4), (⟨0, 0, 0, 255⟩ : C4)]).length) cr8], .int .i64 0]) (s_mv rfl) rfl rfl ?_
 refine TL_v (.agg #[.int .i64 2, .int .i64 2, .slice ar8 ((quarL 2 2 [(⟨1, 0, 0, 255⟩ : C4), (⟨0, 1, 0, 255⟩ : C4), (⟨0, 0, 1, 255⟩ : C4), (⟨0, 0, 0, 255⟩ : C4)]).length) cr8]) (s_ex rfl rfl) rfl rfl ?_
 refine TL_v (.int .i64 0) (s_ex rfl rfl) rfl rfl ?_
 refine TL_new 9 (.cells #[.int .i64 0, .int .i64 0, .slice none 0 0] 75) (fun B => pt B 0) (fun _ _ _ _ => r_alloc (v := .agg #[.int .i64 0, .int .i64 0, .slice none 0 0]) (by kernel_rfl) rfl) rfl rfl rfl (w_n rfl) ?_
 intro B9
 refine TL_store 9 (.cells #[.int .i64 2, .int .i64 2, .slice ar8 ((quarL 2 2 [(⟨1, 0, 0, 255⟩ : C4), (⟨0, 1, 0, 255⟩ : C4), (⟨0, 0, 1, 255⟩ : C4), (⟨0, 0, 0, 255⟩ : C4)]).length) cr8] 75) rfl (s_st sz75 rfl rfl 9 rfl rfl rfl rfl rfl) rfl rfl (w_n rfl) ?_
 refine TL_v (.int .i64 0) (s_as rfl) rfl rfl ?_
 refine TL_seq ?_
 refine T_seq (T_region ?_)
 refine TL_v (.agg #[.int .i64 2, .int .i64 2, .slice ar6 (([(⟨1, 0, 0, 255⟩ : C4), (⟨0, 1, 0, 255⟩ : C4), (⟨0, 0, 1, 255⟩ : C4), (⟨0, 0, 0, 255⟩ : C4)]).length) cr6]) (s_la ag75 sz75 rfl 7 rfl rfl rfl) rfl rfl ?_
 refine TL_callN (fun (_ : Option Addr × Nat) => True) (fun (ar10, cr10) => .tuple #[.agg #[.int .i64 2, .int .i64 2, .slice ar10 ((flpL 2 2 [(⟨1, 0, 0, 255⟩ : C4), (⟨0, 1, 0, 255⟩ : C4), (⟨0, 0, 1, 255⟩ : C4), (⟨0, 0, 0, 255⟩ : C4)]).length) cr10], .int .i64 0]) (fun (ar10, cr10) => [(10, .row (.slice ar10 ((flpL 2 2 [(⟨1, 0, 0, 255⟩ : C4), (⟨0, 1, 0, 255⟩ : C4), (⟨0, 0, 1, 255⟩ : C4), (⟨0, 0, 0, 255⟩ : C4)]).length) cr10) 37 4 ((flpL 2 2 [(⟨1, 0, 0, 255⟩ : C4), (⟨0, 1, 0, 255⟩ : C4), (⟨0, 0, 1, 255⟩ : C4), (⟨0, 0, 0, 255⟩ : C4)]).length) ((flpL 2 2 [(⟨1, 0, 0, 255⟩ : C4), (⟨0, 1, 0, 255⟩ : C4), (⟨0, 0, 1, 255⟩ : C4), (⟨0, 0, 0, 255⟩ : C4)]).flatMap C4.cells))]) (fun _ _ j _ => r_call (args := [.agg #[.int .i64 2, .int .i64 2, .slice ar6 (([(⟨1, 0, 0, 255⟩ : C4), (⟨0, 1, 0, 255⟩ : C4), (⟨0, 0, 1, 255⟩ : C4), (⟨0, 0, 0, 255⟩ : C4)]).length) cr6]]) (enters_of Try.func50 (by kernel_rfl) rfl) (j _ _ rfl) ((cons2 (j _ _ rfl) rfl)) rfl) (fun w hm => (flip_ok 2 2 [(⟨1, 0, 0, 255⟩ : C4), (⟨0, 1, 0, 255⟩ : C4), (⟨0, 0, 1, 255⟩ : C4), (⟨0, 0, 0, 255⟩ : C4)] ar6 cr6 w (SliceAt.own C4.cells_len (hm.row 6 rfl) rfl rfl) (row_cap (hm.row 6 rfl)) (by decide) (by decide) (by decide)).mono fun e w' ⟨a', cap', he, hb, hr⟩ => ⟨(a', cap'), trivial, he, hb, newOk1 10 hr⟩) rfl rfl rfl (w_n rfl) ?_
 rintro ⟨ar10, cr10⟩ -
 refine TL_v (.tuple #[.agg #[.int .i64 2, .int .i64 2, .slice ar10 ((flpL 2 2 [(⟨1, 0, 0, 255⟩ : C4), (⟨0, 1, 0, 255⟩ : C4), (⟨0, 0, 1, 255⟩ : C4), (⟨0, 0, 0, 255⟩ : C4)]).length) cr10], .int .i64 0]) (s_mv rfl) rfl rfl ?_
 refine TL_v (.agg #[.int .i64 2, .int .i64 2, .slice ar10 ((flpL 2 2 [(⟨1, 0, 0, 255⟩ : C4), (⟨0, 1, 0, 255⟩ : C4), (⟨0, 0, 1, 255⟩ : C4), (⟨0, 0, 0, 255⟩ : C4)]).length) cr10]) (s_ex rfl rfl) rfl rfl ?_
 refine TL_v (.int .i64 0) (s_ex rfl rfl) rfl rfl ?_
 refine TL_new 11 (.cells #[.int .i64 0, .int .i64 0, .slice none 0 0] 75) (fun B => pt B 0) (fun _ _ _ _ => r_alloc (v := .agg #[.int .i64 0, .int .i64 0, .slice none 0 0]) (by kernel_rfl) rfl) rfl rfl rfl (w_n rfl) ?_
 intro B11
 refine TL_store 11 (.cells #[.int .i64 2, .int .i64 2, .slice ar10 ((flpL 2 2 [(⟨1, 0, 0, 255⟩ : C4), (⟨0, 1, 0, 255⟩ : C4), (⟨0, 0, 1, 255⟩ : C4), (⟨0, 0, 0, 255⟩ : C4)]).length) cr10] 75) rfl (s_st sz75 rfl rfl 11 rfl rfl rfl rfl rfl) rfl rfl (w_n rfl) ?_
 refine TL_v (.int .i64 0) (s_as rfl) rfl rfl ?_
 refine TL_seq ?_
 refine T_sub [(0, .bool false), (1, pt B1 0), (2, pt B2 0), (3, pt B3 0), (4, pt B4 0), (5, pt B7 0), (6, .int .i64 0), (7, pt B9 0), (8, .int .i64 0), (9, pt B11 0), (10, .int .i64 0)] [(10, .row (.slice ar10 ((flpL 2 2 [(⟨1, 0, 0, 255⟩ : C4), (⟨0, 1, 0, 255⟩ : C4), (⟨0, 0, 1, 255⟩ : C4), (⟨0, 0, 0, 255⟩ : C4)]).length) cr10) 37 4 ((flpL 2 2 [(⟨1, 0, 0, 255⟩ : C4), (⟨0, 1, 0, 255⟩ : C4), (⟨0, 0, 1, 255⟩ : C4), (⟨0, 0, 0, 255⟩ : C4)]).length) ((flpL 2 2 [(⟨1, 0, 0, 255⟩ : C4), (⟨0, 1, 0, 255⟩ : C4), (⟨0, 0, 1, 255⟩ : C4), (⟨0, 0, 0, 255⟩ : C4)]).flatMap C4.cells)), (8, .row (.slice ar8 ((quarL 2 2 [(⟨1, 0, 0, 255⟩ : C4), (⟨0, 1, 0, 255⟩ : C4), (⟨0, 0, 1, 255⟩ : C4), (⟨0, 0, 0, 255⟩ : C4)]).length) cr8) 37 4 ((quarL 2 2 [(⟨1, 0, 0, 255⟩ : C4), (⟨0, 1, 0, 255⟩ : C4), (⟨0, 0, 1, 255⟩ : C4), (⟨0, 0, 0, 255⟩ : C4)]).length) ((quarL 2 2 [(⟨1, 0, 0, 255⟩ : C4), (⟨0, 1, 0, 255⟩ : C4), (⟨0, 0, 1, 255⟩ : C4), (⟨0, 0, 0, 255⟩ : C4)]).flatMap C4.cells)), (6, .row (.slice ar6 (([(⟨1, 0, 0, 255⟩ : C4), (⟨0, 1, 0, 255⟩ : C4), (⟨0, 0, 1, 255⟩ : C4), (⟨0, 0, 0, 255⟩ : C4)]).length) cr6) 37 4 (([(⟨1, 0, 0, 255⟩ : C4), (⟨0, 1, 0, 255⟩ : C4), (⟨0, 0, 1, 255⟩ : C4), (⟨0, 0, 0, 255⟩ : C4)]).length) (([(⟨1, 0, 0, 255⟩ : C4), (⟨0, 1, 0, 255⟩ : C4), (⟨0, 0, 1, 255⟩ : C4), (⟨0, 0, 0, 255⟩ : C4)]).flatMap C4.cells)), (960, .cvs []), (1, .blk B1 (.cells #[.int .u8 1, z8, z8, .int .u8 255] 37)), (2, .blk B2 (.cells #[z8, .int .u8 1, z8, .int .u8 255] 37)), (3, .blk B3 (.cells #[z8, z8, .int .u8 1, .int .u8 255] 37)), (4, .blk B4 (.cells #[z8, z8, z8, .int .u8 255] 37)), (5, .blk B5 (.cells #[.int .u8 1, z8, z8, .int .u8 255, z8, .int .u8 1, z8, .int .u8 255, z8, z8, .int .u8 1, .int .u8 255, z8, z8, z8, .int .u8 255] 37)), (7, .blk B7 (.cells #[.int .i64 2, .int .i64 2, .slice ar6 (([(⟨1, 0, 0, 255⟩ : C4), (⟨0, 1, 0, 255⟩ : C4), (⟨0, 0, 1, 255⟩ : C4), (⟨0, 0, 0, 255⟩ : C4)]).length) cr6] 75)), (9, .blk B9 (.cells #[.int .i64 2, .int .i64 2, .slice ar8 ((quarL 2 2 [(⟨1, 0, 0, 255⟩ : C4), (⟨0, 1, 0, 255⟩ : C4), (⟨0, 0, 1, 255⟩ : C4), (⟨0, 0, 0, 255⟩ : C4)]).length) cr8] 75)), (11, .blk B11 (.cells #[.int .i64 2, .int .i64 2, .slice ar10 ((flpL 2 2 [(⟨1, 0, 0, 255⟩ : C4), (⟨0, 1, 0, 255⟩ : C4), (⟨0, 0, 1, 255⟩ : C4), (⟨0, 0, 0, 255⟩ : C4)]).length) cr10] 75))] (sc4 rfl rfl rfl rfl (sc4 rfl rfl rfl rfl (sc rfl (sc rfl (sc rfl sub_nil))))) (sc4 rfl rfl rfl rfl (sc4 rfl rfl rfl rfl (sc4 rfl rfl rfl rfl sub_nil))) ?_
 refine T_seq (T_region ?_)
 refine TL_callX (ι := Cv) (fun (c1 : Cv) e w w' => e = .returned (.tuple #[pt c1.p 0, .int .i64 0]) ∧ CvNew w w' [] c1 ∧ (∀ x ∈ ([] : List Cv), ∀ q ∈ x.ps, q < w.heap.size) ∧ c1.wd = 1 ∧ c1.hg = 1 ∧ c1.ts = List.replicate (1 * 1) zeroT) (fun c1 => .tuple #[pt c1.p 0, .int .i64 0]) _ (fun _ _ j _ => r_call (args := [.int .i64 1, .int .i64 1]) (enters_of Try.func29 (by kernel_rfl) rfl) (j _ _ rfl) ((cons2 (j _ _ rfl) (cons2 (j _ _ rfl) rfl))) rfl) (fun w hm => (new_c 1 1 w (by decide) (by decide)).mono fun e w' ⟨d, he, hn, hf⟩ => ⟨d, he, hn, hm.cvUnder 960 rfl, hf⟩) (fun _ e w w' hm h => ⟨h.1, hm.cvGet 960 rfl h.2.1 (fun _ hx => nomatch hx)⟩) rfl rfl rfl (w_n rfl) ?_
 rintro c1 ⟨_, w1_c1, w2_c1, _, hn_c1, hu_c1, hwd_c1, hhg_c1, hts_c1⟩
 refine TL_v (.tuple #[pt c1.p 0, .int .i64 0]) (s_mv rfl) rfl rfl ?_
 refine TL_v (pt c1.p 0) (s_ex rfl rfl) rfl rfl ?_
 refine TL_v (.int .i64 0) (s_ex rfl rfl) rfl rfl ?_
 refine TL_v (pt c1.p 0) (s_as rfl) rfl rfl ?_
 refine TL_v (.int .i64 0) (s_as rfl) rfl rfl ?_
 refine TL_seq ?_
 refine T_seq (T_region ?_)
 refine TL_v (pt c1.p 0) (s_mv rfl) rfl rfl ?_
 refine TL_v (.agg #[.int .i64 2, .int .i64 2, .slice ar6 (([(⟨1, 0, 0, 255⟩ : C4), (⟨0, 1, 0, 255⟩ : C4), (⟨0, 0, 1, 255⟩ : C4), (⟨0, 0, 0, 255⟩ : C4)]).length) cr6]) (s_la ag75 sz75 rfl 7 rfl rfl rfl) rfl rfl ?_
 refine TL_v (.agg #[.int .i64 7, .int .i64 0]) (fun _ _ j _ => r_build (vs := [(0, .int .i64 7)]) (by kernel_rfl) (cons2 (pair2 (j _ _ rfl)) rfl)) rfl rfl ?_
 refine TL_new 12 (.cells #[.int .i64 7, .int .i64 0] 47) (fun B => .slice (some ⟨B, 0, none⟩) 1 1) (fun _ _ j _ => r_buildSlice (vs := [(0, .agg #[.int .i64 7, .int .i64 0])]) (by kernel_rfl) (cons2 (pair2 (j _ _ rfl)) rfl)) rfl rfl rfl (w_n rfl) ?_
 intro B12
 refine TL_callX (ι := Cv) (fun (c2 : Cv) e w w' => e = .returned (.tuple #[pt c2.p 0, .int .i64 0]) ∧ CvNew w w' [c1] c2 ∧ (∀ x ∈ [c1], ∀ q ∈ x.ps, q < w.heap.size) ∧ c2.wd = c1.wd ∧ c2.hg = c1.hg ∧ c2.ts = layN c1.wd c1.hg 2 2 [(⟨1, 0, 0, 255⟩ : C4), (⟨0, 1, 0, 255⟩ : C4), (⟨0, 0, 1, 255⟩ : C4), (⟨0, 0, 0, 255⟩ : C4)] c1.ts [(⟨7, 0⟩ : Pt)]) (fun c2 => .tuple #[pt c2.p 0, .int .i64 0]) _ (fun _ _ j _ => r_call (args := [pt c1.p 0, .agg #[.int .i64 2, .int .i64 2, .slice ar6 (([(⟨1, 0, 0, 255⟩ : C4), (⟨0, 1, 0, 255⟩ : C4), (⟨0, 0, 1, 255⟩ : C4), (⟨0, 0, 0, 255⟩ : C4)]).length) cr6], .slice (some ⟨B12, 0, none⟩) 1 1]) (enters_of Try.func60 (by kernel_rfl) rfl) (j _ _ rfl) ((cons2 (j _ _ rfl) (cons2 (j _ _ rfl) (cons2 (j _ _ rfl) rfl)))) rfl) (fun w hm => (lay_ok c1 2 2 [(⟨1, 0, 0, 255⟩ : C4), (⟨0, 1, 0, 255⟩ : C4), (⟨0, 0, 1, 255⟩ : C4), (⟨0, 0, 0, 255⟩ : C4)] ar6 cr6 [(⟨7, 0⟩ : Pt)] (some ⟨B12, 0, none⟩) 1 w (hm.cv 960 rfl (List.Mem.head _)) (SliceAt.own C4.cells_len (hm.row 6 rfl) rfl rfl) (row_cap (hm.row 6 rfl)) ⟨Nat.le_of_ble_eq_true rfl, (fun e => by cases e), .inr ⟨_, 0, _, _, _, rfl, (hm.at 12 rfl), row_of_take (fun _ => rfl) rfl⟩⟩ (Nat.le_of_ble_eq_true rfl) (by decide) (by decide) (by decide) wkPx_ok (by rw [hts_c1]; exact zeroTs_ok _)).mono fun e w' ⟨d, he, hn, hf⟩ => ⟨d, he, hn, hm.cvUnder 960 rfl, hf⟩) (fun _ e w w' hm h => ⟨h.1, hm.cvGet 960 rfl h.2.1 (fun x hx => by rw [List.mem_singleton.1 hx]; exact (List.Mem.head _))⟩) rfl rfl rfl (w_n rfl) ?_
 rintro c2 ⟨_, w1_c2, w2_c2, _, hn_c2, hu_c2, hwd_c2, hhg_c2, hts_c2⟩
 refine TL_v (.tuple #[pt c2.p 0, .int .i64 0]) (s_mv rfl) rfl rfl ?_
 refine TL_v (pt c2.p 0) (s_ex rfl rfl) rfl rfl ?_
 refine TL_v (.int .i64 0) (s_ex rfl rfl) rfl rfl ?_
 refine TL_v (pt c2.p 0) (s_as rfl) rfl rfl ?_
 refine TL_v (.int .i64 0) (s_as rfl) rfl rfl ?_
 refine TL_seq ?_
 refine T_seq (T_region ?_)
 refine TL_v (pt c2.p 0) (s_mv rfl) rfl rfl ?_
 refine TL_callN (fun (_ : Option Addr × Nat) => True) (fun (ar13, cr13) => .tuple #[.agg #[.int .i64 1, .int .i64 2, .slice ar13 ((cutL c2.wd c2.ts 7 0 1 2).length) cr13], .int .i64 0]) (fun (ar13, cr13) => [(13, .row (.slice ar13 ((cutL c2.wd c2.ts 7 0 1 2).length) cr13) 37 4 ((cutL c2.wd c2.ts 7 0 1 2).length) ((cutL c2.wd c2.ts 7 0 1 2).flatMap C4.cells))]) (fun _ _ j _ => r_call (args := [pt c2.p 0, .int .i64 7, .int .i64 0, .int .i64 1, .int .i64 2]) (enters_of Try.func59 (by kernel_rfl) rfl) (j _ _ rfl) ((cons2 (j _ _ rfl) (cons2 (j _ _ rfl) (cons2 (j _ _ rfl) (cons2 (j _ _ rfl) (cons2 (j _ _ rfl) rfl)))))) rfl) (fun w hm => (cut_ok c2 7 0 1 2 w (hm.cv 960 rfl (List.Mem.head _)) (by decide) (by decide) (by rw [hwd_c2, hwd_c1]; decide) (by rw [hhg_c2, hhg_c1]; decide)).mono fun e w' ⟨a', cap', he, hb, hr⟩ => ⟨(a', cap'), trivial, he, hb, newOk1 13 hr⟩) rfl rfl rfl (w_n rfl) ?_
 rintro ⟨ar13, cr13⟩ -
 refine TL_v (.tuple #[.agg #[.int .i64 1, .int .i64 2, .slice ar13 ((cutL c2.wd c2.ts 7 0 1 2).length) cr13], .int .i64 0]) (s_mv rfl) rfl rfl ?_
 refine TL_v (.agg #[.int .i64 1, .int .i64 2, .slice ar13 ((cutL c2.wd c2.ts 7 0 1 2).length) cr13]) (s_ex rfl rfl) rfl rfl ?_
 refine TL_v (.int .i64 0) (s_ex rfl rfl) rfl rfl ?_
 refine TL_new 14 (.cells #[.int .i64 0, .int .i64 0, .slice none 0 0] 75) (fun B => pt B 0) (fun _ _ _ _ => r_alloc (v := .agg #[.int .i64 0, .int .i64 0, .slice none 0 0]) (by kernel_rfl) rfl) rfl rfl rfl (w_n rfl) ?_
 intro B14
 refine TL_store 14 (.cells #[.int .i64 1, .int .i64 2, .slice ar13 ((cutL c2.wd c2.ts 7 0 1 2).length) cr13] 75) rfl (s_st sz75 rfl rfl 14 rfl rfl rfl rfl rfl) rfl rfl (w_n rfl) ?_
 refine TL_v (.int .i64 0) (s_as rfl) rfl rfl ?_
 refine TL_seq ?_
 refine T_seq (T_region ?_)
 refine TL_v (pt c2.p 0) (s_mv rfl) rfl rfl ?_
 refine TL_call (.tuple #[.agg #[.int .i64 0, .int .i64 0, .slice none 0 0], .int .i64 2]) (fun _ _ j _ => r_call (args := [pt c2.p 0, .int .i64 7, .int .i64 0, .int .i64 2, .int .i64 1]) (enters_of Try.func59 (by kernel_rfl) rfl) (j _ _ rfl) ((cons2 (j _ _ rfl) (cons2 (j _ _ rfl) (cons2 (j _ _ rfl) (cons2 (j _ _ rfl) (cons2 (j _ _ rfl) rfl)))))) rfl) (fun w hm => cut_no c2 7 0 2 1 w (hm.cv 960 rfl (List.Mem.head _)) (by rw [hwd_c2, hhg_c2, hwd_c1, hhg_c1]; decide)) rfl rfl rfl (w_n rfl) ?_
 refine TL_v (.tuple #[.agg #[.int .i64 0, .int .i64 0, .slice none 0 0], .int .i64 2]) (s_mv rfl) rfl rfl ?_
 refine TL_v (.agg #[.int .i64 0, .int .i64 0, .slice none 0 0]) (s_ex rfl rfl) rfl rfl ?_
 refine TL_v (.int .i64 2) (s_ex rfl rfl) rfl rfl ?_
 refine TL_new 15 (.cells #[.int .i64 0, .int .i64 0, .slice none 0 0] 75) (fun B => pt B 0) (fun _ _ _ _ => r_alloc (v := .agg #[.int .i64 0, .int .i64 0, .slice none 0 0]) (by kernel_rfl) rfl) rfl rfl rfl (w_n rfl) ?_
 intro B15
 refine TL_store 15 (.cells #[.int .i64 0, .int .i64 0, .slice none 0 0] 75) rfl (s_st sz75 rfl rfl 15 rfl rfl rfl rfl rfl) rfl rfl (w_n rfl) ?_
 refine TL_v (.int .i64 2) (s_as rfl) rfl rfl ?_
 refine TL_seq ?_
 refine T_sub [(0, .bool false), (1, pt B1 0), (2, pt B2 0), (3, pt B3 0), (4, pt B4 0), (5, pt B7 0), (6, .int .i64 0), (7, pt B9 0), (8, .int .i64 0), (9, pt B11 0), (10, .int .i64 0), (11, pt c1.p 0), (12, .int .i64 0), (13, pt c2.p 0), (14, .int .i64 0), (15, pt B14 0), (16, .int .i64 0), (18, .int .i64 2)] [(13, .row (.slice ar13 ((cutL c2.wd c2.ts 7 0 1 2).length) cr13) 37 4 ((cutL c2.wd c2.ts 7 0 1 2).length) ((cutL c2.wd c2.ts 7 0 1 2).flatMap C4.cells)), (960, .cvs [c2, c1]), (10, .row (.slice ar10 ((flpL 2 2 [(⟨1, 0, 0, 255⟩ : C4), (⟨0, 1, 0, 255⟩ : C4), (⟨0, 0, 1, 255⟩ : C4), (⟨0, 0, 0, 255⟩ : C4)]).length) cr10) 37 4 ((flpL 2 2 [(⟨1, 0, 0, 255⟩ : C4), (⟨0, 1, 0, 255⟩ : C4), (⟨0, 0, 1, 255⟩ : C4), (⟨0, 0, 0, 255⟩ : C4)]).length) ((flpL 2 2 [(⟨1, 0, 0, 255⟩ : C4), (⟨0, 1, 0, 255⟩ : C4), (⟨0, 0, 1, 255⟩ : C4), (⟨0, 0, 0, 255⟩ : C4)]).flatMap C4.cells)), (8, .row (.slice ar8 ((quarL 2 2 [(⟨1, 0, 0, 255⟩ : C4), (⟨0, 1, 0, 255⟩ : C4), (⟨0, 0, 1, 255⟩ : C4), (⟨0, 0, 0, 255⟩ : C4)]).length) cr8) 37 4 ((quarL 2 2 [(⟨1, 0, 0, 255⟩ : C4), (⟨0, 1, 0, 255⟩ : C4), (⟨0, 0, 1, 255⟩ : C4), (⟨0, 0, 0, 255⟩ : C4)]).length) ((quarL 2 2 [(⟨1, 0, 0, 255⟩ : C4), (⟨0, 1, 0, 255⟩ : C4), (⟨0, 0, 1, 255⟩ : C4), (⟨0, 0, 0, 255⟩ : C4)]).flatMap C4.cells)), (6, .row (.slice ar6 (([(⟨1, 0, 0, 255⟩ : C4), (⟨0, 1, 0, 255⟩ : C4), (⟨0, 0, 1, 255⟩ : C4), (⟨0, 0, 0, 255⟩ : C4)]).length) cr6) 37 4 (([(⟨1, 0, 0, 255⟩ : C4), (⟨0, 1, 0, 255⟩ : C4), (⟨0, 0, 1, 255⟩ : C4), (⟨0, 0, 0, 255⟩ : C4)]).length) (([(⟨1, 0, 0, 255⟩ : C4), (⟨0, 1, 0, 255⟩ : C4), (⟨0, 0, 1, 255⟩ : C4), (⟨0, 0, 0, 255⟩ : C4)]).flatMap C4.cells)), (1, .blk B1 (.cells #[.int .u8 1, z8, z8, .int .u8 255] 37)), (2, .blk B2 (.cells #[z8, .int .u8 1, z8, .int .u8 255] 37)), (3, .blk B3 (.cells #[z8, z8, .int .u8 1, .int .u8 255] 37)), (4, .blk B4 (.cells #[z8, z8, z8, .int .u8 255] 37)), (5, .blk B5 (.cells #[.int .u8 1, z8, z8, .int .u8 255, z8, .int .u8 1, z8, .int .u8 255, z8, z8, .int .u8 1, .int .u8 255, z8, z8, z8, .int .u8 255] 37)), (7, .blk B7 (.cells #[.int .i64 2, .int .i64 2, .slice ar6 (([(⟨1, 0, 0, 255⟩ : C4), (⟨0, 1, 0, 255⟩ : C4), (⟨0, 0, 1, 255⟩ : C4), (⟨0, 0, 0, 255⟩ : C4)]).length) cr6] 75)), (9, .blk B9 (.cells #[.int .i64 2, .int .i64 2, .slice ar8 ((quarL 2 2 [(⟨1, 0, 0, 255⟩ : C4), (⟨0, 1, 0, 255⟩ : C4), (⟨0, 0, 1, 255⟩ : C4), (⟨0, 0, 0, 255⟩ : C4)]).length) cr8] 75)), (11, .blk B11 (.cells #[.int .i64 2, .int .i64 2, .slice ar10 ((flpL 2 2 [(⟨1, 0, 0, 255⟩ : C4), (⟨0, 1, 0, 255⟩ : C4), (⟨0, 0, 1, 255⟩ : C4), (⟨0, 0, 0, 255⟩ : C4)]).length) cr10] 75)), (12, .blk B12 (.cells #[.int .i64 7, .int .i64 0] 47)), (14, .blk B14 (.cells #[.int .i64 1, .int .i64 2, .slice ar13 ((cutL c2.wd c2.ts 7 0 1 2).length) cr13] 75)), (15, .blk B15 (.cells #[.int .i64 0, .int .i64 0, .slice none 0 0] 75))] (sc4 rfl rfl rfl rfl (sc4 rfl rfl rfl rfl (sc4 rfl rfl rfl rfl (sc4 rfl rfl rfl rfl (sc rfl (sc rfl sub_nil)))))) (sc4 rfl rfl rfl rfl (sc4 rfl rfl rfl rfl (sc4 rfl rfl rfl rfl (sc4 rfl rfl rfl rfl sub_nil)))) ?_
 have f1 : c2.ts = wkT := by rw [hts_c2, hwd_c1, hhg_c1, hts_c1]; rfl
 have f2 : quarL 2 2 [(⟨1, 0, 0, 255⟩ : C4), (⟨0, 1, 0, 255⟩ : C4), (⟨0, 0, 1, 255⟩ : C4), (⟨0, 0, 0, 255⟩ : C4)] = [(⟨0, 0, 1, 255⟩ : C4), (⟨1, 0, 0, 255⟩ : C4), (⟨0, 0, 0, 255⟩ : C4), (⟨0, 1, 0, 255⟩ : C4)] := swk3
 have f3 : flpL 2 2 [(⟨1, 0, 0, 255⟩ : C4), (⟨0, 1, 0, 255⟩ : C4), (⟨0, 0, 1, 255⟩ : C4), (⟨0, 0, 0, 255⟩ : C4)] = [(⟨0, 1, 0, 255⟩ : C4), (⟨1, 0, 0, 255⟩ : C4), (⟨0, 0, 0, 255⟩ : C4), (⟨0, 0, 1, 255⟩ : C4)] := swk4
 have f4 : cutL c2.wd c2.ts 7 0 1 2 = [(⟨1, 0, 0, 255⟩ : C4), (⟨0, 0, 1, 255⟩ : C4)] := by rw [hwd_c2, hwd_c1, f1]; exact swk1
 have f5 : (difC c1.wd c1.hg c1.ts c2.ts).length = 2 := by rw [hwd_c1, hhg_c1, hts_c1, f1]; exact swk2
 have f6 : (((difC c1.wd c1.hg c1.ts c2.ts).length : Nat) : Int) = 2 := by rw [f5]; rfl
 have f7 : ((wearN [(⟨1, 0, 0, 255⟩ : C4), (⟨0, 1, 0, 255⟩ : C4), (⟨0, 0, 1, 255⟩ : C4), (⟨0, 0, 0, 255⟩ : C4)] [(⟨1, 0, 0, 255⟩ : C4), (⟨0, 1, 0, 255⟩ : C4), (⟨0, 0, 1, 255⟩ : C4), (⟨0, 0, 0, 255⟩ : C4)].length : Nat) : Int) = 4 := congrArg Int.ofNat swk5
 refine T_seq (T_region ?_)
 refine TL_v (.int .i64 0) (s_mv rfl) rfl rfl ?_
 refine TL_v (.bool true) (s_op r_eql rfl rfl (by rfl)) rfl rfl ?_
 refine TL_v (.bool true) (s_mv rfl) rfl rfl ?_
 refine TL_q (.int .i64 0) (s_mv rfl) rfl rfl rfl (want_y 66 rfl rfl rfl) ?_
 refine TL_q (.bool true) (s_op r_eql rfl rfl (by rfl)) rfl rfl rfl (want_y 66 rfl rfl rfl) ?_
 refine TL_v (.bool true) (s_pt rfl rfl) rfl rfl ?_
 refine TL_v (.bool true) (s_mv rfl) rfl rfl ?_
 refine TL_q (.int .i64 0) (s_mv rfl) rfl rfl rfl (want_y 70 rfl rfl rfl) ?_
 refine TL_q (.bool true) (s_op r_eql rfl rfl (by rfl)) rfl rfl rfl (want_y 70 rfl rfl rfl) ?_
 refine TL_v (.bool true) (s_pt rfl rfl) rfl rfl ?_
 refine TL_v (.bool true) (s_mv rfl) rfl rfl ?_
 refine TL_q (.int .i64 0) (s_mv rfl) rfl rfl rfl (want_y 74 rfl rfl rfl) ?_
 refine TL_q (.bool true) (s_op r_eql rfl rfl (by rfl)) rfl rfl rfl (want_y 74 rfl rfl rfl) ?_
 refine TL_v (.bool true) (s_pt rfl rfl) rfl rfl ?_
 refine TL_v (.bool true) (s_mv rfl) rfl rfl ?_
 refine TL_q (.int .i64 0) (s_mv rfl) rfl rfl rfl (want_y 78 rfl rfl rfl) ?_
 refine TL_q (.bool true) (s_op r_eql rfl rfl (by rfl)) rfl rfl rfl (want_y 78 rfl rfl rfl) ?_
 refine TL_v (.bool true) (s_pt rfl rfl) rfl rfl ?_
 refine TL_v (.bool true) (s_mv rfl) rfl rfl ?_
 refine TL_q (.int .i64 0) (s_mv rfl) rfl rfl rfl (want_y 82 rfl rfl rfl) ?_
 refine TL_q (.bool true) (s_op r_eql rfl rfl (by rfl)) rfl rfl rfl (want_y 82 rfl rfl rfl) ?_
 refine TL_v (.bool true) (s_pt rfl rfl) rfl rfl ?_
 refine TL_v (.bool true) (s_mv rfl) rfl rfl ?_
 refine TL_q (.int .i64 2) (s_mv rfl) rfl rfl rfl (want_y 86 rfl rfl rfl) ?_
 refine TL_q (.bool true) (s_op r_eql rfl rfl (by rfl)) rfl rfl rfl (want_y 86 rfl rfl rfl) ?_
 refine TL_v (.bool true) (s_pt rfl rfl) rfl rfl ?_
 refine TL_v (.bool true) (s_mv rfl) rfl rfl ?_
 refine TL_q (pt B9 2) (s_fa fl75_2 sz71 rfl) rfl rfl rfl (want_y 90 rfl rfl rfl) ?_
 refine TL_q (.slice ar8 ((quarL 2 2 [(⟨1, 0, 0, 255⟩ : C4), (⟨0, 1, 0, 255⟩ : C4), (⟨0, 0, 1, 255⟩ : C4), (⟨0, 0, 0, 255⟩ : C4)]).length) cr8) (s_ld ag71 rfl 9 rfl rfl) rfl rfl rfl (want_y 90 rfl rfl rfl) ?_
 refine TL_q (.agg #[z8, z8, .int .u8 1, .int .u8 255]) (s_la ag37 sz37 rfl 3 rfl rfl rfl) rfl rfl rfl (want_y 90 rfl rfl rfl) ?_
 refine TL_q (.agg #[.int .u8 1, z8, z8, .int .u8 255]) (s_la ag37 sz37 rfl 1 rfl rfl rfl) rfl rfl rfl (want_y 90 rfl rfl rfl) ?_
 refine TL_q (.agg #[z8, z8, z8, .int .u8 255]) (s_la ag37 sz37 rfl 4 rfl rfl rfl) rfl rfl rfl (want_y 90 rfl rfl rfl) ?_
 refine TL_q (.agg #[z8, .int .u8 1, z8, .int .u8 255]) (s_la ag37 sz37 rfl 2 rfl rfl rfl) rfl rfl rfl (want_y 90 rfl rfl rfl) ?_
 refine TL_new 16 (.cells #[z8, z8, .int .u8 1, .int .u8 255, .int .u8 1, z8, z8, .int .u8 255, z8, z8, z8, .int .u8 255, z8, .int .u8 1, z8, .int .u8 255] 37) (fun B => .slice (some ⟨B, 0, none⟩) 4 4) (fun _ _ j _ => r_buildSlice (vs := [(0, .agg #[z8, z8, .int .u8 1, .int .u8 255]), (1, .agg #[.int .u8 1, z8, z8, .int .u8 255]), (2, .agg #[z8, z8, z8, .int .u8 255]), (3, .agg #[z8, .int .u8 1, z8, .int .u8 255])]) (by kernel_rfl) (cons2 (pair2 (j _ _ rfl)) (cons2 (pair2 (j _ _ rfl)) (cons2 (pair2 (j _ _ rfl)) (cons2 (pair2 (j _ _ rfl)) rfl))))) rfl rfl rfl (want_y 90 rfl rfl rfl) ?_
 intro B16
 refine TL_call (.bool true) (fun _ _ j _ => r_call (args := [.slice ar8 ((quarL 2 2 [(⟨1, 0, 0, 255⟩ : C4), (⟨0, 1, 0, 255⟩ : C4), (⟨0, 0, 1, 255⟩ : C4), (⟨0, 0, 0, 255⟩ : C4)]).length) cr8, .slice (some ⟨B16, 0, none⟩) 4 4]) (enters_of Try.func46 (by kernel_rfl) rfl) (j _ _ rfl) ((cons2 (j _ _ rfl) (cons2 (j _ _ rfl) rfl))) rfl) (fun w hm => (equal_c4 (quarL 2 2 [(⟨1, 0, 0, 255⟩ : C4), (⟨0, 1, 0, 255⟩ : C4), (⟨0, 0, 1, 255⟩ : C4), (⟨0, 0, 0, 255⟩ : C4)]) [(⟨0, 0, 1, 255⟩ : C4), (⟨1, 0, 0, 255⟩ : C4), (⟨0, 0, 0, 255⟩ : C4), (⟨0, 1, 0, 255⟩ : C4)] ar8 (some ⟨B16, 0, none⟩) cr8 4 w (SliceAt.own C4.cells_len (hm.row 8 rfl) rfl rfl) ⟨Nat.le_of_ble_eq_true rfl, (fun e => by cases e), .inr ⟨_, 0, _, _, _, rfl, (hm.at 16 rfl), row_of_take (fun _ => rfl) rfl⟩⟩ (by first | omega | exact Nat.le_of_ble_eq_true rfl) (Nat.le_of_ble_eq_true rfl)).mono fun _ _ h => ⟨h.1.trans (congrArg Ending.returned (bool_as (decide_eq_true f2))), h.2⟩) rfl rfl rfl (want_y 90 rfl rfl rfl) ?_
 refine TL_v (.bool true) (s_pt rfl rfl) rfl rfl ?_
 refine TL_v (.bool true) (s_mv rfl) rfl rfl ?_
 refine TL_q (pt B11 2) (s_fa fl75_2 sz71 rfl) rfl rfl rfl (want_y 100 rfl rfl rfl) ?_
 refine TL_q (.slice ar10 ((flpL 2 2 [(⟨1, 0, 0, 255⟩ : C4), (⟨0, 1, 0, 255⟩ : C4), (⟨0, 0, 1, 255⟩ : C4), (⟨0, 0, 0, 255⟩ : C4)]).length) cr10) (s_ld ag71 rfl 11 rfl rfl) rfl rfl rfl (want_y 100 rfl rfl rfl) ?_
 refine TL_q (.agg #[z8, .int .u8 1, z8, .int .u8 255]) (s_la ag37 sz37 rfl 2 rfl rfl rfl) rfl rfl rfl (want_y 100 rfl rfl rfl) ?_
 refine TL_q (.agg #[.int .u8 1, z8, z8, .int .u8 255]) (s_la ag37 sz37 rfl 1 rfl rfl rfl) rfl rfl rfl (want_y 100 rfl rfl rfl) ?_
 refine TL_q (.agg #[z8, z8, z8, .int .u8 255]) (s_la ag37 sz37 rfl 4 rfl rfl rfl) rfl rfl rfl (want_y 100 rfl rfl rfl) ?_
 refine TL_q (.agg #[z8, z8, .int .u8 1, .int .u8 255]) (s_la ag37 sz37 rfl 3 rfl rfl rfl) rfl rfl rfl (want_y 100 rfl rfl rfl) ?_
 refine TL_new 17 (.cells #[z8, .int .u8 1, z8, .int .u8 255, .int .u8 1, z8, z8, .int .u8 255, z8, z8, z8, .int .u8 255, z8, z8, .int .u8 1, .int .u8 255] 37) (fun B => .slice (some ⟨B, 0, none⟩) 4 4) (fun _ _ j _ => r_buildSlice (vs := [(0, .agg #[z8, .int .u8 1, z8, .int .u8 255]), (1, .agg #[.int .u8 1, z8, z8, .int .u8 255]), (2, .agg #[z8, z8, z8, .int .u8 255]), (3, .agg #[z8, z8, .int .u8 1, .int .u8 255])]) (by kernel_rfl) (cons2 (pair2 (j _ _ rfl)) (cons2 (pair2 (j _ _ rfl)) (cons2 (pair2 (j _ _ rfl)) (cons2 (pair2 (j _ _ rfl)) rfl))))) rfl rfl rfl (want_y 100 rfl rfl rfl) ?_
 intro B17
 refine TL_call (.bool true) (fun _ _ j _ => r_call (args := [.slice ar10 ((flpL 2 2 [(⟨1, 0, 0, 255⟩ : C4), (⟨0, 1, 0, 255⟩ : C4), (⟨0, 0, 1, 255⟩ : C4), (⟨0, 0, 0, 255⟩ : C4)]).length) cr10, .slice (some ⟨B17, 0, none⟩) 4 4]) (enters_of Try.func46 (by kernel_rfl) rfl) (j _ _ rfl) ((cons2 (j _ _ rfl) (cons2 (j _ _ rfl) rfl))) rfl) (fun w hm => (equal_c4 (flpL 2 2 [(⟨1, 0, 0, 255⟩ : C4), (⟨0, 1, 0, 255⟩ : C4), (⟨0, 0, 1, 255⟩ : C4), (⟨0, 0, 0, 255⟩ : C4)]) [(⟨0, 1, 0, 255⟩ : C4), (⟨1, 0, 0, 255⟩ : C4), (⟨0, 0, 0, 255⟩ : C4), (⟨0, 0, 1, 255⟩ : C4)] ar10 (some ⟨B17, 0, none⟩) cr10 4 w (SliceAt.own C4.cells_len (hm.row 10 rfl) rfl rfl) ⟨Nat.le_of_ble_eq_true rfl, (fun e => by cases e), .inr ⟨_, 0, _, _, _, rfl, (hm.at 17 rfl), row_of_take (fun _ => rfl) rfl⟩⟩ (by first | omega | exact Nat.le_of_ble_eq_true rfl) (Nat.le_of_ble_eq_true rfl)).mono fun _ _ h => ⟨h.1.trans (congrArg Ending.returned (bool_as (decide_eq_true f3))), h.2⟩) rfl rfl rfl (want_y 100 rfl rfl rfl) ?_
 refine TL_v (.bool true) (s_pt rfl rfl) rfl rfl ?_
 refine TL_v (.bool true) (s_mv rfl) rfl rfl ?_
 refine TL_q (pt B14 2) (s_fa fl75_2 sz71 rfl) rfl rfl rfl (want_y 110 rfl rfl rfl) ?_
 refine TL_q (.slice ar13 ((cutL c2.wd c2.ts 7 0 1 2).length) cr13) (s_ld ag71 rfl 14 rfl rfl) rfl rfl rfl (want_y 110 rfl rfl rfl) ?_
 refine TL_q (.agg #[.int .u8 1, z8, z8, .int .u8 255]) (s_la ag37 sz37 rfl 1 rfl rfl rfl) rfl rfl rfl (want_y 110 rfl rfl rfl) ?_
 refine TL_q (.agg #[z8, z8, .int .u8 1, .int .u8 255]) (s_la ag37 sz37 rfl 3 rfl rfl rfl) rfl rfl rfl (want_y 110 rfl rfl rfl) ?_
 refine TL_new 18 (.cells #[.int .u8 1, z8, z8, .int .u8 255, z8, z8, .int .u8 1, .int .u8 255] 37) (fun B => .slice (some ⟨B, 0, none⟩) 2 2) (fun _ _ j _ => r_buildSlice (vs := [(0, .agg #[.int .u8 1, z8, z8, .int .u8 255]), (1, .agg #[z8, z8, .int .u8 1, .int .u8 255])]) (by kernel_rfl) (cons2 (pair2 (j _ _ rfl)) (cons2 (pair2 (j _ _ rfl)) rfl))) rfl rfl rfl (want_y 110 rfl rfl rfl) ?_
 intro B18
 refine TL_call (.bool true) (fun _ _ j _ => r_call (args := [.slice ar13 ((cutL c2.wd c2.ts 7 0 1 2).length) cr13, .slice (some ⟨B18, 0, none⟩) 2 2]) (enters_of Try.func46 (by kernel_rfl) rfl) (j _ _ rfl) ((cons2 (j _ _ rfl) (cons2 (j _ _ rfl) rfl))) rfl) (fun w hm => (equal_c4 (cutL c2.wd c2.ts 7 0 1 2) [(⟨1, 0, 0, 255⟩ : C4), (⟨0, 0, 1, 255⟩ : C4)] ar13 (some ⟨B18, 0, none⟩) cr13 2 w (SliceAt.own C4.cells_len (hm.row 13 rfl) rfl rfl) ⟨Nat.le_of_ble_eq_true rfl, (fun e => by cases e), .inr ⟨_, 0, _, _, _, rfl, (hm.at 18 rfl), row_of_take (fun _ => rfl) rfl⟩⟩ (by first | omega | exact Nat.le_of_ble_eq_true rfl) (Nat.le_of_ble_eq_true rfl)).mono fun _ _ h => ⟨h.1.trans (congrArg Ending.returned (bool_as (decide_eq_true f4))), h.2⟩) rfl rfl rfl (want_y 110 rfl rfl rfl) ?_
 refine TL_v (.bool true) (s_pt rfl rfl) rfl rfl ?_
 refine TL_v (.bool true) (s_mv rfl) rfl rfl ?_
 refine TL_q (pt c1.p 0) (s_mv rfl) rfl rfl rfl (want_y 118 rfl rfl rfl) ?_
 refine TL_q (pt c2.p 0) (s_mv rfl) rfl rfl rfl (want_y 118 rfl rfl rfl) ?_
 refine TL_callN (fun (_ : Option Addr × Nat) => True) (fun (ar19, cr19) => .slice ar19 ((difC c1.wd c1.hg c1.ts c2.ts).length) cr19) (fun (ar19, cr19) => [(19, .row (.slice ar19 ((difC c1.wd c1.hg c1.ts c2.ts).length) cr19) 47 2 ((difC c1.wd c1.hg c1.ts c2.ts).length) ((difC c1.wd c1.hg c1.ts c2.ts).flatMap ptn))]) (fun _ _ j _ => r_call (args := [pt c1.p 0, pt c2.p 0]) (enters_of Try.func22 (by kernel_rfl) rfl) (j _ _ rfl) ((cons2 (j _ _ rfl) (cons2 (j _ _ rfl) rfl))) rfl) (fun w hm => (differ_eq c1 c2 w (hm.cv 960 rfl (List.Mem.tail _ (List.Mem.head _))) (hm.cv 960 rfl (List.Mem.head _)) hwd_c2.symm hhg_c2.symm).mono fun e w' ⟨a', cap', he, hb, hr⟩ => ⟨(a', cap'), trivial, he, hb, newOk1 19 hr⟩) rfl rfl rfl (want_y 118 rfl rfl rfl) ?_
 rintro ⟨ar19, cr19⟩ -
 refine TL_q (iN ((difC c1.wd c1.hg c1.ts c2.ts).length)) (fun _ _ j _ => r_len sl44 (j _ _ rfl)) rfl rfl rfl (want_y 118 rfl rfl rfl) ?_
 refine TL_q (.bool true) (s_op r_eql rfl rfl (bool_as (decide_eq_true f6))) rfl rfl rfl (want_y 118 rfl rfl rfl) ?_
 refine TL_v (.bool true) (s_pt rfl rfl) rfl rfl ?_
 refine TL_v (.bool true) (s_mv rfl) rfl rfl ?_
 refine TL_q (.agg #[.int .i64 2, .int .i64 2, .slice ar6 (([(⟨1, 0, 0, 255⟩ : C4), (⟨0, 1, 0, 255⟩ : C4), (⟨0, 0, 1, 255⟩ : C4), (⟨0, 0, 0, 255⟩ : C4)]).length) cr6]) (s_la ag75 sz75 rfl 7 rfl rfl rfl) rfl rfl rfl (want_y 125 rfl rfl rfl) ?_
 refine TL_call (iN (wearN [(⟨1, 0, 0, 255⟩ : C4), (⟨0, 1, 0, 255⟩ : C4), (⟨0, 0, 1, 255⟩ : C4), (⟨0, 0, 0, 255⟩ : C4)] [(⟨1, 0, 0, 255⟩ : C4), (⟨0, 1, 0, 255⟩ : C4), (⟨0, 0, 1, 255⟩ : C4), (⟨0, 0, 0, 255⟩ : C4)].length)) (fun _ _ j _ => r_call (args := [.agg #[.int .i64 2, .int .i64 2, .slice ar6 (([(⟨1, 0, 0, 255⟩ : C4), (⟨0, 1, 0, 255⟩ : C4), (⟨0, 0, 1, 255⟩ : C4), (⟨0, 0, 0, 255⟩ : C4)]).length) cr6]]) (enters_of Try.func52 (by kernel_rfl) rfl) (j _ _ rfl) ((cons2 (j _ _ rfl) rfl)) rfl) (fun w hm => wears_ok 2 2 [(⟨1, 0, 0, 255⟩ : C4), (⟨0, 1, 0, 255⟩ : C4), (⟨0, 0, 1, 255⟩ : C4), (⟨0, 0, 0, 255⟩ : C4)] ar6 cr6 w (SliceAt.own C4.cells_len (hm.row 6 rfl) rfl rfl) (row_cap (hm.row 6 rfl)) (by decide) (by decide) (by decide) (fun c hc => (wkPx_ok c hc).2.2.2.1)) rfl rfl rfl (want_y 125 rfl rfl rfl) ?_
 refine TL_q (.bool true) (s_op r_eql rfl rfl (bool_as (decide_eq_true f7))) rfl rfl rfl (want_y 125 rfl rfl rfl) ?_
 refine TL_v (.bool true) (s_pt rfl rfl) rfl rfl ?_
 refine TL_v (.bool true) (s_as rfl) rfl rfl ?_
 refine TL_seq ?_
 refine T_sub [(0, .bool true)] [(19, .row (.slice ar19 ((difC c1.wd c1.hg c1.ts c2.ts).length) cr19) 47 2 ((difC c1.wd c1.hg c1.ts c2.ts).length) ((difC c1.wd c1.hg c1.ts c2.ts).flatMap ptn)), (13, .row (.slice ar13 ((cutL c2.wd c2.ts 7 0 1 2).length) cr13) 37 4 ((cutL c2.wd c2.ts 7 0 1 2).length) ((cutL c2.wd c2.ts 7 0 1 2).flatMap C4.cells)), (960, .cvs [c2, c1]), (10, .row (.slice ar10 ((flpL 2 2 [(⟨1, 0, 0, 255⟩ : C4), (⟨0, 1, 0, 255⟩ : C4), (⟨0, 0, 1, 255⟩ : C4), (⟨0, 0, 0, 255⟩ : C4)]).length) cr10) 37 4 ((flpL 2 2 [(⟨1, 0, 0, 255⟩ : C4), (⟨0, 1, 0, 255⟩ : C4), (⟨0, 0, 1, 255⟩ : C4), (⟨0, 0, 0, 255⟩ : C4)]).length) ((flpL 2 2 [(⟨1, 0, 0, 255⟩ : C4), (⟨0, 1, 0, 255⟩ : C4), (⟨0, 0, 1, 255⟩ : C4), (⟨0, 0, 0, 255⟩ : C4)]).flatMap C4.cells)), (8, .row (.slice ar8 ((quarL 2 2 [(⟨1, 0, 0, 255⟩ : C4), (⟨0, 1, 0, 255⟩ : C4), (⟨0, 0, 1, 255⟩ : C4), (⟨0, 0, 0, 255⟩ : C4)]).length) cr8) 37 4 ((quarL 2 2 [(⟨1, 0, 0, 255⟩ : C4), (⟨0, 1, 0, 255⟩ : C4), (⟨0, 0, 1, 255⟩ : C4), (⟨0, 0, 0, 255⟩ : C4)]).length) ((quarL 2 2 [(⟨1, 0, 0, 255⟩ : C4), (⟨0, 1, 0, 255⟩ : C4), (⟨0, 0, 1, 255⟩ : C4), (⟨0, 0, 0, 255⟩ : C4)]).flatMap C4.cells)), (6, .row (.slice ar6 (([(⟨1, 0, 0, 255⟩ : C4), (⟨0, 1, 0, 255⟩ : C4), (⟨0, 0, 1, 255⟩ : C4), (⟨0, 0, 0, 255⟩ : C4)]).length) cr6) 37 4 (([(⟨1, 0, 0, 255⟩ : C4), (⟨0, 1, 0, 255⟩ : C4), (⟨0, 0, 1, 255⟩ : C4), (⟨0, 0, 0, 255⟩ : C4)]).length) (([(⟨1, 0, 0, 255⟩ : C4), (⟨0, 1, 0, 255⟩ : C4), (⟨0, 0, 1, 255⟩ : C4), (⟨0, 0, 0, 255⟩ : C4)]).flatMap C4.cells)), (1, .blk B1 (.cells #[.int .u8 1, z8, z8, .int .u8 255] 37)), (2, .blk B2 (.cells #[z8, .int .u8 1, z8, .int .u8 255] 37)), (3, .blk B3 (.cells #[z8, z8, .int .u8 1, .int .u8 255] 37)), (4, .blk B4 (.cells #[z8, z8, z8, .int .u8 255] 37)), (5, .blk B5 (.cells #[.int .u8 1, z8, z8, .int .u8 255, z8, .int .u8 1, z8, .int .u8 255, z8, z8, .int .u8 1, .int .u8 255, z8, z8, z8, .int .u8 255] 37)), (7, .blk B7 (.cells #[.int .i64 2, .int .i64 2, .slice ar6 (([(⟨1, 0, 0, 255⟩ : C4), (⟨0, 1, 0, 255⟩ : C4), (⟨0, 0, 1, 255⟩ : C4), (⟨0, 0, 0, 255⟩ : C4)]).length) cr6] 75)), (9, .blk B9 (.cells #[.int .i64 2, .int .i64 2, .slice ar8 ((quarL 2 2 [(⟨1, 0, 0, 255⟩ : C4), (⟨0, 1, 0, 255⟩ : C4), (⟨0, 0, 1, 255⟩ : C4), (⟨0, 0, 0, 255⟩ : C4)]).length) cr8] 75)), (11, .blk B11 (.cells #[.int .i64 2, .int .i64 2, .slice ar10 ((flpL 2 2 [(⟨1, 0, 0, 255⟩ : C4), (⟨0, 1, 0, 255⟩ : C4), (⟨0, 0, 1, 255⟩ : C4), (⟨0, 0, 0, 255⟩ : C4)]).length) cr10] 75)), (12, .blk B12 (.cells #[.int .i64 7, .int .i64 0] 47)), (14, .blk B14 (.cells #[.int .i64 1, .int .i64 2, .slice ar13 ((cutL c2.wd c2.ts 7 0 1 2).length) cr13] 75)), (15, .blk B15 (.cells #[.int .i64 0, .int .i64 0, .slice none 0 0] 75)), (16, .blk B16 (.cells #[z8, z8, .int .u8 1, .int .u8 255, .int .u8 1, z8, z8, .int .u8 255, z8, z8, z8, .int .u8 255, z8, .int .u8 1, z8, .int .u8 255] 37)), (17, .blk B17 (.cells #[z8, .int .u8 1, z8, .int .u8 255, .int .u8 1, z8, z8, .int .u8 255, z8, z8, z8, .int .u8 255, z8, z8, .int .u8 1, .int .u8 255] 37)), (18, .blk B18 (.cells #[.int .u8 1, z8, z8, .int .u8 255, z8, z8, .int .u8 1, .int .u8 255] 37))] (sc rfl sub_nil) (sc4 rfl rfl rfl rfl (sc4 rfl rfl rfl rfl (sc4 rfl rfl rfl rfl (sc4 rfl rfl rfl rfl (sc4 rfl rfl rfl rfl sub_nil))))) ?_
 refine T_ret' ?_
 refine ret_of rfl (.bool true) (fun tmps w hk hm => res1 rfl (res_tmp (hk 0 _ rfl))) (fun w hm => ?_)
 exact ⟨rfl, hm.ext⟩
end Go.Proofs.Ytbiapeaghbndoaa
/- canvas: the walk of StampMakes. Printed by a program of this seat's prover. -/
namespace Go.Proofs.Ytbiapeaghbndoaa
open Go Go.RowKit
set_option maxRecDepth 10000
theorem srsame_n (x y : Int) (px : List C4) (a : Option Addr) (cap : Nat) (w : World) (hv : SliceAt w a cap 4 C4.cells px) (hcap : cap ≤ Go.maxLen) (x2 y2 : Int) (qx : List C4) (b : Option Addr) (capb : Nat) (hu : SliceAt w b capb 4 C4.cells qx) (hcapb : capb ≤ Go.maxLen) (hpl : px.length ≤ 4611686018427387904) (hql : qx.length ≤ 4611686018427387904) (n : Nat) (hn : px.length = n) (m : Nat) (hm : qx.length = m) : Calls Try.prog 43 #[.agg #[.int .i64 x, .int .i64 y, .slice a n cap], .agg #[.int .i64 x2, .int .i64 y2, .slice b m capb]] w fun e w' => e = .returned (.bool (decide (x = x2 ∧ y = y2 ∧ px = qx))) ∧ Below w.heap.size w w' := by
 subst hn hm
 exact srsame_c x y px a cap w hv hcap x2 y2 qx b capb hu hcapb hpl hql

end Go.Proofs.Ytbiapeaghbndoaa
