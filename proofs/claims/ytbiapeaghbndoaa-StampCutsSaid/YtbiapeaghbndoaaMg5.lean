/- Texts of this seat, merged: part 5. -/
import Derived.Test.YtbiapeaghbndoaaMg4
/- stamp: what is laid, point by point. -/
namespace Go.Proofs.Ytbiapeaghbndoaa
open Go Go.RowKit
theorem ts_ext {wd hg : Nat} {ts us : List T64} (hwd : 1 ≤ wd) (h1 : ts.length = wd * hg) (h2 : us.length = wd * hg) (h : ∀ u v, u < 8 * wd → v < 8 * hg → colAt wd ts u v = colAt wd us u v) : ts = us := by
  refine List.ext_getElem? fun i => ?_
  by_cases hi : i < wd * hg
  · obtain ⟨t, ht⟩ : ∃ t, ts[i]? = some t := ⟨_, List.getElem?_eq_getElem (by omega)⟩
    obtain ⟨u, hu⟩ : ∃ u, us[i]? = some u := ⟨_, List.getElem?_eq_getElem (by omega)⟩
    refine Classical.byContradiction fun e => ?_
    obtain ⟨j, hj, hne⟩ := til_ne (t := t) (u := u) (fun e2 => e (by rw [ht, hu, e2]))
    have ha : i % wd < wd := Nat.mod_lt _ hwd
    have hb : i / wd < hg := (Nat.div_lt_iff_lt_mul hwd).2 (by rw [Nat.mul_comm]; exact hi)
    have hii : i / wd * wd + i % wd = i := by rw [Nat.mul_comm]; exact Nat.div_add_mod i wd
    have h3 := h (8 * (i % wd) + j % 8) (8 * (i / wd) + j / 8) (by omega) (by omega)
    unfold colAt at h3
    have e3 : (8 * (i / wd) + j / 8) / 8 * wd + (8 * (i % wd) + j % 8) / 8 = i := by
      rw [show (8 * (i / wd) + j / 8) / 8 = i / wd by omega, show (8 * (i % wd) + j % 8) / 8 = i % wd by omega]; exact hii
    rw [e3, tileAt_some ht, tileAt_some hu, show 8 * ((8 * (i / wd) + j / 8) % 8) + (8 * (i % wd) + j % 8) % 8 = j by omega] at h3
    exact hne h3
  · rw [List.getElem?_eq_none (by omega), List.getElem?_eq_none (by omega)]
theorem last_aux {u v : Nat} {c : C4} : ∀ (ds : List Dt) (o : Option C4), (∀ d ∈ ds, d.x = (u : Int) → d.y = (v : Int) → d.c = c) → (o = some c ∨ ∃ d ∈ ds, d.x = (u : Int) ∧ d.y = (v : Int)) → ds.foldl (fun o d => if d.x = (u : Int) ∧ d.y = (v : Int) then some d.c else o) o = some c
  | [], o, _, h => by
    rcases h with h | ⟨d, hd, _⟩
    · exact h
    · cases hd
  | d :: ds, o, h1, h2 => by
    rw [List.foldl_cons]
    refine last_aux ds _ (fun e he => h1 e (List.mem_cons_of_mem _ he)) ?_
    by_cases hd : d.x = (u : Int) ∧ d.y = (v : Int)
    · rw [if_pos hd, h1 d List.mem_cons_self hd.1 hd.2]; exact .inl rfl
    · rw [if_neg hd]
      rcases h2 with h2 | ⟨e, he, h3⟩
      · exact .inl h2
      · rcases List.mem_cons.1 he with rfl | he
        · exact absurd h3 hd
        · exact .inr ⟨e, he, h3⟩
theorem last_aux0 {u v : Nat} : ∀ (ds : List Dt), (∀ d ∈ ds, ¬ (d.x = (u : Int) ∧ d.y = (v : Int))) → ∀ o : Option C4, ds.foldl (fun o d => if d.x = (u : Int) ∧ d.y = (v : Int) then some d.c else o) o = o
  | [], _, _ => rfl
  | d :: ds, h, o => by
    rw [List.foldl_cons, if_neg (h d List.mem_cons_self)]
    exact last_aux0 ds (fun e he => h e (List.mem_cons_of_mem _ he)) o
/-- A row of dots that has one colour at a point, or none. -/
theorem putDs_at {wd hg : Nat} {ts : List T64} {u v : Nat} {ds : List Dt} {c : C4} (E : Prop) [Decidable E] (hl : ts.length = wd * hg) (hu : u < 8 * wd) (hv : v < 8 * hg) (h1 : ∀ d ∈ ds, d.x = (u : Int) → d.y = (v : Int) → E ∧ d.c = c) (h2 : E → ∃ d ∈ ds, d.x = (u : Int) ∧ d.y = (v : Int)) :
    colAt wd (putDs wd hg ts ds) u v = if E then c else colAt wd ts u v := by
  have h := colAt_putDs hl hu hv ds ds.length (Nat.le_refl _)
  rw [List.take_length] at h
  rw [h]
  by_cases e : E
  · rw [if_pos e]
    have : lastD ds u v = some c := last_aux ds none (fun d hd a b => (h1 d hd a b).2) (.inr (h2 e))
    rw [this]; rfl
  · rw [if_neg e]
    have : lastD ds u v = none := last_aux0 ds (fun d hd a => e (h1 d hd a.1 a.2).1) none
    rw [this]; rfl
section
variable {wd hg p q : Nat} {ts : List T64} {px : List C4} {X Y : Int}
theorem mem_layD {d : Dt} : d ∈ layD wd hg ts p q px X Y (q * p) ↔ ∃ a b : Nat, a < p ∧ b < q ∧ onC wd hg (X + a) (Y + b) = true ∧ d = ⟨X + a, Y + b, overC (colI wd hg ts (X + a) (Y + b)) (get px (b * p + a))⟩ := by
  unfold layD
  rw [List.take_of_length_le (by rw [ptsG_len]; exact Nat.le_refl _), List.mem_filterMap]
  constructor
  · rintro ⟨x, hx, h⟩
    obtain ⟨i, hi⟩ := List.getElem?_of_mem hx
    obtain ⟨h1, h2, -, -⟩ := ptsG_in hi
    unfold layF at h
    split at h
    · rename_i ho
      cases h
      exact ⟨x.1, x.2, h1, h2, ho, rfl⟩
    · cases h
  · rintro ⟨a, b, h1, h2, ho, rfl⟩
    refine ⟨(a, b), List.mem_of_getElem? (ptsG_at h1 h2), ?_⟩
    unfold layF
    rw [if_pos ho]
/-- Is a point under what is laid? -/
abbrev under (p q : Nat) (X Y : Int) (u v : Nat) : Prop := X ≤ u ∧ Y ≤ v ∧ (u : Int) - p < X ∧ (v : Int) - q < Y
theorem lay_at {u v : Nat} (hl : ts.length = wd * hg) (hu : u < 8 * wd) (hv : v < 8 * hg) :
    colAt wd (putDs wd hg ts (layD wd hg ts p q px X Y (q * p))) u v = if under p q X Y u v then overC (colAt wd ts u v) (get px (((v : Int) - Y).toNat * p + ((u : Int) - X).toNat)) else colAt wd ts u v := by
  refine putDs_at _ hl hu hv (fun d hd h1 h2 => ?_) (fun h => ?_)
  · obtain ⟨a, b, ha, hb, ho, rfl⟩ := mem_layD.1 hd
    dsimp only at h1 h2
    refine ⟨⟨by omega, by omega, by omega, by omega⟩, ?_⟩
    rw [h1, h2, colI_on hu hv, show ((u : Int) - X).toNat = a by omega, show ((v : Int) - Y).toNat = b by omega]
  · obtain ⟨h1, h2, h3, h4⟩ := h
    refine ⟨_, mem_layD.2 ⟨((u : Int) - X).toNat, ((v : Int) - Y).toNat, by omega, by omega, ?_, rfl⟩, by dsimp only; omega, by dsimp only; omega⟩
    exact decide_eq_true ⟨by omega, by omega, by omega, by omega⟩
theorem lay1_len (U : Pt) : (lay1 wd hg p q px ts U).length = ts.length := by unfold lay1; rw [putDs_len]
/-! ### what is clear, what is seen -/
theorem share_clear (a b : Int) : shareI a b 0 = a := by unfold shareI; omega
theorem share_full (a b : Int) : shareI a b 255 = b := by unfold shareI; omega
theorem over_clear {a o : C4} (h : o.a = 0) : overC a o = a := by
  cases a; cases o
  dsimp only at h
  subst h
  simp only [overC, share_clear, Int.zero_add]
theorem over_full {a o : C4} (h : o.a = 255) : overC a o = o := by
  cases a; cases o
  dsimp only at h
  subst h
  simp only [overC, share_full, Int.add_zero]
theorem get_mem {l : List C4} {i : Nat} (h : i < l.length) : get l i ∈ l := by
  unfold get
  rw [List.getD_eq_getElem?_getD, List.getElem?_eq_getElem h]
  exact List.getElem_mem h
theorem lay_clear (hwd : 1 ≤ wd) (hl : ts.length = wd * hg) (U : Pt) (hp : px.length = p * q) (hc : ∀ c ∈ px, c.a = 0) : lay1 wd hg p q px ts U = ts :=
  ts_ext hwd (by rw [lay1_len, hl]) hl fun u v hu hv => by
    unfold lay1
    rw [lay_at hl hu hv]
    split
    · rename_i h
      have := in_px (W := p) (H := q) (x := ((u : Int) - U.x).toNat) (y := ((v : Int) - U.y).toNat) (by omega) (by omega)
      exact over_clear (hc _ (get_mem (by omega)))
    · rfl
theorem cut_lay (hl : ts.length = wd * hg) {x y : Nat} (hp : px.length = p * q) (hx : x + p ≤ 8 * wd) (hy : y + q ≤ 8 * hg) (hc : ∀ c ∈ px, c.a = 255) : cutL wd (lay1 wd hg p q px ts ⟨x, y⟩) x y p q = px := by
  refine List.ext_getElem (by simp [cutL, hp]) fun i h1 h2 => ?_
  have hi : i < p * q := by omega
  obtain ⟨k1, k2, k3⟩ := dm hi
  unfold cutL at h1 ⊢
  rw [List.getElem_map, List.getElem_range]
  unfold cutI lay1
  generalize hb : i / p = b at *
  generalize ha : i % p = a at *
  rw [lay_at hl (by omega) (by omega), if_pos ⟨by dsimp only; omega, by dsimp only; omega, by dsimp only; omega, by dsimp only; omega⟩]
  dsimp only
  rw [show ((((y + b : Nat) : Int)) - (y : Int)).toNat = b by omega, show ((((x + a : Nat) : Int)) - (x : Int)).toNat = a by omega, k3]
  have hg : get px i = px[i] := get_of (List.getElem?_eq_getElem h2)
  rw [over_full (hc _ (get_mem h2)), hg]
theorem ptsC_nodup (wd hg : Nat) : (ptsC wd hg).Nodup := by
  unfold ptsC
  refine List.pairwise_map.2 (List.nodup_range.imp fun {a b} hab e => hab ?_)
  have e1 := congrArg Prod.fst e
  have e2 := congrArg Prod.snd e
  dsimp only at e1 e2
  rw [← Nat.div_add_mod a (8 * wd), ← Nat.div_add_mod b (8 * wd), e1, e2]
/-- Where something differs behind what was laid. -/
theorem dif_lay {us : List T64} (hl : ts.length = wd * hg) {U : Pt} (hus : us = lay1 wd hg p q px ts U) : ∀ c ∈ difC wd hg ts us, under p q U.x U.y c.1 c.2 ∧ c.1 < 8 * wd ∧ c.2 < 8 * hg := fun c hc => by
  obtain ⟨i, hi⟩ := List.getElem?_of_mem hc
  unfold difC at hc
  rw [List.mem_filter] at hc
  obtain ⟨h1, h2⟩ := hc
  obtain ⟨j, hj⟩ := List.getElem?_of_mem h1
  have h3 := ptsC_in hj
  refine ⟨?_, h3.1, h3.2⟩
  have h4 := of_decide_eq_true h2
  rw [hus] at h4
  unfold lay1 at h4
  rw [lay_at hl h3.1 h3.2] at h4
  refine Classical.byContradiction fun e => h4 ?_
  rw [if_neg e]
theorem dif_count {us : List T64} (hl : ts.length = wd * hg) {U : Pt} (hus : us = lay1 wd hg p q px ts U) {k : List Nat} (hk : k.Nodup) (hk2 : ∀ i ∈ k, i < p * q) (hno : ∀ i ∈ k, ∀ c ∈ difC wd hg ts us, ((c.2 : Int) - U.y).toNat * p + ((c.1 : Int) - U.x).toNat ≠ i) : (difC wd hg ts us).length + k.length ≤ p * q := by
  have hd := dif_lay (p := p) (q := q) hl hus
  have hn : (difC wd hg ts us).Nodup := by
    unfold difC
    exact (ptsC_nodup wd hg).filter _
  have h1 := nodup_le (p * q) ((difC wd hg ts us).map (fun c => ((c.2 : Int) - U.y).toNat * p + ((c.1 : Int) - U.x).toNat) ++ k) (List.nodup_append.2 ⟨?_, hk, fun a ha b hb e => ?_⟩) (fun x hx => ?_)
  · rw [List.length_append, List.length_map] at h1; exact h1
  · refine List.pairwise_map.2 (hn.imp_of_mem fun {a b} ha hb hab e => hab ?_)
    have ha' := (hd a ha).1
    have hb' := (hd b hb).1
    obtain ⟨e2, e3⟩ := idx_inj (by omega) (by omega) e
    exact Prod.ext (by omega) (by omega)
  · obtain ⟨c, hc, rfl⟩ := List.mem_map.1 ha
    exact hno b hb c hc e
  · rcases List.mem_append.1 hx with h2 | h2
    · obtain ⟨c, hc, rfl⟩ := List.mem_map.1 h2
      have := (hd c hc).1
      exact in_px (W := p) (H := q) (by omega) (by omega)
    · exact hk2 x h2
theorem dif_le_all {us : List T64} (hl : ts.length = wd * hg) {U : Pt} (hus : us = lay1 wd hg p q px ts U) : (difC wd hg ts us).length ≤ p * q := by
  have := dif_count (p := p) (q := q) (k := []) hl hus List.nodup_nil (fun _ h => nomatch h) (fun _ h => nomatch h)
  simpa using this
theorem dif_lt {us : List T64} (hl : ts.length = wd * hg) {U : Pt} (hus : us = lay1 wd hg p q px ts U) (hp : 1 ≤ p) (hq : 1 ≤ q) (hno : ¬ (0 ≤ U.x ∧ 0 ≤ U.y ∧ U.x ≤ ((8 * wd : Nat) : Int) - p ∧ U.y ≤ ((8 * hg : Nat) : Int) - q)) : (difC wd hg ts us).length < p * q := by
  have hd := dif_lay (p := p) (q := q) hl hus
  have h0 : 0 < p * q := Nat.mul_pos hp hq
  by_cases h : U.x < 0 ∨ U.y < 0
  · have := dif_count (p := p) (q := q) (k := [0]) hl hus (List.nodup_cons.2 ⟨(fun h => nomatch h), List.nodup_nil⟩) (fun i hi => by rw [List.mem_singleton.1 hi]; exact h0) (fun i hi c hc e => by
      rw [List.mem_singleton.1 hi] at e
      have hu := (hd c hc).1
      obtain ⟨e2, e3⟩ := idx_inj (w := p) (c := 0) (d := 0) (by omega) (by omega) (e.trans (by omega))
      omega)
    simp only [List.length_singleton] at this
    omega
  · have hi := in_px (W := p) (H := q) (x := p - 1) (y := q - 1) (by omega) (by omega)
    have := dif_count (p := p) (q := q) (k := [(q - 1) * p + (p - 1)]) hl hus (List.nodup_cons.2 ⟨(fun h => nomatch h), List.nodup_nil⟩) (fun i hi2 => by rw [List.mem_singleton.1 hi2]; exact hi) (fun i hi2 c hc e => by
      rw [List.mem_singleton.1 hi2] at e
      have hu := hd c hc
      obtain ⟨e2, e3⟩ := idx_inj (w := p) (by omega) (by omega) e
      omega)
    simp only [List.length_singleton] at this
    omega
end
end Go.Proofs.Ytbiapeaghbndoaa
/- Arguments that are slices of what lies in memory (slices of slices ..), read. Over any program. -/
namespace Go.Proofs.Ytbiapeaghbndoaa
open Go Go.RowKit Go.ChangeShapes Go.WideShapes Go.Deep
/-- Cells that are read at this type, in this memory, are those of some x. -/
def RdsAt (P : Program) (w : World) (t : TypeId) {α : Type} (f : α → List Value) (ok : α → Prop) : Prop :=
  ∀ (H : Type) (enc : TypeId × Value → H) (base : Nat) (spare : Nat → Bool) (held : Bool) (fuel : Nat) (cs : List Value) (x : DataW H × List MemPlace), DataW.trod enc P w base spare held fuel t cs = some x → ∃ a, cs = f a ∧ ok a
theorem Rds.at {P : Program} {t : TypeId} {α : Type} {f : α → List Value} {ok : α → Prop} (h : Rds P t f ok) (w : World) : RdsAt P w t f ok := fun H enc base spare held fuel cs x hx => h H enc w base spare held fuel cs x hx
theorem RdsAt.mapIf {P : Program} {w : World} {t : TypeId} {α β : Type} {f : α → List Value} {ok : α → Prop} (h : RdsAt P w t f ok) (g : α → β) {f' : β → List Value} {ok' : β → Prop} (hf : ∀ a, ok a → f a = f' (g a)) (ho : ∀ a, ok a → ok' (g a)) : RdsAt P w t f' ok' := by
  intro H enc base spare held fuel cs x hx
  obtain ⟨a, h1, h2⟩ := h H enc base spare held fuel cs x hx
  exact ⟨g a, by rw [h1, hf a h2], ho a h2⟩
/-- A slice that came in. -/
theorem read_sliceW {P : Program} {t e : TypeId} {s : Nat} {α : Type} {f : α → List Value} {ok : α → Prop} (ht : sliOf P t = some e) (hs : szOf P e = some s) (hf : ∀ x, (f x).length = s) (hsp : 0 < s) {w : World} (h : RdsAt P w e f ok)
    {H : Type} {enc : TypeId × Value → H} {base : Nat} {spare : Nat → Bool} {held : Bool} {fuel : Nat} {cs : List Value} {x : DataW H × List MemPlace} (hx : DataW.trod enc P w base spare held fuel t cs = some x) :
    ∃ (l : List α) (a : Option Addr) (cap : Nat), cs = [.slice a l.length cap] ∧ SliceAt w a cap s f l ∧ (∀ x ∈ l, ok x) ∧ cap ≤ Go.maxLen := by
  rcases open_slice (und_sli ht) hx with ⟨rfl, _⟩ | ⟨a, len, cap, m, n, D, Pl, rfl, hb, hl, hm, hmm, _, hi⟩
  · exact ⟨[], none, 0, rfl, sliceNil w, (fun x hx => by cases hx), by unfold Go.maxLen; omega⟩
  · have hlm : len ≤ m := by rw [hmm]; split <;> omega
    rw [cellsOf_sz hs] at hi
    by_cases h0 : len = 0
    · subst h0
      exact ⟨[], some a, cap, rfl, ⟨by simp, (fun e => by cases e), .inl rfl⟩, (fun x hx => by cases hx), hm⟩
    · obtain ⟨l, h1, h2⟩ := list_of (p := fun i y => (∀ j, j < s → w.cell? ((a.add (i * s)).add j) = (f y)[j]?) ∧ ok y) len (fun i hil => by
        obtain ⟨cs', hc, ht'⟩ := hi i (by omega)
        obtain ⟨y, hy, oy⟩ := h _ enc base spare held n _ _ ht'
        obtain ⟨_, _, hcell⟩ := World.cells?_some hc
        exact ⟨y, fun j hj => by rw [hcell j hj, hy], oy⟩)
      have hl0 : l[0]? = some (l[0]'(by omega)) := List.getElem?_eq_getElem (by omega)
      have hc0 := (h2 0 _ hl0).1 0 hsp
      rw [List.getElem?_eq_getElem (by rw [hf]; exact hsp)] at hc0
      simp only [Nat.zero_mul, Addr.add, if_true] at hc0
      obtain ⟨b, off, sp⟩ := a
      unfold World.cell? at hc0
      split at hc0
      · rename_i c T fz hheap
        split at hc0
        · cases hc0
        · rename_i hspot
          have hsp0 : sp = none := by simpa using hspot
          subst hsp0
          subst h1
          refine ⟨l, some ⟨b, off, none⟩, cap, rfl, ⟨hl, (fun e => by cases e), .inr ⟨b, off, c, T, fz, rfl, hheap, ?_⟩⟩, fun x hx => by obtain ⟨i, hi⟩ := List.getElem?_of_mem hx; exact (h2 i x hi).2, hm⟩
          intro i y hy
          have hcells : ∀ j, j < s → c[off + i * s + j]? = (f y)[j]? := fun j hj => by
            have := (h2 i y hy).1 j hj
            rw [addr_add, addr_add] at this
            simpa [World.cell?, hheap] using this
          have hsz : off + i * s + s ≤ c.size := by
            have := hcells (s - 1) (by omega)
            rw [List.getElem?_eq_getElem (by rw [hf]; omega)] at this
            have := (Array.getElem?_eq_some_iff.1 this).1
            omega
          refine ⟨hsz, ?_⟩
          apply Array.ext_getElem?
          intro j
          rw [Array.getElem?_extract]
          by_cases hj : j < s
          · rw [if_pos (by omega), hcells j hj]; simp
          · rw [if_neg (by omega)]
            rw [Array.getElem?_eq_none]
            simp [hf]; omega
      · cases hc0
theorem rds_slice {P : Program} {w : World} {t e : TypeId} {s : Nat} {α : Type} {f : α → List Value} {ok : α → Prop} (ht : sliOf P t = some e) (hs : szOf P e = some s) (hf : ∀ x, (f x).length = s) (hsp : 0 < s) (h : RdsAt P w e f ok) :
    RdsAt P w t (RowG.cells (α := α)) (fun r => r.ok s f w ∧ (∀ x ∈ r.l, ok x) ∧ r.cap ≤ Go.maxLen) := by
  intro H enc base spare held fuel cs x hx
  obtain ⟨l, a, cap, h1, h2, h3, h4⟩ := read_sliceW ht hs hf hsp h hx
  exact ⟨⟨a, cap, l⟩, h1, h2, h3, h4⟩
section
variable {P : Program} {w : World} {r : Reach} {b0 : Nat} {t : TypeId} {v : Value} {H : Type} {enc : TypeId × Value → H} {base : Nat} {spare : Nat → Bool} {held : Bool} {d : DataW H} {ps : List MemPlace}
/-- A parameter of cells. -/
theorem param_aggW {α : Type} {f : α → List Value} {ok : α → Prop} (ha : aggOf P t = some true) (hr : RdsAt P w t f ok) (hv : Value.okWide P w r b0 t v) (h : DataW.Trod enc P w base spare held t v d ps) : ∃ x, v = .agg (f x).toArray ∧ ok x := by
  obtain ⟨fuel, hf⟩ := h
  obtain ⟨x, hx, ox⟩ := hr _ enc base spare held fuel _ _ hf
  simp only [aggOf, Option.map_eq_some_iff] at ha
  obtain ⟨dd, hd, he⟩ := ha
  have : ∃ cs, v = .agg cs := by
    unfold Value.okWide at hv
    rw [hd] at hv
    cases dd <;> first | (cases he; done) | (obtain ⟨cs, h1, _⟩ := hv; exact ⟨cs, h1⟩)
  obtain ⟨cs, rfl⟩ := this
  exact ⟨x, by rw [← hx]; rfl, ox⟩
end
end Go.Proofs.Ytbiapeaghbndoaa
/- Arguments that are structs whose parts lie in memory, read. Over any program. -/
namespace Go.Proofs.Ytbiapeaghbndoaa
open Go Go.RowKit Go.ChangeShapes Go.WideShapes Go.Deep
section
variable {P : Program} {w : World} {t : TypeId}
theorem rdsA_field {i off n : Nat} {ft : TypeId} {α : Type} {f : α → List Value} {ok : α → Prop} (hfl : fldOf P t i = some (ft, off)) (hs : szOf P ft = some n) (h : RdsAt P w ft f ok)
    {H : Type} {enc : TypeId × Value → H} {base : Nat} {spare : Nat → Bool} {held : Bool} {fuel : Nat} {cs : List Value} {x : DataW H × List MemPlace} (hx : DataW.trod enc P w base spare held fuel t cs = some x) :
    ∃ a, (cs.drop off).take n = f a ∧ ok a := by
  obtain ⟨fs, hu, fl, hfi, rfl, rfl⟩ := und_fld hfl
  obtain ⟨xs, m, _, _, _, hlen, hg⟩ := DataW.trod_struct hu hx
  have hi := hg i fl hfi
  have hil : i < fs.size := (Array.getElem?_eq_some_iff.1 hfi).1
  rw [cellsOf_sz hs, List.getElem?_eq_getElem (by omega)] at hi
  exact h _ enc base spare held m _ _ hi
theorem cut1 {α : Type} {cs : List α} {a b : Nat} (h : cs.length = a + b) : cs = cs.take a ++ (cs.drop a).take b := by
  rw [List.take_of_length_le (l := cs.drop a) (by rw [List.length_drop]; omega), List.take_append_drop]
theorem rdsA2 {t0 t1 : TypeId} {s0 s1 : Nat} {α β : Type} {f0 : α → List Value} {f1 : β → List Value} {o0 : α → Prop} {o1 : β → Prop} (h0 : fldOf P t 0 = some (t0, 0)) (h1 : fldOf P t 1 = some (t1, s0)) (z0 : szOf P t0 = some s0) (z1 : szOf P t1 = some s1)
    (z : szOf P t = some (s0 + s1)) (r0 : RdsAt P w t0 f0 o0) (r1 : RdsAt P w t1 f1 o1) : RdsAt P w t (fun p : α × β => f0 p.1 ++ f1 p.2) (fun p => o0 p.1 ∧ o1 p.2) := by
  intro H enc base spare held fuel cs x hx
  obtain ⟨a, ha, oa⟩ := rdsA_field h0 z0 r0 hx
  obtain ⟨b, hb, ob⟩ := rdsA_field h1 z1 r1 hx
  have hl := rds_len h0 z hx
  refine ⟨(a, b), ?_, oa, ob⟩
  show cs = f0 a ++ f1 b
  rw [← ha, ← hb, List.drop_zero]
  exact cut1 hl
theorem rdsA3 {t0 t1 t2 : TypeId} {s0 s1 s2 : Nat} {α β γ : Type} {f0 : α → List Value} {f1 : β → List Value} {f2 : γ → List Value} {o0 : α → Prop} {o1 : β → Prop} {o2 : γ → Prop} (h0 : fldOf P t 0 = some (t0, 0)) (h1 : fldOf P t 1 = some (t1, s0)) (h2 : fldOf P t 2 = some (t2, s0 + s1)) (z0 : szOf P t0 = some s0) (z1 : szOf P t1 = some s1) (z2 : szOf P t2 = some s2)
    (z : szOf P t = some (s0 + s1 + s2)) (r0 : RdsAt P w t0 f0 o0) (r1 : RdsAt P w t1 f1 o1) (r2 : RdsAt P w t2 f2 o2) : RdsAt P w t (fun p : α × β × γ => f0 p.1 ++ (f1 p.2.1 ++ f2 p.2.2)) (fun p => o0 p.1 ∧ o1 p.2.1 ∧ o2 p.2.2) := by
  intro H enc base spare held fuel cs x hx
  obtain ⟨a, ha, oa⟩ := rdsA_field h0 z0 r0 hx
  obtain ⟨b, hb, ob⟩ := rdsA_field h1 z1 r1 hx
  obtain ⟨c, hc, oc⟩ := rdsA_field h2 z2 r2 hx
  have hl := rds_len h0 z hx
  refine ⟨(a, b, c), ?_, oa, ob, oc⟩
  show cs = f0 a ++ (f1 b ++ f2 c)
  rw [← ha, ← hb, ← hc, List.drop_zero, ← List.drop_drop]
  rw [← cut1 (cs := cs.drop s0) (by rw [List.length_drop]; omega), List.take_append_drop]
end
end Go.Proofs.Ytbiapeaghbndoaa
/- canvas: arguments of the laws, read. -/
namespace Go.Proofs.Ytbiapeaghbndoaa
open Go Go.RowKit Go.ChangeShapes Go.WideShapes
def T64.of (l : List C4) : T64 := if h : l.length = 64 then ⟨l, h⟩ else zeroT
theorem T64.of_l {l : List C4} (h : l.length = 64) : (T64.of l).l = l := by unfold T64.of; rw [dif_pos h]
def inI (n : Int) : Prop := -9223372036854775808 ≤ n ∧ n ≤ 9223372036854775807
theorem rds_pt (w : World) : RdsAt Try.prog w 47 Pt.cells (fun p => inI p.x ∧ inI p.y) :=
  RdsAt.mapIf (rdsA2 fl47_0 fl47_1 sz3 sz3 sz47 ((rds_int io3).at w) ((rds_int io3).at w)) (fun p => ⟨p.1, p.2⟩) (fun _ _ => rfl) (fun _ h => ⟨wf_i64 h.1, wf_i64 h.2⟩)
/-- A canvas that is handed in. -/
structure Pic where
  x : Int
  y : Int
  r : RowG T64
abbrev Pic.cells (p : Pic) : List Value := [.int .i64 p.x, .int .i64 p.y, .slice p.r.a p.r.l.length p.r.cap]
def Pic.ok (w : World) (p : Pic) : Prop := inI p.x ∧ inI p.y ∧ p.r.ok 256 T64.cells w ∧ p.r.cap ≤ Go.maxLen
end Go.Proofs.Ytbiapeaghbndoaa
/- stamp: turned four times, flipped twice. -/
namespace Go.Proofs.Ytbiapeaghbndoaa
open Go Go.RowKit
section
variable {p q : Nat} {px : List C4}
theorem turn_one (p q : Nat) (px : List C4) : turnS (q4 1) p q px = turnS 1 p q px := by
  rw [show q4 1 = 1 from by decide]
end
theorem wear_none {l : List C4} (h : ∀ c ∈ l, c.a = 0) (k : Nat) : wearN l k = 0 := by
  unfold wearN
  rw [List.length_eq_zero_iff, List.filter_eq_nil_iff]
  intro c hc
  have := h c (List.mem_of_mem_take hc)
  simp [this]
theorem wear_all {l : List C4} (h : ∀ c ∈ l, c.a = 255) : wearN l l.length = l.length := by
  unfold wearN
  rw [List.take_length, List.filter_eq_self.2 (fun c hc => by have := h c hc; simp [this])]
theorem px64 {p q n : Nat} (hp : 1 ≤ p ∧ p ≤ 8) (hq : 1 ≤ q ∧ q ≤ 8) (h : n = p * q) : n ≤ 64 := by rw [h]; exact (size8 hp hq).2
theorem px64b {p q n : Nat} (hp : 1 ≤ p ∧ p ≤ 8) (hq : 1 ≤ q ∧ q ≤ 8) (h : n = p * q) : n ≤ 4611686018427387904 := Nat.le_trans (px64 hp hq h) (Nat.le_of_ble_eq_true rfl)
end Go.Proofs.Ytbiapeaghbndoaa
/- canvas: wakes. Printed by a program of this seat's prover. -/
namespace Go.Proofs.Ytbiapeaghbndoaa
open Go Go.RowKit
set_option maxRecDepth 10000
abbrev wkPx : List C4 := [(⟨1, 0, 0, 255⟩ : C4), (⟨0, 1, 0, 255⟩ : C4), (⟨0, 0, 1, 255⟩ : C4), (⟨0, 0, 0, 255⟩ : C4)]
theorem wkPx_ok : ∀ c ∈ wkPx, c.ok := by unfold C4.ok ok8; decide
theorem zeroTs_ok (n : Nat) : TsOk (List.replicate n zeroT) := fun t ht c hc => by
  rw [List.eq_of_mem_replicate ht] at hc
  rw [List.eq_of_mem_replicate (show c ∈ List.replicate 64 zeroC from hc)]; exact zeroC_ok
def wkT : List T64 := layN 1 1 2 2 wkPx (List.replicate (1 * 1) zeroT) [(⟨7, 0⟩ : Pt)]
theorem swk1 : cutL 1 wkT 7 0 1 2 = [(⟨1, 0, 0, 255⟩ : C4), (⟨0, 0, 1, 255⟩ : C4)] := by decide +kernel
theorem swk2 : (difC 1 1 (List.replicate (1 * 1) zeroT) wkT).length = 2 := by decide +kernel
theorem swk3 : quarL 2 2 wkPx = [(⟨0, 0, 1, 255⟩ : C4), (⟨1, 0, 0, 255⟩ : C4), (⟨0, 0, 0, 255⟩ : C4), (⟨0, 1, 0, 255⟩ : C4)] := by decide +kernel
theorem swk4 : flpL 2 2 wkPx = [(⟨0, 1, 0, 255⟩ : C4), (⟨1, 0, 0, 255⟩ : C4), (⟨0, 0, 0, 255⟩ : C4), (⟨0, 0, 1, 255⟩ : C4)] := by decide +kernel
theorem swk5 : wearN wkPx 4 = 4 := by decide +kernel
theorem turn_q (p q : Nat) (px : List C4) (a : Option Addr) (cap : Nat) (w : World) (hv : SliceAt w a cap 4 C4.cells px) (hcap : cap ≤ Go.maxLen) (hp : 1 ≤ p ∧ p ≤ 8) (hq : 1 ≤ q ∧ q ≤ 8) (hlen : px.length = p * q) : Calls Try.prog 48 #[.agg #[.int .i64 (p : Int), .int .i64 (q : Int), .slice a px.length cap], .int .i64 1] w fun e w' => ∃ a' cap', e = .returned (.tuple #[.agg #[.int .i64 (q : Int), .int .i64 (p : Int), .slice a' (quarL p q px).length cap'], .int .i64 0]) ∧ Below w.heap.size w w' ∧ w'.ownsRow w.heap.size 37 4 (.slice a' (quarL p q px).length cap') (quarL p q px).length ((quarL p q px).flatMap C4.cells) := by
  have h := turn_ok p q 1 px a cap w hv hcap hp hq hlen
  rw [turn_one] at h
  exact h

set_option maxHeartbeats 2000000 in
theorem swakes_c (w : World) : Calls Try.prog 39 #[] w fun e w' => e = .returned (.bool true) ∧ Below w.heap.size w w' := by
  refine calls_of_T (l := []) 130 Try.func39 rfl rfl rfl ?_
  show T _ _ _ [] []
  refine T_seq (T_region ?_)
  refine TL_q (.bool false) (fun _ _ hρ _ => r_assign (hρ _ _ rfl)) rfl rfl rfl (w_n rfl) ?_
  refine TL_seq ?_
  refine T_mem (_ :: _) (fun _ hm => hm.cvs0 960) ?_
  refine T_seq (T_region ?_)
  refine TL_q (.agg #[.int .u8 1, .int .u8 0, .int .u8 0, .int .u8 255]) (fun _ _ hρ _ => r_build (vs := [(0, .int .u8 1), (3, .int .u8 255)]) (by kernel_rfl) (cons2 (pair2 (hρ _ _ rfl)) (cons2 (pair2 (hρ _ _ rfl)) rfl))) rfl rfl rfl (w_n rfl) ?_
  refine TL_q (.agg #[.int .u8 0, .int .u8 1, .int .u8 0, .int .u8 255]) (fun _ _ hρ _ => r_build (vs := [(1, .int .u8 1), (3, .int .u8 255)]) (by kernel_rfl) (cons2 (pair2 (hρ _ _ rfl)) (cons2 (pair2 (hρ _ _ rfl)) rfl))) rfl rfl rfl (w_n rfl) ?_
  refine TL_q (.agg #[.int .u8 0, .int .u8 0, .int .u8 1, .int .u8 255]) (fun _ _ hρ _ => r_build (vs := [(2, .int .u8 1), (3, .int .u8 255)]) (by kernel_rfl) (cons2 (pair2 (hρ _ _ rfl)) (cons2 (pair2 (hρ _ _ rfl)) rfl))) rfl rfl rfl (w_n rfl) ?_
  refine TL_q (.agg #[.int .u8 0, .int .u8 0, .int .u8 0, .int .u8 255]) (fun _ _ hρ _ => r_build (vs := [(3, .int .u8 255)]) (by kernel_rfl) (cons2 (pair2 (hρ _ _ rfl)) rfl)) rfl rfl rfl (w_n rfl) ?_
  refine TL_new 1 (.cells #[.int .u8 0, .int .u8 0, .int .u8 0, .int .u8 0] 37) (fun B => .pointer (some ⟨B, 0, none⟩)) (fun _ _ _ _ => r_alloc (v := .agg #[.int .u8 0, .int .u8 0, .int .u8 0, .int .u8 0]) (by kernel_rfl) rfl) rfl rfl rfl (w_n rfl) ?_
  intro B1
  refine TL_new 2 (.cells #[.int .u8 0, .int .u8 0, .int .u8 0, .int .u8 0] 37) (fun B => .pointer (some ⟨B, 0, none⟩)) (fun _ _ _ _ => r_alloc (v := .agg #[.int .u8 0, .int .u8 0, .int .u8 0, .int .u8 0]) (by kernel_rfl) rfl) rfl rfl rfl (w_n rfl) ?_
  intro B2
  refine TL_new 3 (.cells #[.int .u8 0, .int .u8 0, .int .u8 0, .int .u8 0] 37) (fun B => .pointer (some ⟨B, 0, none⟩)) (fun _ _ _ _ => r_alloc (v := .agg #[.int .u8 0, .int .u8 0, .int .u8 0, .int .u8 0]) (by kernel_rfl) rfl) rfl rfl rfl (w_n rfl) ?_
  intro B3
  refine TL_new 4 (.cells #[.int .u8 0, .int .u8 0, .int .u8 0, .int .u8 0] 37) (fun B => .pointer (some ⟨B, 0, none⟩)) (fun _ _ _ _ => r_alloc (v := .agg #[.int .u8 0, .int .u8 0, .int .u8 0, .int .u8 0]) (by kernel_rfl) rfl) rfl rfl rfl (w_n rfl) ?_
  intro B4
  refine TL_store 1 (.cells #[.int .u8 1, .int .u8 0, .int .u8 0, .int .u8 255] 37) rfl (fun _ _ hρ hm => r_store sz37 (hρ _ _ rfl) (hρ _ _ rfl) (hm.at 1 rfl) rfl rfl rfl rfl) rfl rfl (w_n rfl) ?_
  refine TL_store 2 (.cells #[.int .u8 0, .int .u8 1, .int .u8 0, .int .u8 255] 37) rfl (fun _ _ hρ hm => r_store sz37 (hρ _ _ rfl) (hρ _ _ rfl) (hm.at 2 rfl) rfl rfl rfl rfl) rfl rfl (w_n rfl) ?_
  refine TL_store 3 (.cells #[.int .u8 0, .int .u8 0, .int .u8 1, .int .u8 255] 37) rfl (fun _ _ hρ hm => r_store sz37 (hρ _ _ rfl) (hρ _ _ rfl) (hm.at 3 rfl) rfl rfl rfl rfl) rfl rfl (w_n rfl) ?_
  refine TL_store 4 (.cells #[.int .u8 0, .int .u8 0, .int .u8 0, .int .u8 255] 37) rfl (fun _ _ hρ hm => r_store sz37 (hρ _ _ rfl) (hρ _ _ rfl) (hm.at 4 rfl) rfl rfl rfl rfl) rfl rfl (w_n rfl) ?_
  refine TL_seq ?_
  refine T_seq (T_region ?_)
  refine TL_q (.agg #[.int .u8 1, .int .u8 0, .int .u8 0, .int .u8 255]) (fun _ _ hρ hm => r_loadA ag37 sz37 (hρ _ _ rfl) (hm.at 1 rfl) rfl rfl) rfl rfl rfl (w_n rfl) ?_
  refine TL_q (.agg #[.int .u8 0, .int .u8 1, .int .u8 0, .int .u8 255]) (fun _ _ hρ hm => r_loadA ag37 sz37 (hρ _ _ rfl) (hm.at 2 rfl) rfl rfl) rfl rfl rfl (w_n rfl) ?_
  refine TL_q (.agg #[.int .u8 0, .int .u8 0, .int .u8 1, .int .u8 255]) (fun _ _ hρ hm => r_loadA ag37 sz37 (hρ _ _ rfl) (hm.at 3 rfl) rfl rfl) rfl rfl rfl (w_n rfl) ?_
  refine TL_q (.agg #[.int .u8 0, .int .u8 0, .int .u8 0, .int .u8 255]) (fun _ _ hρ hm => r_loadA ag37 sz37 (hρ _ _ rfl) (hm.at 4 rfl) rfl rfl) rfl rfl rfl (w_n rfl) ?_
  refine TL_new 5 (.cells #[.int .u8 1, .int .u8 0, .int .u8 0, .int .u8 255, .int .u8 0, .int .u8 1, .int .u8 0, .int .u8 255, .int .u8 0, .int .u8 0, .int .u8 1, .int .u8 255, .int .u8 0, .int .u8 0, .int .u8 0, .int .u8 255] 37) (fun B => .slice (some ⟨B, 0, none⟩) 4 4) (fun _ _ hρ _ => r_buildSlice (vs := [(0, .agg #[.int .u8 1, .int .u8 0, .int .u8 0, .int .u8 255]), (1, .agg #[.int .u8 0, .int .u8 1, .int .u8 0, .int .u8 255]), (2, .agg #[.int .u8 0, .int .u8 0, .int .u8 1, .int .u8 255]), (3, .agg #[.int .u8 0, .int .u8 0, .int .u8 0, .int .u8 255])]) (by kernel_rfl) (cons2 (pair2 (hρ _ _ rfl)) (cons2 (pair2 (hρ _ _ rfl)) (cons2 (pair2 (hρ _ _ rfl)) (cons2 (pair2 (hρ _ _ rfl)) rfl))))) rfl rfl rfl (w_n rfl) ?_
  intro B5
  refine TL_callN (fun (_ : Option Addr × Nat) => True) (fun (ar6, cr6) => .tuple #[.agg #[.int .i64 2, .int .i64 2, .slice ar6 (([(⟨1, 0, 0, 255⟩ : C4), (⟨0, 1, 0, 255⟩ : C4), (⟨0, 0, 1, 255⟩ : C4), (⟨0, 0, 0, 255⟩ : C4)]).length) cr6], .int .i64 0]) (fun (ar6, cr6) => [(6, .row (.slice ar6 (([(⟨1, 0, 0, 255⟩ : C4), (⟨0, 1, 0, 255⟩ : C4), (⟨0, 0, 1, 255⟩ : C4), (⟨0, 0, 0, 255⟩ : C4)]).length) cr6) 37 4 (([(⟨1, 0, 0, 255⟩ : C4), (⟨0, 1, 0, 255⟩ : C4), (⟨0, 0, 1, 255⟩ : C4), (⟨0, 0, 0, 255⟩ : C4)]).length) (([(⟨1, 0, 0, 255⟩ : C4), (⟨0, 1, 0, 255⟩ : C4), (⟨0, 0, 1, 255⟩ : C4), (⟨0, 0, 0, 255⟩ : C4)]).flatMap C4.cells))]) (fun _ _ hρ _ => r_call (args := [.int .i64 2, .slice (some ⟨B5, 0, none⟩) 4 4]) (enters_of Try.func44 (by kernel_rfl) rfl) (hρ _ _ rfl) ((cons2 (hρ _ _ rfl) (cons2 (hρ _ _ rfl) rfl))) rfl) (fun w hm => (sof_ok 2 2 [(⟨1, 0, 0, 255⟩ : C4), (⟨0, 1, 0, 255⟩ : C4), (⟨0, 0, 1, 255⟩ : C4), (⟨0, 0, 0, 255⟩ : C4)] (some ⟨B5, 0, none⟩) 4 w ⟨Nat.le_of_ble_eq_true rfl, (fun e => by cases e), .inr ⟨_, 0, _, _, _, rfl, (hm.at 5 rfl), row_of_take (fun _ => rfl) rfl⟩⟩ (Nat.le_of_ble_eq_true rfl) (by decide) (by decide) (by decide)).mono fun e w' ⟨a', cap', he, hb, hr⟩ => ⟨(a', cap'), trivial, he, hb, newOk1 6 hr⟩) rfl rfl rfl (w_n rfl) ?_
  rintro ⟨ar6, cr6⟩ -
  refine TL_q (.tuple #[.agg #[.int .i64 2, .int .i64 2, .slice ar6 (([(⟨1, 0, 0, 255⟩ : C4), (⟨0, 1, 0, 255⟩ : C4), (⟨0, 0, 1, 255⟩ : C4), (⟨0, 0, 0, 255⟩ : C4)]).length) cr6], .int .i64 0]) (fun _ _ hρ _ => r_move (hρ _ _ rfl)) rfl rfl rfl (w_n rfl) ?_
  refine TL_q (.agg #[.int .i64 2, .int .i64 2, .slice ar6 (([(⟨1, 0, 0, 255⟩ : C4), (⟨0, 1, 0, 255⟩ : C4), (⟨0, 0, 1, 255⟩ : C4), (⟨0, 0, 0, 255⟩ : C4)]).length) cr6]) (fun _ _ hρ _ => r_extract (hρ _ _ rfl) rfl) rfl rfl rfl (w_n rfl) ?_
  refine TL_q (.int .i64 0) (fun _ _ hρ _ => r_extract (hρ _ _ rfl) rfl) rfl rfl rfl (w_n rfl) ?_
  refine TL_new 7 (.cells #[.int .i64 0, .int .i64 0, .slice none 0 0] 75) (fun B => .pointer (some ⟨B, 0, none⟩)) (fun _ _ _ _ => r_alloc (v := .agg #[.int .i64 0, .int .i64 0, .slice none 0 0]) (by kernel_rfl) rfl) rfl rfl rfl (w_n rfl) ?_
  intro B7
  refine TL_store 7 (.cells #[.int .i64 2, .int .i64 2, .slice ar6 (([(⟨1, 0, 0, 255⟩ : C4), (⟨0, 1, 0, 255⟩ : C4), (⟨0, 0, 1, 255⟩ : C4), (⟨0, 0, 0, 255⟩ : C4)]).length) cr6] 75) rfl (fun _ _ hρ hm => r_store sz75 (hρ _ _ rfl) (hρ _ _ rfl) (hm.at 7 rfl) rfl rfl rfl rfl) rfl rfl (w_n rfl) ?_
  refine TL_q (.int .i64 0) (fun _ _ hρ _ => r_assign (hρ _ _ rfl)) rfl rfl rfl (w_n rfl) ?_
  refine TL_seq ?_
  refine T_seq (T_region ?_)
  refine TL_q (.agg #[.int .i64 2, .int .i64 2, .slice ar6 (([(⟨1, 0, 0, 255⟩ : C4), (⟨0, 1, 0, 255⟩ : C4), (⟨0, 0, 1, 255⟩ : C4), (⟨0, 0, 0, 255⟩ : C4)]).length) cr6]) (fun _ _ hρ hm => r_loadA ag75 sz75 (hρ _ _ rfl) (hm.at 7 rfl) rfl rfl) rfl rfl rfl (w_n rfl) ?_
  refine TL_callN (fun (_ : Option Addr × Nat) => True) (fun (ar8, cr8) => .tuple #[.agg #[.int .i64 2, .int .i64 2, .slice ar8 ((quarL 2 2 [(⟨1, 0, 0, 255⟩ : C4), (⟨0, 1, 0, 255⟩ : C4), (⟨0, 0, 1, 255⟩ : C4), (⟨0, 0, 0, 255⟩ : C4)]).length) cr8], .int .i64 0]) (fun (ar8, cr8) => [(8, .row (.slice ar8 ((quarL 2 2 [(⟨1, 0, 0, 255⟩ : C4), (⟨0, 1, 0, 255⟩ : C4), (⟨0, 0, 1, 255⟩ : C4), (⟨0, 0, 0, 255⟩ : C4)]).length) cr8) 37 4 ((quarL 2 2 [(⟨1, 0, 0, 255⟩ : C4), (⟨0, 1, 0, 255⟩ : C4), (⟨0, 0, 1, 255⟩ : C4), (⟨0, 0, 0, 255⟩ : C4)]).length) ((quarL 2 2 [(⟨1, 0, 0, 255⟩ : C4), (⟨0, 1, 0, 255⟩ : C4), (⟨0, 0, 1, 255⟩ : C4), (⟨0, 0, 0, 255⟩ : C4)]).flatMap C4.cells))]) (fun _ _ hρ _ => r_call (args := [.agg #[.int .i64 2, .int .i64 2, .slice ar6 (([(⟨1, 0, 0, 255⟩ : C4), (⟨0, 1, 0, 255⟩ : C4), (⟨0, 0, 1, 255⟩ : C4), (⟨0, 0, 0, 255⟩ : C4)]).length) cr6], .int .i64 1]) (enters_of Try.func48 (by kernel_rfl) rfl) (hρ _ _ rfl) ((cons2 (hρ _ _ rfl) (cons2 (hρ _ _ rfl) rfl))) rfl) (fun w hm => (turn_q 2 2 [(⟨1, 0, 0, 255⟩ : C4), (⟨0, 1, 0, 255⟩ : C4), (⟨0, 0, 1, 255⟩ : C4), (⟨0, 0, 0, 255⟩ : C4)] ar6 cr6 w (SliceAt.own C4.cells_len (hm.row 6 rfl) rfl rfl) (row_cap (hm.row 6 rfl)) (by decide) (by decide) (by decide)).mono fun e w' ⟨a', cap', he, hb, hr⟩ => ⟨(a', cap'), trivial, he, hb, newOk1 8 hr⟩) rfl rfl rfl (w_n rfl) ?_
  rintro ⟨ar8, cr8⟩ -
  refine TL_q (.tuple #[.agg #[.int .i64 2, .int .i64 2, .slice ar8 ((quarL 2 2 [(⟨1, 0, 0, 255⟩ : C4), (⟨0, 1, 0, 255⟩ : C4), (⟨0, 0, 1, 255⟩ : C4), (⟨0, 0, 0, 255⟩ : C4)]).length) cr8], .int .i64 0]) (fun _ _ hρ _ => r_move (hρ _ _ rfl)) rfl rfl rfl (w_n rfl) ?_
  refine TL_q (.agg #[.int .i64 2, .int .i64 2, .slice ar8 ((quarL 2 2 [(⟨1, 0, 0, 255⟩ : C4), (⟨0, 1, 0, 255⟩ : C4), (⟨0, 0, 1, 255⟩ : C4), (⟨0, 0, 0, 255⟩ : C4)]).length) cr8]) (fun _ _ hρ _ => r_extract (hρ _ _ rfl) rfl) rfl rfl rfl (w_n rfl) ?_
  refine TL_q (.int .i64 0) (fun _ _ hρ _ => r_extract (hρ _ _ rfl) rfl) rfl rfl rfl (w_n rfl) ?_
  refine TL_new 9 (.cells #[.int .i64 0, .int .i64 0, .slice none 0 0] 75) (fun B => .pointer (some ⟨B, 0, none⟩)) (fun _ _ _ _ => r_alloc (v := .agg #[.int .i64 0, .int .i64 0, .slice none 0 0]) (by kernel_rfl) rfl) rfl rfl rfl (w_n rfl) ?_
  intro B9
  refine TL_store 9 (.cells #[.int .i64 2, .int .i64 2, .slice ar8 ((quarL 2 2 [(⟨1, 0, 0, 255⟩ : C4), (⟨0, 1, 0, 255⟩ : C4), (⟨0, 0, 1, 255⟩ : C4), (⟨0, 0, 0, 255⟩ : C4)]).length) cr8] 75) rfl (fun _ _ hρ hm => r_store sz75 (hρ _ _ rfl) (hρ _ _ rfl) (hm.at 9 rfl) rfl rfl rfl rfl) rfl rfl (w_n rfl) ?_
  refine TL_q (.int .i64 0) (fun _ _ hρ _ => r_assign (hρ _ _ rfl)) rfl rfl rfl (w_n rfl) ?_
  refine TL_seq ?_
  refine T_seq (T_region ?_)
  refine TL_q (.agg #[.int .i64 2, .int .i64 2, .slice ar6 (([(⟨1, 0, 0, 255⟩ : C4), (⟨0, 1, 0, 255⟩ : C4), (⟨0, 0, 1, 255⟩ : C4), (⟨0, 0, 0, 255⟩ : C4)]).length) cr6]) (fun _ _ hρ hm => r_loadA ag75 sz75 (hρ _ _ rfl) (hm.at 7 rfl) rfl rfl) rfl rfl rfl (w_n rfl) ?_
  refine TL_callN (fun (_ : Option Addr × Nat) => True) (fun (ar10, cr10) => .tuple #[.agg #[.int .i64 2, .int .i64 2, .slice ar10 ((flpL 2 2 [(⟨1, 0, 0, 255⟩ : C4), (⟨0, 1, 0, 255⟩ : C4), (⟨0, 0, 1, 255⟩ : C4), (⟨0, 0, 0, 255⟩ : C4)]).length) cr10], .int .i64 0]) (fun (ar10, cr10) => [(10, .row (.slice ar10 ((flpL 2 2 [(⟨1, 0, 0, 255⟩ : C4), (⟨0, 1, 0, 255⟩ : C4), (⟨0, 0, 1, 255⟩ : C4), (⟨0, 0, 0, 255⟩ : C4)]).length) cr10) 37 4 ((flpL 2 2 [(⟨1, 0, 0, 255⟩ : C4), (⟨0, 1, 0, 255⟩ : C4), (⟨0, 0, 1, 255⟩ : C4), (⟨0, 0, 0, 255⟩ : C4)]).length) ((flpL 2 2 [(⟨1, 0, 0, 255⟩ : C4), (⟨0, 1, 0, 255⟩ : C4), (⟨0, 0, 1, 255⟩ : C4), (⟨0, 0, 0, 255⟩ : C4)]).flatMap C4.cells))]) (fun _ _ hρ _ => r_call (args := [.agg #[.int .i64 2, .int .i64 2, .slice ar6 (([(⟨1, 0, 0, 255⟩ : C4), (⟨0, 1, 0, 255⟩ : C4), (⟨0, 0, 1, 255⟩ : C4), (⟨0, 0, 0, 255⟩ : C4)]).length) cr6]]) (enters_of Try.func50 (by kernel_rfl) rfl) (hρ _ _ rfl) ((cons2 (hρ _ _ rfl) rfl)) rfl) (fun w hm => (flip_ok 2 2 [(⟨1, 0, 0, 255⟩ : C4), (⟨0, 1, 0, 255⟩ : C4), (⟨0, 0, 1, 255⟩ : C4), (⟨0, 0, 0, 255⟩ : C4)] ar6 cr6 w (SliceAt.own C4.cells_len (hm.row 6 rfl) rfl rfl) (row_cap (hm.row 6 rfl)) (by decide) (by decide) (by decide)).mono fun e w' ⟨a', cap', he, hb, hr⟩ => ⟨(a', cap'), trivial, he, hb, newOk1 10 hr⟩) rfl rfl rfl (w_n rfl) ?_
  rintro ⟨ar10, cr10⟩ -
  refine TL_q (.tuple #[.agg #[.int .i64 2, .int .i64 2, .slice ar10 ((flpL 2 2 [(⟨1, 0, 0, 255⟩ : C4), (⟨0, 1, 0, 255⟩ : C4), (⟨0, 0, 1, 255⟩ : C4), (⟨0, 0, 0, 255⟩ : C4)]).length) cr10], .int .i64 0]) (fun _ _ hρ _ => r_move (hρ _ _ rfl)) rfl rfl rfl (w_n rfl) ?_
  refine TL_q (.agg #[.int .i64 2, .int .i64 2, .slice ar10 ((flpL 2 2 [(⟨1, 0, 0, 255⟩ : C4), (⟨0, 1, 0, 255⟩ : C4), (⟨0, 0, 1, 255⟩ : C4), (⟨0, 0, 0, 255⟩ : C4)]).length) cr10]) (fun _ _ hρ _ => r_extract (hρ _ _ rfl) rfl) rfl rfl rfl (w_n rfl) ?_
  refine TL_q (.int .i64 0) (fun _ _ hρ _ => r_extract (hρ _ _ rfl) rfl) rfl rfl rfl (w_n rfl) ?_
  refine TL_new 11 (.cells #[.int .i64 0, .int .i64 0, .slice none 0 0] 75) (fun B => .pointer (some ⟨B, 0, none⟩)) (fun _ _ _ _ => r_alloc (v := .agg #[.int .i64 0, .int .i64 0, .slice none 0 0]) (by kernel_rfl) rfl) rfl rfl rfl (w_n rfl) ?_
  intro B11
  refine TL_store 11 (.cells #[.int .i64 2, .int .i64 2, .slice ar10 ((flpL 2 2 [(⟨1, 0, 0, 255⟩ : C4), (⟨0, 1, 0, 255⟩ : C4), (⟨0, 0, 1, 255⟩ : C4), (⟨0, 0, 0, 255⟩ : C4)]).length) cr10] 75) rfl (fun _ _ hρ hm => r_store sz75 (hρ _ _ rfl) (hρ _ _ rfl) (hm.at 11 rfl) rfl rfl rfl rfl) rfl rfl (w_n rfl) ?_
  refine TL_q (.int .i64 0) (fun _ _ hρ _ => r_assign (hρ _ _ rfl)) rfl rfl rfl (w_n rfl) ?_
  refine TL_seq ?_
  refine T_sub [(0, .bool false), (1, .pointer (some ⟨B1, 0, none⟩)), (2, .pointer (some ⟨B2, 0, none⟩)), (3, .pointer (some ⟨B3, 0, none⟩)), (4, .pointer (some ⟨B4, 0, none⟩)), (5, .pointer (some ⟨B7, 0, none⟩)), (6, .int .i64 0), (7, .pointer (some ⟨B9, 0, none⟩)), (8, .int .i64 0), (9, .pointer (some ⟨B11, 0, none⟩)), (10, .int .i64 0)] [(10, .row (.slice ar10 ((flpL 2 2 [(⟨1, 0, 0, 255⟩ : C4), (⟨0, 1, 0, 255⟩ : C4), (⟨0, 0, 1, 255⟩ : C4), (⟨0, 0, 0, 255⟩ : C4)]).length) cr10) 37 4 ((flpL 2 2 [(⟨1, 0, 0, 255⟩ : C4), (⟨0, 1, 0, 255⟩ : C4), (⟨0, 0, 1, 255⟩ : C4), (⟨0, 0, 0, 255⟩ : C4)]).length) ((flpL 2 2 [(⟨1, 0, 0, 255⟩ : C4), (⟨0, 1, 0, 255⟩ : C4), (⟨0, 0, 1, 255⟩ : C4), (⟨0, 0, 0, 255⟩ : C4)]).flatMap C4.cells)), (8, .row (.slice ar8 ((quarL 2 2 [(⟨1, 0, 0, 255⟩ : C4), (⟨0, 1, 0, 255⟩ : C4), (⟨0, 0, 1, 255⟩ : C4), (⟨0, 0, 0, 255⟩ : C4)]).length) cr8) 37 4 ((quarL 2 2 [(⟨1, 0, 0, 255⟩ : C4), (⟨0, 1, 0, 255⟩ : C4), (⟨0, 0, 1, 255⟩ : C4), (⟨0, 0, 0, 255⟩ : C4)]).length) ((quarL 2 2 [(⟨1, 0, 0, 255⟩ : C4), (⟨0, 1, 0, 255⟩ : C4), (⟨0, 0, 1, 255⟩ : C4), (⟨0, 0, 0, 255⟩ : C4)]).flatMap C4.cells)), (6, .row (.slice ar6 (([(⟨1, 0, 0, 255⟩ : C4), (⟨0, 1, 0, 255⟩ : C4), (⟨0, 0, 1, 255⟩ : C4), (⟨0, 0, 0, 255⟩ : C4)]).length) cr6) 37 4 (([(⟨1, 0, 0, 255⟩ : C4), (⟨0, 1, 0, 255⟩ : C4), (⟨0, 0, 1, 255⟩ : C4), (⟨0, 0, 0, 255⟩ : C4)]).length) (([(⟨1, 0, 0, 255⟩ : C4), (⟨0, 1, 0, 255⟩ : C4), (⟨0, 0, 1, 255⟩ : C4), (⟨0, 0, 0, 255⟩ : C4)]).flatMap C4.cells)), (960, .cvs []), (1, .blk B1 (.cells #[.int .u8 1, .int .u8 0, .int .u8 0, .int .u8 255] 37)), (2, .blk B2 (.cells #[.int .u8 0, .int .u8 1, .int .u8 0, .int .u8 255] 37)), (3, .blk B3 (.cells #[.int .u8 0, .int .u8 0, .int .u8 1, .int .u8 255] 37)), (4, .blk B4 (.cells #[.int .u8 0, .int .u8 0, .int .u8 0, .int .u8 255] 37)), (5, .blk B5 (.cells #[.int .u8 1, .int .u8 0, .int .u8 0, .int .u8 255, .int .u8 0, .int .u8 1, .int .u8 0, .int .u8 255, .int .u8 0, .int .u8 0, .int .u8 1, .int .u8 255, .int .u8 0, .int .u8 0, .int .u8 0, .int .u8 255] 37)), (7, .blk B7 (.cells #[.int .i64 2, .int .i64 2, .slice ar6 (([(⟨1, 0, 0, 255⟩ : C4), (⟨0, 1, 0, 255⟩ : C4), (⟨0, 0, 1, 255⟩ : C4), (⟨0, 0, 0, 255⟩ : C4)]).length) cr6] 75)), (9, .blk B9 (.cells #[.int .i64 2, .int .i64 2, .slice ar8 ((quarL 2 2 [(⟨1, 0, 0, 255⟩ : C4), (⟨0, 1, 0, 255⟩ : C4), (⟨0, 0, 1, 255⟩ : C4), (⟨0, 0, 0, 255⟩ : C4)]).length) cr8] 75)), (11, .blk B11 (.cells #[.int .i64 2, .int .i64 2, .slice ar10 ((flpL 2 2 [(⟨1, 0, 0, 255⟩ : C4), (⟨0, 1, 0, 255⟩ : C4), (⟨0, 0, 1, 255⟩ : C4), (⟨0, 0, 0, 255⟩ : C4)]).length) cr10] 75))] (sub_cons rfl (sub_cons rfl (sub_cons rfl (sub_cons rfl (sub_cons rfl (sub_cons rfl (sub_cons rfl (sub_cons rfl (sub_cons rfl (sub_cons rfl (sub_cons rfl sub_nil))))))))))) (sub_cons rfl (sub_cons rfl (sub_cons rfl (sub_cons rfl (sub_cons rfl (sub_cons rfl (sub_cons rfl (sub_cons rfl (sub_cons rfl (sub_cons rfl (sub_cons rfl (sub_cons rfl sub_nil)))))))))))) ?_
  refine T_seq (T_region ?_)
  refine TL_callX (ι := Cv) (fun (c1 : Cv) e w w' => e = .returned (.tuple #[.pointer (some ⟨c1.p, 0, none⟩), .int .i64 0]) ∧ CvNew w w' [] c1 ∧ (∀ x ∈ ([] : List Cv), ∀ q ∈ x.ps, q < w.heap.size) ∧ c1.wd = 1 ∧ c1.hg = 1 ∧ c1.ts = List.replicate (1 * 1) zeroT) (fun c1 => .tuple #[.pointer (some ⟨c1.p, 0, none⟩), .int .i64 0]) _ (fun _ _ hρ _ => r_call (args := [.int .i64 1, .int .i64 1]) (enters_of Try.func29 (by kernel_rfl) rfl) (hρ _ _ rfl) ((cons2 (hρ _ _ rfl) (cons2 (hρ _ _ rfl) rfl))) rfl) (fun w hm => (new_c 1 1 w (by decide) (by decide)).mono fun e w' ⟨d, he, hn, hf⟩ => ⟨d, he, hn, hm.cvUnder 960 rfl, hf⟩) (fun _ e w w' hm h => ⟨h.1, hm.cvGet 960 rfl h.2.1 (fun _ hx => nomatch hx)⟩) rfl rfl rfl (w_n rfl) ?_
  rintro c1 ⟨_, w1_c1, w2_c1, _, hn_c1, hu_c1, hwd_c1, hhg_c1, hts_c1⟩
  refine TL_q (.tuple #[.pointer (some ⟨c1.p, 0, none⟩), .int .i64 0]) (fun _ _ hρ _ => r_move (hρ _ _ rfl)) rfl rfl rfl (w_n rfl) ?_
  refine TL_q (.pointer (some ⟨c1.p, 0, none⟩)) (fun _ _ hρ _ => r_extract (hρ _ _ rfl) rfl) rfl rfl rfl (w_n rfl) ?_
  refine TL_q (.int .i64 0) (fun _ _ hρ _ => r_extract (hρ _ _ rfl) rfl) rfl rfl rfl (w_n rfl) ?_
  refine TL_q (.pointer (some ⟨c1.p, 0, none⟩)) (fun _ _ hρ _ => r_assign (hρ _ _ rfl)) rfl rfl rfl (w_n rfl) ?_
  refine TL_q (.int .i64 0) (fun _ _ hρ _ => r_assign (hρ _ _ rfl)) rfl rfl rfl (w_n rfl) ?_
  refine TL_seq ?_
  refine T_seq (T_region ?_)
  refine TL_q (.pointer (some ⟨c1.p, 0, none⟩)) (fun _ _ hρ _ => r_move (hρ _ _ rfl)) rfl rfl rfl (w_n rfl) ?_
  refine TL_q (.agg #[.int .i64 2, .int .i64 2, .slice ar6 (([(⟨1, 0, 0, 255⟩ : C4), (⟨0, 1, 0, 255⟩ : C4), (⟨0, 0, 1, 255⟩ : C4), (⟨0, 0, 0, 255⟩ : C4)]).length) cr6]) (fun _ _ hρ hm => r_loadA ag75 sz75 (hρ _ _ rfl) (hm.at 7 rfl) rfl rfl) rfl rfl rfl (w_n rfl) ?_
  refine TL_q (.agg #[.int .i64 7, .int .i64 0]) (fun _ _ hρ _ => r_build (vs := [(0, .int .i64 7)]) (by kernel_rfl) (cons2 (pair2 (hρ _ _ rfl)) rfl)) rfl rfl rfl (w_n rfl) ?_
  refine TL_new 12 (.cells #[.int .i64 7, .int .i64 0] 47) (fun B => .slice (some ⟨B, 0, none⟩) 1 1) (fun _ _ hρ _ => r_buildSlice (vs := [(0, .agg #[.int .i64 7, .int .i64 0])]) (by kernel_rfl) (cons2 (pair2 (hρ _ _ rfl)) rfl)) rfl rfl rfl (w_n rfl) ?_
  intro B12
  refine TL_callX (ι := Cv) (fun (c2 : Cv) e w w' => e = .returned (.tuple #[.pointer (some ⟨c2.p, 0, none⟩), .int .i64 0]) ∧ CvNew w w' [c1] c2 ∧ (∀ x ∈ [c1], ∀ q ∈ x.ps, q < w.heap.size) ∧ c2.wd = c1.wd ∧ c2.hg = c1.hg ∧ c2.ts = layN c1.wd c1.hg 2 2 [(⟨1, 0, 0, 255⟩ : C4), (⟨0, 1, 0, 255⟩ : C4), (⟨0, 0, 1, 255⟩ : C4), (⟨0, 0, 0, 255⟩ : C4)] c1.ts [(⟨7, 0⟩ : Pt)]) (fun c2 => .tuple #[.pointer (some ⟨c2.p, 0, none⟩), .int .i64 0]) _ (fun _ _ hρ _ => r_call (args := [.pointer (some ⟨c1.p, 0, none⟩), .agg #[.int .i64 2, .int .i64 2, .slice ar6 (([(⟨1, 0, 0, 255⟩ : C4), (⟨0, 1, 0, 255⟩ : C4), (⟨0, 0, 1, 255⟩ : C4), (⟨0, 0, 0, 255⟩ : C4)]).length) cr6], .slice (some ⟨B12, 0, none⟩) 1 1]) (enters_of Try.func60 (by kernel_rfl) rfl) (hρ _ _ rfl) ((cons2 (hρ _ _ rfl) (cons2 (hρ _ _ rfl) (cons2 (hρ _ _ rfl) rfl)))) rfl) (fun w hm => (lay_ok c1 2 2 [(⟨1, 0, 0, 255⟩ : C4), (⟨0, 1, 0, 255⟩ : C4), (⟨0, 0, 1, 255⟩ : C4), (⟨0, 0, 0, 255⟩ : C4)] ar6 cr6 [(⟨7, 0⟩ : Pt)] (some ⟨B12, 0, none⟩) 1 w (hm.cv 960 rfl (List.Mem.head _)) (SliceAt.own C4.cells_len (hm.row 6 rfl) rfl rfl) (row_cap (hm.row 6 rfl)) ⟨Nat.le_of_ble_eq_true rfl, (fun e => by cases e), .inr ⟨_, 0, _, _, _, rfl, (hm.at 12 rfl), row_of_take (fun _ => rfl) rfl⟩⟩ (Nat.le_of_ble_eq_true rfl) (by decide) (by decide) (by decide) wkPx_ok (by rw [hts_c1]; exact zeroTs_ok _)).mono fun e w' ⟨d, he, hn, hf⟩ => ⟨d, he, hn, hm.cvUnder 960 rfl, hf⟩) (fun _ e w w' hm h => ⟨h.1, hm.cvGet 960 rfl h.2.1 (fun x hx => by rw [List.mem_singleton.1 hx]; exact (List.Mem.head _))⟩) rfl rfl rfl (w_n rfl) ?_
  rintro c2 ⟨_, w1_c2, w2_c2, _, hn_c2, hu_c2, hwd_c2, hhg_c2, hts_c2⟩
  refine TL_q (.tuple #[.pointer (some ⟨c2.p, 0, none⟩), .int .i64 0]) (fun _ _ hρ _ => r_move (hρ _ _ rfl)) rfl rfl rfl (w_n rfl) ?_
  refine TL_q (.pointer (some ⟨c2.p, 0, none⟩)) (fun _ _ hρ _ => r_extract (hρ _ _ rfl) rfl) rfl rfl rfl (w_n rfl) ?_
  refine TL_q (.int .i64 0) (fun _ _ hρ _ => r_extract (hρ _ _ rfl) rfl) rfl rfl rfl (w_n rfl) ?_
  refine TL_q (.pointer (some ⟨c2.p, 0, none⟩)) (fun _ _ hρ _ => r_assign (hρ _ _ rfl)) rfl rfl rfl (w_n rfl) ?_
  refine TL_q (.int .i64 0) (fun _ _ hρ _ => r_assign (hρ _ _ rfl)) rfl rfl rfl (w_n rfl) ?_
  refine TL_seq ?_
  refine T_seq (T_region ?_)
  refine TL_q (.pointer (some ⟨c2.p, 0, none⟩)) (fun _ _ hρ _ => r_move (hρ _ _ rfl)) rfl rfl rfl (w_n rfl) ?_
  refine TL_callN (fun (_ : Option Addr × Nat) => True) (fun (ar13, cr13) => .tuple #[.agg #[.int .i64 1, .int .i64 2, .slice ar13 ((cutL c2.wd c2.ts 7 0 1 2).length) cr13], .int .i64 0]) (fun (ar13, cr13) => [(13, .row (.slice ar13 ((cutL c2.wd c2.ts 7 0 1 2).length) cr13) 37 4 ((cutL c2.wd c2.ts 7 0 1 2).length) ((cutL c2.wd c2.ts 7 0 1 2).flatMap C4.cells))]) (fun _ _ hρ _ => r_call (args := [.pointer (some ⟨c2.p, 0, none⟩), .int .i64 7, .int .i64 0, .int .i64 1, .int .i64 2]) (enters_of Try.func59 (by kernel_rfl) rfl) (hρ _ _ rfl) ((cons2 (hρ _ _ rfl) (cons2 (hρ _ _ rfl) (cons2 (hρ _ _ rfl) (cons2 (hρ _ _ rfl) (cons2 (hρ _ _ rfl) rfl)))))) rfl) (fun w hm => (cut_ok c2 7 0 1 2 w (hm.cv 960 rfl (List.Mem.head _)) (by decide) (by decide) (by rw [hwd_c2, hwd_c1]; decide) (by rw [hhg_c2, hhg_c1]; decide)).mono fun e w' ⟨a', cap', he, hb, hr⟩ => ⟨(a', cap'), trivial, he, hb, newOk1 13 hr⟩) rfl rfl rfl (w_n rfl) ?_
  rintro ⟨ar13, cr13⟩ -
  refine TL_q (.tuple #[.agg #[.int .i64 1, .int .i64 2, .slice ar13 ((cutL c2.wd c2.ts 7 0 1 2).length) cr13], .int .i64 0]) (fun _ _ hρ _ => r_move (hρ _ _ rfl)) rfl rfl rfl (w_n rfl) ?_
  refine TL_q (.agg #[.int .i64 1, .int .i64 2, .slice ar13 ((cutL c2.wd c2.ts 7 0 1 2).length) cr13]) (fun _ _ hρ _ => r_extract (hρ _ _ rfl) rfl) rfl rfl rfl (w_n rfl) ?_
  refine TL_q (.int .i64 0) (fun _ _ hρ _ => r_extract (hρ _ _ rfl) rfl) rfl rfl rfl (w_n rfl) ?_
  refine TL_new 14 (.cells #[.int .i64 0, .int .i64 0, .slice none 0 0] 75) (fun B => .pointer (some ⟨B, 0, none⟩)) (fun _ _ _ _ => r_alloc (v := .agg #[.int .i64 0, .int .i64 0, .slice none 0 0]) (by kernel_rfl) rfl) rfl rfl rfl (w_n rfl) ?_
  intro B14
  refine TL_store 14 (.cells #[.int .i64 1, .int .i64 2, .slice ar13 ((cutL c2.wd c2.ts 7 0 1 2).length) cr13] 75) rfl (fun _ _ hρ hm => r_store sz75 (hρ _ _ rfl) (hρ _ _ rfl) (hm.at 14 rfl) rfl rfl rfl rfl) rfl rfl (w_n rfl) ?_
  refine TL_q (.int .i64 0) (fun _ _ hρ _ => r_assign (hρ _ _ rfl)) rfl rfl rfl (w_n rfl) ?_
  refine TL_seq ?_
  refine T_seq (T_region ?_)
  refine TL_q (.pointer (some ⟨c2.p, 0, none⟩)) (fun _ _ hρ _ => r_move (hρ _ _ rfl)) rfl rfl rfl (w_n rfl) ?_
  refine TL_call (.tuple #[.agg #[.int .i64 0, .int .i64 0, .slice none 0 0], .int .i64 2]) (fun _ _ hρ _ => r_call (args := [.pointer (some ⟨c2.p, 0, none⟩), .int .i64 7, .int .i64 0, .int .i64 2, .int .i64 1]) (enters_of Try.func59 (by kernel_rfl) rfl) (hρ _ _ rfl) ((cons2 (hρ _ _ rfl) (cons2 (hρ _ _ rfl) (cons2 (hρ _ _ rfl) (cons2 (hρ _ _ rfl) (cons2 (hρ _ _ rfl) rfl)))))) rfl) (fun w hm => cut_no c2 7 0 2 1 w (hm.cv 960 rfl (List.Mem.head _)) (by rw [hwd_c2, hhg_c2, hwd_c1, hhg_c1]; decide)) rfl rfl rfl (w_n rfl) ?_
  refine TL_q (.tuple #[.agg #[.int .i64 0, .int .i64 0, .slice none 0 0], .int .i64 2]) (fun _ _ hρ _ => r_move (hρ _ _ rfl)) rfl rfl rfl (w_n rfl) ?_
  refine TL_q (.agg #[.int .i64 0, .int .i64 0, .slice none 0 0]) (fun _ _ hρ _ => r_extract (hρ _ _ rfl) rfl) rfl rfl rfl (w_n rfl) ?_
  refine TL_q (.int .i64 2) (fun _ _ hρ _ => r_extract (hρ _ _ rfl) rfl) rfl rfl rfl (w_n rfl) ?_
  refine TL_new 15 (.cells #[.int .i64 0, .int .i64 0, .slice none 0 0] 75) (fun B => .pointer (some ⟨B, 0, none⟩)) (fun _ _ _ _ => r_alloc (v := .agg #[.int .i64 0, .int .i64 0, .slice none 0 0]) (by kernel_rfl) rfl) rfl rfl rfl (w_n rfl) ?_
  intro B15
  refine TL_store 15 (.cells #[.int .i64 0, .int .i64 0, .slice none 0 0] 75) rfl (fun _ _ hρ hm => r_store sz75 (hρ _ _ rfl) (hρ _ _ rfl) (hm.at 15 rfl) rfl rfl rfl rfl) rfl rfl (w_n rfl) ?_
  refine TL_q (.int .i64 2) (fun _ _ hρ _ => r_assign (hρ _ _ rfl)) rfl rfl rfl (w_n rfl) ?_
  refine TL_seq ?_
  refine T_sub [(0, .bool false), (1, .pointer (some ⟨B1, 0, none⟩)), (2, .pointer (some ⟨B2, 0, none⟩)), (3, .pointer (some ⟨B3, 0, none⟩)), (4, .pointer (some ⟨B4, 0, none⟩)), (5, .pointer (some ⟨B7, 0, none⟩)), (6, .int .i64 0), (7, .pointer (some ⟨B9, 0, none⟩)), (8, .int .i64 0), (9, .pointer (some ⟨B11, 0, none⟩)), (10, .int .i64 0), (11, .pointer (some ⟨c1.p, 0, none⟩)), (12, .int .i64 0), (13, .pointer (some ⟨c2.p, 0, none⟩)), (14, .int .i64 0), (15, .pointer (some ⟨B14, 0, none⟩)), (16, .int .i64 0), (18, .int .i64 2)] [(13, .row (.slice ar13 ((cutL c2.wd c2.ts 7 0 1 2).length) cr13) 37 4 ((cutL c2.wd c2.ts 7 0 1 2).length) ((cutL c2.wd c2.ts 7 0 1 2).flatMap C4.cells)), (960, .cvs [c2, c1]), (10, .row (.slice ar10 ((flpL 2 2 [(⟨1, 0, 0, 255⟩ : C4), (⟨0, 1, 0, 255⟩ : C4), (⟨0, 0, 1, 255⟩ : C4), (⟨0, 0, 0, 255⟩ : C4)]).length) cr10) 37 4 ((flpL 2 2 [(⟨1, 0, 0, 255⟩ : C4), (⟨0, 1, 0, 255⟩ : C4), (⟨0, 0, 1, 255⟩ : C4), (⟨0, 0, 0, 255⟩ : C4)]).length) ((flpL 2 2 [(⟨1, 0, 0, 255⟩ : C4), (⟨0, 1, 0, 255⟩ : C4), (⟨0, 0, 1, 255⟩ : C4), (⟨0, 0, 0, 255⟩ : C4)]).flatMap C4.cells)), (8, .row (.slice ar8 ((quarL 2 2 [(⟨1, 0, 0, 255⟩ : C4), (⟨0, 1, 0, 255⟩ : C4), (⟨0, 0, 1, 255⟩ : C4), (⟨0, 0, 0, 255⟩ : C4)]).length) cr8) 37 4 ((quarL 2 2 [(⟨1, 0, 0, 255⟩ : C4), (⟨0, 1, 0, 255⟩ : C4), (⟨0, 0, 1, 255⟩ : C4), (⟨0, 0, 0, 255⟩ : C4)]).length) ((quarL 2 2 [(⟨1, 0, 0, 255⟩ : C4), (⟨0, 1, 0, 255⟩ : C4), (⟨0, 0, 1, 255⟩ : C4), (⟨0, 0, 0, 255⟩ : C4)]).flatMap C4.cells)), (6, .row (.slice ar6 (([(⟨1, 0, 0, 255⟩ : C4), (⟨0, 1, 0, 255⟩ : C4), (⟨0, 0, 1, 255⟩ : C4), (⟨0, 0, 0, 255⟩ : C4)]).length) cr6) 37 4 (([(⟨1, 0, 0, 255⟩ : C4), (⟨0, 1, 0, 255⟩ : C4), (⟨0, 0, 1, 255⟩ : C4), (⟨0, 0, 0, 255⟩ : C4)]).length) (([(⟨1, 0, 0, 255⟩ : C4), (⟨0, 1, 0, 255⟩ : C4), (⟨0, 0, 1, 255⟩ : C4), (⟨0, 0, 0, 255⟩ : C4)]).flatMap C4.cells)), (1, .blk B1 (.cells #[.int .u8 1, .int .u8 0, .int .u8 0, .int .u8 255] 37)), (2, .blk B2 (.cells #[.int .u8 0, .int .u8 1, .int .u8 0, .int .u8 255] 37)), (3, .blk B3 (.cells #[.int .u8 0, .int .u8 0, .int .u8 1, .int .u8 255] 37)), (4, .blk B4 (.cells #[.int .u8 0, .int .u8 0, .int .u8 0, .int .u8 255] 37)), (5, .blk B5 (.cells #[.int .u8 1, .int .u8 0, .int .u8 0, .int .u8 255, .int .u8 0, .int .u8 1, .int .u8 0, .int .u8 255, .int .u8 0, .int .u8 0, .int .u8 1, .int .u8 255, .int .u8 0, .int .u8 0, .int .u8 0, .int .u8 255] 37)), (7, .blk B7 (.cells #[.int .i64 2, .int .i64 2, .slice ar6 (([(⟨1, 0, 0, 255⟩ : C4), (⟨0, 1, 0, 255⟩ : C4), (⟨0, 0, 1, 255⟩ : C4), (⟨0, 0, 0, 255⟩ : C4)]).length) cr6] 75)), (9, .blk B9 (.cells #[.int .i64 2, .int .i64 2, .slice ar8 ((quarL 2 2 [(⟨1, 0, 0, 255⟩ : C4), (⟨0, 1, 0, 255⟩ : C4), (⟨0, 0, 1, 255⟩ : C4), (⟨0, 0, 0, 255⟩ : C4)]).length) cr8] 75)), (11, .blk B11 (.cells #[.int .i64 2, .int .i64 2, .slice ar10 ((flpL 2 2 [(⟨1, 0, 0, 255⟩ : C4), (⟨0, 1, 0, 255⟩ : C4), (⟨0, 0, 1, 255⟩ : C4), (⟨0, 0, 0, 255⟩ : C4)]).length) cr10] 75)), (12, .blk B12 (.cells #[.int .i64 7, .int .i64 0] 47)), (14, .blk B14 (.cells #[.int .i64 1, .int .i64 2, .slice ar13 ((cutL c2.wd c2.ts 7 0 1 2).length) cr13] 75)), (15, .blk B15 (.cells #[.int .i64 0, .int .i64 0, .slice none 0 0] 75))] (sub_cons rfl (sub_cons rfl (sub_cons rfl (sub_cons rfl (sub_cons rfl (sub_cons rfl (sub_cons rfl (sub_cons rfl (sub_cons rfl (sub_cons rfl (sub_cons rfl (sub_cons rfl (sub_cons rfl (sub_cons rfl (sub_cons rfl (sub_cons rfl (sub_cons rfl (sub_cons rfl sub_nil)))))))))))))))))) (sub_cons rfl (sub_cons rfl (sub_cons rfl (sub_cons rfl (sub_cons rfl (sub_cons rfl (sub_cons rfl (sub_cons rfl (sub_cons rfl (sub_cons rfl (sub_cons rfl (sub_cons rfl (sub_cons rfl (sub_cons rfl (sub_cons rfl (sub_cons rfl sub_nil)))))))))))))))) ?_
  have f1 : c2.ts = wkT := by rw [hts_c2, hwd_c1, hhg_c1, hts_c1]; rfl
  have f2 : quarL 2 2 [(⟨1, 0, 0, 255⟩ : C4), (⟨0, 1, 0, 255⟩ : C4), (⟨0, 0, 1, 255⟩ : C4), (⟨0, 0, 0, 255⟩ : C4)] = [(⟨0, 0, 1, 255⟩ : C4), (⟨1, 0, 0, 255⟩ : C4), (⟨0, 0, 0, 255⟩ : C4), (⟨0, 1, 0, 255⟩ : C4)] := swk3
  have f3 : flpL 2 2 [(⟨1, 0, 0, 255⟩ : C4), (⟨0, 1, 0, 255⟩ : C4), (⟨0, 0, 1, 255⟩ : C4), (⟨0, 0, 0, 255⟩ : C4)] = [(⟨0, 1, 0, 255⟩ : C4), (⟨1, 0, 0, 255⟩ : C4), (⟨0, 0, 0, 255⟩ : C4), (⟨0, 0, 1, 255⟩ : C4)] := swk4
  have f4 : cutL c2.wd c2.ts 7 0 1 2 = [(⟨1, 0, 0, 255⟩ : C4), (⟨0, 0, 1, 255⟩ : C4)] := by rw [hwd_c2, hwd_c1, f1]; exact swk1
  have f5 : (difC c1.wd c1.hg c1.ts c2.ts).length = 2 := by rw [hwd_c1, hhg_c1, hts_c1, f1]; exact swk2
  have f6 : (((difC c1.wd c1.hg c1.ts c2.ts).length : Nat) : Int) = 2 := by rw [f5]; rfl
  have f7 : ((wearN [(⟨1, 0, 0, 255⟩ : C4), (⟨0, 1, 0, 255⟩ : C4), (⟨0, 0, 1, 255⟩ : C4), (⟨0, 0, 0, 255⟩ : C4)] [(⟨1, 0, 0, 255⟩ : C4), (⟨0, 1, 0, 255⟩ : C4), (⟨0, 0, 1, 255⟩ : C4), (⟨0, 0, 0, 255⟩ : C4)].length : Nat) : Int) = 4 := congrArg Int.ofNat swk5
  refine T_seq (T_region ?_)
  refine TL_q (.int .i64 0) (fun _ _ hρ _ => r_move (hρ _ _ rfl)) rfl rfl rfl (w_n rfl) ?_
  refine TL_q (.bool true) (fun _ _ hρ _ => r_as (r_eql (hρ _ _ rfl) (hρ _ _ rfl)) (by rfl)) rfl rfl rfl (w_n rfl) ?_
  refine TL_q (.bool true) (fun _ _ hρ _ => r_move (hρ _ _ rfl)) rfl rfl rfl (w_n rfl) ?_
  refine TL_q (.int .i64 0) (fun _ _ hρ _ => r_move (hρ _ _ rfl)) rfl rfl rfl (want_y 66 rfl rfl rfl) ?_
  refine TL_q (.bool true) (fun _ _ hρ _ => r_as (r_eql (hρ _ _ rfl) (hρ _ _ rfl)) (by rfl)) rfl rfl rfl (want_y 66 rfl rfl rfl) ?_
  refine TL_q (.bool true) (fun _ _ hρ _ => r_pick_t (hρ _ _ rfl) (hρ _ _ rfl)) rfl rfl rfl (w_n rfl) ?_
  refine TL_q (.bool true) (fun _ _ hρ _ => r_move (hρ _ _ rfl)) rfl rfl rfl (w_n rfl) ?_
  refine TL_q (.int .i64 0) (fun _ _ hρ _ => r_move (hρ _ _ rfl)) rfl rfl rfl (want_y 70 rfl rfl rfl) ?_
  refine TL_q (.bool true) (fun _ _ hρ _ => r_as (r_eql (hρ _ _ rfl) (hρ _ _ rfl)) (by rfl)) rfl rfl rfl (want_y 70 rfl rfl rfl) ?_
  refine TL_q (.bool true) (fun _ _ hρ _ => r_pick_t (hρ _ _ rfl) (hρ _ _ rfl)) rfl rfl rfl (w_n rfl) ?_
  refine TL_q (.bool true) (fun _ _ hρ _ => r_move (hρ _ _ rfl)) rfl rfl rfl (w_n rfl) ?_
  refine TL_q (.int .i64 0) (fun _ _ hρ _ => r_move (hρ _ _ rfl)) rfl rfl rfl (want_y 74 rfl rfl rfl) ?_
  refine TL_q (.bool true) (fun _ _ hρ _ => r_as (r_eql (hρ _ _ rfl) (hρ _ _ rfl)) (by rfl)) rfl rfl rfl (want_y 74 rfl rfl rfl) ?_
  refine TL_q (.bool true) (fun _ _ hρ _ => r_pick_t (hρ _ _ rfl) (hρ _ _ rfl)) rfl rfl rfl (w_n rfl) ?_
  refine TL_q (.bool true) (fun _ _ hρ _ => r_move (hρ _ _ rfl)) rfl rfl rfl (w_n rfl) ?_
  refine TL_q (.int .i64 0) (fun _ _ hρ _ => r_move (hρ _ _ rfl)) rfl rfl rfl (want_y 78 rfl rfl rfl) ?_
  refine TL_q (.bool true) (fun _ _ hρ _ => r_as (r_eql (hρ _ _ rfl) (hρ _ _ rfl)) (by rfl)) rfl rfl rfl (want_y 78 rfl rfl rfl) ?_
  refine TL_q (.bool true) (fun _ _ hρ _ => r_pick_t (hρ _ _ rfl) (hρ _ _ rfl)) rfl rfl rfl (w_n rfl) ?_
  refine TL_q (.bool true) (fun _ _ hρ _ => r_move (hρ _ _ rfl)) rfl rfl rfl (w_n rfl) ?_
  refine TL_q (.int .i64 0) (fun _ _ hρ _ => r_move (hρ _ _ rfl)) rfl rfl rfl (want_y 82 rfl rfl rfl) ?_
  refine TL_q (.bool true) (fun _ _ hρ _ => r_as (r_eql (hρ _ _ rfl) (hρ _ _ rfl)) (by rfl)) rfl rfl rfl (want_y 82 rfl rfl rfl) ?_
  refine TL_q (.bool true) (fun _ _ hρ _ => r_pick_t (hρ _ _ rfl) (hρ _ _ rfl)) rfl rfl rfl (w_n rfl) ?_
  refine TL_q (.bool true) (fun _ _ hρ _ => r_move (hρ _ _ rfl)) rfl rfl rfl (w_n rfl) ?_
  refine TL_q (.int .i64 2) (fun _ _ hρ _ => r_move (hρ _ _ rfl)) rfl rfl rfl (want_y 86 rfl rfl rfl) ?_
  refine TL_q (.bool true) (fun _ _ hρ _ => r_as (r_eql (hρ _ _ rfl) (hρ _ _ rfl)) (by rfl)) rfl rfl rfl (want_y 86 rfl rfl rfl) ?_
  refine TL_q (.bool true) (fun _ _ hρ _ => r_pick_t (hρ _ _ rfl) (hρ _ _ rfl)) rfl rfl rfl (w_n rfl) ?_
  refine TL_q (.bool true) (fun _ _ hρ _ => r_move (hρ _ _ rfl)) rfl rfl rfl (w_n rfl) ?_
  refine TL_q (.pointer (some ⟨B9, 2, none⟩)) (fun _ _ hρ _ => r_fieldAddr fl75_2 sz71 (hρ _ _ rfl)) rfl rfl rfl (want_y 90 rfl rfl rfl) ?_
  refine TL_q (.slice ar8 ((quarL 2 2 [(⟨1, 0, 0, 255⟩ : C4), (⟨0, 1, 0, 255⟩ : C4), (⟨0, 0, 1, 255⟩ : C4), (⟨0, 0, 0, 255⟩ : C4)]).length) cr8) (fun _ _ hρ hm => r_load ag71 (hρ _ _ rfl) (hm.at 9 rfl) rfl) rfl rfl rfl (want_y 90 rfl rfl rfl) ?_
  refine TL_q (.agg #[.int .u8 0, .int .u8 0, .int .u8 1, .int .u8 255]) (fun _ _ hρ hm => r_loadA ag37 sz37 (hρ _ _ rfl) (hm.at 3 rfl) rfl rfl) rfl rfl rfl (want_y 90 rfl rfl rfl) ?_
  refine TL_q (.agg #[.int .u8 1, .int .u8 0, .int .u8 0, .int .u8 255]) (fun _ _ hρ hm => r_loadA ag37 sz37 (hρ _ _ rfl) (hm.at 1 rfl) rfl rfl) rfl rfl rfl (want_y 90 rfl rfl rfl) ?_
  refine TL_q (.agg #[.int .u8 0, .int .u8 0, .int .u8 0, .int .u8 255]) (fun _ _ hρ hm => r_loadA ag37 sz37 (hρ _ _ rfl) (hm.at 4 rfl) rfl rfl) rfl rfl rfl (want_y 90 rfl rfl rfl) ?_
  refine TL_q (.agg #[.int .u8 0, .int .u8 1, .int .u8 0, .int .u8 255]) (fun _ _ hρ hm => r_loadA ag37 sz37 (hρ _ _ rfl) (hm.at 2 rfl) rfl rfl) rfl rfl rfl (want_y 90 rfl rfl rfl) ?_
  refine TL_new 16 (.cells #[.int .u8 0, .int .u8 0, .int .u8 1, .int .u8 255, .int .u8 1, .int .u8 0, .int .u8 0, .int .u8 255, .int .u8 0, .int .u8 0, .int .u8 0, .int .u8 255, .int .u8 0, .int .u8 1, .int .u8 0, .int .u8 255] 37) (fun B => .slice (some ⟨B, 0, none⟩) 4 4) (fun _ _ hρ _ => r_buildSlice (vs := [(0, .agg #[.int .u8 0, .int .u8 0, .int .u8 1, .int .u8 255]), (1, .agg #[.int .u8 1, .int .u8 0, .int .u8 0, .int .u8 255]), (2, .agg #[.int .u8 0, .int .u8 0, .int .u8 0, .int .u8 255]), (3, .agg #[.int .u8 0, .int .u8 1, .int .u8 0, .int .u8 255])]) (by kernel_rfl) (cons2 (pair2 (hρ _ _ rfl)) (cons2 (pair2 (hρ _ _ rfl)) (cons2 (pair2 (hρ _ _ rfl)) (cons2 (pair2 (hρ _ _ rfl)) rfl))))) rfl rfl rfl (want_y 90 rfl rfl rfl) ?_
  intro B16
  refine TL_call (.bool true) (fun _ _ hρ _ => r_call (args := [.slice ar8 ((quarL 2 2 [(⟨1, 0, 0, 255⟩ : C4), (⟨0, 1, 0, 255⟩ : C4), (⟨0, 0, 1, 255⟩ : C4), (⟨0, 0, 0, 255⟩ : C4)]).length) cr8, .slice (some ⟨B16, 0, none⟩) 4 4]) (enters_of Try.func46 (by kernel_rfl) rfl) (hρ _ _ rfl) ((cons2 (hρ _ _ rfl) (cons2 (hρ _ _ rfl) rfl))) rfl) (fun w hm => (equal_c4 (quarL 2 2 [(⟨1, 0, 0, 255⟩ : C4), (⟨0, 1, 0, 255⟩ : C4), (⟨0, 0, 1, 255⟩ : C4), (⟨0, 0, 0, 255⟩ : C4)]) [(⟨0, 0, 1, 255⟩ : C4), (⟨1, 0, 0, 255⟩ : C4), (⟨0, 0, 0, 255⟩ : C4), (⟨0, 1, 0, 255⟩ : C4)] ar8 (some ⟨B16, 0, none⟩) cr8 4 w (SliceAt.own C4.cells_len (hm.row 8 rfl) rfl rfl) ⟨Nat.le_of_ble_eq_true rfl, (fun e => by cases e), .inr ⟨_, 0, _, _, _, rfl, (hm.at 16 rfl), row_of_take (fun _ => rfl) rfl⟩⟩ (by first | omega | exact Nat.le_of_ble_eq_true rfl) (Nat.le_of_ble_eq_true rfl)).mono fun _ _ h => ⟨h.1.trans (congrArg Ending.returned (bool_as (decide_eq_true f2))), h.2⟩) rfl rfl rfl (want_y 90 rfl rfl rfl) ?_
  refine TL_q (.bool true) (fun _ _ hρ _ => r_pick_t (hρ _ _ rfl) (hρ _ _ rfl)) rfl rfl rfl (w_n rfl) ?_
  refine TL_q (.bool true) (fun _ _ hρ _ => r_move (hρ _ _ rfl)) rfl rfl rfl (w_n rfl) ?_
  refine TL_q (.pointer (some ⟨B11, 2, none⟩)) (fun _ _ hρ _ => r_fieldAddr fl75_2 sz71 (hρ _ _ rfl)) rfl rfl rfl (want_y 100 rfl rfl rfl) ?_
  refine TL_q (.slice ar10 ((flpL 2 2 [(⟨1, 0, 0, 255⟩ : C4), (⟨0, 1, 0, 255⟩ : C4), (⟨0, 0, 1, 255⟩ : C4), (⟨0, 0, 0, 255⟩ : C4)]).length) cr10) (fun _ _ hρ hm => r_load ag71 (hρ _ _ rfl) (hm.at 11 rfl) rfl) rfl rfl rfl (want_y 100 rfl rfl rfl) ?_
  refine TL_q (.agg #[.int .u8 0, .int .u8 1, .int .u8 0, .int .u8 255]) (fun _ _ hρ hm => r_loadA ag37 sz37 (hρ _ _ rfl) (hm.at 2 rfl) rfl rfl) rfl rfl rfl (want_y 100 rfl rfl rfl) ?_
  refine TL_q (.agg #[.int .u8 1, .int .u8 0, .int .u8 0, .int .u8 255]) (fun _ _ hρ hm => r_loadA ag37 sz37 (hρ _ _ rfl) (hm.at 1 rfl) rfl rfl) rfl rfl rfl (want_y 100 rfl rfl rfl) ?_
  refine TL_q (.agg #[.int .u8 0, .int .u8 0, .int .u8 0, .int .u8 255]) (fun _ _ hρ hm => r_loadA ag37 sz37 (hρ _ _ rfl) (hm.at 4 rfl) rfl rfl) rfl rfl rfl (want_y 100 rfl rfl rfl) ?_
  refine TL_q (.agg #[.int .u8 0, .int .u8 0, .int .u8 1, .int .u8 255]) (fun _ _ hρ hm => r_loadA ag37 sz37 (hρ _ _ rfl) (hm.at 3 rfl) rfl rfl) rfl rfl rfl (want_y 100 rfl rfl rfl) ?_
  refine TL_new 17 (.cells #[.int .u8 0, .int .u8 1, .int .u8 0, .int .u8 255, .int .u8 1, .int .u8 0, .int .u8 0, .int .u8 255, .int .u8 0, .int .u8 0, .int .u8 0, .int .u8 255, .int .u8 0, .int .u8 0, .int .u8 1, .int .u8 255] 37) (fun B => .slice (some ⟨B, 0, none⟩) 4 4) (fun _ _ hρ _ => r_buildSlice (vs := [(0, .agg #[.int .u8 0, .int .u8 1, .int .u8 0, .int .u8 255]), (1, .agg #[.int .u8 1, .int .u8 0, .int .u8 0, .int .u8 255]), (2, .agg #[.int .u8 0, .int .u8 0, .int .u8 0, .int .u8 255]), (3, .agg #[.int .u8 0, .int .u8 0, .int .u8 1, .int .u8 255])]) (by kernel_rfl) (cons2 (pair2 (hρ _ _ rfl)) (cons2 (pair2 (hρ _ _ rfl)) (cons2 (pair2 (hρ _ _ rfl)) (cons2 (pair2 (hρ _ _ rfl)) rfl))))) rfl rfl rfl (want_y 100 rfl rfl rfl) ?_
  intro B17
  refine TL_call (.bool true) (fun _ _ hρ _ => r_call (args := [.slice ar10 ((flpL 2 2 [(⟨1, 0, 0, 255⟩ : C4), (⟨0, 1, 0, 255⟩ : C4), (⟨0, 0, 1, 255⟩ : C4), (⟨0, 0, 0, 255⟩ : C4)]).length) cr10, .slice (some ⟨B17, 0, none⟩) 4 4]) (enters_of Try.func46 (by kernel_rfl) rfl) (hρ _ _ rfl) ((cons2 (hρ _ _ rfl) (cons2 (hρ _ _ rfl) rfl))) rfl) (fun w hm => (equal_c4 (flpL 2 2 [(⟨1, 0, 0, 255⟩ : C4), (⟨0, 1, 0, 255⟩ : C4), (⟨0, 0, 1, 255⟩ : C4), (⟨0, 0, 0, 255⟩ : C4)]) [(⟨0, 1, 0, 255⟩ : C4), (⟨1, 0, 0, 255⟩ : C4), (⟨0, 0, 0, 255⟩ : C4), (⟨0, 0, 1, 255⟩ : C4)] ar10 (some ⟨B17, 0, none⟩) cr10 4 w (SliceAt.own C4.cells_len (hm.row 10 rfl) rfl rfl) ⟨Nat.le_of_ble_eq_true rfl, (fun e => by cases e), .inr ⟨_, 0, _, _, _, rfl, (hm.at 17 rfl), row_of_take (fun _ => rfl) rfl⟩⟩ (by first | omega | exact Nat.le_of_ble_eq_true rfl) (Nat.le_of_ble_eq_true rfl)).mono fun _ _ h => ⟨h.1.trans (congrArg Ending.returned (bool_as (decide_eq_true f3))), h.2⟩) rfl rfl rfl (want_y 100 rfl rfl rfl) ?_
  refine TL_q (.bool true) (fun _ _ hρ _ => r_pick_t (hρ _ _ rfl) (hρ _ _ rfl)) rfl rfl rfl (w_n rfl) ?_
  refine TL_q (.bool true) (fun _ _ hρ _ => r_move (hρ _ _ rfl)) rfl rfl rfl (w_n rfl) ?_
  refine TL_q (.pointer (some ⟨B14, 2, none⟩)) (fun _ _ hρ _ => r_fieldAddr fl75_2 sz71 (hρ _ _ rfl)) rfl rfl rfl (want_y 110 rfl rfl rfl) ?_
  refine TL_q (.slice ar13 ((cutL c2.wd c2.ts 7 0 1 2).length) cr13) (fun _ _ hρ hm => r_load ag71 (hρ _ _ rfl) (hm.at 14 rfl) rfl) rfl rfl rfl (want_y 110 rfl rfl rfl) ?_
  refine TL_q (.agg #[.int .u8 1, .int .u8 0, .int .u8 0, .int .u8 255]) (fun _ _ hρ hm => r_loadA ag37 sz37 (hρ _ _ rfl) (hm.at 1 rfl) rfl rfl) rfl rfl rfl (want_y 110 rfl rfl rfl) ?_
  refine TL_q (.agg #[.int .u8 0, .int .u8 0, .int .u8 1, .int .u8 255]) (fun _ _ hρ hm => r_loadA ag37 sz37 (hρ _ _ rfl) (hm.at 3 rfl) rfl rfl) rfl rfl rfl (want_y 110 rfl rfl rfl) ?_
  refine TL_new 18 (.cells #[.int .u8 1, .int .u8 0, .int .u8 0, .int .u8 255, .int .u8 0, .int .u8 0, .int .u8 1, .int .u8 255] 37) (fun B => .slice (some ⟨B, 0, none⟩) 2 2) (fun _ _ hρ _ => r_buildSlice (vs := [(0, .agg #[.int .u8 1, .int .u8 0, .int .u8 0, .int .u8 255]), (1, .agg #[.int .u8 0, .int .u8 0, .int .u8 1, .int .u8 255])]) (by kernel_rfl) (cons2 (pair2 (hρ _ _ rfl)) (cons2 (pair2 (hρ _ _ rfl)) rfl))) rfl rfl rfl (want_y 110 rfl rfl rfl) ?_
  intro B18
  refine TL_call (.bool true) (fun _ _ hρ _ => r_call (args := [.slice ar13 ((cutL c2.wd c2.ts 7 0 1 2).length) cr13, .slice (some ⟨B18, 0, none⟩) 2 2]) (enters_of Try.func46 (by kernel_rfl) rfl) (hρ _ _ rfl) ((cons2 (hρ _ _ rfl) (cons2 (hρ _ _ rfl) rfl))) rfl) (fun w hm => (equal_c4 (cutL c2.wd c2.ts 7 0 1 2) [(⟨1, 0, 0, 255⟩ : C4), (⟨0, 0, 1, 255⟩ : C4)] ar13 (some ⟨B18, 0, none⟩) cr13 2 w (SliceAt.own C4.cells_len (hm.row 13 rfl) rfl rfl) ⟨Nat.le_of_ble_eq_true rfl, (fun e => by cases e), .inr ⟨_, 0, _, _, _, rfl, (hm.at 18 rfl), row_of_take (fun _ => rfl) rfl⟩⟩ (by first | omega | exact Nat.le_of_ble_eq_true rfl) (Nat.le_of_ble_eq_true rfl)).mono fun _ _ h => ⟨h.1.trans (congrArg Ending.returned (bool_as (decide_eq_true f4))), h.2⟩) rfl rfl rfl (want_y 110 rfl rfl rfl) ?_
  refine TL_q (.bool true) (fun _ _ hρ _ => r_pick_t (hρ _ _ rfl) (hρ _ _ rfl)) rfl rfl rfl (w_n rfl) ?_
  refine TL_q (.bool true) (fun _ _ hρ _ => r_move (hρ _ _ rfl)) rfl rfl rfl (w_n rfl) ?_
  refine TL_q (.pointer (some ⟨c1.p, 0, none⟩)) (fun _ _ hρ _ => r_move (hρ _ _ rfl)) rfl rfl rfl (want_y 118 rfl rfl rfl) ?_
  refine TL_q (.pointer (some ⟨c2.p, 0, none⟩)) (fun _ _ hρ _ => r_move (hρ _ _ rfl)) rfl rfl rfl (want_y 118 rfl rfl rfl) ?_
  refine TL_callN (fun (_ : Option Addr × Nat) => True) (fun (ar19, cr19) => .slice ar19 ((difC c1.wd c1.hg c1.ts c2.ts).length) cr19) (fun (ar19, cr19) => [(19, .row (.slice ar19 ((difC c1.wd c1.hg c1.ts c2.ts).length) cr19) 47 2 ((difC c1.wd c1.hg c1.ts c2.ts).length) ((difC c1.wd c1.hg c1.ts c2.ts).flatMap ptn))]) (fun _ _ hρ _ => r_call (args := [.pointer (some ⟨c1.p, 0, none⟩), .pointer (some ⟨c2.p, 0, none⟩)]) (enters_of Try.func22 (by kernel_rfl) rfl) (hρ _ _ rfl) ((cons2 (hρ _ _ rfl) (cons2 (hρ _ _ rfl) rfl))) rfl) (fun w hm => (differ_eq c1 c2 w (hm.cv 960 rfl (List.Mem.tail _ (List.Mem.head _))) (hm.cv 960 rfl (List.Mem.head _)) hwd_c2.symm hhg_c2.symm).mono fun e w' ⟨a', cap', he, hb, hr⟩ => ⟨(a', cap'), trivial, he, hb, newOk1 19 hr⟩) rfl rfl rfl (want_y 118 rfl rfl rfl) ?_
  rintro ⟨ar19, cr19⟩ -
  refine TL_q (.int .i64 (((difC c1.wd c1.hg c1.ts c2.ts).length : Nat) : Int)) (fun _ _ hρ _ => r_len sl44 (hρ _ _ rfl)) rfl rfl rfl (want_y 118 rfl rfl rfl) ?_
  refine TL_q (.bool true) (fun _ _ hρ _ => r_as (r_eql (hρ _ _ rfl) (hρ _ _ rfl)) (bool_as (decide_eq_true f6))) rfl rfl rfl (want_y 118 rfl rfl rfl) ?_
  refine TL_q (.bool true) (fun _ _ hρ _ => r_pick_t (hρ _ _ rfl) (hρ _ _ rfl)) rfl rfl rfl (w_n rfl) ?_
  refine TL_q (.bool true) (fun _ _ hρ _ => r_move (hρ _ _ rfl)) rfl rfl rfl (w_n rfl) ?_
  refine TL_q (.agg #[.int .i64 2, .int .i64 2, .slice ar6 (([(⟨1, 0, 0, 255⟩ : C4), (⟨0, 1, 0, 255⟩ : C4), (⟨0, 0, 1, 255⟩ : C4), (⟨0, 0, 0, 255⟩ : C4)]).length) cr6]) (fun _ _ hρ hm => r_loadA ag75 sz75 (hρ _ _ rfl) (hm.at 7 rfl) rfl rfl) rfl rfl rfl (want_y 125 rfl rfl rfl) ?_
  refine TL_call (.int .i64 ((wearN [(⟨1, 0, 0, 255⟩ : C4), (⟨0, 1, 0, 255⟩ : C4), (⟨0, 0, 1, 255⟩ : C4), (⟨0, 0, 0, 255⟩ : C4)] [(⟨1, 0, 0, 255⟩ : C4), (⟨0, 1, 0, 255⟩ : C4), (⟨0, 0, 1, 255⟩ : C4), (⟨0, 0, 0, 255⟩ : C4)].length : Nat) : Int)) (fun _ _ hρ _ => r_call (args := [.agg #[.int .i64 2, .int .i64 2, .slice ar6 (([(⟨1, 0, 0, 255⟩ : C4), (⟨0, 1, 0, 255⟩ : C4), (⟨0, 0, 1, 255⟩ : C4), (⟨0, 0, 0, 255⟩ : C4)]).length) cr6]]) (enters_of Try.func52 (by kernel_rfl) rfl) (hρ _ _ rfl) ((cons2 (hρ _ _ rfl) rfl)) rfl) (fun w hm => wears_ok 2 2 [(⟨1, 0, 0, 255⟩ : C4), (⟨0, 1, 0, 255⟩ : C4), (⟨0, 0, 1, 255⟩ : C4), (⟨0, 0, 0, 255⟩ : C4)] ar6 cr6 w (SliceAt.own C4.cells_len (hm.row 6 rfl) rfl rfl) (row_cap (hm.row 6 rfl)) (by decide) (by decide) (by decide) (fun c hc => (wkPx_ok c hc).2.2.2.1)) rfl rfl rfl (want_y 125 rfl rfl rfl) ?_
  refine TL_q (.bool true) (fun _ _ hρ _ => r_as (r_eql (hρ _ _ rfl) (hρ _ _ rfl)) (bool_as (decide_eq_true f7))) rfl rfl rfl (want_y 125 rfl rfl rfl) ?_
  refine TL_q (.bool true) (fun _ _ hρ _ => r_pick_t (hρ _ _ rfl) (hρ _ _ rfl)) rfl rfl rfl (w_n rfl) ?_
  refine TL_q (.bool true) (fun _ _ hρ _ => r_assign (hρ _ _ rfl)) rfl rfl rfl (w_n rfl) ?_
  refine TL_seq ?_
  refine T_sub [(0, .bool true)] [(19, .row (.slice ar19 ((difC c1.wd c1.hg c1.ts c2.ts).length) cr19) 47 2 ((difC c1.wd c1.hg c1.ts c2.ts).length) ((difC c1.wd c1.hg c1.ts c2.ts).flatMap ptn)), (13, .row (.slice ar13 ((cutL c2.wd c2.ts 7 0 1 2).length) cr13) 37 4 ((cutL c2.wd c2.ts 7 0 1 2).length) ((cutL c2.wd c2.ts 7 0 1 2).flatMap C4.cells)), (960, .cvs [c2, c1]), (10, .row (.slice ar10 ((flpL 2 2 [(⟨1, 0, 0, 255⟩ : C4), (⟨0, 1, 0, 255⟩ : C4), (⟨0, 0, 1, 255⟩ : C4), (⟨0, 0, 0, 255⟩ : C4)]).length) cr10) 37 4 ((flpL 2 2 [(⟨1, 0, 0, 255⟩ : C4), (⟨0, 1, 0, 255⟩ : C4), (⟨0, 0, 1, 255⟩ : C4), (⟨0, 0, 0, 255⟩ : C4)]).length) ((flpL 2 2 [(⟨1, 0, 0, 255⟩ : C4), (⟨0, 1, 0, 255⟩ : C4), (⟨0, 0, 1, 255⟩ : C4), (⟨0, 0, 0, 255⟩ : C4)]).flatMap C4.cells)), (8, .row (.slice ar8 ((quarL 2 2 [(⟨1, 0, 0, 255⟩ : C4), (⟨0, 1, 0, 255⟩ : C4), (⟨0, 0, 1, 255⟩ : C4), (⟨0, 0, 0, 255⟩ : C4)]).length) cr8) 37 4 ((quarL 2 2 [(⟨1, 0, 0, 255⟩ : C4), (⟨0, 1, 0, 255⟩ : C4), (⟨0, 0, 1, 255⟩ : C4), (⟨0, 0, 0, 255⟩ : C4)]).length) ((quarL 2 2 [(⟨1, 0, 0, 255⟩ : C4), (⟨0, 1, 0, 255⟩ : C4), (⟨0, 0, 1, 255⟩ : C4), (⟨0, 0, 0, 255⟩ : C4)]).flatMap C4.cells)), (6, .row (.slice ar6 (([(⟨1, 0, 0, 255⟩ : C4), (⟨0, 1, 0, 255⟩ : C4), (⟨0, 0, 1, 255⟩ : C4), (⟨0, 0, 0, 255⟩ : C4)]).length) cr6) 37 4 (([(⟨1, 0, 0, 255⟩ : C4), (⟨0, 1, 0, 255⟩ : C4), (⟨0, 0, 1, 255⟩ : C4), (⟨0, 0, 0, 255⟩ : C4)]).length) (([(⟨1, 0, 0, 255⟩ : C4), (⟨0, 1, 0, 255⟩ : C4), (⟨0, 0, 1, 255⟩ : C4), (⟨0, 0, 0, 255⟩ : C4)]).flatMap C4.cells)), (1, .blk B1 (.cells #[.int .u8 1, .int .u8 0, .int .u8 0, .int .u8 255] 37)), (2, .blk B2 (.cells #[.int .u8 0, .int .u8 1, .int .u8 0, .int .u8 255] 37)), (3, .blk B3 (.cells #[.int .u8 0, .int .u8 0, .int .u8 1, .int .u8 255] 37)), (4, .blk B4 (.cells #[.int .u8 0, .int .u8 0, .int .u8 0, .int .u8 255] 37)), (5, .blk B5 (.cells #[.int .u8 1, .int .u8 0, .int .u8 0, .int .u8 255, .int .u8 0, .int .u8 1, .int .u8 0, .int .u8 255, .int .u8 0, .int .u8 0, .int .u8 1, .int .u8 255, .int .u8 0, .int .u8 0, .int .u8 0, .int .u8 255] 37)), (7, .blk B7 (.cells #[.int .i64 2, .int .i64 2, .slice ar6 (([(⟨1, 0, 0, 255⟩ : C4), (⟨0, 1, 0, 255⟩ : C4), (⟨0, 0, 1, 255⟩ : C4), (⟨0, 0, 0, 255⟩ : C4)]).length) cr6] 75)), (9, .blk B9 (.cells #[.int .i64 2, .int .i64 2, .slice ar8 ((quarL 2 2 [(⟨1, 0, 0, 255⟩ : C4), (⟨0, 1, 0, 255⟩ : C4), (⟨0, 0, 1, 255⟩ : C4), (⟨0, 0, 0, 255⟩ : C4)]).length) cr8] 75)), (11, .blk B11 (.cells #[.int .i64 2, .int .i64 2, .slice ar10 ((flpL 2 2 [(⟨1, 0, 0, 255⟩ : C4), (⟨0, 1, 0, 255⟩ : C4), (⟨0, 0, 1, 255⟩ : C4), (⟨0, 0, 0, 255⟩ : C4)]).length) cr10] 75)), (12, .blk B12 (.cells #[.int .i64 7, .int .i64 0] 47)), (14, .blk B14 (.cells #[.int .i64 1, .int .i64 2, .slice ar13 ((cutL c2.wd c2.ts 7 0 1 2).length) cr13] 75)), (15, .blk B15 (.cells #[.int .i64 0, .int .i64 0, .slice none 0 0] 75)), (16, .blk B16 (.cells #[.int .u8 0, .int .u8 0, .int .u8 1, .int .u8 255, .int .u8 1, .int .u8 0, .int .u8 0, .int .u8 255, .int .u8 0, .int .u8 0, .int .u8 0, .int .u8 255, .int .u8 0, .int .u8 1, .int .u8 0, .int .u8 255] 37)), (17, .blk B17 (.cells #[.int .u8 0, .int .u8 1, .int .u8 0, .int .u8 255, .int .u8 1, .int .u8 0, .int .u8 0, .int .u8 255, .int .u8 0, .int .u8 0, .int .u8 0, .int .u8 255, .int .u8 0, .int .u8 0, .int .u8 1, .int .u8 255] 37)), (18, .blk B18 (.cells #[.int .u8 1, .int .u8 0, .int .u8 0, .int .u8 255, .int .u8 0, .int .u8 0, .int .u8 1, .int .u8 255] 37))] (sub_cons rfl sub_nil) (sub_cons rfl (sub_cons rfl (sub_cons rfl (sub_cons rfl (sub_cons rfl (sub_cons rfl (sub_cons rfl (sub_cons rfl (sub_cons rfl (sub_cons rfl (sub_cons rfl (sub_cons rfl (sub_cons rfl (sub_cons rfl (sub_cons rfl (sub_cons rfl (sub_cons rfl (sub_cons rfl (sub_cons rfl (sub_cons rfl sub_nil)))))))))))))))))))) ?_
  refine T_ret' ?_
  refine ret_of rfl (.bool true) (fun tmps w hk hm => res1 rfl (res_tmp (hk 0 _ rfl))) (fun w hm => ?_)
  exact ⟨rfl, hm.ext⟩
end Go.Proofs.Ytbiapeaghbndoaa
/- stamp: what the laws need, plainly: parts of pixels written over; sizes of rows. -/
namespace Go.Proofs.Ytbiapeaghbndoaa
open Go Go.RowKit
/-- A part of a pixel written over. -/
theorem wr_col {l : List C4} {k q : Nat} {c c' : C4} {pre mid suf vs : List Value} (hc : l[k]? = some c) (h1 : c.cells = pre ++ mid ++ suf) (h2 : c'.cells = pre ++ vs ++ suf) (hl : mid.length = vs.length) (hq : q = pre.length) (post : List Value) : wrC (l.flatMap C4.cells ++ post).toArray (0 + k * 4 + q) vs = ((l.set k c').flatMap C4.cells ++ post).toArray := by
  subst hq
  rw [Nat.zero_add]
  exact wr_part C4.cells_len hc h1 h2 hl _ rfl post
end Go.Proofs.Ytbiapeaghbndoaa
/- stamp: pixels whose last part is written over; contracts with lengths said otherwise. -/
namespace Go.Proofs.Ytbiapeaghbndoaa
open Go Go.RowKit
/-- A colour whose last part is v. -/
abbrev wA (v : Int) (c : C4) : C4 := ⟨c.r, c.g, c.b, v⟩
/-- The first k of them so. -/
def setA (v : Int) (k : Nat) (l : List C4) : List C4 := (l.take k).map (wA v) ++ l.drop k
theorem setA_zero (v : Int) (l : List C4) : setA v 0 l = l := by simp [setA]
theorem setA_all (v : Int) (l : List C4) : setA v l.length l = l.map (wA v) := by simp [setA]
theorem setA_len (v : Int) (k : Nat) (l : List C4) : (setA v k l).length = l.length := by
  unfold setA
  rw [List.length_append, List.length_map, List.length_take, List.length_drop]; omega
theorem setA_at {v : Int} {k : Nat} {l : List C4} {c : C4} (h : l[k]? = some c) : (setA v k l)[k]? = some c := by
  have hk := (List.getElem?_eq_some_iff.1 h).1
  unfold setA
  rw [List.getElem?_append_right (by rw [List.length_map, List.length_take]; omega), List.length_map, List.length_take, List.getElem?_drop, ← h]
  congr 1; omega
theorem setA_step {v : Int} {k : Nat} {l : List C4} {c : C4} (h : l[k]? = some c) : (setA v k l).set k (wA v c) = setA v (k + 1) l := by
  have hk := (List.getElem?_eq_some_iff.1 h).1
  have e : l.drop k = c :: l.drop (k + 1) := by
    rw [List.drop_eq_getElem_cons hk]
    congr 1
    rw [List.getElem?_eq_getElem hk] at h
    exact Option.some.inj h
  have hl : ((l.take k).map (wA v)).length = k := by rw [List.length_map, List.length_take]; omega
  unfold setA
  rw [e, List.set_append_right _ _ (by rw [hl]; exact Nat.le_refl _), hl, Nat.sub_self, List.set_cons_zero, List.take_add_one, h, List.map_append]
  simp
theorem mapA_ok {v : Int} {l : List C4} (hv : 0 ≤ v ∧ v ≤ 255) (h : ∀ c ∈ l, c.ok) : ∀ c ∈ l.map (wA v), c.ok := fun c hc => by
  obtain ⟨d, hd, rfl⟩ := List.mem_map.1 hc
  exact ⟨(h d hd).1, (h d hd).2.1, (h d hd).2.2.1, hv⟩
theorem mapA_a {v : Int} {l : List C4} : ∀ c ∈ l.map (wA v), c.a = v := fun c hc => by
  obtain ⟨d, hd, rfl⟩ := List.mem_map.1 hc
  rfl
end Go.Proofs.Ytbiapeaghbndoaa
/- canvas: the walk of StampCuts. Printed by a program of this seat's prover. -/
namespace Go.Proofs.Ytbiapeaghbndoaa
open Go Go.RowKit
set_option maxRecDepth 10000
theorem lay_okn (c : Cv) (p q : Nat) (px : List C4) (a : Option Addr) (cap : Nat) (l : List Pt) (al : Option Addr) (cl : Nat) (w0 : World) (hc : CvAt w0 c) (hv : SliceAt w0 a cap 4 C4.cells px) (hcap : cap ≤ Go.maxLen) (hl : SliceAt w0 al cl 2 Pt.cells l) (hcl : cl ≤ Go.maxLen) (hp8 : 1 ≤ p ∧ p ≤ 8) (hq8 : 1 ≤ q ∧ q ≤ 8) (hlen : px.length = p * q) (hpx : ∀ c ∈ px, c.ok) (hcok : TsOk c.ts) (n : Nat) (hn : px.length = n) : Calls Try.prog 60 #[.pointer (some ⟨c.p, 0, none⟩), .agg #[.int .i64 (p : Int), .int .i64 (q : Int), .slice a n cap], .slice al l.length cl] w0 fun e w' => ∃ d : Cv, e = .returned (.tuple #[.pointer (some ⟨d.p, 0, none⟩), .int .i64 0]) ∧ CvNew w0 w' [c] d ∧ d.wd = c.wd ∧ d.hg = c.hg ∧ d.ts = layN c.wd c.hg p q px c.ts l := by
  subst hn
  exact lay_ok c p q px a cap l al cl w0 hc hv hcap hl hcl hp8 hq8 hlen hpx hcok

theorem wears_okn (p q : Nat) (px : List C4) (a : Option Addr) (cap : Nat) (w : World) (hv : SliceAt w a cap 4 C4.cells px) (hcap : cap ≤ Go.maxLen) (hp : 1 ≤ p ∧ p ≤ 8) (hq : 1 ≤ q ∧ q ≤ 8) (hlen : px.length = p * q) (hby : ∀ c ∈ px, 0 ≤ c.a) (n : Nat) (hn : px.length = n) : Calls Try.prog 52 #[.agg #[.int .i64 (p : Int), .int .i64 (q : Int), .slice a n cap]] w fun e w' => e = .returned (.int .i64 (wearN px px.length : Nat)) ∧ Below w.heap.size w w' := by
  subst hn
  exact wears_ok p q px a cap w hv hcap hp hq hlen hby

theorem ssame_n (x y : Int) (px : List C4) (a : Option Addr) (cap : Nat) (w : World) (hv : SliceAt w a cap 4 C4.cells px) (hcap : cap ≤ Go.maxLen) (x2 y2 : Int) (qx : List C4) (b : Option Addr) (capb : Nat) (hu : SliceAt w b capb 4 C4.cells qx) (hcapb : capb ≤ Go.maxLen) (hpl : px.length ≤ 4611686018427387904) (hql : qx.length ≤ 4611686018427387904) (n : Nat) (hn : px.length = n) (m : Nat) (hm : qx.length = m) : Calls Try.prog 51 #[.agg #[.int .i64 x, .int .i64 y, .slice a n cap], .agg #[.int .i64 x2, .int .i64 y2, .slice b m capb]] w fun e w' => e = .returned (.bool (decide (x = x2 ∧ y = y2 ∧ px = qx))) ∧ Below w.heap.size w w' := by
  subst hn hm
  exact ssame_c x y px a cap w hv hcap x2 y2 qx b capb hu hcapb hpl hql

theorem sown2_c (x y : Int) (px : List C4) (a : Option Addr) (cap : Nat) (w : World) (hv : SliceAt w a cap 4 C4.cells px) (hcap : cap ≤ Go.maxLen) (hle : px.length ≤ 66) : Calls Try.prog 47 #[.agg #[.int .i64 x, .int .i64 y, .slice a px.length cap]] w fun e w' => ∃ a' cap', e = .returned (.agg #[.int .i64 x, .int .i64 y, .slice a' px.length cap']) ∧ Below w.heap.size w w' ∧ w'.ownsRow w.heap.size 37 4 (.slice a' (px).length cap') (px).length ((px).flatMap C4.cells) := by
  have h := sown_c x y px a cap w hv hcap
  rw [List.take_of_length_le hle] at h
  exact h

set_option maxHeartbeats 1000000 in
theorem scuts_no (x y : Int) (ts : List T64) (at1 : Option Addr) (ct : Nat) (x2 y2 : Int) (px : List C4) (a : Option Addr) (cap : Nat) (ux uy : Int) (w : World) (ht : SliceAt w at1 ct 256 T64.cells ts) (hct : ct ≤ Go.maxLen) (hv : SliceAt w a cap 4 C4.cells px) (hcap : cap ≤ Go.maxLen) (hnc : ¬ rightI x y ts.length = true) : Calls Try.prog 12 #[.agg #[.int .i64 x, .int .i64 y, .slice at1 ts.length ct], .agg #[.int .i64 x2, .int .i64 y2, .slice a px.length cap], .agg #[.int .i64 ux, .int .i64 uy]] w fun e w' => e = .returned (.bool true) ∧ Below w.heap.size w w' := by
  have hvl := hv.1
  have htl := ht.1
  unfold Go.maxLen at hcap hct
  have h66 : (px.take 66).length ≤ 66 := by rw [List.length_take]; omega
  refine calls_of_T (l := [.agg #[.int .i64 x, .int .i64 y, .slice at1 ts.length ct], .agg #[.int .i64 x2, .int .i64 y2, .slice a px.length cap], .agg #[.int .i64 ux, .int .i64 uy]]) 138 Try.func12 rfl rfl rfl ?_
  show T _ _ _ [(0, .agg #[.int .i64 x, .int .i64 y, .slice at1 ts.length ct]), (1, .agg #[.int .i64 x2, .int .i64 y2, .slice a px.length cap]), (2, .agg #[.int .i64 ux, .int .i64 uy])] []
  refine T_seq (T_region ?_)
  refine TL_new 1 (.cells #[.int .i64 x, .int .i64 y, .slice at1 ts.length ct] 24) (fun B => .pointer (some ⟨B, 0, none⟩)) (fun _ _ hρ _ => r_box (hρ _ _ rfl) rfl) rfl rfl rfl (w_n rfl) ?_
  intro B1
  refine TL_new 2 (.cells #[.int .i64 x2, .int .i64 y2, .slice a px.length cap] 75) (fun B => .pointer (some ⟨B, 0, none⟩)) (fun _ _ hρ _ => r_box (hρ _ _ rfl) rfl) rfl rfl rfl (w_n rfl) ?_
  intro B2
  refine TL_new 3 (.cells #[.int .i64 ux, .int .i64 uy] 47) (fun B => .pointer (some ⟨B, 0, none⟩)) (fun _ _ hρ _ => r_box (hρ _ _ rfl) rfl) rfl rfl rfl (w_n rfl) ?_
  intro B3
  refine TL_q (.bool false) (fun _ _ hρ _ => r_assign (hρ _ _ rfl)) rfl rfl rfl (w_n rfl) ?_
  refine TL_seq ?_
  refine T_seq ?_
  refine T_mem (_ :: _) (fun _ hm => hm.cvs0 960) ?_
  refine T_seq (T_region ?_)
  refine TL_call (.bool true) (fun _ _ hρ _ => r_call (args := []) (enters_of Try.func39 (by kernel_rfl) rfl) (hρ _ _ rfl) (by rfl) rfl) (fun w _ => swakes_c w) rfl rfl rfl (w_n rfl) ?_
  refine TL_q (.bool false) (fun _ _ hρ _ => r_not (b := true) (hρ _ _ rfl)) rfl rfl rfl (w_n rfl) ?_
  refine TL_seq ?_
  refine T_cond_f rfl ?_
  refine T_skip' ?_
  refine p_seq ?_
  refine T_seq (T_region ?_)
  refine TL_q (.agg #[.int .i64 x2, .int .i64 y2, .slice a px.length cap]) (fun _ _ hρ hm => r_loadA ag75 sz75 (hρ _ _ rfl) (hm.at 2 rfl) rfl rfl) rfl rfl rfl (w_n rfl) ?_
  refine TL_callN (fun (_ : Option Addr × Nat) => True) (fun (ar4, cr4) => .agg #[.int .i64 x2, .int .i64 y2, .slice ar4 ((px.take 66).length) cr4]) (fun (ar4, cr4) => [(4, .row (.slice ar4 ((px.take 66).length) cr4) 37 4 ((px.take 66).length) ((px.take 66).flatMap C4.cells))]) (fun _ _ hρ _ => r_call (args := [.agg #[.int .i64 x2, .int .i64 y2, .slice a px.length cap]]) (enters_of Try.func47 (by kernel_rfl) rfl) (hρ _ _ rfl) ((cons2 (hρ _ _ rfl) rfl)) rfl) (fun w hm => (sown_c x2 y2 px a cap w (hv.keep hm.ext) hcap).mono fun e w' ⟨a', cap', he, hb, hr⟩ => ⟨(a', cap'), trivial, he, hb, newOk1 4 hr⟩) rfl rfl rfl (w_n rfl) ?_
  rintro ⟨ar4, cr4⟩ -
  refine TL_new 5 (.cells #[.int .i64 0, .int .i64 0, .slice none 0 0] 75) (fun B => .pointer (some ⟨B, 0, none⟩)) (fun _ _ _ _ => r_alloc (v := .agg #[.int .i64 0, .int .i64 0, .slice none 0 0]) (by kernel_rfl) rfl) rfl rfl rfl (w_n rfl) ?_
  intro B5
  refine TL_store 5 (.cells #[.int .i64 x2, .int .i64 y2, .slice ar4 ((px.take 66).length) cr4] 75) rfl (fun _ _ hρ hm => r_store sz75 (hρ _ _ rfl) (hρ _ _ rfl) (hm.at 5 rfl) rfl rfl rfl rfl) rfl rfl (w_n rfl) ?_
  refine TL_seq ?_
  refine T_seq (T_region ?_)
  refine TL_q (.agg #[.int .i64 x, .int .i64 y, .slice at1 ts.length ct]) (fun _ _ hρ hm => r_loadA ag24 sz24 (hρ _ _ rfl) (hm.at 1 rfl) rfl rfl) rfl rfl rfl (w_n rfl) ?_
  refine TL_call (.tuple #[.pointer none, .int .i64 150]) (fun _ _ hρ _ => r_call (args := [.agg #[.int .i64 x, .int .i64 y, .slice at1 ts.length ct]]) (enters_of Try.func15 (by kernel_rfl) rfl) (hρ _ _ rfl) ((cons2 (hρ _ _ rfl) rfl)) rfl) (fun w _ => of_no x y at1 ts.length ct w hnc) rfl rfl rfl (w_n rfl) ?_
  refine TL_q (.tuple #[.pointer none, .int .i64 150]) (fun _ _ hρ _ => r_move (hρ _ _ rfl)) rfl rfl rfl (w_n rfl) ?_
  refine TL_q (.pointer none) (fun _ _ hρ _ => r_extract (hρ _ _ rfl) rfl) rfl rfl rfl (w_n rfl) ?_
  refine TL_q (.int .i64 150) (fun _ _ hρ _ => r_extract (hρ _ _ rfl) rfl) rfl rfl rfl (w_n rfl) ?_
  refine TL_q (.pointer none) (fun _ _ hρ _ => r_assign (hρ _ _ rfl)) rfl rfl rfl (w_n rfl) ?_
  refine TL_q (.int .i64 150) (fun _ _ hρ _ => r_assign (hρ _ _ rfl)) rfl rfl rfl (w_n rfl) ?_
  refine TL_seq ?_
  refine T_seq ?_
  refine T_seq (T_region ?_)
  refine TL_q (.int .i64 150) (fun _ _ hρ _ => r_move (hρ _ _ rfl)) rfl rfl rfl (w_n rfl) ?_
  refine TL_q (.bool true) (fun _ _ hρ _ => r_as (r_neq (hρ _ _ rfl) (hρ _ _ rfl)) (by rfl)) rfl rfl rfl (w_n rfl) ?_
  refine TL_q (.bool true) (fun _ _ hρ _ => r_move (hρ _ _ rfl)) rfl rfl rfl (w_n rfl) ?_
  refine TL_no rfl rfl (want_n 27 rfl rfl rfl) ?_
  refine TL_no rfl rfl (want_n 27 rfl rfl rfl) ?_
  refine TL_no rfl rfl (want_n 27 rfl rfl rfl) ?_
  refine TL_q (.bool true) (fun _ _ hρ _ => r_pick_t (hρ _ _ rfl) (hρ _ _ rfl)) rfl rfl rfl (w_n rfl) ?_
  refine TL_seq ?_
  refine T_cond_t rfl ?_
  refine T_seq (T_region ?_)
  refine TL_q (.bool true) (fun _ _ hρ _ => r_assign (hρ _ _ rfl)) rfl rfl rfl (w_n rfl) ?_
  refine TL_seq ?_
  refine T_ret' ?_
  refine p_then_r ?_
  refine ret_of rfl (.bool true) (fun tmps w hk hm => res1 rfl (res_tmp (hk 6 _ rfl))) (fun w hm => ?_)
  exact ⟨rfl, hm.ext⟩

set_option maxHeartbeats 1000000 in
theorem scuts_ns (wd hg : Nat) (ts : List T64) (at1 : Option Addr) (ct : Nat) (x2 y2 : Int) (px : List C4) (a : Option Addr) (cap : Nat) (ux uy : Int) (w : World) (ht : SliceAt w at1 ct 256 T64.cells ts) (hct : ct ≤ Go.maxLen) (hv : SliceAt w a cap 4 C4.cells px) (hcap : cap ≤ Go.maxLen) (hwd : 1 ≤ wd ∧ wd ≤ 4) (hhg : 1 ≤ hg ∧ hg ≤ 4) (hlen1 : ts.length = wd * hg) (hno : ¬ rightS x2 y2 (px.take 66).length = true) : Calls Try.prog 12 #[.agg #[.int .i64 (wd : Int), .int .i64 (hg : Int), .slice at1 ts.length ct], .agg #[.int .i64 x2, .int .i64 y2, .slice a px.length cap], .agg #[.int .i64 ux, .int .i64 uy]] w fun e w' => e = .returned (.bool true) ∧ Below w.heap.size w w' := by
  have hvl := hv.1
  have htl := ht.1
  unfold Go.maxLen at hcap hct
  have h66 : (px.take 66).length ≤ 66 := by rw [List.length_take]; omega
  refine calls_of_T (l := [.agg #[.int .i64 ((wd : Nat) : Int), .int .i64 ((hg : Nat) : Int), .slice at1 ts.length ct], .agg #[.int .i64 x2, .int .i64 y2, .slice a px.length cap], .agg #[.int .i64 ux, .int .i64 uy]]) 138 Try.func12 rfl rfl rfl ?_
  show T _ _ _ [(0, .agg #[.int .i64 ((wd : Nat) : Int), .int .i64 ((hg : Nat) : Int), .slice at1 ts.length ct]), (1, .agg #[.int .i64 x2, .int .i64 y2, .slice a px.length cap]), (2, .agg #[.int .i64 ux, .int .i64 uy])] []
  refine T_seq (T_region ?_)
  refine TL_new 1 (.cells #[.int .i64 ((wd : Nat) : Int), .int .i64 ((hg : Nat) : Int), .slice at1 ts.length ct] 24) (fun B => .pointer (some ⟨B, 0, none⟩)) (fun _ _ hρ _ => r_box (hρ _ _ rfl) rfl) rfl rfl rfl (w_n rfl) ?_
  intro B1
  refine TL_new 2 (.cells #[.int .i64 x2, .int .i64 y2, .slice a px.length cap] 75) (fun B => .pointer (some ⟨B, 0, none⟩)) (fun _ _ hρ _ => r_box (hρ _ _ rfl) rfl) rfl rfl rfl (w_n rfl) ?_
  intro B2
  refine TL_new 3 (.cells #[.int .i64 ux, .int .i64 uy] 47) (fun B => .pointer (some ⟨B, 0, none⟩)) (fun _ _ hρ _ => r_box (hρ _ _ rfl) rfl) rfl rfl rfl (w_n rfl) ?_
  intro B3
  refine TL_q (.bool false) (fun _ _ hρ _ => r_assign (hρ _ _ rfl)) rfl rfl rfl (w_n rfl) ?_
  refine TL_seq ?_
  refine T_seq ?_
  refine T_mem (_ :: _) (fun _ hm => hm.cvs0 960) ?_
  refine T_seq (T_region ?_)
  refine TL_call (.bool true) (fun _ _ hρ _ => r_call (args := []) (enters_of Try.func39 (by kernel_rfl) rfl) (hρ _ _ rfl) (by rfl) rfl) (fun w _ => swakes_c w) rfl rfl rfl (w_n rfl) ?_
  refine TL_q (.bool false) (fun _ _ hρ _ => r_not (b := true) (hρ _ _ rfl)) rfl rfl rfl (w_n rfl) ?_
  refine TL_seq ?_
  refine T_cond_f rfl ?_
  refine T_skip' ?_
  refine p_seq ?_
  refine T_seq (T_region ?_)
  refine TL_q (.agg #[.int .i64 x2, .int .i64 y2, .slice a px.length cap]) (fun _ _ hρ hm => r_loadA ag75 sz75 (hρ _ _ rfl) (hm.at 2 rfl) rfl rfl) rfl rfl rfl (w_n rfl) ?_
  refine TL_callN (fun (_ : Option Addr × Nat) => True) (fun (ar4, cr4) => .agg #[.int .i64 x2, .int .i64 y2, .slice ar4 ((px.take 66).length) cr4]) (fun (ar4, cr4) => [(4, .row (.slice ar4 ((px.take 66).length) cr4) 37 4 ((px.take 66).length) ((px.take 66).flatMap C4.cells))]) (fun _ _ hρ _ => r_call (args := [.agg #[.int .i64 x2, .int .i64 y2, .slice a px.length cap]]) (enters_of Try.func47 (by kernel_rfl) rfl) (hρ _ _ rfl) ((cons2 (hρ _ _ rfl) rfl)) rfl) (fun w hm => (sown_c x2 y2 px a cap w (hv.keep hm.ext) hcap).mono fun e w' ⟨a', cap', he, hb, hr⟩ => ⟨(a', cap'), trivial, he, hb, newOk1 4 hr⟩) rfl rfl rfl (w_n rfl) ?_
  rintro ⟨ar4, cr4⟩ -
  refine TL_new 5 (.cells #[.int .i64 0, .int .i64 0, .slice none 0 0] 75) (fun B => .pointer (some ⟨B, 0, none⟩)) (fun _ _ _ _ => r_alloc (v := .agg #[.int .i64 0, .int .i64 0, .slice none 0 0]) (by kernel_rfl) rfl) rfl rfl rfl (w_n rfl) ?_
  intro B5
  refine TL_store 5 (.cells #[.int .i64 x2, .int .i64 y2, .slice ar4 ((px.take 66).length) cr4] 75) rfl (fun _ _ hρ hm => r_store sz75 (hρ _ _ rfl) (hρ _ _ rfl) (hm.at 5 rfl) rfl rfl rfl rfl) rfl rfl (w_n rfl) ?_
  refine TL_seq ?_
  refine T_seq (T_region ?_)
  refine TL_q (.agg #[.int .i64 ((wd : Nat) : Int), .int .i64 ((hg : Nat) : Int), .slice at1 ts.length ct]) (fun _ _ hρ hm => r_loadA ag24 sz24 (hρ _ _ rfl) (hm.at 1 rfl) rfl rfl) rfl rfl rfl (w_n rfl) ?_
  refine TL_callX (ι := Cv) (fun (c1 : Cv) e w w' => e = .returned (.tuple #[.pointer (some ⟨c1.p, 0, none⟩), .int .i64 0]) ∧ CvNew w w' [] c1 ∧ (∀ x ∈ ([] : List Cv), ∀ q ∈ x.ps, q < w.heap.size) ∧ c1.wd = wd ∧ c1.hg = hg ∧ c1.ts = ts) (fun c1 => .tuple #[.pointer (some ⟨c1.p, 0, none⟩), .int .i64 0]) _ (fun _ _ hρ _ => r_call (args := [.agg #[.int .i64 ((wd : Nat) : Int), .int .i64 ((hg : Nat) : Int), .slice at1 ts.length ct]]) (enters_of Try.func15 (by kernel_rfl) rfl) (hρ _ _ rfl) ((cons2 (hρ _ _ rfl) rfl)) rfl) (fun w hm => (of_ok wd hg ts at1 ct w (ht.keep hm.ext) hwd hhg hlen1).mono fun e w' ⟨d, he, hn, hf⟩ => ⟨d, he, hn, hm.cvUnder 960 rfl, hf⟩) (fun _ e w w' hm h => ⟨h.1, hm.cvGet 960 rfl h.2.1 (fun _ hx => nomatch hx)⟩) rfl rfl rfl (w_n rfl) ?_
  rintro c1 ⟨_, w1_c1, w2_c1, _, hn_c1, hu_c1, hwd_c1, hhg_c1, hts_c1⟩
  refine TL_q (.tuple #[.pointer (some ⟨c1.p, 0, none⟩), .int .i64 0]) (fun _ _ hρ _ => r_move (hρ _ _ rfl)) rfl rfl rfl (w_n rfl) ?_
  refine TL_q (.pointer (some ⟨c1.p, 0, none⟩)) (fun _ _ hρ _ => r_extract (hρ _ _ rfl) rfl) rfl rfl rfl (w_n rfl) ?_
  refine TL_q (.int .i64 0) (fun _ _ hρ _ => r_extract (hρ _ _ rfl) rfl) rfl rfl rfl (w_n rfl) ?_
  refine TL_q (.pointer (some ⟨c1.p, 0, none⟩)) (fun _ _ hρ _ => r_assign (hρ _ _ rfl)) rfl rfl rfl (w_n rfl) ?_
  refine TL_q (.int .i64 0) (fun _ _ hρ _ => r_assign (hρ _ _ rfl)) rfl rfl rfl (w_n rfl) ?_
  refine TL_seq ?_
  refine T_seq ?_
  refine T_seq (T_region ?_)
  refine TL_q (.int .i64 0) (fun _ _ hρ _ => r_move (hρ _ _ rfl)) rfl rfl rfl (w_n rfl) ?_
  refine TL_q (.bool false) (fun _ _ hρ _ => r_as (r_neq (hρ _ _ rfl) (hρ _ _ rfl)) (by rfl)) rfl rfl rfl (w_n rfl) ?_
  refine TL_q (.bool false) (fun _ _ hρ _ => r_move (hρ _ _ rfl)) rfl rfl rfl (w_n rfl) ?_
  refine TL_q (.agg #[.int .i64 x2, .int .i64 y2, .slice ar4 ((px.take 66).length) cr4]) (fun _ _ hρ hm => r_loadA ag75 sz75 (hρ _ _ rfl) (hm.at 5 rfl) rfl rfl) rfl rfl rfl (want_y 27 rfl rfl rfl) ?_
  refine TL_call (.int .i64 190) (fun _ _ hρ _ => r_call (args := [.agg #[.int .i64 x2, .int .i64 y2, .slice ar4 ((px.take 66).length) cr4]]) (enters_of Try.func49 (by kernel_rfl) rfl) (hρ _ _ rfl) ((cons2 (hρ _ _ rfl) rfl)) rfl) (fun w _ => (scheck_c x2 y2 ar4 ((px.take 66).length) cr4 w).mono fun _ _ h => ⟨h.1.trans (congrArg Ending.returned (int_as (if_neg hno))), h.2⟩) rfl rfl rfl (want_y 27 rfl rfl rfl) ?_
  refine TL_q (.bool true) (fun _ _ hρ _ => r_as (r_neq (hρ _ _ rfl) (hρ _ _ rfl)) (by rfl)) rfl rfl rfl (want_y 27 rfl rfl rfl) ?_
  refine TL_q (.bool true) (fun _ _ hρ _ => r_pick_f (hρ _ _ rfl) (hρ _ _ rfl)) rfl rfl rfl (w_n rfl) ?_
  refine TL_seq ?_
  refine T_cond_t rfl ?_
  refine T_seq (T_region ?_)
  refine TL_q (.bool true) (fun _ _ hρ _ => r_assign (hρ _ _ rfl)) rfl rfl rfl (w_n rfl) ?_
  refine TL_seq ?_
  refine T_ret' ?_
  refine p_then_r ?_
  refine ret_of rfl (.bool true) (fun tmps w hk hm => res1 rfl (res_tmp (hk 6 _ rfl))) (fun w hm => ?_)
  exact ⟨rfl, hm.ext⟩

set_option maxHeartbeats 4000000 in
theorem scuts_ok (wd hg : Nat) (ts : List T64) (at1 : Option Addr) (ct : Nat) (p q : Nat) (px : List C4) (a : Option Addr) (cap : Nat) (ux uy : Int) (w : World) (ht : SliceAt w at1 ct 256 T64.cells ts) (hct : ct ≤ Go.maxLen) (hts : TsOk ts) (hv : SliceAt w a cap 4 C4.cells px) (hcap : cap ≤ Go.maxLen) (hpx : ∀ c ∈ px, c.ok) (hU : inI ux ∧ inI uy) (hwd : 1 ≤ wd ∧ wd ≤ 4) (hhg : 1 ≤ hg ∧ hg ≤ 4) (hlen1 : ts.length = wd * hg) (hp8 : 1 ≤ p ∧ p ≤ 8) (hq8 : 1 ≤ q ∧ q ≤ 8) (hlen : (px.take 66).length = p * q) : Calls Try.prog 12 #[.agg #[.int .i64 (wd : Int), .int .i64 (hg : Int), .slice at1 ts.length ct], .agg #[.int .i64 (p : Int), .int .i64 (q : Int), .slice a px.length cap], .agg #[.int .i64 ux, .int .i64 uy]] w fun e w' => e = .returned (.bool true) ∧ Below w.heap.size w w' := by
  have hvl := hv.1
  have htl := ht.1
  unfold Go.maxLen at hcap hct
  have h66 : (px.take 66).length ≤ 66 := by rw [List.length_take]; omega
  have h64 := size8 hp8 hq8
  have h16 := size4 hwd hhg
  obtain ⟨⟨hx1, hx2⟩, hy1, hy2⟩ := hU
  refine calls_of_T (l := [.agg #[.int .i64 ((wd : Nat) : Int), .int .i64 ((hg : Nat) : Int), .slice at1 ts.length ct], .agg #[.int .i64 ((p : Nat) : Int), .int .i64 ((q : Nat) : Int), .slice a px.length cap], .agg #[.int .i64 ux, .int .i64 uy]]) 138 Try.func12 rfl rfl rfl ?_
  show T _ _ _ [(0, .agg #[.int .i64 ((wd : Nat) : Int), .int .i64 ((hg : Nat) : Int), .slice at1 ts.length ct]), (1, .agg #[.int .i64 ((p : Nat) : Int), .int .i64 ((q : Nat) : Int), .slice a px.length cap]), (2, .agg #[.int .i64 ux, .int .i64 uy])] []
  refine T_seq (T_region ?_)
  refine TL_new 1 (.cells #[.int .i64 ((wd : Nat) : Int), .int .i64 ((hg : Nat) : Int), .slice at1 ts.length ct] 24) (fun B => .pointer (some ⟨B, 0, none⟩)) (fun _ _ hρ _ => r_box (hρ _ _ rfl) rfl) rfl rfl rfl (w_n rfl) ?_
  intro B1
  refine TL_new 2 (.cells #[.int .i64 ((p : Nat) : Int), .int .i64 ((q : Nat) : Int), .slice a px.length cap] 75) (fun B => .pointer (some ⟨B, 0, none⟩)) (fun _ _ hρ _ => r_box (hρ _ _ rfl) rfl) rfl rfl rfl (w_n rfl) ?_
  intro B2
  refine TL_new 3 (.cells #[.int .i64 ux, .int .i64 uy] 47) (fun B => .pointer (some ⟨B, 0, none⟩)) (fun _ _ hρ _ => r_box (hρ _ _ rfl) rfl) rfl rfl rfl (w_n rfl) ?_
  intro B3
  refine TL_q (.bool false) (fun _ _ hρ _ => r_assign (hρ _ _ rfl)) rfl rfl rfl (w_n rfl) ?_
  refine TL_seq ?_
  refine T_seq ?_
  refine T_mem (_ :: _) (fun _ hm => hm.cvs0 960) ?_
  refine T_seq (T_region ?_)
  refine TL_call (.bool true) (fun _ _ hρ _ => r_call (args := []) (enters_of Try.func39 (by kernel_rfl) rfl) (hρ _ _ rfl) (by rfl) rfl) (fun w _ => swakes_c w) rfl rfl rfl (w_n rfl) ?_
  refine TL_q (.bool false) (fun _ _ hρ _ => r_not (b := true) (hρ _ _ rfl)) rfl rfl rfl (w_n rfl) ?_
  refine TL_seq ?_
  refine T_cond_f rfl ?_
  refine T_skip' ?_
  refine p_seq ?_
  refine T_seq (T_region ?_)
  refine TL_q (.agg #[.int .i64 ((p : Nat) : Int), .int .i64 ((q : Nat) : Int), .slice a px.length cap]) (fun _ _ hρ hm => r_loadA ag75 sz75 (hρ _ _ rfl) (hm.at 2 rfl) rfl rfl) rfl rfl rfl (w_n rfl) ?_
  refine TL_callN (fun (_ : Option Addr × Nat) => True) (fun (ar4, cr4) => .agg #[.int .i64 ((p : Nat) : Int), .int .i64 ((q : Nat) : Int), .slice ar4 ((px.take 66).length) cr4]) (fun (ar4, cr4) => [(4, .row (.slice ar4 ((px.take 66).length) cr4) 37 4 ((px.take 66).length) ((px.take 66).flatMap C4.cells))]) (fun _ _ hρ _ => r_call (args := [.agg #[.int .i64 ((p : Nat) : Int), .int .i64 ((q : Nat) : Int), .slice a px.length cap]]) (enters_of Try.func47 (by kernel_rfl) rfl) (hρ _ _ rfl) ((cons2 (hρ _ _ rfl) rfl)) rfl) (fun w hm => (sown_c ((p : Nat) : Int) ((q : Nat) : Int) px a cap w (hv.keep hm.ext) hcap).mono fun e w' ⟨a', cap', he, hb, hr⟩ => ⟨(a', cap'), trivial, he, hb, newOk1 4 hr⟩) rfl rfl rfl (w_n rfl) ?_
  rintro ⟨ar4, cr4⟩ -
  refine TL_new 5 (.cells #[.int .i64 0, .int .i64 0, .slice none 0 0] 75) (fun B => .pointer (some ⟨B, 0, none⟩)) (fun _ _ _ _ => r_alloc (v := .agg #[.int .i64 0, .int .i64 0, .slice none 0 0]) (by kernel_rfl) rfl) rfl rfl rfl (w_n rfl) ?_
  intro B5
  refine TL_store 5 (.cells #[.int .i64 ((p : Nat) : Int), .int .i64 ((q : Nat) : Int), .slice ar4 ((px.take 66).length) cr4] 75) rfl (fun _ _ hρ hm => r_store sz75 (hρ _ _ rfl) (hρ _ _ rfl) (hm.at 5 rfl) rfl rfl rfl rfl) rfl rfl (w_n rfl) ?_
  refine TL_seq ?_
  refine T_seq (T_region ?_)
  refine TL_q (.agg #[.int .i64 ((wd : Nat) : Int), .int .i64 ((hg : Nat) : Int), .slice at1 ts.length ct]) (fun _ _ hρ hm => r_loadA ag24 sz24 (hρ _ _ rfl) (hm.at 1 rfl) rfl rfl) rfl rfl rfl (w_n rfl) ?_
  refine TL_callX (ι := Cv) (fun (c1 : Cv) e w w' => e = .returned (.tuple #[.pointer (some ⟨c1.p, 0, none⟩), .int .i64 0]) ∧ CvNew w w' [] c1 ∧ (∀ x ∈ ([] : List Cv), ∀ q ∈ x.ps, q < w.heap.size) ∧ c1.wd = wd ∧ c1.hg = hg ∧ c1.ts = ts) (fun c1 => .tuple #[.pointer (some ⟨c1.p, 0, none⟩), .int .i64 0]) _ (fun _ _ hρ _ => r_call (args := [.agg #[.int .i64 ((wd : Nat) : Int), .int .i64 ((hg : Nat) : Int), .slice at1 ts.length ct]]) (enters_of Try.func15 (by kernel_rfl) rfl) (hρ _ _ rfl) ((cons2 (hρ _ _ rfl) rfl)) rfl) (fun w hm => (of_ok wd hg ts at1 ct w (ht.keep hm.ext) hwd hhg hlen1).mono fun e w' ⟨d, he, hn, hf⟩ => ⟨d, he, hn, hm.cvUnder 960 rfl, hf⟩) (fun _ e w w' hm h => ⟨h.1, hm.cvGet 960 rfl h.2.1 (fun _ hx => nomatch hx)⟩) rfl rfl rfl (w_n rfl) ?_
  rintro c1 ⟨_, w1_c1, w2_c1, _, hn_c1, hu_c1, hwd_c1, hhg_c1, hts_c1⟩
  refine TL_q (.tuple #[.pointer (some ⟨c1.p, 0, none⟩), .int .i64 0]) (fun _ _ hρ _ => r_move (hρ _ _ rfl)) rfl rfl rfl (w_n rfl) ?_
  refine TL_q (.pointer (some ⟨c1.p, 0, none⟩)) (fun _ _ hρ _ => r_extract (hρ _ _ rfl) rfl) rfl rfl rfl (w_n rfl) ?_
  refine TL_q (.int .i64 0) (fun _ _ hρ _ => r_extract (hρ _ _ rfl) rfl) rfl rfl rfl (w_n rfl) ?_
  refine TL_q (.pointer (some ⟨c1.p, 0, none⟩)) (fun _ _ hρ _ => r_assign (hρ _ _ rfl)) rfl rfl rfl (w_n rfl) ?_
  refine TL_q (.int .i64 0) (fun _ _ hρ _ => r_assign (hρ _ _ rfl)) rfl rfl rfl (w_n rfl) ?_
  refine TL_seq ?_
  refine T_seq ?_
  refine T_seq (T_region ?_)
  refine TL_q (.int .i64 0) (fun _ _ hρ _ => r_move (hρ _ _ rfl)) rfl rfl rfl (w_n rfl) ?_
  refine TL_q (.bool false) (fun _ _ hρ _ => r_as (r_neq (hρ _ _ rfl) (hρ _ _ rfl)) (by rfl)) rfl rfl rfl (w_n rfl) ?_
  refine TL_q (.bool false) (fun _ _ hρ _ => r_move (hρ _ _ rfl)) rfl rfl rfl (w_n rfl) ?_
  refine TL_q (.agg #[.int .i64 ((p : Nat) : Int), .int .i64 ((q : Nat) : Int), .slice ar4 ((px.take 66).length) cr4]) (fun _ _ hρ hm => r_loadA ag75 sz75 (hρ _ _ rfl) (hm.at 5 rfl) rfl rfl) rfl rfl rfl (want_y 27 rfl rfl rfl) ?_
  refine TL_call (.int .i64 0) (fun _ _ hρ _ => r_call (args := [.agg #[.int .i64 ((p : Nat) : Int), .int .i64 ((q : Nat) : Int), .slice ar4 ((px.take 66).length) cr4]]) (enters_of Try.func49 (by kernel_rfl) rfl) (hρ _ _ rfl) ((cons2 (hρ _ _ rfl) rfl)) rfl) (fun w _ => (scheck_c ((p : Nat) : Int) ((q : Nat) : Int) ar4 ((px.take 66).length) cr4 w).mono fun _ _ h => ⟨h.1.trans (congrArg Ending.returned (int_as (if_pos (rightS_of hp8 hq8 hlen)))), h.2⟩) rfl rfl rfl (want_y 27 rfl rfl rfl) ?_
  refine TL_q (.bool false) (fun _ _ hρ _ => r_as (r_neq (hρ _ _ rfl) (hρ _ _ rfl)) (by rfl)) rfl rfl rfl (want_y 27 rfl rfl rfl) ?_
  refine TL_q (.bool false) (fun _ _ hρ _ => r_pick_f (hρ _ _ rfl) (hρ _ _ rfl)) rfl rfl rfl (w_n rfl) ?_
  refine TL_seq ?_
  refine T_cond_f rfl ?_
  refine T_skip' ?_
  refine p_seq ?_
  refine T_seq (T_region ?_)
  refine TL_q (.agg #[.int .i64 ((p : Nat) : Int), .int .i64 ((q : Nat) : Int), .slice ar4 ((px.take 66).length) cr4]) (fun _ _ hρ hm => r_loadA ag75 sz75 (hρ _ _ rfl) (hm.at 5 rfl) rfl rfl) rfl rfl rfl (w_n rfl) ?_
  refine TL_callN (fun (_ : Option Addr × Nat) => True) (fun (ar6, cr6) => .agg #[.int .i64 ((p : Nat) : Int), .int .i64 ((q : Nat) : Int), .slice ar6 ((px.take 66).length) cr6]) (fun (ar6, cr6) => [(6, .row (.slice ar6 ((px.take 66).length) cr6) 37 4 ((px.take 66).length) ((px.take 66).flatMap C4.cells))]) (fun _ _ hρ _ => r_call (args := [.agg #[.int .i64 ((p : Nat) : Int), .int .i64 ((q : Nat) : Int), .slice ar4 ((px.take 66).length) cr4]]) (enters_of Try.func47 (by kernel_rfl) rfl) (hρ _ _ rfl) ((cons2 (hρ _ _ rfl) rfl)) rfl) (fun w hm => (sown2_c ((p : Nat) : Int) ((q : Nat) : Int) (px.take 66) ar4 cr4 w (SliceAt.own C4.cells_len (hm.row 4 rfl) rfl rfl) (row_cap (hm.row 4 rfl)) h66).mono fun e w' ⟨a', cap', he, hb, hr⟩ => ⟨(a', cap'), trivial, he, hb, newOk1 6 hr⟩) rfl rfl rfl (w_n rfl) ?_
  rintro ⟨ar6, cr6⟩ -
  refine TL_new 7 (.cells #[.int .i64 0, .int .i64 0, .slice none 0 0] 75) (fun B => .pointer (some ⟨B, 0, none⟩)) (fun _ _ _ _ => r_alloc (v := .agg #[.int .i64 0, .int .i64 0, .slice none 0 0]) (by kernel_rfl) rfl) rfl rfl rfl (w_n rfl) ?_
  intro B7
  refine TL_store 7 (.cells #[.int .i64 ((p : Nat) : Int), .int .i64 ((q : Nat) : Int), .slice ar6 ((px.take 66).length) cr6] 75) rfl (fun _ _ hρ hm => r_store sz75 (hρ _ _ rfl) (hρ _ _ rfl) (hm.at 7 rfl) rfl rfl rfl rfl) rfl rfl (w_n rfl) ?_
  refine TL_seq ?_
  refine T_seq ?_
  refine T_seq (T_region ?_)
  refine TL_q (.pointer (some ⟨B5, 2, none⟩)) (fun _ _ hρ _ => r_fieldAddr fl75_2 sz71 (hρ _ _ rfl)) rfl rfl rfl (w_n rfl) ?_
  refine TL_q (.slice ar4 ((px.take 66).length) cr4) (fun _ _ hρ hm => r_load ag71 (hρ _ _ rfl) (hm.at 5 rfl) rfl) rfl rfl rfl (w_n rfl) ?_
  refine TL_q (.int .i64 (((px.take 66).length : Nat) : Int)) (fun _ _ hρ _ => r_len sl71 (hρ _ _ rfl)) rfl rfl rfl (w_n rfl) ?_
  refine TL_q (.int .i64 0) (fun _ _ hρ _ => r_move (hρ _ _ rfl)) rfl rfl rfl (w_n rfl) ?_
  refine TL_seq ?_
  refine T_sub [(5, .pointer (some ⟨B3, 0, none⟩)), (6, .bool false), (7, .pointer (some ⟨B5, 0, none⟩)), (8, .pointer (some ⟨c1.p, 0, none⟩)), (9, .int .i64 0), (10, .pointer (some ⟨B7, 0, none⟩)), (36, .int .i64 (((px.take 66).length : Nat) : Int)), (37, .int .i64 0)] [(6, .row (.slice ar6 ((px.take 66).length) cr6) 37 4 ((px.take 66).length) ((px.take 66).flatMap C4.cells)), (960, .cvs [c1]), (4, .row (.slice ar4 ((px.take 66).length) cr4) 37 4 ((px.take 66).length) ((px.take 66).flatMap C4.cells)), (1, .blk B1 (.cells #[.int .i64 ((wd : Nat) : Int), .int .i64 ((hg : Nat) : Int), .slice at1 ts.length ct] 24)), (2, .blk B2 (.cells #[.int .i64 ((p : Nat) : Int), .int .i64 ((q : Nat) : Int), .slice a px.length cap] 75)), (3, .blk B3 (.cells #[.int .i64 ux, .int .i64 uy] 47)), (5, .blk B5 (.cells #[.int .i64 ((p : Nat) : Int), .int .i64 ((q : Nat) : Int), .slice ar4 ((px.take 66).length) cr4] 75)), (7, .blk B7 (.cells #[.int .i64 ((p : Nat) : Int), .int .i64 ((q : Nat) : Int), .slice ar6 ((px.take 66).length) cr6] 75))] (sub_cons rfl (sub_cons rfl (sub_cons rfl (sub_cons rfl (sub_cons rfl (sub_cons rfl (sub_cons rfl (sub_cons rfl sub_nil)))))))) (sub_cons rfl (sub_cons rfl (sub_cons rfl (sub_cons rfl (sub_cons rfl (sub_cons rfl (sub_cons rfl (sub_cons rfl sub_nil)))))))) ?_
  refine T_block ?_
  refine T_loop (ι := Nat) (fun (k : Nat) => k ≤ (px.take 66).length) (fun (k : Nat) => [(5, .pointer (some ⟨B3, 0, none⟩)), (6, .bool false), (7, .pointer (some ⟨B5, 0, none⟩)), (8, .pointer (some ⟨c1.p, 0, none⟩)), (9, .int .i64 0), (10, .pointer (some ⟨B7, 0, none⟩)), (36, .int .i64 (((px.take 66).length : Nat) : Int)), (37, .int .i64 ((k : Nat) : Int))]) (fun (k : Nat) => [(960, .cvs [c1]), (1, .blk B1 (.cells #[.int .i64 ((wd : Nat) : Int), .int .i64 ((hg : Nat) : Int), .slice at1 ts.length ct] 24)), (2, .blk B2 (.cells #[.int .i64 ((p : Nat) : Int), .int .i64 ((q : Nat) : Int), .slice a px.length cap] 75)), (3, .blk B3 (.cells #[.int .i64 ux, .int .i64 uy] 47)), (5, .blk B5 (.cells #[.int .i64 ((p : Nat) : Int), .int .i64 ((q : Nat) : Int), .slice ar4 ((px.take 66).length) cr4] 75)), (7, .blk B7 (.cells #[.int .i64 ((p : Nat) : Int), .int .i64 ((q : Nat) : Int), .slice ar6 ((px.take 66).length) cr6] 75)), (4, .row (.slice ar4 ((px.take 66).length) cr4) 37 4 ((px.take 66).length) ((setA 255 k (px.take 66)).flatMap C4.cells)), (6, .row (.slice ar6 ((px.take 66).length) cr6) 37 4 ((px.take 66).length) ((setA 0 k (px.take 66)).flatMap C4.cells))]) (fun (k : Nat) => (px.take 66).length - k) 0 (Nat.zero_le _) (sub_cons rfl (sub_cons rfl (sub_cons rfl (sub_cons rfl (sub_cons rfl (sub_cons rfl (sub_cons rfl (sub_cons rfl sub_nil)))))))) (sub_cons rfl (sub_cons rfl (sub_cons rfl (sub_cons rfl (sub_cons rfl (sub_cons rfl (sub_cons (by rw [setA_zero]; rfl) (sub_cons (by rw [setA_zero]; rfl) sub_nil)))))))) ?_
  rintro k hp
  have hk := hp
  show T _ _ _ [(5, .pointer (some ⟨B3, 0, none⟩)), (6, .bool false), (7, .pointer (some ⟨B5, 0, none⟩)), (8, .pointer (some ⟨c1.p, 0, none⟩)), (9, .int .i64 0), (10, .pointer (some ⟨B7, 0, none⟩)), (36, .int .i64 (((px.take 66).length : Nat) : Int)), (37, .int .i64 ((k : Nat) : Int))] [(960, .cvs [c1]), (1, .blk B1 (.cells #[.int .i64 ((wd : Nat) : Int), .int .i64 ((hg : Nat) : Int), .slice at1 ts.length ct] 24)), (2, .blk B2 (.cells #[.int .i64 ((p : Nat) : Int), .int .i64 ((q : Nat) : Int), .slice a px.length cap] 75)), (3, .blk B3 (.cells #[.int .i64 ux, .int .i64 uy] 47)), (5, .blk B5 (.cells #[.int .i64 ((p : Nat) : Int), .int .i64 ((q : Nat) : Int), .slice ar4 ((px.take 66).length) cr4] 75)), (7, .blk B7 (.cells #[.int .i64 ((p : Nat) : Int), .int .i64 ((q : Nat) : Int), .slice ar6 ((px.take 66).length) cr6] 75)), (4, .row (.slice ar4 ((px.take 66).length) cr4) 37 4 ((px.take 66).length) ((setA 255 k (px.take 66)).flatMap C4.cells)), (6, .row (.slice ar6 ((px.take 66).length) cr6) 37 4 ((px.take 66).length) ((setA 0 k (px.take 66)).flatMap C4.cells))]
  refine T_seq (T_region ?_)
  refine TL_q (.bool (decide (((k : Nat) : Int) < (((px.take 66).length : Nat) : Int)))) (fun _ _ hρ _ => r_lss (hρ _ _ rfl) (hρ _ _ rfl)) rfl rfl rfl (w_n rfl) ?_
  refine TL_seq ?_
  refine T_seq ?_
  refine T_cond rfl (fun h1 => ?_) (fun h1 => ?_)
  · replace h1 := of_decide_eq_true h1
    refine T_skip' ?_
    refine p_seq ?_
    refine T_seq ?_
    refine T_block ?_
    refine T_seq (T_region ?_)
    refine TL_q (.int .i64 ((k : Nat) : Int)) (fun _ _ hρ _ => r_move (hρ _ _ rfl)) rfl rfl rfl (w_n rfl) ?_
    refine TL_q (.int .i64 ((k : Nat) : Int)) (fun _ _ hρ _ => r_assign (hρ _ _ rfl)) rfl rfl rfl (w_n rfl) ?_
    refine TL_seq ?_
    refine T_row 4 rfl (by omega) (fun g8 ha8 => ?_)
    subst ha8
    refine T_rowcap 4 rfl (fun hrc8 => ?_)
    refine T_row 6 rfl (by omega) (fun g9 ha9 => ?_)
    subst ha9
    refine T_rowcap 6 rfl (fun hrc9 => ?_)
    obtain ⟨c, hc⟩ : ∃ x, (px.take 66)[k]? = some x := ⟨_, List.getElem?_eq_getElem (by omega)⟩
    refine T_draw (V := [(0, .pointer (some ⟨B5, 2, none⟩)), (1, .slice (some ⟨g8, 0, none⟩) ((px.take 66).length) cr4), (2, .int .i64 ((k : Nat) : Int)), (3, .pointer (some ⟨B7, 2, none⟩)), (4, .slice (some ⟨g9, 0, none⟩) ((px.take 66).length) cr6), (5, .int .i64 ((k : Nat) : Int)), (6, .pointer (some ⟨g8, 0 + k * 4, none⟩)), (7, .pointer (some ⟨g8, 0 + k * 4 + 3, none⟩))]) [0, 1, 0, 0, 8, 0, 7, 71, 199, 511, 1023, 2047] [[(7, none)], [(40, some 0)], [(11, none)], [(10, none)], [(43, some 3)], [(11, none)], [(41, some 1), (42, some 2)], [(46, some 6)], [(47, some 7)], [(44, some 4), (45, some 5)], [(48, some 9)], [(49, some 10)]] 2304 mixed (by kernel_rfl) ?_
    refine G_step [0, 1, 2, 3, 4, 5, 6, 7] 8 [] (by kernel_rfl) (allM (all_cons (q_run (.pointer (some ⟨B5, 2, none⟩)) rfl rfl (wv_n rfl) rfl (fun _ _ hρ _ => r_fieldAddr fl75_2 sz71 (hρ _ _ rfl))) (all_cons (q_run (.slice (some ⟨g8, 0, none⟩) ((px.take 66).length) cr4) rfl rfl (wv_n rfl) rfl (fun _ _ hρ hm => r_load ag71 (hρ _ _ rfl) (hm.at 5 rfl) rfl)) (all_cons (q_run (.int .i64 ((k : Nat) : Int)) rfl rfl (wv_n rfl) rfl (fun _ _ hρ _ => r_move (hρ _ _ rfl))) (all_cons (q_run (.pointer (some ⟨B7, 2, none⟩)) rfl rfl (wv_n rfl) rfl (fun _ _ hρ _ => r_fieldAddr fl75_2 sz71 (hρ _ _ rfl))) (all_cons (q_run (.slice (some ⟨g9, 0, none⟩) ((px.take 66).length) cr6) rfl rfl (wv_n rfl) rfl (fun _ _ hρ hm => r_load ag71 (hρ _ _ rfl) (hm.at 7 rfl) rfl)) (all_cons (q_run (.int .i64 ((k : Nat) : Int)) rfl rfl (wv_n rfl) rfl (fun _ _ hρ _ => r_move (hρ _ _ rfl))) (all_cons (q_run (.pointer (some ⟨g8, 0 + k * 4, none⟩)) rfl rfl (wv_n rfl) rfl (fun _ _ hρ _ => r_indexAddrS (i := k) sl71 sz37 (hρ _ _ rfl) (hρ _ _ rfl) (by omega))) (all_cons (q_run (.pointer (some ⟨g8, 0 + k * 4 + 3, none⟩)) rfl rfl (wv_n rfl) rfl (fun _ _ hρ _ => r_fieldAddr fl37_3 sz5 (hρ _ _ rfl))) all_nil))))))))) (allM (all_cons ?_ all_nil))
    refine LOb_opS _ [(9, .pointer (some ⟨g9, 0 + k * 4, none⟩)), (10, .pointer (some ⟨g9, 0 + k * 4 + 3, none⟩))] rfl (wv_n rfl) rfl rfl (fun _ _ hρ hm => o_storeC (xs' := ((setA 255 k (px.take 66)).set k (wA 255 c)).flatMap C4.cells) 4 rfl (hρ _ _ rfl) (hρ _ _ rfl) sz5 rfl rfl (by omega) (by rw [flat_len C4.cells_len, List.length_set, setA_len]) (fun post => wr_col (q := 3) (pre := [.int .u8 c.r, .int .u8 c.g, .int .u8 c.b]) (mid := [.int .u8 c.a]) (suf := []) (vs := [.int .u8 255]) (c' := wA 255 c) (setA_at hc) rfl rfl rfl rfl post) hm) (by kernel_rfl) ?_
    refine G_step [3, 4, 5, 9, 10] 11 [] (by kernel_rfl) (allM (all_cons (q_run (.pointer (some ⟨B7, 2, none⟩)) rfl rfl (wv_n rfl) rfl (fun _ _ hρ _ => r_fieldAddr fl75_2 sz71 (hρ _ _ rfl))) (all_cons (q_run (.slice (some ⟨g9, 0, none⟩) ((px.take 66).length) cr6) rfl rfl (wv_n rfl) rfl (fun _ _ hρ hm => r_load ag71 (hρ _ _ rfl) (hm.at 7 rfl) rfl)) (all_cons (q_run (.int .i64 ((k : Nat) : Int)) rfl rfl (wv_n rfl) rfl (fun _ _ hρ _ => r_move (hρ _ _ rfl))) (all_cons (q_run (.pointer (some ⟨g9, 0 + k * 4, none⟩)) rfl rfl (wv_n rfl) rfl (fun _ _ hρ _ => r_indexAddrS (i := k) sl71 sz37 (hρ _ _ rfl) (hρ _ _ rfl) (by omega))) (all_cons (q_run (.pointer (some ⟨g9, 0 + k * 4 + 3, none⟩)) rfl rfl (wv_n rfl) rfl (fun _ _ hρ _ => r_fieldAddr fl37_3 sz5 (hρ _ _ rfl))) all_nil)))))) (allM (all_cons ?_ all_nil))
    refine LOb_opS _ [] rfl (wv_n rfl) rfl rfl (fun _ _ hρ hm => o_storeC (xs' := ((setA 0 k (px.take 66)).set k (wA 0 c)).flatMap C4.cells) 6 rfl (hρ _ _ rfl) (hρ _ _ rfl) sz5 rfl rfl (by omega) (by rw [flat_len C4.cells_len, List.length_set, setA_len]) (fun post => wr_col (q := 3) (pre := [.int .u8 c.r, .int .u8 c.g, .int .u8 c.b]) (mid := [.int .u8 c.a]) (suf := []) (vs := [.int .u8 0]) (c' := wA 0 c) (setA_at hc) rfl rfl rfl rfl post) hm) (by kernel_rfl) ?_
    refine G_lastQ [] [(5, .pointer (some ⟨B3, 0, none⟩)), (6, .bool false), (7, .pointer (some ⟨B5, 0, none⟩)), (8, .pointer (some ⟨c1.p, 0, none⟩)), (9, .int .i64 0), (10, .pointer (some ⟨B7, 0, none⟩)), (36, .int .i64 (((px.take 66).length : Nat) : Int)), (37, .int .i64 ((k : Nat) : Int)), (38, .bool (decide (((k : Nat) : Int) < (((px.take 66).length : Nat) : Int)))), (39, .int .i64 ((k : Nat) : Int)), (11, .int .i64 ((k : Nat) : Int)), (40, .pointer (some ⟨B5, 2, none⟩)), (41, .slice (some ⟨g8, 0, none⟩) ((px.take 66).length) cr4), (42, .int .i64 ((k : Nat) : Int)), (43, .pointer (some ⟨B7, 2, none⟩)), (44, .slice (some ⟨g9, 0, none⟩) ((px.take 66).length) cr6), (45, .int .i64 ((k : Nat) : Int)), (46, .pointer (some ⟨g8, 0 + k * 4, none⟩)), (47, .pointer (some ⟨g8, 0 + k * 4 + 3, none⟩)), (48, .pointer (some ⟨g9, 0 + k * 4, none⟩)), (49, .pointer (some ⟨g9, 0 + k * 4 + 3, none⟩))] (by kernel_rfl) (allM all_nil) (end_old rfl rfl (end_old rfl rfl (end_old rfl rfl (end_old rfl rfl (end_old rfl rfl (end_old rfl rfl (end_old rfl rfl (end_old rfl rfl (end_old rfl rfl (end_old rfl rfl (end_old rfl rfl (end_new 0 rfl rfl (end_new 1 rfl rfl (end_new 2 rfl rfl (end_new 3 rfl rfl (end_new 4 rfl rfl (end_new 5 rfl rfl (end_new 6 rfl rfl (end_new 7 rfl rfl (end_new 9 rfl rfl (end_new 10 rfl rfl end_nil))))))))))))))))))))) ?_
    refine p_blk_n ?_
    refine p_seq ?_
    refine T_region ?_
    refine TL_q (.int .i64 ((k + 1 : Nat) : Int)) (fun _ _ hρ _ => r_as (r_add (hρ _ _ rfl) (hρ _ _ rfl)) (int_as ((wrap64 (by omega) (by omega)).trans (by omega)))) rfl rfl rfl (w_n rfl) ?_
    refine TL_q (.int .i64 ((k + 1 : Nat) : Int)) (fun _ _ hρ _ => r_move (hρ _ _ rfl)) rfl rfl rfl (w_n rfl) ?_
    refine TL_nil ?_
    exact p_at (k + 1) ⟨by omega, by omega⟩ (sub_cons rfl (sub_cons rfl (sub_cons rfl (sub_cons rfl (sub_cons rfl (sub_cons rfl (sub_cons rfl (sub_cons rfl sub_nil)))))))) (sub_cons rfl (sub_cons rfl (sub_cons rfl (sub_cons rfl (sub_cons rfl (sub_cons rfl (sub_cons (by rw [setA_step (v := 255) hc]; rfl) (sub_cons (by rw [setA_step (v := 0) hc]; rfl) sub_nil))))))))
  · replace h1 := of_decide_eq_false h1
    refine T_exit' ?_
    refine p_then_x ?_
    refine p_then_x ?_
    refine p_blk_x ?_
    refine p_seq ?_
    have hke : k = (px.take 66).length := by omega
    subst hke
    rw [setA_all, setA_all]
    refine T_seq (T_region ?_)
    refine TL_q (.pointer (some ⟨c1.p, 0, none⟩)) (fun _ _ hρ _ => r_move (hρ _ _ rfl)) rfl rfl rfl (w_n rfl) ?_
    refine TL_q (.agg #[.int .i64 ((p : Nat) : Int), .int .i64 ((q : Nat) : Int), .slice ar4 ((px.take 66).length) cr4]) (fun _ _ hρ hm => r_loadA ag75 sz75 (hρ _ _ rfl) (hm.at 5 rfl) rfl rfl) rfl rfl rfl (w_n rfl) ?_
    refine TL_q (.agg #[.int .i64 ux, .int .i64 uy]) (fun _ _ hρ hm => r_loadA ag47 sz47 (hρ _ _ rfl) (hm.at 3 rfl) rfl rfl) rfl rfl rfl (w_n rfl) ?_
    refine TL_new 8 (.cells #[.int .i64 ux, .int .i64 uy] 47) (fun B => .slice (some ⟨B, 0, none⟩) 1 1) (fun _ _ hρ _ => r_buildSlice (vs := [(0, .agg #[.int .i64 ux, .int .i64 uy])]) (by kernel_rfl) (cons2 (pair2 (hρ _ _ rfl)) rfl)) rfl rfl rfl (w_n rfl) ?_
    intro B10
    refine TL_callX (ι := Cv) (fun (c2 : Cv) e w w' => e = .returned (.tuple #[.pointer (some ⟨c2.p, 0, none⟩), .int .i64 0]) ∧ CvNew w w' [c1] c2 ∧ (∀ x ∈ [c1], ∀ q ∈ x.ps, q < w.heap.size) ∧ c2.wd = c1.wd ∧ c2.hg = c1.hg ∧ c2.ts = layN c1.wd c1.hg p q (List.map (wA 255) (px.take 66)) c1.ts [(⟨ux, uy⟩ : Pt)]) (fun c2 => .tuple #[.pointer (some ⟨c2.p, 0, none⟩), .int .i64 0]) _ (fun _ _ hρ _ => r_call (args := [.pointer (some ⟨c1.p, 0, none⟩), .agg #[.int .i64 ((p : Nat) : Int), .int .i64 ((q : Nat) : Int), .slice ar4 ((px.take 66).length) cr4], .slice (some ⟨B10, 0, none⟩) 1 1]) (enters_of Try.func60 (by kernel_rfl) rfl) (hρ _ _ rfl) ((cons2 (hρ _ _ rfl) (cons2 (hρ _ _ rfl) (cons2 (hρ _ _ rfl) rfl)))) rfl) (fun w hm => (lay_okn c1 p q (List.map (wA 255) (px.take 66)) ar4 cr4 [(⟨ux, uy⟩ : Pt)] (some ⟨B10, 0, none⟩) 1 w (hm.cv 960 rfl (List.Mem.head _)) (SliceAt.own C4.cells_len (hm.row 4 rfl) (List.length_map _).symm rfl) (row_cap (hm.row 4 rfl)) ⟨Nat.le_of_ble_eq_true rfl, (fun e => by cases e), .inr ⟨_, 0, _, _, _, rfl, (hm.at 8 rfl), row_of_take (fun _ => rfl) rfl⟩⟩ (Nat.le_of_ble_eq_true rfl) hp8 hq8 ((List.length_map _).trans hlen) (mapA_ok (by decide) (fun c hc => hpx c (List.mem_of_mem_take hc))) (by rw [hts_c1]; exact hts) ((px.take 66).length) (List.length_map _)).mono fun e w' ⟨d, he, hn, hf⟩ => ⟨d, he, hn, hm.cvUnder 960 rfl, hf⟩) (fun _ e w w' hm h => ⟨h.1, hm.cvGet 960 rfl h.2.1 (fun x hx => by rw [List.mem_singleton.1 hx]; exact (List.Mem.head _))⟩) rfl rfl rfl (w_n rfl) ?_
    rintro c2 ⟨_, w1_c2, w2_c2, _, hn_c2, hu_c2, hwd_c2, hhg_c2, hts_c2⟩
    refine TL_q (.tuple #[.pointer (some ⟨c2.p, 0, none⟩), .int .i64 0]) (fun _ _ hρ _ => r_move (hρ _ _ rfl)) rfl rfl rfl (w_n rfl) ?_
    refine TL_q (.pointer (some ⟨c2.p, 0, none⟩)) (fun _ _ hρ _ => r_extract (hρ _ _ rfl) rfl) rfl rfl rfl (w_n rfl) ?_
    refine TL_q (.int .i64 0) (fun _ _ hρ _ => r_extract (hρ _ _ rfl) rfl) rfl rfl rfl (w_n rfl) ?_
    refine TL_q (.pointer (some ⟨c2.p, 0, none⟩)) (fun _ _ hρ _ => r_assign (hρ _ _ rfl)) rfl rfl rfl (w_n rfl) ?_
    refine TL_q (.int .i64 0) (fun _ _ hρ _ => r_assign (hρ _ _ rfl)) rfl rfl rfl (w_n rfl) ?_
    refine TL_seq ?_
    refine T_seq (T_region ?_)
    refine TL_q (.pointer (some ⟨c1.p, 0, none⟩)) (fun _ _ hρ _ => r_move (hρ _ _ rfl)) rfl rfl rfl (w_n rfl) ?_
    refine TL_q (.agg #[.int .i64 ((p : Nat) : Int), .int .i64 ((q : Nat) : Int), .slice ar6 ((px.take 66).length) cr6]) (fun _ _ hρ hm => r_loadA ag75 sz75 (hρ _ _ rfl) (hm.at 7 rfl) rfl rfl) rfl rfl rfl (w_n rfl) ?_
    refine TL_q (.agg #[.int .i64 ux, .int .i64 uy]) (fun _ _ hρ hm => r_loadA ag47 sz47 (hρ _ _ rfl) (hm.at 3 rfl) rfl rfl) rfl rfl rfl (w_n rfl) ?_
    refine TL_new 9 (.cells #[.int .i64 ux, .int .i64 uy] 47) (fun B => .slice (some ⟨B, 0, none⟩) 1 1) (fun _ _ hρ _ => r_buildSlice (vs := [(0, .agg #[.int .i64 ux, .int .i64 uy])]) (by kernel_rfl) (cons2 (pair2 (hρ _ _ rfl)) rfl)) rfl rfl rfl (w_n rfl) ?_
    intro B11
    refine TL_callX (ι := Cv) (fun (c3 : Cv) e w w' => e = .returned (.tuple #[.pointer (some ⟨c3.p, 0, none⟩), .int .i64 0]) ∧ CvNew w w' [c1] c3 ∧ (∀ x ∈ [c2, c1], ∀ q ∈ x.ps, q < w.heap.size) ∧ c3.wd = c1.wd ∧ c3.hg = c1.hg ∧ c3.ts = layN c1.wd c1.hg p q (List.map (wA 0) (px.take 66)) c1.ts [(⟨ux, uy⟩ : Pt)]) (fun c3 => .tuple #[.pointer (some ⟨c3.p, 0, none⟩), .int .i64 0]) _ (fun _ _ hρ _ => r_call (args := [.pointer (some ⟨c1.p, 0, none⟩), .agg #[.int .i64 ((p : Nat) : Int), .int .i64 ((q : Nat) : Int), .slice ar6 ((px.take 66).length) cr6], .slice (some ⟨B11, 0, none⟩) 1 1]) (enters_of Try.func60 (by kernel_rfl) rfl) (hρ _ _ rfl) ((cons2 (hρ _ _ rfl) (cons2 (hρ _ _ rfl) (cons2 (hρ _ _ rfl) rfl)))) rfl) (fun w hm => (lay_okn c1 p q (List.map (wA 0) (px.take 66)) ar6 cr6 [(⟨ux, uy⟩ : Pt)] (some ⟨B11, 0, none⟩) 1 w (hm.cv 960 rfl (List.Mem.tail _ (List.Mem.head _))) (SliceAt.own C4.cells_len (hm.row 6 rfl) (List.length_map _).symm rfl) (row_cap (hm.row 6 rfl)) ⟨Nat.le_of_ble_eq_true rfl, (fun e => by cases e), .inr ⟨_, 0, _, _, _, rfl, (hm.at 9 rfl), row_of_take (fun _ => rfl) rfl⟩⟩ (Nat.le_of_ble_eq_true rfl) hp8 hq8 ((List.length_map _).trans hlen) (mapA_ok (by decide) (fun c hc => hpx c (List.mem_of_mem_take hc))) (by rw [hts_c1]; exact hts) ((px.take 66).length) (List.length_map _)).mono fun e w' ⟨d, he, hn, hf⟩ => ⟨d, he, hn, hm.cvUnder 960 rfl, hf⟩) (fun _ e w w' hm h => ⟨h.1, hm.cvGet 960 rfl h.2.1 (fun x hx => by rw [List.mem_singleton.1 hx]; exact (List.Mem.tail _ (List.Mem.head _)))⟩) rfl rfl rfl (w_n rfl) ?_
    rintro c3 ⟨_, w1_c3, w2_c3, _, hn_c3, hu_c3, hwd_c3, hhg_c3, hts_c3⟩
    refine TL_q (.tuple #[.pointer (some ⟨c3.p, 0, none⟩), .int .i64 0]) (fun _ _ hρ _ => r_move (hρ _ _ rfl)) rfl rfl rfl (w_n rfl) ?_
    refine TL_q (.pointer (some ⟨c3.p, 0, none⟩)) (fun _ _ hρ _ => r_extract (hρ _ _ rfl) rfl) rfl rfl rfl (w_n rfl) ?_
    refine TL_q (.int .i64 0) (fun _ _ hρ _ => r_extract (hρ _ _ rfl) rfl) rfl rfl rfl (w_n rfl) ?_
    refine TL_q (.pointer (some ⟨c3.p, 0, none⟩)) (fun _ _ hρ _ => r_assign (hρ _ _ rfl)) rfl rfl rfl (w_n rfl) ?_
    refine TL_q (.int .i64 0) (fun _ _ hρ _ => r_assign (hρ _ _ rfl)) rfl rfl rfl (w_n rfl) ?_
    refine TL_seq ?_
    refine T_seq ?_
    have hl1 : c1.ts.length = c1.wd * c1.hg := by rw [hts_c1, hwd_c1, hhg_c1]; exact hlen1
    have f1 : c2.ts = lay1 wd hg p q (List.map (wA 255) (px.take 66)) ts (⟨ux, uy⟩ : Pt) := by rw [hts_c2, hwd_c1, hhg_c1, hts_c1]; rfl
    have f2 : c3.ts = c1.ts := by rw [hts_c3, hwd_c1, hhg_c1, hts_c1]; exact lay_clear hwd.1 hlen1 _ ((List.length_map _).trans hlen) mapA_a
    have f3 : wearN (List.map (wA 0) (px.take 66)) (List.map (wA 0) (px.take 66)).length = 0 := wear_none mapA_a _
    have f4 : wearN (List.map (wA 255) (px.take 66)) (List.map (wA 255) (px.take 66)).length = p * q := (wear_all mapA_a).trans ((List.length_map _).trans hlen)
    refine T_seq (T_draw (V := [(0, .int .i64 0), (1, .bool false), (2, .bool false), (3, .int .i64 0), (4, .bool false), (5, .bool false), (6, .bool false), (7, .pointer (some ⟨c3.p, 0, none⟩)), (8, .pointer (some ⟨c1.p, 0, none⟩))]) [0, 1, 3, 7, 15, 31, 63, 127, 127, 511, 1023, 2047, 4095, 8191, 16383, 32767, 65535, 131071, 262143, 524287, 262143, 1310719, 262143, 4456447, 15990783, 33554431, 67108863] [[(9, none)], [(67, some 0)], [(68, some 1)], [(14, none)], [(70, some 3)], [(71, some 4), (69, some 2)], [(72, some 5)], [(13, none)], [(8, none)], [(74, some 7), (75, some 8)], [(76, some 9)], [(77, some 10), (73, some 6)], [(78, some 11)], [(10, none)], [(80, some 13)], [(81, some 14)], [(82, some 15), (79, some 12)], [(83, some 16)], [(7, none)], [(85, some 18)], [(7, none)], [(87, some 20)], [(7, none)], [(89, some 22)], [(88, some 21), (90, some 23)], [(86, some 19), (91, some 24)], [(92, some 25), (84, some 17)]] 541184 mixed (by kernel_rfl) ?_)
    refine G_step [0, 1, 2, 3, 4, 5, 6, 7, 8] 9 [] (by kernel_rfl) (allM (all_cons (q_run (.int .i64 0) rfl rfl (wv_n rfl) rfl (fun _ _ hρ _ => r_move (hρ _ _ rfl))) (all_cons (q_run (.bool false) rfl rfl (wv_n rfl) rfl (fun _ _ hρ _ => r_as (r_neq (hρ _ _ rfl) (hρ _ _ rfl)) (by rfl))) (all_cons (q_run (.bool false) rfl rfl (wv_n rfl) rfl (fun _ _ hρ _ => r_move (hρ _ _ rfl))) (all_cons (q_run (.int .i64 0) rfl rfl (wv_y rfl rfl) rfl (fun _ _ hρ _ => r_move (hρ _ _ rfl))) (all_cons (q_run (.bool false) rfl rfl (wv_y rfl rfl) rfl (fun _ _ hρ _ => r_as (r_neq (hρ _ _ rfl) (hρ _ _ rfl)) (by rfl))) (all_cons (q_run (.bool false) rfl rfl (wv_n rfl) rfl (fun _ _ hρ _ => r_pick_f (hρ _ _ rfl) (hρ _ _ rfl))) (all_cons (q_run (.bool false) rfl rfl (wv_n rfl) rfl (fun _ _ hρ _ => r_move (hρ _ _ rfl))) (all_cons (q_run (.pointer (some ⟨c3.p, 0, none⟩)) rfl rfl (wv_y rfl rfl) rfl (fun _ _ hρ _ => r_move (hρ _ _ rfl))) (all_cons (q_run (.pointer (some ⟨c1.p, 0, none⟩)) rfl rfl (wv_y rfl rfl) rfl (fun _ _ hρ _ => r_move (hρ _ _ rfl))) all_nil)))))))))) (allM (all_cons ?_ all_nil))
    refine LOb_call (.bool true) [(10, .bool false), (11, .bool false), (12, .bool false), (13, .agg #[.int .i64 ((p : Nat) : Int), .int .i64 ((q : Nat) : Int), .slice ar6 ((px.take 66).length) cr6])] rfl (wv_y rfl rfl) rfl rfl (fun _ _ hρ _ => r_call (args := [.pointer (some ⟨c3.p, 0, none⟩), .pointer (some ⟨c1.p, 0, none⟩)]) (enters_of Try.func25 (by kernel_rfl) rfl) (hρ _ _ rfl) ((cons2 (hρ _ _ rfl) (cons2 (hρ _ _ rfl) rfl))) rfl) (fun w hm => (same_eq c3 c1 w (hm.cv 960 rfl (List.Mem.head _)) (hm.cv 960 rfl (List.Mem.tail _ (List.Mem.tail _ (List.Mem.head _)))) hwd_c3 hhg_c3).mono fun _ _ h => ⟨h.1.trans (congrArg Ending.returned (bool_as (decide_eq_true f2))), h.2⟩) (by kernel_rfl) ?_
    refine G_step [10, 11, 12, 13] 14 [] (by kernel_rfl) (allM (all_cons (q_run (.bool false) rfl rfl (wv_y rfl rfl) rfl (fun _ _ hρ _ => r_not (b := true) (hρ _ _ rfl))) (all_cons (q_run (.bool false) rfl rfl (wv_n rfl) rfl (fun _ _ hρ _ => r_pick_f (hρ _ _ rfl) (hρ _ _ rfl))) (all_cons (q_run (.bool false) rfl rfl (wv_n rfl) rfl (fun _ _ hρ _ => r_move (hρ _ _ rfl))) (all_cons (q_run (.agg #[.int .i64 ((p : Nat) : Int), .int .i64 ((q : Nat) : Int), .slice ar6 ((px.take 66).length) cr6]) rfl rfl (wv_y rfl rfl) rfl (fun _ _ hρ hm => r_loadA ag75 sz75 (hρ _ _ rfl) (hm.at 7 rfl) rfl rfl)) all_nil))))) (allM (all_cons ?_ all_nil))
    refine LOb_call (.int .i64 ((wearN (List.map (wA 0) (px.take 66)) (List.map (wA 0) (px.take 66)).length : Nat) : Int)) [(15, .bool false), (16, .bool false), (17, .bool false), (18, .agg #[.int .i64 ((p : Nat) : Int), .int .i64 ((q : Nat) : Int), .slice ar4 ((px.take 66).length) cr4]), (20, .pointer (some ⟨B5, 0, none⟩)), (21, .int .i64 ((p : Nat) : Int)), (22, .pointer (some ⟨B5, 1, none⟩)), (23, .int .i64 ((q : Nat) : Int)), (24, .int .i64 ((p * q : Nat) : Int))] rfl (wv_y rfl rfl) rfl rfl (fun _ _ hρ _ => r_call (args := [.agg #[.int .i64 ((p : Nat) : Int), .int .i64 ((q : Nat) : Int), .slice ar6 ((px.take 66).length) cr6]]) (enters_of Try.func52 (by kernel_rfl) rfl) (hρ _ _ rfl) ((cons2 (hρ _ _ rfl) rfl)) rfl) (fun w hm => wears_okn p q (List.map (wA 0) (px.take 66)) ar6 cr6 w (SliceAt.own C4.cells_len (hm.row 6 rfl) (List.length_map _).symm rfl) (row_cap (hm.row 6 rfl)) hp8 hq8 ((List.length_map _).trans hlen) (fun c hc => by rw [mapA_a c hc]; decide) ((px.take 66).length) (List.length_map _)) (by kernel_rfl) ?_
    refine G_step [15, 16, 17, 18, 20, 21, 22, 23, 24] 19 [] (by kernel_rfl) (allM (all_cons (q_run (.bool false) rfl rfl (wv_y rfl rfl) rfl (fun _ _ hρ _ => r_as (r_neq (hρ _ _ rfl) (hρ _ _ rfl)) (bool_as (by rw [decide_eq_true (by rw [f3]; rfl)]; rfl)))) (all_cons (q_run (.bool false) rfl rfl (wv_n rfl) rfl (fun _ _ hρ _ => r_pick_f (hρ _ _ rfl) (hρ _ _ rfl))) (all_cons (q_run (.bool false) rfl rfl (wv_n rfl) rfl (fun _ _ hρ _ => r_move (hρ _ _ rfl))) (all_cons (q_run (.agg #[.int .i64 ((p : Nat) : Int), .int .i64 ((q : Nat) : Int), .slice ar4 ((px.take 66).length) cr4]) rfl rfl (wv_y rfl rfl) rfl (fun _ _ hρ hm => r_loadA ag75 sz75 (hρ _ _ rfl) (hm.at 5 rfl) rfl rfl)) (all_cons (q_run (.pointer (some ⟨B5, 0, none⟩)) rfl rfl (wv_y rfl rfl) rfl (fun _ _ hρ _ => r_fieldAddr fl75_0 sz3 (hρ _ _ rfl))) (all_cons (q_run (.int .i64 ((p : Nat) : Int)) rfl rfl (wv_y rfl rfl) rfl (fun _ _ hρ hm => r_load ag3 (hρ _ _ rfl) (hm.at 5 rfl) rfl)) (all_cons (q_run (.pointer (some ⟨B5, 1, none⟩)) rfl rfl (wv_y rfl rfl) rfl (fun _ _ hρ _ => r_fieldAddr fl75_1 sz3 (hρ _ _ rfl))) (all_cons (q_run (.int .i64 ((q : Nat) : Int)) rfl rfl (wv_y rfl rfl) rfl (fun _ _ hρ hm => r_load ag3 (hρ _ _ rfl) (hm.at 5 rfl) rfl)) (all_cons (q_run (.int .i64 ((p * q : Nat) : Int)) rfl rfl (wv_y rfl rfl) rfl (fun _ _ hρ _ => r_as (r_mul (hρ _ _ rfl) (hρ _ _ rfl)) (int_as ((wrap64 (by omega) (by omega)).trans (by omega))))) all_nil)))))))))) (allM (all_cons ?_ all_nil))
    refine LOb_call (.int .i64 ((wearN (List.map (wA 255) (px.take 66)) (List.map (wA 255) (px.take 66)).length : Nat) : Int)) [(25, .bool false), (26, .bool false)] rfl (wv_y rfl rfl) rfl rfl (fun _ _ hρ _ => r_call (args := [.agg #[.int .i64 ((p : Nat) : Int), .int .i64 ((q : Nat) : Int), .slice ar4 ((px.take 66).length) cr4]]) (enters_of Try.func52 (by kernel_rfl) rfl) (hρ _ _ rfl) ((cons2 (hρ _ _ rfl) rfl)) rfl) (fun w hm => wears_okn p q (List.map (wA 255) (px.take 66)) ar4 cr4 w (SliceAt.own C4.cells_len (hm.row 4 rfl) (List.length_map _).symm rfl) (row_cap (hm.row 4 rfl)) hp8 hq8 ((List.length_map _).trans hlen) (fun c hc => by rw [mapA_a c hc]; decide) ((px.take 66).length) (List.length_map _)) (by kernel_rfl) ?_
    refine G_last [20, 21, 22, 23, 24, 25, 26] [(5, .pointer (some ⟨B3, 0, none⟩)), (6, .bool false), (7, .pointer (some ⟨B5, 0, none⟩)), (8, .pointer (some ⟨c1.p, 0, none⟩)), (12, .pointer (some ⟨c2.p, 0, none⟩)), (9, .int .i64 0), (93, .bool false)] (by kernel_rfl) (allM (all_cons (q_run (.pointer (some ⟨B5, 0, none⟩)) rfl rfl (wv_y rfl rfl) rfl (fun _ _ hρ _ => r_fieldAddr fl75_0 sz3 (hρ _ _ rfl))) (all_cons (q_run (.int .i64 ((p : Nat) : Int)) rfl rfl (wv_y rfl rfl) rfl (fun _ _ hρ hm => r_load ag3 (hρ _ _ rfl) (hm.at 5 rfl) rfl)) (all_cons (q_run (.pointer (some ⟨B5, 1, none⟩)) rfl rfl (wv_y rfl rfl) rfl (fun _ _ hρ _ => r_fieldAddr fl75_1 sz3 (hρ _ _ rfl))) (all_cons (q_run (.int .i64 ((q : Nat) : Int)) rfl rfl (wv_y rfl rfl) rfl (fun _ _ hρ hm => r_load ag3 (hρ _ _ rfl) (hm.at 5 rfl) rfl)) (all_cons (q_run (.int .i64 ((p * q : Nat) : Int)) rfl rfl (wv_y rfl rfl) rfl (fun _ _ hρ _ => r_as (r_mul (hρ _ _ rfl) (hρ _ _ rfl)) (int_as ((wrap64 (by omega) (by omega)).trans (by omega))))) (all_cons (q_run (.bool false) rfl rfl (wv_y rfl rfl) rfl (fun _ _ hρ _ => r_as (r_neq (hρ _ _ rfl) (hρ _ _ rfl)) (bool_as (by rw [decide_eq_true (by rw [f4])]; rfl)))) (all_cons (q_run (.bool false) rfl rfl (wv_n rfl) rfl (fun _ _ hρ _ => r_pick_f (hρ _ _ rfl) (hρ _ _ rfl))) all_nil)))))))) (end_old rfl rfl (end_old rfl rfl (end_old rfl rfl (end_old rfl rfl (end_old rfl rfl (end_old rfl rfl (end_new 26 rfl rfl end_nil))))))) ?_
    refine T_cond_f rfl ?_
    refine T_skip' ?_
    refine p_seq ?_
    by_cases hin : 0 ≤ ux ∧ 0 ≤ uy ∧ ux ≤ ((8 * wd : Nat) : Int) - ((p : Nat) : Int) ∧ uy ≤ ((8 * hg : Nat) : Int) - ((q : Nat) : Int)
    · skip
      obtain ⟨r1, r2, r3, r4⟩ := hin
      obtain ⟨xx, rfl⟩ := Int.eq_ofNat_of_zero_le r1
      obtain ⟨yy, rfl⟩ := Int.eq_ofNat_of_zero_le r2
      have g1 := cut_lay (px := List.map (wA 255) (px.take 66)) hlen1 ((List.length_map _).trans hlen) (show xx + p ≤ 8 * wd by omega) (show yy + q ≤ 8 * hg by omega) mapA_a
      have g2 : cutL c2.wd c2.ts xx yy p q = List.map (wA 255) (px.take 66) := by rw [hwd_c2, hwd_c1, f1]; exact g1
      have g3 := dif_le_all (p := p) (q := q) hlen1 f1
      have g4 : (((difC c1.wd c1.hg c1.ts c2.ts).length : Nat) : Int) ≤ ((p * q : Nat) : Int) := by rw [hwd_c1, hhg_c1, hts_c1]; exact_mod_cast g3
      refine T_seq (T_region ?_)
      refine TL_q (.pointer (some ⟨c2.p, 0, none⟩)) (fun _ _ hρ _ => r_move (hρ _ _ rfl)) rfl rfl rfl (w_n rfl) ?_
      refine TL_q (.pointer (some ⟨B3, 0, none⟩)) (fun _ _ hρ _ => r_fieldAddr fl47_0 sz3 (hρ _ _ rfl)) rfl rfl rfl (w_n rfl) ?_
      refine TL_q (.int .i64 ((xx : Nat) : Int)) (fun _ _ hρ hm => r_load ag3 (hρ _ _ rfl) (hm.at 3 rfl) rfl) rfl rfl rfl (w_n rfl) ?_
      refine TL_q (.pointer (some ⟨B3, 1, none⟩)) (fun _ _ hρ _ => r_fieldAddr fl47_1 sz3 (hρ _ _ rfl)) rfl rfl rfl (w_n rfl) ?_
      refine TL_q (.int .i64 ((yy : Nat) : Int)) (fun _ _ hρ hm => r_load ag3 (hρ _ _ rfl) (hm.at 3 rfl) rfl) rfl rfl rfl (w_n rfl) ?_
      refine TL_q (.pointer (some ⟨B5, 0, none⟩)) (fun _ _ hρ _ => r_fieldAddr fl75_0 sz3 (hρ _ _ rfl)) rfl rfl rfl (w_n rfl) ?_
      refine TL_q (.int .i64 ((p : Nat) : Int)) (fun _ _ hρ hm => r_load ag3 (hρ _ _ rfl) (hm.at 5 rfl) rfl) rfl rfl rfl (w_n rfl) ?_
      refine TL_q (.pointer (some ⟨B5, 1, none⟩)) (fun _ _ hρ _ => r_fieldAddr fl75_1 sz3 (hρ _ _ rfl)) rfl rfl rfl (w_n rfl) ?_
      refine TL_q (.int .i64 ((q : Nat) : Int)) (fun _ _ hρ hm => r_load ag3 (hρ _ _ rfl) (hm.at 5 rfl) rfl) rfl rfl rfl (w_n rfl) ?_
      refine TL_callN (fun (_ : Option Addr × Nat) => True) (fun (ar12, cr12) => .tuple #[.agg #[.int .i64 ((p : Nat) : Int), .int .i64 ((q : Nat) : Int), .slice ar12 ((cutL c2.wd c2.ts xx yy p q).length) cr12], .int .i64 0]) (fun (ar12, cr12) => [(10, .row (.slice ar12 ((cutL c2.wd c2.ts xx yy p q).length) cr12) 37 4 ((cutL c2.wd c2.ts xx yy p q).length) ((cutL c2.wd c2.ts xx yy p q).flatMap C4.cells))]) (fun _ _ hρ _ => r_call (args := [.pointer (some ⟨c2.p, 0, none⟩), .int .i64 ((xx : Nat) : Int), .int .i64 ((yy : Nat) : Int), .int .i64 ((p : Nat) : Int), .int .i64 ((q : Nat) : Int)]) (enters_of Try.func59 (by kernel_rfl) rfl) (hρ _ _ rfl) ((cons2 (hρ _ _ rfl) (cons2 (hρ _ _ rfl) (cons2 (hρ _ _ rfl) (cons2 (hρ _ _ rfl) (cons2 (hρ _ _ rfl) rfl)))))) rfl) (fun w hm => (cut_ok c2 xx yy p q w (hm.cv 960 rfl (List.Mem.tail _ (List.Mem.head _))) hp8 hq8 (by rw [hwd_c2, hwd_c1]; omega) (by rw [hhg_c2, hhg_c1]; omega)).mono fun e w' ⟨a', cap', he, hb, hr⟩ => ⟨(a', cap'), trivial, he, hb, newOk1 10 hr⟩) rfl rfl rfl (w_n rfl) ?_
      rintro ⟨ar12, cr12⟩ -
      refine TL_q (.tuple #[.agg #[.int .i64 ((p : Nat) : Int), .int .i64 ((q : Nat) : Int), .slice ar12 ((cutL c2.wd c2.ts xx yy p q).length) cr12], .int .i64 0]) (fun _ _ hρ _ => r_move (hρ _ _ rfl)) rfl rfl rfl (w_n rfl) ?_
      refine TL_q (.agg #[.int .i64 ((p : Nat) : Int), .int .i64 ((q : Nat) : Int), .slice ar12 ((cutL c2.wd c2.ts xx yy p q).length) cr12]) (fun _ _ hρ _ => r_extract (hρ _ _ rfl) rfl) rfl rfl rfl (w_n rfl) ?_
      refine TL_q (.int .i64 0) (fun _ _ hρ _ => r_extract (hρ _ _ rfl) rfl) rfl rfl rfl (w_n rfl) ?_
      refine TL_new 11 (.cells #[.int .i64 0, .int .i64 0, .slice none 0 0] 75) (fun B => .pointer (some ⟨B, 0, none⟩)) (fun _ _ _ _ => r_alloc (v := .agg #[.int .i64 0, .int .i64 0, .slice none 0 0]) (by kernel_rfl) rfl) rfl rfl rfl (w_n rfl) ?_
      intro B13
      refine TL_store 11 (.cells #[.int .i64 ((p : Nat) : Int), .int .i64 ((q : Nat) : Int), .slice ar12 ((cutL c2.wd c2.ts xx yy p q).length) cr12] 75) rfl (fun _ _ hρ hm => r_store sz75 (hρ _ _ rfl) (hρ _ _ rfl) (hm.at 11 rfl) rfl rfl rfl rfl) rfl rfl (w_n rfl) ?_
      refine TL_q (.int .i64 0) (fun _ _ hρ _ => r_assign (hρ _ _ rfl)) rfl rfl rfl (w_n rfl) ?_
      refine TL_seq ?_
      refine T_seq ?_
      refine T_seq (T_region ?_)
      refine TL_q (.int .i64 0) (fun _ _ hρ _ => r_move (hρ _ _ rfl)) rfl rfl rfl (w_n rfl) ?_
      refine TL_q (.bool true) (fun _ _ hρ _ => r_as (r_eql (hρ _ _ rfl) (hρ _ _ rfl)) (by rfl)) rfl rfl rfl (w_n rfl) ?_
      refine TL_seq ?_
      refine T_cond_t rfl ?_
      refine T_seq (T_draw (V := [(0, .agg #[.int .i64 ((p : Nat) : Int), .int .i64 ((q : Nat) : Int), .slice ar12 ((cutL c2.wd c2.ts xx yy p q).length) cr12]), (1, .agg #[.int .i64 ((p : Nat) : Int), .int .i64 ((q : Nat) : Int), .slice ar4 ((px.take 66).length) cr4])]) [0, 0, 3, 7, 15, 15, 63, 127, 15, 271, 15, 1039, 3855, 8191, 16383, 32767] [[(15, none)], [(7, none)], [(109, some 0), (110, some 1)], [(111, some 2)], [(8, none)], [(12, none)], [(113, some 4), (114, some 5)], [(115, some 6)], [(7, none)], [(117, some 8)], [(7, none)], [(119, some 10)], [(118, some 9), (120, some 11)], [(116, some 7), (121, some 12)], [(122, some 13), (112, some 3)], [(123, some 14)]] 68 mixed (by kernel_rfl) ?_)
      refine G_step [0, 1] 2 [] (by kernel_rfl) (allM (all_cons (q_run (.agg #[.int .i64 ((p : Nat) : Int), .int .i64 ((q : Nat) : Int), .slice ar12 ((cutL c2.wd c2.ts xx yy p q).length) cr12]) rfl rfl (wv_n rfl) rfl (fun _ _ hρ hm => r_loadA ag75 sz75 (hρ _ _ rfl) (hm.at 11 rfl) rfl rfl)) (all_cons (q_run (.agg #[.int .i64 ((p : Nat) : Int), .int .i64 ((q : Nat) : Int), .slice ar4 ((px.take 66).length) cr4]) rfl rfl (wv_n rfl) rfl (fun _ _ hρ hm => r_loadA ag75 sz75 (hρ _ _ rfl) (hm.at 5 rfl) rfl rfl)) all_nil))) (allM (all_cons ?_ all_nil))
      refine LOb_call (.bool true) [(3, .bool true), (4, .pointer (some ⟨c1.p, 0, none⟩)), (5, .pointer (some ⟨c2.p, 0, none⟩)), (8, .pointer (some ⟨B5, 0, none⟩)), (9, .int .i64 ((p : Nat) : Int)), (10, .pointer (some ⟨B5, 1, none⟩)), (11, .int .i64 ((q : Nat) : Int)), (12, .int .i64 ((p * q : Nat) : Int))] rfl (wv_n rfl) rfl rfl (fun _ _ hρ _ => r_call (args := [.agg #[.int .i64 ((p : Nat) : Int), .int .i64 ((q : Nat) : Int), .slice ar12 ((cutL c2.wd c2.ts xx yy p q).length) cr12], .agg #[.int .i64 ((p : Nat) : Int), .int .i64 ((q : Nat) : Int), .slice ar4 ((px.take 66).length) cr4]]) (enters_of Try.func51 (by kernel_rfl) rfl) (hρ _ _ rfl) ((cons2 (hρ _ _ rfl) (cons2 (hρ _ _ rfl) rfl))) rfl) (fun w hm => (ssame_n ((p : Nat) : Int) ((q : Nat) : Int) (cutL c2.wd c2.ts xx yy p q) ar12 cr12 w (SliceAt.own C4.cells_len (hm.row 10 rfl) rfl rfl) (row_cap (hm.row 10 rfl)) ((p : Nat) : Int) ((q : Nat) : Int) (List.map (wA 255) (px.take 66)) ar4 cr4 (SliceAt.own C4.cells_len (hm.row 4 rfl) (List.length_map _).symm rfl) (row_cap (hm.row 4 rfl)) (px64b hp8 hq8 (by simp [cutL])) (px64b hp8 hq8 ((List.length_map _).trans hlen)) ((cutL c2.wd c2.ts xx yy p q).length) rfl ((px.take 66).length) (List.length_map _)).mono fun _ _ h => ⟨h.1.trans (congrArg Ending.returned (bool_as (decide_eq_true ⟨rfl, rfl, g2⟩))), h.2⟩) (by kernel_rfl) ?_
      refine G_step [3, 4, 5, 8, 9, 10, 11, 12] 6 [] (by kernel_rfl) (allM (all_cons (q_run (.bool true) rfl rfl (wv_n rfl) rfl (fun _ _ hρ _ => r_move (hρ _ _ rfl))) (all_cons (q_run (.pointer (some ⟨c1.p, 0, none⟩)) rfl rfl (wv_y rfl rfl) rfl (fun _ _ hρ _ => r_move (hρ _ _ rfl))) (all_cons (q_run (.pointer (some ⟨c2.p, 0, none⟩)) rfl rfl (wv_y rfl rfl) rfl (fun _ _ hρ _ => r_move (hρ _ _ rfl))) (all_cons (q_run (.pointer (some ⟨B5, 0, none⟩)) rfl rfl (wv_y rfl rfl) rfl (fun _ _ hρ _ => r_fieldAddr fl75_0 sz3 (hρ _ _ rfl))) (all_cons (q_run (.int .i64 ((p : Nat) : Int)) rfl rfl (wv_y rfl rfl) rfl (fun _ _ hρ hm => r_load ag3 (hρ _ _ rfl) (hm.at 5 rfl) rfl)) (all_cons (q_run (.pointer (some ⟨B5, 1, none⟩)) rfl rfl (wv_y rfl rfl) rfl (fun _ _ hρ _ => r_fieldAddr fl75_1 sz3 (hρ _ _ rfl))) (all_cons (q_run (.int .i64 ((q : Nat) : Int)) rfl rfl (wv_y rfl rfl) rfl (fun _ _ hρ hm => r_load ag3 (hρ _ _ rfl) (hm.at 5 rfl) rfl)) (all_cons (q_run (.int .i64 ((p * q : Nat) : Int)) rfl rfl (wv_y rfl rfl) rfl (fun _ _ hρ _ => r_as (r_mul (hρ _ _ rfl) (hρ _ _ rfl)) (int_as ((wrap64 (by omega) (by omega)).trans (by omega))))) all_nil))))))))) (allM (all_cons ?_ all_nil))
      refine LOb_callN (fun (_ : Option Addr × Nat) => True) (fun (ar15, cr15) => .slice ar15 ((difC c1.wd c1.hg c1.ts c2.ts).length) cr15) (fun (ar15, cr15) => [(12, .row (.slice ar15 ((difC c1.wd c1.hg c1.ts c2.ts).length) cr15) 47 2 ((difC c1.wd c1.hg c1.ts c2.ts).length) ((difC c1.wd c1.hg c1.ts c2.ts).flatMap ptn))]) (fun (ar15, cr15) => [(7, .int .i64 (((difC c1.wd c1.hg c1.ts c2.ts).length : Nat) : Int)), (13, .bool true), (14, .bool true), (15, .bool true)]) rfl (wv_y rfl rfl) rfl rfl (fun _ _ hρ _ => r_call (args := [.pointer (some ⟨c1.p, 0, none⟩), .pointer (some ⟨c2.p, 0, none⟩)]) (enters_of Try.func22 (by kernel_rfl) rfl) (hρ _ _ rfl) ((cons2 (hρ _ _ rfl) (cons2 (hρ _ _ rfl) rfl))) rfl) (fun w hm => (differ_eq c1 c2 w (hm.cv 960 rfl (List.Mem.tail _ (List.Mem.tail _ (List.Mem.head _)))) (hm.cv 960 rfl (List.Mem.tail _ (List.Mem.head _))) hwd_c2.symm hhg_c2.symm).mono fun e w' ⟨a', cap', he, hb, hr⟩ => ⟨(a', cap'), trivial, he, hb, newOk1 12 hr⟩) (fun (ar15, cr15) => by kernel_rfl) ?_
      rintro ⟨ar15, cr15⟩ -
      refine G_last [7, 8, 9, 10, 11, 12, 13, 14, 15] [(7, .pointer (some ⟨B5, 0, none⟩)), (8, .pointer (some ⟨c1.p, 0, none⟩)), (12, .pointer (some ⟨c2.p, 0, none⟩)), (9, .int .i64 0), (6, .bool true)] (by kernel_rfl) (allM (all_cons (q_run (.int .i64 (((difC c1.wd c1.hg c1.ts c2.ts).length : Nat) : Int)) rfl rfl (wv_y rfl rfl) rfl (fun _ _ hρ _ => r_len sl44 (hρ _ _ rfl))) (all_cons (q_run (.pointer (some ⟨B5, 0, none⟩)) rfl rfl (wv_y rfl rfl) rfl (fun _ _ hρ _ => r_fieldAddr fl75_0 sz3 (hρ _ _ rfl))) (all_cons (q_run (.int .i64 ((p : Nat) : Int)) rfl rfl (wv_y rfl rfl) rfl (fun _ _ hρ hm => r_load ag3 (hρ _ _ rfl) (hm.at 5 rfl) rfl)) (all_cons (q_run (.pointer (some ⟨B5, 1, none⟩)) rfl rfl (wv_y rfl rfl) rfl (fun _ _ hρ _ => r_fieldAddr fl75_1 sz3 (hρ _ _ rfl))) (all_cons (q_run (.int .i64 ((q : Nat) : Int)) rfl rfl (wv_y rfl rfl) rfl (fun _ _ hρ hm => r_load ag3 (hρ _ _ rfl) (hm.at 5 rfl) rfl)) (all_cons (q_run (.int .i64 ((p * q : Nat) : Int)) rfl rfl (wv_y rfl rfl) rfl (fun _ _ hρ _ => r_as (r_mul (hρ _ _ rfl) (hρ _ _ rfl)) (int_as ((wrap64 (by omega) (by omega)).trans (by omega))))) (all_cons (q_run (.bool true) rfl rfl (wv_y rfl rfl) rfl (fun _ _ hρ _ => r_as (r_leq (hρ _ _ rfl) (hρ _ _ rfl)) (bool_as (decide_eq_true g4)))) (all_cons (q_run (.bool true) rfl rfl (wv_n rfl) rfl (fun _ _ hρ _ => r_pick_t (hρ _ _ rfl) (hρ _ _ rfl))) (all_cons (q_run (.bool true) rfl rfl (wv_n rfl) rfl (fun _ _ hρ _ => r_assign (hρ _ _ rfl))) all_nil)))))))))) (end_old rfl rfl (end_old rfl rfl (end_old rfl rfl (end_old rfl rfl (end_new 15 rfl rfl end_nil))))) ?_
      refine T_ret' ?_
      refine p_then_r ?_
      refine ret_of rfl (.bool true) (fun tmps w hk hm => res1 rfl (res_tmp (hk 6 _ rfl))) (fun w hm => ?_)
      exact ⟨rfl, hm.ext⟩
    · skip
      have g3 := dif_lt (p := p) (q := q) hlen1 f1 hp8.1 hq8.1 hin
      have g4 : (((difC c1.wd c1.hg c1.ts c2.ts).length : Nat) : Int) < ((p * q : Nat) : Int) := by rw [hwd_c1, hhg_c1, hts_c1]; exact_mod_cast g3
      refine T_seq (T_region ?_)
      refine TL_q (.pointer (some ⟨c2.p, 0, none⟩)) (fun _ _ hρ _ => r_move (hρ _ _ rfl)) rfl rfl rfl (w_n rfl) ?_
      refine TL_q (.pointer (some ⟨B3, 0, none⟩)) (fun _ _ hρ _ => r_fieldAddr fl47_0 sz3 (hρ _ _ rfl)) rfl rfl rfl (w_n rfl) ?_
      refine TL_q (.int .i64 ux) (fun _ _ hρ hm => r_load ag3 (hρ _ _ rfl) (hm.at 3 rfl) rfl) rfl rfl rfl (w_n rfl) ?_
      refine TL_q (.pointer (some ⟨B3, 1, none⟩)) (fun _ _ hρ _ => r_fieldAddr fl47_1 sz3 (hρ _ _ rfl)) rfl rfl rfl (w_n rfl) ?_
      refine TL_q (.int .i64 uy) (fun _ _ hρ hm => r_load ag3 (hρ _ _ rfl) (hm.at 3 rfl) rfl) rfl rfl rfl (w_n rfl) ?_
      refine TL_q (.pointer (some ⟨B5, 0, none⟩)) (fun _ _ hρ _ => r_fieldAddr fl75_0 sz3 (hρ _ _ rfl)) rfl rfl rfl (w_n rfl) ?_
      refine TL_q (.int .i64 ((p : Nat) : Int)) (fun _ _ hρ hm => r_load ag3 (hρ _ _ rfl) (hm.at 5 rfl) rfl) rfl rfl rfl (w_n rfl) ?_
      refine TL_q (.pointer (some ⟨B5, 1, none⟩)) (fun _ _ hρ _ => r_fieldAddr fl75_1 sz3 (hρ _ _ rfl)) rfl rfl rfl (w_n rfl) ?_
      refine TL_q (.int .i64 ((q : Nat) : Int)) (fun _ _ hρ hm => r_load ag3 (hρ _ _ rfl) (hm.at 5 rfl) rfl) rfl rfl rfl (w_n rfl) ?_
      refine TL_call (.tuple #[.agg #[.int .i64 0, .int .i64 0, .slice none 0 0], .int .i64 2]) (fun _ _ hρ _ => r_call (args := [.pointer (some ⟨c2.p, 0, none⟩), .int .i64 ux, .int .i64 uy, .int .i64 ((p : Nat) : Int), .int .i64 ((q : Nat) : Int)]) (enters_of Try.func59 (by kernel_rfl) rfl) (hρ _ _ rfl) ((cons2 (hρ _ _ rfl) (cons2 (hρ _ _ rfl) (cons2 (hρ _ _ rfl) (cons2 (hρ _ _ rfl) (cons2 (hρ _ _ rfl) rfl)))))) rfl) (fun w hm => cut_no c2 ux uy ((p : Nat) : Int) ((q : Nat) : Int) w (hm.cv 960 rfl (List.Mem.tail _ (List.Mem.head _))) (by rintro ⟨-, -, r1, r2, r3, r4⟩; rw [hwd_c2, hwd_c1] at r3; rw [hhg_c2, hhg_c1] at r4; exact hin ⟨r1, r2, r3, r4⟩)) rfl rfl rfl (w_n rfl) ?_
      refine TL_q (.tuple #[.agg #[.int .i64 0, .int .i64 0, .slice none 0 0], .int .i64 2]) (fun _ _ hρ _ => r_move (hρ _ _ rfl)) rfl rfl rfl (w_n rfl) ?_
      refine TL_q (.agg #[.int .i64 0, .int .i64 0, .slice none 0 0]) (fun _ _ hρ _ => r_extract (hρ _ _ rfl) rfl) rfl rfl rfl (w_n rfl) ?_
      refine TL_q (.int .i64 2) (fun _ _ hρ _ => r_extract (hρ _ _ rfl) rfl) rfl rfl rfl (w_n rfl) ?_
      refine TL_new 13 (.cells #[.int .i64 0, .int .i64 0, .slice none 0 0] 75) (fun B => .pointer (some ⟨B, 0, none⟩)) (fun _ _ _ _ => r_alloc (v := .agg #[.int .i64 0, .int .i64 0, .slice none 0 0]) (by kernel_rfl) rfl) rfl rfl rfl (w_n rfl) ?_
      intro B16
      refine TL_store 13 (.cells #[.int .i64 0, .int .i64 0, .slice none 0 0] 75) rfl (fun _ _ hρ hm => r_store sz75 (hρ _ _ rfl) (hρ _ _ rfl) (hm.at 13 rfl) rfl rfl rfl rfl) rfl rfl (w_n rfl) ?_
      refine TL_q (.int .i64 2) (fun _ _ hρ _ => r_assign (hρ _ _ rfl)) rfl rfl rfl (w_n rfl) ?_
      refine TL_seq ?_
      refine T_seq ?_
      refine T_seq (T_region ?_)
      refine TL_q (.int .i64 2) (fun _ _ hρ _ => r_move (hρ _ _ rfl)) rfl rfl rfl (w_n rfl) ?_
      refine TL_q (.bool false) (fun _ _ hρ _ => r_as (r_eql (hρ _ _ rfl) (hρ _ _ rfl)) (by rfl)) rfl rfl rfl (w_n rfl) ?_
      refine TL_seq ?_
      refine T_cond_f rfl ?_
      refine T_skip' ?_
      refine p_seq ?_
      refine T_seq (T_draw (V := [(0, .int .i64 2), (1, .bool true), (2, .bool true), (3, .pointer (some ⟨c1.p, 0, none⟩)), (4, .pointer (some ⟨c2.p, 0, none⟩)), (7, .pointer (some ⟨B5, 0, none⟩)), (8, .int .i64 ((p : Nat) : Int)), (9, .pointer (some ⟨B5, 1, none⟩)), (10, .int .i64 ((q : Nat) : Int)), (11, .int .i64 ((p * q : Nat) : Int))]) [0, 1, 3, 7, 7, 31, 63, 7, 135, 7, 519, 1927, 4095, 8191, 16383] [[(9, none)], [(124, some 0)], [(125, some 1)], [(8, none)], [(12, none)], [(127, some 3), (128, some 4)], [(129, some 5)], [(7, none)], [(131, some 7)], [(7, none)], [(133, some 9)], [(132, some 8), (134, some 10)], [(130, some 6), (135, some 11)], [(136, some 12), (126, some 2)], [(137, some 13)]] 32 mixed (by kernel_rfl) ?_)
      refine G_step [0, 1, 2, 3, 4, 7, 8, 9, 10, 11] 5 [] (by kernel_rfl) (allM (all_cons (q_run (.int .i64 2) rfl rfl (wv_n rfl) rfl (fun _ _ hρ _ => r_move (hρ _ _ rfl))) (all_cons (q_run (.bool true) rfl rfl (wv_n rfl) rfl (fun _ _ hρ _ => r_as (r_eql (hρ _ _ rfl) (hρ _ _ rfl)) (by rfl))) (all_cons (q_run (.bool true) rfl rfl (wv_n rfl) rfl (fun _ _ hρ _ => r_move (hρ _ _ rfl))) (all_cons (q_run (.pointer (some ⟨c1.p, 0, none⟩)) rfl rfl (wv_y rfl rfl) rfl (fun _ _ hρ _ => r_move (hρ _ _ rfl))) (all_cons (q_run (.pointer (some ⟨c2.p, 0, none⟩)) rfl rfl (wv_y rfl rfl) rfl (fun _ _ hρ _ => r_move (hρ _ _ rfl))) (all_cons (q_run (.pointer (some ⟨B5, 0, none⟩)) rfl rfl (wv_y rfl rfl) rfl (fun _ _ hρ _ => r_fieldAddr fl75_0 sz3 (hρ _ _ rfl))) (all_cons (q_run (.int .i64 ((p : Nat) : Int)) rfl rfl (wv_y rfl rfl) rfl (fun _ _ hρ hm => r_load ag3 (hρ _ _ rfl) (hm.at 5 rfl) rfl)) (all_cons (q_run (.pointer (some ⟨B5, 1, none⟩)) rfl rfl (wv_y rfl rfl) rfl (fun _ _ hρ _ => r_fieldAddr fl75_1 sz3 (hρ _ _ rfl))) (all_cons (q_run (.int .i64 ((q : Nat) : Int)) rfl rfl (wv_y rfl rfl) rfl (fun _ _ hρ hm => r_load ag3 (hρ _ _ rfl) (hm.at 5 rfl) rfl)) (all_cons (q_run (.int .i64 ((p * q : Nat) : Int)) rfl rfl (wv_y rfl rfl) rfl (fun _ _ hρ _ => r_as (r_mul (hρ _ _ rfl) (hρ _ _ rfl)) (int_as ((wrap64 (by omega) (by omega)).trans (by omega))))) all_nil))))))))))) (allM (all_cons ?_ all_nil))
      refine LOb_callN (fun (_ : Option Addr × Nat) => True) (fun (ar18, cr18) => .slice ar18 ((difC c1.wd c1.hg c1.ts c2.ts).length) cr18) (fun (ar18, cr18) => [(14, .row (.slice ar18 ((difC c1.wd c1.hg c1.ts c2.ts).length) cr18) 47 2 ((difC c1.wd c1.hg c1.ts c2.ts).length) ((difC c1.wd c1.hg c1.ts c2.ts).flatMap ptn))]) (fun (ar18, cr18) => [(6, .int .i64 (((difC c1.wd c1.hg c1.ts c2.ts).length : Nat) : Int)), (12, .bool true), (13, .bool true), (14, .bool true)]) rfl (wv_y rfl rfl) rfl rfl (fun _ _ hρ _ => r_call (args := [.pointer (some ⟨c1.p, 0, none⟩), .pointer (some ⟨c2.p, 0, none⟩)]) (enters_of Try.func22 (by kernel_rfl) rfl) (hρ _ _ rfl) ((cons2 (hρ _ _ rfl) (cons2 (hρ _ _ rfl) rfl))) rfl) (fun w hm => (differ_eq c1 c2 w (hm.cv 960 rfl (List.Mem.tail _ (List.Mem.tail _ (List.Mem.head _)))) (hm.cv 960 rfl (List.Mem.tail _ (List.Mem.head _))) hwd_c2.symm hhg_c2.symm).mono fun e w' ⟨a', cap', he, hb, hr⟩ => ⟨(a', cap'), trivial, he, hb, newOk1 14 hr⟩) (fun (ar18, cr18) => by kernel_rfl) ?_
      rintro ⟨ar18, cr18⟩ -
      refine G_last [6, 7, 8, 9, 10, 11, 12, 13, 14] [(6, .bool true)] (by kernel_rfl) (allM (all_cons (q_run (.int .i64 (((difC c1.wd c1.hg c1.ts c2.ts).length : Nat) : Int)) rfl rfl (wv_y rfl rfl) rfl (fun _ _ hρ _ => r_len sl44 (hρ _ _ rfl))) (all_cons (q_run (.pointer (some ⟨B5, 0, none⟩)) rfl rfl (wv_y rfl rfl) rfl (fun _ _ hρ _ => r_fieldAddr fl75_0 sz3 (hρ _ _ rfl))) (all_cons (q_run (.int .i64 ((p : Nat) : Int)) rfl rfl (wv_y rfl rfl) rfl (fun _ _ hρ hm => r_load ag3 (hρ _ _ rfl) (hm.at 5 rfl) rfl)) (all_cons (q_run (.pointer (some ⟨B5, 1, none⟩)) rfl rfl (wv_y rfl rfl) rfl (fun _ _ hρ _ => r_fieldAddr fl75_1 sz3 (hρ _ _ rfl))) (all_cons (q_run (.int .i64 ((q : Nat) : Int)) rfl rfl (wv_y rfl rfl) rfl (fun _ _ hρ hm => r_load ag3 (hρ _ _ rfl) (hm.at 5 rfl) rfl)) (all_cons (q_run (.int .i64 ((p * q : Nat) : Int)) rfl rfl (wv_y rfl rfl) rfl (fun _ _ hρ _ => r_as (r_mul (hρ _ _ rfl) (hρ _ _ rfl)) (int_as ((wrap64 (by omega) (by omega)).trans (by omega))))) (all_cons (q_run (.bool true) rfl rfl (wv_y rfl rfl) rfl (fun _ _ hρ _ => r_as (r_lss (hρ _ _ rfl) (hρ _ _ rfl)) (bool_as (decide_eq_true g4)))) (all_cons (q_run (.bool true) rfl rfl (wv_n rfl) rfl (fun _ _ hρ _ => r_pick_t (hρ _ _ rfl) (hρ _ _ rfl))) (all_cons (q_run (.bool true) rfl rfl (wv_n rfl) rfl (fun _ _ hρ _ => r_assign (hρ _ _ rfl))) all_nil)))))))))) (end_new 14 rfl rfl end_nil) ?_
      refine T_ret' ?_
      refine ret_of rfl (.bool true) (fun tmps w hk hm => res1 rfl (res_tmp (hk 6 _ rfl))) (fun w hm => ?_)
      exact ⟨rfl, hm.ext⟩

theorem scuts_any (x y : Int) (ts : List T64) (at1 : Option Addr) (ct : Nat) (x2 y2 : Int) (px : List C4) (a : Option Addr) (cap : Nat) (u : Pt) (w : World) (ht : SliceAt w at1 ct 256 T64.cells ts) (hct : ct ≤ Go.maxLen) (hts : TsOk ts) (hv : SliceAt w a cap 4 C4.cells px) (hcap : cap ≤ Go.maxLen) (hpx : ∀ c ∈ px, c.ok) (hU : inI u.x ∧ inI u.y) : Calls Try.prog 12 #[.agg #[.int .i64 x, .int .i64 y, .slice at1 ts.length ct], .agg #[.int .i64 x2, .int .i64 y2, .slice a px.length cap], .agg u.cells.toArray] w fun e w' => e = .returned (.bool true) ∧ Below w.heap.size w w' := by
  obtain ⟨ux, uy⟩ := u
  by_cases h : rightI x y ts.length = true
  · obtain ⟨wd, hg, rfl, rfl, h1, h2, h3⟩ := rightI_nat h
    by_cases h' : rightS x2 y2 (px.take 66).length = true
    · obtain ⟨p, q, rfl, rfl, g1, g2, g3⟩ := rightS_nat h'
      exact scuts_ok wd hg ts at1 ct p q px a cap ux uy w ht hct hts hv hcap hpx hU h1 h2 h3 g1 g2 g3
    · exact scuts_ns wd hg ts at1 ct x2 y2 px a cap ux uy w ht hct hv hcap h1 h2 h3 h'
  · exact scuts_no x y ts at1 ct x2 y2 px a cap ux uy w ht hct hv hcap h
end Go.Proofs.Ytbiapeaghbndoaa
/- stamp: arguments of the laws, read. -/
namespace Go.Proofs.Ytbiapeaghbndoaa
open Go Go.RowKit Go.ChangeShapes Go.WideShapes
theorem rds_colb : Rds Try.prog 37 C4.cells C4.ok :=
  Rds.map (rds4 fl37_0 fl37_1 fl37_2 fl37_3 sz5 sz5 sz5 sz5 sz37 (rds_int io5) (rds_int io5) (rds_int io5) (rds_int io5)) (fun p => ⟨p.1, p.2.1, p.2.2.1, p.2.2.2⟩) (fun _ => rfl) (fun _ h => ⟨wf_u8 h.1, wf_u8 h.2.1, wf_u8 h.2.2.1, wf_u8 h.2.2.2⟩)
/-- A stamp that is handed in. -/
structure Stm where
  x : Int
  y : Int
  r : RowG C4
abbrev Stm.cells (p : Stm) : List Value := [.int .i64 p.x, .int .i64 p.y, .slice p.r.a p.r.l.length p.r.cap]
def Stm.ok (w : World) (p : Stm) : Prop := inI p.x ∧ inI p.y ∧ p.r.ok 4 C4.cells w ∧ p.r.cap ≤ Go.maxLen ∧ ∀ c ∈ p.r.l, c.ok
theorem rds_stm (w : World) : RdsAt Try.prog w 75 Stm.cells (Stm.ok w) :=
  RdsAt.mapIf (rdsA3 fl75_0 fl75_1 fl75_2 sz3 sz3 sz71 sz75 ((rds_int io3).at w) ((rds_int io3).at w) (rds_slice sl71 sz37 C4.cells_len (by decide) (rds_colb.at w))) (fun p => ⟨p.1, p.2.1, p.2.2⟩) (fun _ _ => rfl)
    (fun _ h => ⟨wf_i64 h.1, wf_i64 h.2.1, h.2.2.1, h.2.2.2.2, h.2.2.2.1⟩)
theorem rds_t64b (w : World) : RdsAt Try.prog w 39 T64.cells (fun t => ∀ c ∈ t.l, c.ok) :=
  RdsAt.mapIf ((rds_arr ar39 sz37 sz39 C4.cells_len rds_colb).at w) T64.of (fun l h => by show l.flatMap C4.cells = (T64.of l).l.flatMap C4.cells; rw [T64.of_l h.1]) (fun l h => by rw [T64.of_l h.1]; exact h.2)
def Pic.okb (w : World) (p : Pic) : Prop := inI p.x ∧ inI p.y ∧ p.r.ok 256 T64.cells w ∧ p.r.cap ≤ Go.maxLen ∧ TsOk p.r.l
theorem rds_picb (w : World) : RdsAt Try.prog w 24 Pic.cells (Pic.okb w) :=
  RdsAt.mapIf (rdsA3 fl24_0 fl24_1 fl24_2 sz3 sz3 sz22 sz24 ((rds_int io3).at w) ((rds_int io3).at w) (rds_slice sl22 sz39 T64.cells_len (by decide) (rds_t64b w))) (fun p => ⟨p.1, p.2.1, p.2.2⟩) (fun _ _ => rfl)
    (fun p h => show Pic.okb w ⟨p.1, p.2.1, p.2.2⟩ from ⟨wf_i64 h.1, wf_i64 h.2.1, h.2.2.1, h.2.2.2.2, fun t ht => h.2.2.2.1 t ht⟩)
/-- A rectangle with places. -/
structure Rct where
  x : Int
  y : Int
  wi : Int
  hi : Int
  r : RowG Pt
abbrev Rct.cells (p : Rct) : List Value := [.int .i64 p.x, .int .i64 p.y, .int .i64 p.wi, .int .i64 p.hi, .slice p.r.a p.r.l.length p.r.cap]
def Rct.ok (w : World) (p : Rct) : Prop := inI p.x ∧ inI p.y ∧ inI p.wi ∧ inI p.hi ∧ p.r.ok 2 Pt.cells w ∧ p.r.cap ≤ Go.maxLen ∧ ∀ u ∈ p.r.l, inI u.x ∧ inI u.y
end Go.Proofs.Ytbiapeaghbndoaa
