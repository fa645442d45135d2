/- canvas: what With does, plainly. -/
import Derived.Test.YtbiapeaghbndoaaTls
namespace Go.Proofs.Ytbiapeaghbndoaa
open Go Go.RowKit
/-- A dot. -/
structure Dt where
  x : Int
  y : Int
  c : C4
abbrev Dt.cells (d : Dt) : List Value := [.int .i64 d.x, .int .i64 d.y, .int .u8 d.c.r, .int .u8 d.c.g, .int .u8 d.c.b, .int .u8 d.c.a]
theorem Dt.cells_len (d : Dt) : d.cells.length = 6 := rfl
theorem Dt.cells_one (d : Dt) : ∀ u ∈ d.cells, u.oneCell' = true := by simp [Dt.cells, Value.oneCell']
theorem dt_ext {d e : Dt} (h1 : d.x = e.x) (h2 : d.y = e.y) (h3 : d.c = e.c) : d = e := by cases d; cases e; simp_all
instance : DecidableEq Dt := fun d e => decidable_of_iff (d.x = e.x ∧ d.y = e.y ∧ d.c = e.c) ⟨fun ⟨h1, h2, h3⟩ => dt_ext h1 h2 h3, fun e => by subst e; exact ⟨rfl, rfl, rfl⟩⟩
/-- The tile of a point; where it is there. -/
def tix (wd : Nat) (x y : Int) : Nat := y.toNat / 8 * wd + x.toNat / 8
def tpos (x y : Int) : Nat := y.toNat % 8 * 8 + x.toNat % 8
theorem tix_lt {wd hg : Nat} {x y : Int} (h : onC wd hg x y = true) : tix wd x y < wd * hg := by
  obtain ⟨u, v, rfl, rfl, hu, hv⟩ := onC_nat h
  exact idx_lt hu hv
/-- With a dot; with dots. -/
def putD (wd hg : Nat) (ts : List T64) (d : Dt) : List T64 := if onC wd hg d.x d.y then ts.set (tix wd d.x d.y) ((tileAt ts (tix wd d.x d.y)).set (tpos d.x d.y) d.c) else ts
def putDs (wd hg : Nat) (ts : List T64) (ds : List Dt) : List T64 := ds.foldl (putD wd hg) ts
theorem putD_len (wd hg : Nat) (ts : List T64) (d : Dt) : (putD wd hg ts d).length = ts.length := by
  unfold putD; split
  · exact List.length_set
  · rfl
theorem putDs_len (wd hg : Nat) (ts : List T64) (ds : List Dt) : (putDs wd hg ts ds).length = ts.length := by
  unfold putDs
  induction ds generalizing ts with
  | nil => rfl
  | cons d ds ih => rw [List.foldl_cons, ih, putD_len]
theorem putDs_step {wd hg : Nat} {ts : List T64} {ds : List Dt} {k : Nat} {u : Dt} (h : ds[k]? = some u) : putDs wd hg ts (ds.take (k + 1)) = putD wd hg (putDs wd hg ts (ds.take k)) u := by
  unfold putDs
  rw [List.take_add_one, h, List.foldl_append]; rfl
theorem putD_no {wd hg : Nat} {ts : List T64} {d : Dt} (h : ¬ onC wd hg d.x d.y = true) : putD wd hg ts d = ts := if_neg h
/-- What was copied: which tile, its block, what it shows. -/
abbrev OwE := Nat × Nat × T64
abbrev OwE.ent (e : OwE) : Nat × Option Nat := (e.1, some e.2.1)
abbrev OwE.bt (e : OwE) : Nat × T64 := e.2
abbrev natK (n : Nat) : Value := .int .i64 (n : Int)
abbrev optV (q : Option Nat) : Value := .pointer (q.map fun b => ⟨b, 0, none⟩)
structure OwnOk (ts : List T64) (own : List OwE) (cur : List T64) : Prop where
  one : own.Pairwise fun a b => a.1 ≠ b.1
  len : cur.length = ts.length
  lt : ∀ e ∈ own, e.1 < ts.length
  cur' : ∀ i t, cur[i]? = some t → (∃ q, (i, q, t) ∈ own) ∨ ((∀ e ∈ own, e.1 ≠ i) ∧ ts[i]? = some t)
theorem pw_one {own : List OwE} (h : own.Pairwise fun a b => a.1 ≠ b.1) {e f : OwE} (he : e ∈ own) (hf : f ∈ own) (h1 : e.1 = f.1) : e = f := by
  induction own with
  | nil => cases he
  | cons x l ih =>
    obtain ⟨h2, h3⟩ := List.pairwise_cons.1 h
    rcases List.mem_cons.1 he with rfl | he'
    · rcases List.mem_cons.1 hf with rfl | hf'
      · rfl
      · exact absurd h1 (h2 f hf')
    · rcases List.mem_cons.1 hf with rfl | hf'
      · exact absurd h1.symm (h2 e he')
      · exact ih h3 he' hf'
theorem own_in {own : List OwE} (h : own.Pairwise fun a b => a.1 ≠ b.1) {n q : Nat} {t : T64} (hin : (n, q, t) ∈ own) : getM none n (own.map OwE.ent) = some q := by
  induction own with
  | nil => cases hin
  | cons x l ih =>
    obtain ⟨h2, h3⟩ := List.pairwise_cons.1 h
    show (if n = x.1 then some x.2.1 else getM none n (l.map OwE.ent)) = some q
    rcases List.mem_cons.1 hin with rfl | hin'
    · rw [if_pos rfl]
    · rw [if_neg (fun e => h2 _ hin' e.symm), ih h3 hin']
theorem own_out {own : List OwE} {n : Nat} (h : ¬ ∃ e ∈ own, e.1 = n) : getM none n (own.map OwE.ent) = none := by
  induction own with
  | nil => rfl
  | cons x l ih =>
    show (if n = x.1 then some x.2.1 else getM none n (l.map OwE.ent)) = none
    rw [if_neg (fun e => h ⟨x, List.mem_cons_self, e.symm⟩), ih (fun ⟨e, he, h1⟩ => h ⟨e, List.mem_cons_of_mem _ he, h1⟩)]
theorem put_out {own : List OwE} {n q : Nat} (t : T64) (h : ¬ ∃ e ∈ own, e.1 = n) : putM n (some q) (own.map OwE.ent) = (own ++ [(n, q, t)]).map OwE.ent := by
  induction own with
  | nil => rfl
  | cons x l ih =>
    show (if n = x.1 then (x.1, some q) :: l.map OwE.ent else (x.1, some x.2.1) :: putM n (some q) (l.map OwE.ent)) = _
    rw [if_neg (fun e => h ⟨x, List.mem_cons_self, e.symm⟩), ih (fun ⟨e, he, h1⟩ => h ⟨e, List.mem_cons_of_mem _ he, h1⟩)]
    rfl
def updO (own : List OwE) (n : Nat) (t : T64) : List OwE := own.map fun e => if e.1 = n then (e.1, e.2.1, t) else e
theorem upd_ent (own : List OwE) (n : Nat) (t : T64) : (updO own n t).map OwE.ent = own.map OwE.ent := by
  unfold updO
  rw [List.map_map]
  refine List.map_congr_left fun e _ => ?_
  show OwE.ent (if e.1 = n then (e.1, e.2.1, t) else e) = _
  split <;> rfl
theorem own_push {ts cur : List T64} {own : List OwE} (h : OwnOk ts own cur) {n q : Nat} {t : T64} (hno : ¬ ∃ e ∈ own, e.1 = n) (ht : ts[n]? = some t) : OwnOk ts (own ++ [(n, q, t)]) cur := by
  refine ⟨List.pairwise_append.2 ⟨h.one, List.pairwise_singleton _ _, fun a ha b hb => ?_⟩, h.len, fun e he => ?_, fun i u hu => ?_⟩
  · rw [List.mem_singleton.1 hb]; exact fun e => hno ⟨a, ha, e⟩
  · rcases List.mem_append.1 he with h1 | h1
    · exact h.lt e h1
    · rw [List.mem_singleton.1 h1]; exact (List.getElem?_eq_some_iff.1 ht).1
  · rcases h.cur' i u hu with ⟨r, hr⟩ | ⟨h1, h2⟩
    · exact .inl ⟨r, List.mem_append_left _ hr⟩
    · by_cases e : i = n
      · subst e
        rw [ht] at h2; cases h2
        exact .inl ⟨q, List.mem_append_right _ (List.mem_singleton.2 rfl)⟩
      · refine .inr ⟨fun f hf => ?_, h2⟩
        rcases List.mem_append.1 hf with h3 | h3
        · exact h1 f h3
        · rw [List.mem_singleton.1 h3]; exact fun e2 => e e2.symm
theorem own_cur {ts cur : List T64} {own : List OwE} (h : OwnOk ts own cur) {n q : Nat} {t : T64} (hin : (n, q, t) ∈ own) (hn : n < ts.length) : cur[n]? = some t := by
  obtain ⟨u, hu⟩ : ∃ u, cur[n]? = some u := ⟨_, List.getElem?_eq_getElem (by rw [h.len]; exact hn)⟩
  rcases h.cur' n u hu with ⟨r, hr⟩ | ⟨h1, _⟩
  · have := pw_one h.one hin hr rfl
    cases this; exact hu
  · exact absurd rfl (h1 _ hin)
theorem own_step {wd hg : Nat} {ts cur : List T64} {own : List OwE} (h : OwnOk ts own cur) {u : Dt} {q : Nat} {t : T64} (hon : onC wd hg u.x u.y = true) (hl : ts.length = wd * hg) (hin : (tix wd u.x u.y, q, t) ∈ own) :
    OwnOk ts (updO own (tix wd u.x u.y) (t.set (tpos u.x u.y) u.c)) (putD wd hg cur u) := by
  have hn : tix wd u.x u.y < ts.length := by rw [hl]; exact tix_lt hon
  have hc := own_cur h hin hn
  have hp : putD wd hg cur u = cur.set (tix wd u.x u.y) (t.set (tpos u.x u.y) u.c) := by
    unfold putD
    rw [if_pos hon, tileAt_some hc]
  rw [hp]
  refine ⟨?_, by rw [List.length_set, h.len], fun e he => ?_, fun i v hv => ?_⟩
  · unfold updO
    refine List.pairwise_map.2 (h.one.imp fun {a b} hab => ?_)
    show (if a.1 = _ then (a.1, a.2.1, _) else a).1 ≠ (if b.1 = _ then (b.1, b.2.1, _) else b).1
    split <;> split <;> exact hab
  · obtain ⟨g, hg', rfl⟩ := List.mem_map.1 he
    show (if g.1 = _ then (g.1, g.2.1, _) else g).1 < _
    split <;> exact h.lt g hg'
  · by_cases e : i = tix wd u.x u.y
    · subst e
      rw [List.getElem?_set_self (by rw [h.len]; exact hn)] at hv
      cases hv
      refine .inl ⟨q, List.mem_map.2 ⟨_, hin, ?_⟩⟩
      exact if_pos rfl
    · rw [List.getElem?_set_ne (Ne.symm e)] at hv
      rcases h.cur' i v hv with ⟨r, hr⟩ | ⟨h1, h2⟩
      · exact .inl ⟨r, List.mem_map.2 ⟨_, hr, if_neg e⟩⟩
      · refine .inr ⟨fun f hf => ?_, h2⟩
        obtain ⟨g, hg', rfl⟩ := List.mem_map.1 hf
        show (if g.1 = _ then (g.1, g.2.1, _) else g).1 ≠ i
        split <;> exact h1 g hg'
/-- Blocks that differ, told of two entries. -/
theorem bt_ne {own : List OwE} (h : own.Pairwise fun a b => (OwE.bt a).1 ≠ (OwE.bt b).1) {e f : OwE} (he : e ∈ own) (hf : f ∈ own) (h1 : e.2.1 = f.2.1) : e = f := by
  induction own with
  | nil => cases he
  | cons x l ih =>
    obtain ⟨h2, h3⟩ := List.pairwise_cons.1 h
    rcases List.mem_cons.1 he with rfl | he'
    · rcases List.mem_cons.1 hf with rfl | hf'
      · rfl
      · exact absurd h1 (h2 f hf')
    · rcases List.mem_cons.1 hf with rfl | hf'
      · exact absurd h1.symm (h2 e he')
      · exact ih h3 he' hf'
theorem tls_upd {own : List OwE} {n q : Nat} {t t1 : T64} {w w' : World} (hin : (n, q, t) ∈ own) (h1 : own.Pairwise fun a b => a.1 ≠ b.1) (h : tlsH OwE.bt own w) (hu : Upd w q (tilO t1) w') : tlsH OwE.bt (updO own n t1) w' := by
  refine ⟨fun e he => ?_, ?_⟩
  · obtain ⟨f, hf, rfl⟩ := List.mem_map.1 he
    by_cases e1 : f.1 = n
    · have : f = (n, q, t) := pw_one h1 hf hin e1
      subst this
      show hp w' (if n = n then (n, q, t1) else (n, q, t)).2.1 = some (tilO (if n = n then (n, q, t1) else (n, q, t)).2.2)
      rw [if_pos rfl]; exact hu.this
    · show hp w' (if f.1 = n then (f.1, f.2.1, t1) else f).2.1 = some (tilO (if f.1 = n then (f.1, f.2.1, t1) else f).2.2)
      rw [if_neg e1, hu.other _ (fun e2 => e1 (by have := bt_ne h.2 hf hin e2; rw [this]))]
      exact h.1 f hf
  · unfold updO
    refine List.pairwise_map.2 (h.2.imp fun {a b} hab => ?_)
    show (if a.1 = n then (a.1, a.2.1, t1) else a).2.1 ≠ (if b.1 = n then (b.1, b.2.1, t1) else b).2.1
    split <;> split <;> exact hab
theorem tlsF_upd (own : List OwE) (n : Nat) (t : T64) : tlsF OwE.bt (updO own n t) = tlsF OwE.bt own := by
  funext b
  refine propext ⟨?_, ?_⟩
  · rintro ⟨e, he, rfl⟩
    obtain ⟨f, hf, rfl⟩ := List.mem_map.1 he
    refine ⟨f, hf, ?_⟩
    show f.2.1 = (if f.1 = n then (f.1, f.2.1, t) else f).2.1
    split <;> rfl
  · rintro ⟨f, hf, rfl⟩
    refine ⟨_, List.mem_map.2 ⟨f, hf, rfl⟩, ?_⟩
    show (if f.1 = n then (f.1, f.2.1, t) else f).2.1 = f.2.1
    split <;> rfl
section
variable {P : Program} {w₀ w : World} {L : Heap} {ρ : Operand → Value} {ty : TypeId} {ps : String} {af : Array Edge} {g : Option (Nat × Bool)}
theorem o_storeTl {x y : Operand} {ty' : TypeId} {own : List OwE} {n q : Nat} {t t1 : T64} (i : Nat) (hi : lk L i = some (.tls OwE.bt own)) (hin : (n, q, t) ∈ own) (h1 : own.Pairwise fun a b => a.1 ≠ b.1) (hx : ρ x = .pointer (some ⟨q, 0, none⟩)) (hy : ρ y = til t1.l) (hs : szOf P ty' = some 256) (hm : MemOk w₀ L w) :
    ∃ w', (execOp ρ (mk none (.store ty' x y) ty ps af g)).run P w = .ok .skip w' ∧ MemOk w₀ ((i, .tls OwE.bt (updO own n t1)) :: L) w' := by
  have := o_storeAbs (P := P) (ty := ty) (ps := ps) (af := af) (g := g) (cs' := lst C4.cells t1.l) (H' := tlsH OwE.bt (updO own n t1)) i hi hx hy hs ⟨_, hin, rfl⟩ (hm.tl i hi hin) (tsz t.h) rfl (tsz t1.h) (lst_one C4.cells_all _) (fun w' hw hu => tls_upd hin h1 hw hu)
    (fun w1 w2 hw hb => tls_keep w1 w2 hw (fun b hF => hb b (by rw [tlsF_upd] at hF; exact hF))) hm
  unfold Res.tls
  rw [tlsF_upd]
  exact this
end
/-! ### what is taken over -/
structure RowOk (ts : List T64) (own : List OwE) (ps : List Nat) (seen : List Nat) (rs : List Nat) : Prop where
  len : rs.length = ps.length
  nd : seen.Nodup
  lt : ∀ j ∈ seen, j < own.length
  yes : ∀ i q t t0, (∃ j ∈ seen, own[j]? = some (i, q, t)) → ts[i]? = some t0 → t ≠ t0 → rs[i]? = some q
  no : ∀ i, (∀ q t t0, (∃ j ∈ seen, own[j]? = some (i, q, t)) → ts[i]? = some t0 → t = t0) → rs[i]? = ps[i]?
theorem row_zero (ts : List T64) (own : List OwE) (ps : List Nat) : RowOk ts own ps [] ps :=
  ⟨rfl, List.nodup_nil, (fun _ h => nomatch h), (fun _ _ _ _ ⟨_, h, _⟩ => nomatch h), fun _ _ => rfl⟩
theorem nodup_le : ∀ (n : Nat) (l : List Nat), l.Nodup → (∀ x ∈ l, x < n) → l.length ≤ n
  | 0, l, _, h => by
    cases l with
    | nil => exact Nat.le_refl _
    | cons x l => exact absurd (h x List.mem_cons_self) (Nat.not_lt_zero _)
  | n + 1, l, hd, h => by
    by_cases hn : n ∈ l
    · have := nodup_le n (l.erase n) (hd.erase n) (fun x hx => by
        have h1 := (hd.mem_erase_iff).1 hx
        have := h x h1.2
        have := h1.1
        omega)
      rw [List.length_erase_of_mem hn] at this
      omega
    · have := nodup_le n l hd (fun x hx => by
        have := h x hx
        have : x ≠ n := fun e => hn (e ▸ hx)
        omega)
      omega
theorem nodup_push {seen : List Nat} {j : Nat} (h : seen.Nodup) (hj : j ∉ seen) : (seen ++ [j]).Nodup :=
  List.nodup_append.2 ⟨h, List.nodup_cons.2 ⟨(fun h => nomatch h), List.nodup_nil⟩, fun a ha b hb => by rw [List.mem_singleton.1 hb]; exact fun e => hj (e ▸ ha)⟩
theorem row_lt {ts : List T64} {own : List OwE} {ps seen rs : List Nat} (h : RowOk ts own ps seen rs) {j : Nat} (hj : j ∉ seen) (hl : j < own.length) : seen.length < own.length := by
  have := nodup_le own.length (seen ++ [j]) (nodup_push h.nd hj) (fun x hx => by
    rcases List.mem_append.1 hx with h1 | h1
    · exact h.lt x h1
    · rw [List.mem_singleton.1 h1]; exact hl)
  rw [List.length_append, List.length_singleton] at this
  omega
section
variable {ts : List T64} {own : List OwE} {ps seen rs : List Nat} {i j q : Nat} {t t0 : T64}
theorem row_put (h : RowOk ts own ps seen rs) (hp : own.Pairwise fun a b => a.1 ≠ b.1) (hj : j ∉ seen) (ho : own[j]? = some (i, q, t)) (ht : ts[i]? = some t0) (hne : ¬ t = t0) (hi : i < ps.length) : RowOk ts own ps (seen ++ [j]) (rs.set i q) := by
  have hm := List.mem_of_getElem? ho
  refine ⟨by rw [List.length_set, h.len], nodup_push h.nd hj, fun x hx => ?_, fun i' q' t' t0' ⟨j', hj', ho'⟩ ht' hne' => ?_, fun i' hno => ?_⟩
  · rcases List.mem_append.1 hx with h1 | h1
    · exact h.lt x h1
    · rw [List.mem_singleton.1 h1]; exact (List.getElem?_eq_some_iff.1 ho).1
  · by_cases e : i' = i
    · subst e
      have := pw_one hp (List.mem_of_getElem? ho') hm rfl
      cases this
      exact List.getElem?_set_self (by rw [h.len]; exact hi)
    · rw [List.getElem?_set_ne (Ne.symm e)]
      rcases List.mem_append.1 hj' with h1 | h1
      · exact h.yes i' q' t' t0' ⟨j', h1, ho'⟩ ht' hne'
      · rw [List.mem_singleton.1 h1, ho] at ho'; cases ho'; exact absurd rfl e
  · by_cases e : i' = i
    · subst e
      exact absurd (hno q t t0 ⟨j, List.mem_append_right _ (List.mem_singleton.2 rfl), ho⟩ ht) hne
    · rw [List.getElem?_set_ne (Ne.symm e)]
      exact h.no i' fun q' t' t0' ⟨j', hj', ho'⟩ ht' => hno q' t' t0' ⟨j', List.mem_append_left _ hj', ho'⟩ ht'
theorem row_same (h : RowOk ts own ps seen rs) (hp : own.Pairwise fun a b => a.1 ≠ b.1) (hj : j ∉ seen) (ho : own[j]? = some (i, q, t)) (ht : ts[i]? = some t0) (he : t = t0) : RowOk ts own ps (seen ++ [j]) rs := by
  have hm := List.mem_of_getElem? ho
  refine ⟨h.len, nodup_push h.nd hj, fun x hx => ?_, fun i' q' t' t0' ⟨j', hj', ho'⟩ ht' hne' => ?_, fun i' hno => ?_⟩
  · rcases List.mem_append.1 hx with h1 | h1
    · exact h.lt x h1
    · rw [List.mem_singleton.1 h1]; exact (List.getElem?_eq_some_iff.1 ho).1
  · rcases List.mem_append.1 hj' with h1 | h1
    · exact h.yes i' q' t' t0' ⟨j', h1, ho'⟩ ht' hne'
    · rw [List.mem_singleton.1 h1, ho] at ho'; cases ho'
      rw [ht] at ht'; cases ht'
      exact absurd he hne'
  · exact h.no i' fun q' t' t0' ⟨j', hj', ho'⟩ ht' => hno q' t' t0' ⟨j', List.mem_append_left _ hj', ho'⟩ ht'
end
/-- Which tiles a version shares with the one that it was made of. -/
def Shares (n : Nat) (c d : Cv) : Prop := ∀ (i q : Nat), c.ps[i]? = some q → ∃ r, d.ps[i]? = some r ∧ (r = q ↔ c.ts[i]? = d.ts[i]?) ∧ (r = q ∨ n ≤ r)
/-- What each tile is at the end, and where. -/
theorem row_done {ts cur : List T64} {own : List OwE} {ps seen rs : List Nat} (h : RowOk ts own ps seen rs) (ho : OwnOk ts own cur) (hall : ∀ j, j < own.length → j ∈ seen) (hl : ts.length = ps.length) {i q : Nat} (hq : ps[i]? = some q) :
    ∃ r t t0, rs[i]? = some r ∧ cur[i]? = some t ∧ ts[i]? = some t0 ∧ ((t = t0 ∧ r = q) ∨ (t ≠ t0 ∧ (i, r, t) ∈ own)) := by
  have hi := (List.getElem?_eq_some_iff.1 hq).1
  obtain ⟨t0, ht0⟩ : ∃ t, ts[i]? = some t := ⟨_, List.getElem?_eq_getElem (by omega)⟩
  obtain ⟨t, ht⟩ : ∃ t, cur[i]? = some t := ⟨_, List.getElem?_eq_getElem (by rw [ho.len]; omega)⟩
  have mem : ∀ {r u}, (i, r, u) ∈ own → ∃ j ∈ seen, own[j]? = some (i, r, u) := fun hm => by
    obtain ⟨j, hj⟩ := List.getElem?_of_mem hm
    exact ⟨j, hall j (List.getElem?_eq_some_iff.1 hj).1, hj⟩
  rcases ho.cur' i t ht with ⟨r, hr⟩ | ⟨h1, h2⟩
  · by_cases e : t = t0
    · refine ⟨q, t, t0, ?_, ht, ht0, .inl ⟨e, rfl⟩⟩
      rw [h.no i (fun q' t' t0' ⟨j', hj', ho'⟩ ht' => ?_), hq]
      have := pw_one ho.one (List.mem_of_getElem? ho') hr rfl
      cases this
      rw [ht0] at ht'; cases ht'; exact e
    · exact ⟨r, t, t0, h.yes i r t t0 (mem hr) ht0 e, ht, ht0, .inr ⟨e, hr⟩⟩
  · rw [ht0] at h2; cases h2
    refine ⟨q, _, _, ?_, ht, ht0, .inl ⟨rfl, rfl⟩⟩
    rw [h.no i (fun q' t' t0' ⟨j', hj', ho'⟩ ht' => absurd rfl (h1 _ (List.mem_of_getElem? ho'))), hq]
end Go.Proofs.Ytbiapeaghbndoaa
