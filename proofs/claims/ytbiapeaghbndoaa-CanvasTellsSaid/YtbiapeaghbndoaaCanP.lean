/- canvas: the plain law. -/
import Derived.Test.YtbiapeaghbndoaaShaL
namespace Go.Proofs.Ytbiapeaghbndoaa
open Go Go.RowKit
theorem idx_inj {w a b c d : Nat} (ha : a < w) (hc : c < w) (h : b * w + a = d * w + c) : a = c ∧ b = d := by
  obtain ⟨_, h1, h2⟩ := row_in (x := a) (y := b) (H := b + 1) ha (Nat.lt_succ_self b)
  obtain ⟨_, h3, h4⟩ := row_in (x := c) (y := d) (H := d + 1) hc (Nat.lt_succ_self d)
  rw [h] at h1 h2
  exact ⟨h1.symm.trans h3, h2.symm.trans h4⟩
theorem get_set (l : List C4) (i j : Nat) (c : C4) (hi : i < l.length) : get (l.set i c) j = if i = j then c else get l j := by
  unfold get
  rw [List.getD_eq_getElem?_getD, List.getElem?_set, List.getD_eq_getElem?_getD]
  by_cases h : i = j
  · rw [if_pos h, if_pos h, if_pos hi]; rfl
  · rw [if_neg h, if_neg h]
/-- The colour at a point behind a dot. -/
theorem colAt_putD {wd hg : Nat} {ts : List T64} {d : Dt} {u v : Nat} (hl : ts.length = wd * hg) (hu : u < 8 * wd) (hv : v < 8 * hg) : colAt wd (putD wd hg ts d) u v = if d.x = (u : Int) ∧ d.y = (v : Int) then d.c else colAt wd ts u v := by
  unfold putD
  by_cases hon : onC wd hg d.x d.y = true
  · rw [if_pos hon]
    obtain ⟨p, q, hp, hq, hpx, hqy⟩ := onC_nat hon
    have ht : tix wd d.x d.y = q / 8 * wd + p / 8 := by unfold tix; rw [hp, hq]; rfl
    have hpos : tpos d.x d.y = q % 8 * 8 + p % 8 := by unfold tpos; rw [hp, hq]; rfl
    have hi : q / 8 * wd + p / 8 < ts.length := by rw [hl]; exact idx_lt hpx hqy
    have hpl := tpos_lt d.x d.y
    rw [ht, hp, hq]
    unfold colAt
    by_cases e : v / 8 * wd + u / 8 = q / 8 * wd + p / 8
    · obtain ⟨e1, e2⟩ := idx_inj (by omega) (by omega) e
      have e3 : tileAt (ts.set (q / 8 * wd + p / 8) ((tileAt ts (q / 8 * wd + p / 8)).set (tpos p q) d.c)) (v / 8 * wd + u / 8) = (tileAt ts (q / 8 * wd + p / 8)).set (tpos p q) d.c := by
        rw [e]
        exact tileAt_some (List.getElem?_set_self hi)
      rw [e3, e]
      show get ((tileAt ts (q / 8 * wd + p / 8)).l.set (tpos p q) d.c) _ = _
      have hpos2 : tpos (p : Int) (q : Int) = q % 8 * 8 + p % 8 := rfl
      rw [get_set _ _ _ _ (by rw [T64.h]; omega), hpos2]
      by_cases e4 : q % 8 * 8 + p % 8 = 8 * (v % 8) + u % 8
      · rw [if_pos e4, if_pos (by omega)]
      · rw [if_neg e4, if_neg (by omega)]
    · rw [if_neg (by
        rintro ⟨e1, e2⟩
        have e1 : p = u := by omega
        have e2 : q = v := by omega
        rw [e1, e2] at e; exact e rfl)]
      have e3 : tileAt (ts.set (q / 8 * wd + p / 8) ((tileAt ts (q / 8 * wd + p / 8)).set (tpos p q) d.c)) (v / 8 * wd + u / 8) = tileAt ts (v / 8 * wd + u / 8) := by
        show (ts.set _ _).getD _ _ = ts.getD _ _
        rw [List.getD_eq_getElem?_getD, List.getElem?_set_ne (Ne.symm e), ← List.getD_eq_getElem?_getD]
      rw [e3]
  · rw [if_neg hon, if_neg (by
      rintro ⟨e1, e2⟩
      exact hon (decide_eq_true ⟨by omega, by omega, by omega, by omega⟩))]
theorem colI_putD {wd hg : Nat} {ts : List T64} {d : Dt} (hl : ts.length = wd * hg) (hon : onC wd hg d.x d.y = true) : colI wd hg (putD wd hg ts d) d.x d.y = d.c := by
  unfold colI
  rw [if_pos hon]
  obtain ⟨p, q, hp, hq, hpx, hqy⟩ := onC_nat hon
  rw [hp, hq]
  show colAt wd (putD wd hg ts d) p q = _
  rw [colAt_putD hl hpx hqy, if_pos ⟨hp, hq⟩]
/-- The last dot there. -/
def lastD (ds : List Dt) (u v : Nat) : Option C4 := ds.foldl (fun o d => if d.x = (u : Int) ∧ d.y = (v : Int) then some d.c else o) none
theorem last_step {ds : List Dt} {k : Nat} {d : Dt} {u v : Nat} (h : ds[k]? = some d) : lastD (ds.take (k + 1)) u v = if d.x = (u : Int) ∧ d.y = (v : Int) then some d.c else lastD (ds.take k) u v := by
  unfold lastD
  rw [List.take_add_one, h, List.foldl_append]; rfl
theorem colAt_putDs {wd hg : Nat} {ts : List T64} {u v : Nat} (hl : ts.length = wd * hg) (hu : u < 8 * wd) (hv : v < 8 * hg) (ds : List Dt) : ∀ k, k ≤ ds.length → colAt wd (putDs wd hg ts (ds.take k)) u v = (lastD (ds.take k) u v).getD (colAt wd ts u v)
  | 0, _ => rfl
  | k + 1, hk => by
    have ih := colAt_putDs hl hu hv ds k (by omega)
    obtain ⟨d, hd⟩ : ∃ d, ds[k]? = some d := ⟨_, List.getElem?_eq_getElem (by omega)⟩
    rw [putDs_step hd, colAt_putD (by rw [putDs_len]; exact hl) hu hv, last_step hd]
    split
    · rfl
    · exact ih
theorem sh_zero {n : Nat} {ps qs : List Nat} (hp : ∀ q ∈ ps, n ≤ q) (hq : ∀ q ∈ qs, q < n) : ∀ k, k ≤ ps.length → shN ps qs k = 0
  | 0, _ => rfl
  | k + 1, hk => by
    have ih := sh_zero hp hq k (by omega)
    obtain ⟨x, hx⟩ : ∃ x, ps[k]? = some x := ⟨_, List.getElem?_eq_getElem (by omega)⟩
    unfold shN
    rw [ih, if_neg]
    intro e
    rw [hx] at e
    have h1 := hp x (List.mem_of_getElem? hx)
    have h2 := hq x (List.mem_of_getElem? e.symm)
    omega
theorem cv_new {w w' : World} {d : Cv} (h : CvNew w w' [] d) : ∀ q ∈ d.ps, w.heap.size ≤ q := fun q hq => by
  rcases h.foot q (.inr (.inr hq)) with h1 | ⟨c, hc, _⟩
  · exact h1
  · cases hc
theorem MemOk.cvSub {w₀ w : World} {L : Heap} (h : MemOk w₀ L w) (k : Nat) {l l' : List Cv} (hk : lk L k = some (.cvs l)) (hs : ∀ c ∈ l', c ∈ l) : MemOk w₀ ((k, .cvs l') :: L) w := by
  have ok := h.own k _ hk
  exact h.set k _ h.ext ⟨fun c hc => ok.1 c (hs c hc), (fun b ⟨c, hc, hb⟩ => ok.2.1 b ⟨c, hs c hc, hb⟩), cvs_keep⟩ (fun i r hi hne b hb => ⟨rfl, fun ⟨c, hc, hcb⟩ => h.sep k i _ _ hk hi (Ne.symm hne) b ⟨c, hs c hc, hcb⟩ hb⟩)
/-! ### how many tiles differ -/
def ndifN (ts us : List T64) (n : Nat) : List Nat := (List.range n).filter fun i => decide (¬ ts[i]? = us[i]?)
theorem sh_ndif (ts us : List T64) : ∀ n, shN ts us n + (ndifN ts us n).length = n
  | 0 => rfl
  | n + 1 => by
    have ih := sh_ndif ts us n
    unfold ndifN at ih ⊢
    rw [List.range_succ, List.filter_append, List.length_append]
    unfold shN
    by_cases e : ts[n]? = us[n]?
    · rw [if_pos e]
      have : List.filter (fun i => decide (¬ ts[i]? = us[i]?)) [n] = [] := by simp [e]
      rw [this, List.length_nil]; omega
    · rw [if_neg e]
      have : List.filter (fun i => decide (¬ ts[i]? = us[i]?)) [n] = [n] := by simp [e]
      rw [this, List.length_singleton]; omega
theorem til_ne {t u : T64} (h : t ≠ u) : ∃ j, j < 64 ∧ get t.l j ≠ get u.l j := by
  refine Classical.byContradiction fun hn => h (t64_ext ?_)
  refine List.ext_getElem (by rw [t.h, u.h]) fun i h1 h2 => ?_
  have hi : i < 64 := by rw [t.h] at h1; exact h1
  have e : get t.l i = get u.l i := Classical.byContradiction fun e => hn ⟨i, hi, e⟩
  have a := get_some t.h hi
  have b := get_some u.h hi
  rw [List.getElem?_eq_getElem h1] at a
  rw [List.getElem?_eq_getElem h2] at b
  rw [Option.some.inj a, Option.some.inj b, e]
theorem nodup_eq {l m : List Nat} (hl : l.Nodup) (hm : m.Nodup) (h : ∀ x, x ∈ l ↔ x ∈ m) : l.length = m.length := ((List.perm_ext_iff_of_nodup hl hm).2 h).length_eq
/-- The tiles' places that have a point that differs are those whose tiles differ. -/
theorem keys_count {wd hg : Nat} {ts us : List T64} {ks : List NP} (hwd : 1 ≤ wd) (h1 : ts.length = wd * hg) (h2 : us.length = wd * hg) (hn : ks.Nodup) (hk : ∀ c : NP, c ∈ ks ↔ ∃ p ∈ difC wd hg ts us, (p.1 / 8, p.2 / 8) = c) : shN ts us (wd * hg) + ks.length = wd * hg := by
  have hmem : ∀ p : NP, p ∈ difC wd hg ts us ↔ p.1 < 8 * wd ∧ p.2 < 8 * hg ∧ ¬ colAt wd ts p.1 p.2 = colAt wd us p.1 p.2 := fun p => by
    unfold difC
    rw [List.mem_filter]
    constructor
    · rintro ⟨h3, h4⟩
      obtain ⟨i, hi⟩ := List.getElem?_of_mem h3
      have := ptsC_in hi
      exact ⟨this.1, this.2, of_decide_eq_true h4⟩
    · rintro ⟨h3, h4, h5⟩
      exact ⟨List.mem_of_getElem? (ptsC_at h3 h4), decide_eq_true h5⟩
  have hin : ∀ c ∈ ks, c.1 < wd ∧ c.2 < hg := fun c hc => by
    obtain ⟨p, hp, rfl⟩ := (hk c).1 hc
    obtain ⟨h3, h4, _⟩ := (hmem p).1 hp
    exact ⟨by show p.1 / 8 < wd; omega, by show p.2 / 8 < hg; omega⟩
  have e1 : (ks.map fun c => c.2 * wd + c.1).length = (ndifN ts us (wd * hg)).length := by
    refine nodup_eq ?_ (List.nodup_range.filter _) fun i => ?_
    · refine List.pairwise_map.2 (hn.imp_of_mem fun {a b} ha hb hab e => hab ?_)
      obtain ⟨e2, e3⟩ := idx_inj (hin a ha).1 (hin b hb).1 e
      exact Prod.ext e2 e3
    · unfold ndifN
      rw [List.mem_map, List.mem_filter, List.mem_range, decide_eq_true_eq]
      constructor
      · rintro ⟨c, hc, rfl⟩
        obtain ⟨p, hp, rfl⟩ := (hk c).1 hc
        obtain ⟨h3, h4, h5⟩ := (hmem p).1 hp
        have hlt : p.2 / 8 * wd + p.1 / 8 < wd * hg := idx_lt h3 h4
        refine ⟨hlt, fun e => h5 ?_⟩
        obtain ⟨t, ht⟩ : ∃ t, ts[p.2 / 8 * wd + p.1 / 8]? = some t := ⟨_, List.getElem?_eq_getElem (by omega)⟩
        unfold colAt
        rw [tileAt_some ht, tileAt_some (e.symm.trans ht)]
      · rintro ⟨hi, e⟩
        obtain ⟨t, ht⟩ : ∃ t, ts[i]? = some t := ⟨_, List.getElem?_eq_getElem (by omega)⟩
        obtain ⟨u, hu⟩ : ∃ u, us[i]? = some u := ⟨_, List.getElem?_eq_getElem (by omega)⟩
        obtain ⟨j, hj, hne⟩ := til_ne (t := t) (u := u) (fun e2 => e (by rw [ht, hu, e2]))
        have hw0 : 0 < wd := hwd
        have ha : i % wd < wd := Nat.mod_lt _ hw0
        have hb : i / wd < hg := (Nat.div_lt_iff_lt_mul hw0).2 (by rw [Nat.mul_comm]; exact hi)
        have hii : i / wd * wd + i % wd = i := by rw [Nat.mul_comm]; exact Nat.div_add_mod i wd
        refine ⟨(i % wd, i / wd), (hk _).2 ⟨(8 * (i % wd) + j % 8, 8 * (i / wd) + j / 8), (hmem _).2 ⟨by show 8 * (i % wd) + j % 8 < 8 * wd; omega, by show 8 * (i / wd) + j / 8 < 8 * hg; omega, ?_⟩, ?_⟩, hii⟩
        · unfold colAt
          have e3 : (8 * (i / wd) + j / 8) / 8 * wd + (8 * (i % wd) + j % 8) / 8 = i := by
            rw [show (8 * (i / wd) + j / 8) / 8 = i / wd by omega, show (8 * (i % wd) + j % 8) / 8 = i % wd by omega]; exact hii
          dsimp only
          rw [e3, tileAt_some ht, tileAt_some hu, show 8 * ((8 * (i / wd) + j / 8) % 8) + (8 * (i % wd) + j % 8) % 8 = j by omega]
          exact hne
        · show ((8 * (i % wd) + j % 8) / 8, (8 * (i / wd) + j / 8) / 8) = (i % wd, i / wd)
          rw [show (8 * (i / wd) + j / 8) / 8 = i / wd by omega, show (8 * (i % wd) + j % 8) / 8 = i % wd by omega]
  rw [List.length_map] at e1
  rw [e1]
  exact sh_ndif ts us (wd * hg)
theorem sh_all {ts us : List T64} {n : Nat} (h1 : ts.length = n) (h2 : us.length = n) : shN ts us n = n ↔ ts = us := by
  constructor
  · intro h
    have h3 := sh_ndif ts us n
    have h4 : ndifN ts us n = [] := List.eq_nil_of_length_eq_zero (by omega)
    refine List.ext_getElem? fun i => ?_
    by_cases hi : i < n
    · refine Classical.byContradiction fun e => ?_
      have : i ∈ ndifN ts us n := by
        unfold ndifN
        rw [List.mem_filter, List.mem_range]
        exact ⟨hi, decide_eq_true e⟩
      rw [h4] at this; cases this
    · rw [List.getElem?_eq_none (by omega), List.getElem?_eq_none (by omega)]
  · rintro rfl
    exact sh_self ts n
end Go.Proofs.Ytbiapeaghbndoaa
