/- Texts of this seat, merged: part 5. -/
import Derived.Test.YtmihoejecpcmjaaMg4
/- MarksKeep: the first and the last stay (plainly). -/
namespace Go.Proofs.Ytmihoejecpcmjaa
open Go Go.RowKit
theorem put_longer {l : List Tid} {d : Tid} (h6 : l.length ≤ 6) : l.length ≤ (putG id l d).length := by
  have h := insG_len id l d
  unfold putG
  split
  · exact h.1
  · have ho := out_bound (timesG id (insG id l d)) ((timesG id (insG id l d)).length - 2)
    have hl : (timesG id (insG id l d)).length = (insG id l d).length := List.length_map _
    rw [List.length_eraseIdx_of_lt (by unfold outN; omega)]
    omega
theorem ins_first {l : List Tid} {d : Tid} (h : Up l) : (insG id l d)[0]? = match l[0]? with
    | none => some d
    | some f => some (if lessI d f = true then d else f) := by
  cases l with
  | nil => rfl
  | cons f r =>
    show _ = some (if lessI d f = true then d else f)
    obtain ⟨h1, h2⟩ := List.pairwise_cons.1 h
    by_cases hf : lessI f d = true
    · have ha : aheadL (f :: r) d = aheadL r d + 1 := by unfold aheadL; rw [List.filter_cons, if_pos hf]; rfl
      rw [if_neg (less_asym hf)]
      unfold insG
      rw [List.map_id, show id d = d from rfl, ha]
      split
      · rfl
      · rfl
    · have ha : aheadL (f :: r) d = 0 := by
        unfold aheadL
        rw [List.filter_eq_nil_iff.2]
        · rfl
        · intro x hx hx2
          rcases List.mem_cons.1 hx with rfl | hx
          · exact hf hx2
          · exact hf (less_trans (h1 x hx) hx2)
      unfold insG
      rw [List.map_id, show id d = d from rfl, ha]
      rcases less_tri f d with e | e | e
      · exact absurd e hf
      · subst e
        rw [if_pos (show (f :: r)[0]? = some f from rfl), if_neg (less_irr f)]; rfl
      · rw [if_pos e, if_neg (fun e2 => by cases Option.some.inj e2; exact less_irr _ e)]; rfl
theorem ins_last {l : List Tid} {d : Tid} (h : Up l) : (insG id l d)[(insG id l d).length - 1]? = match l[l.length - 1]? with
    | none => some d
    | some f => some (if lessI f d = true then d else f) := by
  by_cases hl : l.length = 0
  · rw [List.eq_nil_of_length_eq_zero hl]; rfl
  · obtain ⟨f, hf⟩ : ∃ x, l[l.length - 1]? = some x := ⟨_, List.getElem?_eq_getElem (by omega)⟩
    rw [hf]
    show _ = some (if lessI f d = true then d else f)
    have hle := ahead_le l d
    by_cases hfd : lessI f d = true
    · have ha : aheadL l d = l.length := by
        unfold aheadL
        rw [List.filter_eq_self.2]
        intro x hx
        obtain ⟨i, hi⟩ := List.getElem?_of_mem hx
        by_cases e : i = l.length - 1
        · subst e; rw [hf] at hi; cases hi; exact hfd
        · exact less_trans (up_lt h (by have := (List.getElem?_eq_some_iff.1 hi).1; omega) hi hf) hfd
      rw [if_pos hfd]
      unfold insG
      rw [List.map_id, show id d = d from rfl, ha, if_neg (by rw [List.getElem?_eq_none (Nat.le_refl _)]; exact fun e => by cases e), List.take_length, List.drop_length]
      rw [List.length_append, show l.length + [d].length - 1 = l.length from rfl, List.getElem?_append_right (Nat.le_refl _), Nat.sub_self]; rfl
    · rw [if_neg hfd]
      have hlt : aheadL l d < l.length := by
        rcases Nat.lt_or_ge (aheadL l d) l.length with h1 | h1
        · exact h1
        · have e : aheadL l d = l.length := by omega
          exact absurd (ahead_front h f (by rw [e, List.take_length]; exact List.mem_of_getElem? hf)) hfd
      unfold insG
      rw [List.map_id, show id d = d from rfl]
      split
      · rename_i e
        have e2 : l.set (aheadL l d) d = l := by
          obtain ⟨g1, g2⟩ := List.getElem?_eq_some_iff.1 e
          conv => lhs; arg 3; rw [← g2]
          exact List.set_getElem_self g1
        rw [e2, hf]
      · have hn : (l.take (aheadL l d) ++ d :: l.drop (aheadL l d)).length = l.length + 1 := by rw [List.length_append, List.length_cons, List.length_take, List.length_drop]; omega
        rw [hn, Nat.add_sub_cancel, List.getElem?_append_right (by rw [List.length_take]; omega), List.length_take, Nat.min_eq_left hle]
        rw [show l.length - aheadL l d = (l.length - aheadL l d - 1) + 1 by omega, List.getElem?_cons_succ, List.getElem?_drop, show aheadL l d + (l.length - aheadL l d - 1) = l.length - 1 by omega, hf]
theorem put_ends {l : List Tid} {d : Tid} (h6 : l.length ≤ 6) : (putG id l d)[0]? = (insG id l d)[0]? ∧ (putG id l d)[(putG id l d).length - 1]? = (insG id l d)[(insG id l d).length - 1]? := by
  have h := insG_len id l d
  unfold putG
  split
  · exact ⟨rfl, rfl⟩
  · rename_i hn
    have hl : (timesG id (insG id l d)).length = (insG id l d).length := List.length_map _
    have ho := out_bound (timesG id (insG id l d)) ((timesG id (insG id l d)).length - 2)
    have h7 : (insG id l d).length = 7 := by omega
    rw [hl, h7] at ho
    have ho1 := ho.1
    have ho2 := ho.2 (by decide)
    unfold outN
    rw [hl, h7]
    refine ⟨?_, ?_⟩
    · rw [List.getElem?_eraseIdx_of_lt (by omega)]
    · rw [List.length_eraseIdx_of_lt (by omega), h7, List.getElem?_eraseIdx_of_ge (by omega)]
theorem put_first {l : List Tid} {d f : Tid} (h : Up l) (h6 : l.length ≤ 6) (hf : l[0]? = some f) : (putG id l d)[0]? = some (if lessI d f = true then d else f) := by
  rw [(put_ends h6).1, ins_first h, hf]
theorem put_last {l : List Tid} {d f : Tid} (h : Up l) (h6 : l.length ≤ 6) (hf : l[l.length - 1]? = some f) : (putG id l d)[(putG id l d).length - 1]? = some (if lessI f d = true then d else f) := by
  rw [(put_ends h6).2, ins_last h, hf]
/-- What a round of MarksKeep keeps. -/
structure Keeps (ms : List Mk) (cs : List Cv) (fi la : Tid) : Prop where
  mks : marksB ms = true
  cv : ∀ m ∈ ms, ∃ c, c ∈ cs ∧ m.c = some c
  fst : 0 < ms.length → (idsM ms)[0]? = some fi
  lst : 0 < ms.length → (idsM ms)[ms.length - 1]? = some la
/-- One id is put. -/
structure Step (ms mr ns : List Mk) (d : Tid) : Prop where
  eq : ns = putsG Mk.i ms mr
  mks : marksB ms = true
  one : idsM mr = [d]
  ok : okI d = true
  has : ∀ m ∈ mr, m.c.isSome = true
theorem Step.ids {ms mr ns : List Mk} {d : Tid} (h : Step ms mr ns d) : idsM ns = putG id (idsM ms) d := by
  rw [h.eq, ids_puts, h.one]; rfl
theorem Step.all {ms mr ns : List Mk} {d : Tid} (h : Step ms mr ns d) : mr.all okM = true := List.all_eq_true.2 fun m hm => okM_iff.2 ⟨by
  have : m.i ∈ idsM mr := List.mem_map_of_mem hm
  rw [h.one] at this
  rw [List.mem_singleton.1 this]; exact h.ok, h.has m hm⟩
theorem Step.marks {ms mr ns : List Mk} {d : Tid} (h : Step ms mr ns d) : marksB ns = true := by rw [h.eq]; exact puts_marks h.mks h.all
theorem Step.len {ms mr ns : List Mk} {d : Tid} (h : Step ms mr ns d) : ms.length ≤ ns.length ∧ ns.length ≤ 6 ∧ 1 ≤ ns.length := by
  have h6 := (marks_iff.1 h.mks).2.2
  have h7 := (marks_iff.1 h.marks).2.2
  have hi := h.ids
  have hl : ns.length = (putG id (idsM ms) d).length := by rw [← hi, ids_len]
  have hp := put_longer (l := idsM ms) (d := d) (by rw [ids_len]; exact h6)
  rw [ids_len, ← hl] at hp
  refine ⟨hp, h7, ?_⟩
  by_cases e : ms.length = 0
  · rw [hl, List.eq_nil_of_length_eq_zero e]; exact Nat.le_refl _
  · omega
theorem Step.first {ms mr ns : List Mk} {d fi la : Tid} {cs : List Cv} (h : Step ms mr ns d) (hk : Keeps ms cs fi la) : (idsM ns)[0]? = some (if ms.length = 0 ∨ lessI d fi = true then d else fi) := by
  rw [h.ids]
  by_cases e : ms.length = 0
  · rw [if_pos (.inl e), List.eq_nil_of_length_eq_zero e]; rfl
  · rw [put_first (marks_iff.1 h.mks).1 (by rw [ids_len]; exact (marks_iff.1 h.mks).2.2) (hk.fst (by omega))]
    by_cases e2 : lessI d fi = true
    · rw [if_pos e2, if_pos (.inr e2)]
    · rw [if_neg e2, if_neg (fun h => h.elim e e2)]
theorem Step.last {ms mr ns : List Mk} {d fi la : Tid} {cs : List Cv} (h : Step ms mr ns d) (hk : Keeps ms cs fi la) : (idsM ns)[ns.length - 1]? = some (if ms.length = 0 ∨ lessI la d = true then d else la) := by
  rw [← ids_len ns, h.ids]
  by_cases e : ms.length = 0
  · rw [if_pos (.inl e), List.eq_nil_of_length_eq_zero e]; rfl
  · rw [put_last (marks_iff.1 h.mks).1 (by rw [ids_len]; exact (marks_iff.1 h.mks).2.2) (by rw [ids_len]; exact hk.lst (by omega))]
    by_cases e2 : lessI la d = true
    · rw [if_pos e2, if_pos (.inr e2)]
    · rw [if_neg e2, if_neg (fun h => h.elim e e2)]
theorem Step.keeps {ms mr ns : List Mk} {d fi la f2 l2 : Tid} {cs cr : List Cv} {b : Nat} (h : Step ms mr ns d) (hk : Keeps ms cs fi la) (hp : PaintOk mr cr b) (h1 : (idsM ns)[0]? = some f2) (h2 : (idsM ns)[ns.length - 1]? = some l2) : Keeps ns (cr ++ cs) f2 l2 := by
  refine ⟨h.marks, fun m hm => ?_, fun _ => h1, fun _ => h2⟩
  rw [h.eq] at hm
  rcases putsG_mem hm with h3 | h3
  · obtain ⟨c, hc, e⟩ := hk.cv m h3
    exact ⟨c, List.mem_append_right _ hc, e⟩
  · obtain ⟨j, hj⟩ := List.getElem?_of_mem h3
    obtain ⟨c, hc, e, _⟩ := hp j m hj
    exact ⟨c, List.mem_append_left _ hc, e⟩
theorem Step.old {ms mr ns : List Mk} {d x : Tid} (h : Step ms mr ns d) (hx : x ∈ idsM ns) (hne : ¬ x = d) : x ∈ idsM ms := by
  rw [h.ids] at hx
  rcases putG_mem hx with h1 | h1
  · exact h1
  · exact absurd h1 hne
end Go.Proofs.Ytmihoejecpcmjaa
/- MarksTells: the references' answers (plainly). -/
namespace Go.Proofs.Ytmihoejecpcmjaa
open Go Go.RowKit
theorem mem_step {l : List Tid} {k : Nat} {p i : Tid} (h : l[k]? = some p) : i ∈ l.take (k + 1) ↔ i ∈ l.take k ∨ p = i := by
  rw [List.take_add_one, h, List.mem_append]
  exact ⟨fun h => h.imp id fun h => (List.mem_singleton.1 h).symm, fun h => h.imp id fun h => by rw [h]; exact List.mem_singleton.2 rfl⟩
/-- How many have at most a time. -/
def foldN (l : List Tid) (t : Int) : Nat := (l.filter fun x => decide (x.t ≤ t)).length
theorem fold_le (l : List Tid) (t : Int) : foldN l t ≤ l.length := List.length_filter_le _ _
theorem fold_step {l : List Tid} {k : Nat} {x : Tid} {t : Int} (h : l[k]? = some x) : foldN (l.take (k + 1)) t = foldN (l.take k) t + (if x.t ≤ t then 1 else 0) := by
  unfold foldN
  rw [List.take_add_one, h, List.filter_append, List.length_append]
  congr 1
  show (List.filter _ [x]).length = _
  rw [List.filter_cons, List.filter_nil]
  by_cases e : x.t ≤ t
  · rw [if_pos e, if_pos (decide_eq_true e)]; rfl
  · rw [if_neg e, if_neg (by rw [decide_eq_false e]; exact Bool.false_ne_true)]; rfl
theorem fold_marks {ms : List Mk} {t : Int} (h : marksB ms = true) : ms.filter (fun x : Mk => decide (t < x.i.t)) = ms.drop (foldN (idsM ms) t) := by
  have hu := (marks_iff.1 h).1
  clear h
  induction ms with
  | nil => rfl
  | cons a l ih =>
    obtain ⟨h1, h2⟩ := List.pairwise_cons.1 (show Up (a.i :: idsM l) from hu)
    have ih' := ih h2
    by_cases ha : a.i.t ≤ t
    · have e : foldN (idsM (a :: l)) t = foldN (idsM l) t + 1 := by
        show foldN (a.i :: idsM l) t = _
        unfold foldN; rw [List.filter_cons, if_pos (decide_eq_true ha)]; rfl
      rw [e, List.drop_succ_cons, ← ih', List.filter_cons, if_neg (by rw [decide_eq_false (by omega)]; exact Bool.false_ne_true)]
    · have hn : ∀ x ∈ a.i :: idsM l, ¬ x.t ≤ t := fun x hx hx2 => by
        rcases List.mem_cons.1 hx with rfl | hx
        · exact ha hx2
        · have := less_iff.1 (h1 x hx); omega
      have e : foldN (idsM (a :: l)) t = 0 := by
        show foldN (a.i :: idsM l) t = _
        unfold foldN
        rw [List.filter_eq_nil_iff.2]
        · rfl
        · intro x hx hx2
          exact hn x hx (of_decide_eq_true hx2)
      rw [e, List.drop_zero]
      exact List.filter_eq_self.2 fun x hx => decide_eq_true (by have := hn x.i (List.mem_map_of_mem (f := Mk.i) hx); omega)
theorem ev_pre {α : Type} (l r : List α) (n : Nat) : ∀ j, j ≤ l.length → evN (l ++ r) n j = evN l n j
  | 0, _ => rfl
  | j + 1, h => by
    have ih := ev_pre l r n j (by omega)
    unfold evN
    rw [ih, List.getElem?_append_left (by omega)]
theorem due_t {φ : Tid → Bool} {l : List Tid} {n k : Nat} {x : Tid} (hx : l[k]? = some x) (hf : φ x = true) : (((l.take k).filter φ).length + 1) % n = 0 → evN ((l.take (k + 1)).filter φ) n ((l.take (k + 1)).filter φ).length = evN ((l.take k).filter φ) n ((l.take k).filter φ).length ++ [x] := fun hz => by
  rw [sift_t hx hf, List.length_append, show [x].length = 1 from rfl, ev_t (x := x) (by rw [List.getElem?_append_right (Nat.le_refl _), Nat.sub_self]; rfl) hz, ev_pre _ _ _ _ (Nat.le_refl _)]
theorem due_f {φ : Tid → Bool} {l : List Tid} {n k : Nat} {x : Tid} (hx : l[k]? = some x) (hf : φ x = true) : ¬ (((l.take k).filter φ).length + 1) % n = 0 → evN ((l.take (k + 1)).filter φ) n ((l.take (k + 1)).filter φ).length = evN ((l.take k).filter φ) n ((l.take k).filter φ).length := fun hz => by
  rw [sift_t hx hf, List.length_append, show [x].length = 1 from rfl, ev_f hz, ev_pre _ _ _ _ (Nat.le_refl _)]
theorem beh_last' {ms : List Tid} {y x : Tid} (h : ms[ms.length - 1]? = some y) : behI ms x = lessI y x := by
  unfold behI
  rw [List.getLast?_eq_getElem?, h]
theorem beh_z' {ms : List Tid} {x : Tid} (h : ms.length = 0) : behI ms x = true := by rw [List.eq_nil_of_length_eq_zero h]; rfl
/-- Numbers, one behind the other. -/
def rangeF (b n : Nat) : List Int := (List.range n).map fun j => ((b + j : Nat) : Int)
theorem rangeF_len (b n : Nat) : (rangeF b n).length = n := by unfold rangeF; rw [List.length_map, List.length_range]
theorem rangeF_step (b n : Nat) : rangeF b (n + 1) = rangeF b n ++ [((b + n : Nat) : Int)] := by unfold rangeF; rw [List.range_succ, List.map_append]; rfl
theorem rangeF_at {b n k : Nat} {x : Int} (h : (rangeF b n)[k]? = some x) : x = ((b + k : Nat) : Int) ∧ k < n := by
  unfold rangeF at h
  rw [List.getElem?_map] at h
  cases e : (List.range n)[k]? with
  | none => rw [e] at h; cases h
  | some j =>
    rw [e] at h
    obtain ⟨h1, h2⟩ := List.getElem?_eq_some_iff.1 e
    rw [List.getElem_range] at h2
    cases h
    rw [← h2]
    exact ⟨rfl, by rw [List.length_range] at h1; exact h1⟩
/-- Marks have canvases of these numbers. -/
def PaintN (w : World) (ms : List Mk) (ns : List Int) : Prop := ∀ (k : Nat) (m : Mk) (x : Int), ms[k]? = some m → ns[k]? = some x → ∃ c, m.c = some c ∧ CvAt w c ∧ Painted c x
theorem ptr_some {m : Mk} {c : Cv} (h : m.c = some c) : m.ptr = some ⟨c.p, 0, none⟩ := by
  cases m; cases h; rfl
theorem painted_ts {c d : Cv} {x : Int} (h1 : Painted c x) (h2 : Painted d x) : c.ts = d.ts := h1.2.2.trans h2.2.2.symm
theorem PaintN.keep {w w' : World} {ms : List Mk} {ns : List Int} (h : PaintN w ms ns) (hb : Below w.heap.size w w') : PaintN w' ms ns := fun k m x hm hx => by
  obtain ⟨c, h1, h2, h3⟩ := h k m x hm hx
  exact ⟨c, h1, h2.below hb, h3⟩
theorem bel_at {ms : List Mk} {i : Tid} {y : Mk} {n : Nat} (hn : n = aheadL (idsM ms) i) (h1 : 1 ≤ n) (h2 : n ≤ ms.length) (hy : ms[n - 1]? = some y) : belM ms i = y := by
  refine bel_some ?_
  rw [← hn, List.length_take, Nat.min_eq_left h2, List.getElem?_take, if_pos (by omega), hy]
theorem ids_drop (l : List Mk) (k : Nat) : idsM (l.drop k) = (idsM l).drop k := by unfold idsM; rw [List.map_drop]
theorem paintN_take {w : World} {ms : List Mk} {cs : List Cv} (hc : ∀ c ∈ cs, CvAt w c) (hp : PaintOk ms cs 0) (k n : Nat) : PaintN w (ms.take k) (rangeF 0 n) := fun j m x hm hx => by
  rw [List.getElem?_take] at hm
  split at hm
  · obtain ⟨c, h1, h2, h3⟩ := hp j m hm
    obtain ⟨e, _⟩ := rangeF_at hx
    subst e
    exact ⟨c, h2, hc c h1, h3⟩
  · cases hm
theorem paintN_drop {w : World} {ms : List Mk} {cs : List Cv} (hc : ∀ c ∈ cs, CvAt w c) (hp : PaintOk ms cs 0) (k n : Nat) : PaintN w (ms.drop k) (rangeF k n) := fun j m x hm hx => by
  rw [List.getElem?_drop] at hm
  obtain ⟨c, h1, h2, h3⟩ := hp (k + j) m hm
  obtain ⟨e, _⟩ := rangeF_at hx
  subst e
  rw [Nat.zero_add] at h3
  exact ⟨c, h2, hc c h1, h3⟩
theorem paintN_nil (w : World) (ns : List Int) : PaintN w [] ns := fun k m x h => by simp at h
theorem dueI_len (ms l : List Tid) (n : Nat) : (dueI ms l n).length ≤ l.length := Nat.le_trans (ev_len _ _ _) (List.length_filter_le _ _)
end Go.Proofs.Ytmihoejecpcmjaa
/- net and journal: The references; shows. Printed by a program of this seat's prover. -/
namespace Go.Proofs.Ytmihoejecpcmjaa
open Go Go.RowKit
set_option maxRecDepth 10000
theorem place_c (l : List Tid) (a : Option Addr) (cap : Nat) (i : Tid) (w : World) (hv : SliceAt w a cap 3 Tid.cells l) (hcap : cap ≤ Go.maxLen) : Calls Try.prog 50 #[.slice a l.length cap, i.v] w fun e w' => e = .returned (.tuple #[.int .i64 ((aheadL l i : Nat) : Int), .bool (decide (i ∈ l))]) ∧ Below w.heap.size w w' := by
  have hvl := hv.1
  unfold Go.maxLen at hcap
  refine calls_of_T (l := [.slice a l.length cap, .agg #[.int .u64 i.t, .int .i64 i.s, .int .u64 i.q]]) 30 Try.func50 rfl rfl rfl ?_
  show T _ _ _ [(0, .slice a l.length cap), (1, .agg #[.int .u64 i.t, .int .i64 i.s, .int .u64 i.q])] []
  refine T_seq (T_region ?_)
  refine TL_new 1 (.cells #[.int .u64 i.t, .int .i64 i.s, .int .u64 i.q] 32) (fun B => .pointer (some ⟨B, 0, none⟩)) (fun _ _ hρ _ => r_box (hρ _ _ rfl) rfl) rfl rfl rfl (w_n rfl) ?_
  intro B1
  refine TL_q (.int .i64 0) (fun _ _ hρ _ => r_assign (hρ _ _ rfl)) rfl rfl rfl (w_n rfl) ?_
  refine TL_q (.bool false) (fun _ _ hρ _ => r_assign (hρ _ _ rfl)) rfl rfl rfl (w_n rfl) ?_
  refine TL_seq ?_
  refine T_seq (T_region ?_)
  refine TL_q (.int .i64 0) (fun _ _ hρ _ => r_assign (hρ _ _ rfl)) rfl rfl rfl (w_n rfl) ?_
  refine TL_q (.bool false) (fun _ _ hρ _ => r_assign (hρ _ _ rfl)) rfl rfl rfl (w_n rfl) ?_
  refine TL_seq ?_
  refine T_seq ?_
  refine T_seq (T_region ?_)
  refine TL_q (.slice a l.length cap) (fun _ _ hρ _ => r_move (hρ _ _ rfl)) rfl rfl rfl (w_n rfl) ?_
  refine TL_q (.int .i64 ((l.length : Nat) : Int)) (fun _ _ hρ _ => r_len sl22 (hρ _ _ rfl)) rfl rfl rfl (w_n rfl) ?_
  refine TL_q (.int .i64 0) (fun _ _ hρ _ => r_move (hρ _ _ rfl)) rfl rfl rfl (w_n rfl) ?_
  refine TL_seq ?_
  refine T_block ?_
  refine T_loop (ι := Nat × Nat × Bool) (fun (z : Nat × Nat × Bool) => match z with | (k, c, b9) => k ≤ l.length ∧ c = aheadL (l.take k) i ∧ b9 = decide (i ∈ l.take k)) (fun (z : Nat × Nat × Bool) => match z with | (k, c, b9) => [(3, .pointer (some ⟨B1, 0, none⟩)), (4, .int .i64 0), (5, .bool false), (10, .slice a l.length cap), (11, .int .i64 ((l.length : Nat) : Int)), (12, .int .i64 ((k : Nat) : Int)), (6, .int .i64 ((c : Nat) : Int)), (7, .bool b9)]) (fun (z : Nat × Nat × Bool) => match z with | (k, c, b9) => [(1, .blk B1 (.cells #[.int .u64 i.t, .int .i64 i.s, .int .u64 i.q] 32))]) (fun (z : Nat × Nat × Bool) => match z with | (k, c, b9) => l.length - k) (0, 0, false) ⟨Nat.zero_le _, rfl, rfl⟩ (sub_cons rfl (sub_cons rfl (sub_cons rfl (sub_cons rfl (sub_cons rfl (sub_cons rfl (sub_cons rfl (sub_cons rfl sub_nil)))))))) (sub_cons rfl sub_nil) ?_
  rintro ⟨k, c, b9⟩ hp
  obtain ⟨hk, hc, hbd⟩ := hp
  have hck : c ≤ k := by rw [hc]; exact Nat.le_trans (ahead_le _ _) (by rw [List.length_take]; omega)
  show T _ _ _ [(3, .pointer (some ⟨B1, 0, none⟩)), (4, .int .i64 0), (5, .bool false), (10, .slice a l.length cap), (11, .int .i64 ((l.length : Nat) : Int)), (12, .int .i64 ((k : Nat) : Int)), (6, .int .i64 ((c : Nat) : Int)), (7, .bool b9)] [(1, .blk B1 (.cells #[.int .u64 i.t, .int .i64 i.s, .int .u64 i.q] 32))]
  refine T_seq (T_region ?_)
  refine TL_q (.bool (decide (((k : Nat) : Int) < ((l.length : Nat) : Int)))) (fun _ _ hρ _ => r_lss (hρ _ _ rfl) (hρ _ _ rfl)) rfl rfl rfl (w_n rfl) ?_
  refine TL_seq ?_
  refine T_seq ?_
  refine T_cond rfl (fun h1 => ?_) (fun h1 => ?_)
  · replace h1 := of_decide_eq_true h1
    refine T_skip' ?_
    refine p_seq ?_
    refine T_seq ?_
    refine T_block ?_
    obtain ⟨p9, hp9⟩ : ∃ x, l[k]? = some x := ⟨_, List.getElem?_eq_getElem (by omega)⟩
    obtain ⟨b2, of2, cs2, T2, fz2, ha2, hq2, hr2⟩ := hv.open (i := k) (by omega)
    subst ha2
    refine T_seq (T_region ?_)
    refine TL_q (.pointer (some ⟨b2, of2 + k * 3, none⟩)) (fun _ _ hρ _ => r_indexAddrS (i := k) sl22 sz32 (hρ _ _ rfl) (hρ _ _ rfl) (by omega)) rfl rfl rfl (w_n rfl) ?_
    refine TL_q (.agg #[.int .u64 p9.t, .int .i64 p9.s, .int .u64 p9.q]) (fun _ _ hρ hm => r_loadRow (f := Tid.cells) (u := p9) ag32 sz32 (hρ _ _ rfl) (hm.old hq2) hr2 hp9) rfl rfl rfl (w_n rfl) ?_
    refine TL_new 2 (.cells #[.int .u64 0, .int .i64 0, .int .u64 0] 32) (fun B => .pointer (some ⟨B, 0, none⟩)) (fun _ _ _ _ => r_alloc (v := .agg #[.int .u64 0, .int .i64 0, .int .u64 0]) (by kernel_rfl) rfl) rfl rfl rfl (w_n rfl) ?_
    intro B3
    refine TL_store 2 (.cells #[.int .u64 p9.t, .int .i64 p9.s, .int .u64 p9.q] 32) rfl (fun _ _ hρ hm => r_store sz32 (hρ _ _ rfl) (hρ _ _ rfl) (hm.at 2 rfl) rfl rfl rfl rfl) rfl rfl (w_n rfl) ?_
    refine TL_seq ?_
    refine T_seq ?_
    by_cases hlp : lessI p9 i = true
    · skip
      refine T_seq (T_region ?_)
      refine TL_q (.agg #[.int .u64 p9.t, .int .i64 p9.s, .int .u64 p9.q]) (fun _ _ hρ hm => r_loadA ag32 sz32 (hρ _ _ rfl) (hm.at 2 rfl) rfl rfl) rfl rfl rfl (w_n rfl) ?_
      refine TL_q (.agg #[.int .u64 i.t, .int .i64 i.s, .int .u64 i.q]) (fun _ _ hρ hm => r_loadA ag32 sz32 (hρ _ _ rfl) (hm.at 1 rfl) rfl rfl) rfl rfl rfl (w_n rfl) ?_
      refine TL_call (.bool true) (fun _ _ hρ _ => r_call (args := [.agg #[.int .u64 p9.t, .int .i64 p9.s, .int .u64 p9.q], .agg #[.int .u64 i.t, .int .i64 i.s, .int .u64 i.q]]) (enters_of Try.func62 (by kernel_rfl) rfl) (hρ _ _ rfl) ((cons2 (hρ _ _ rfl) (cons2 (hρ _ _ rfl) rfl))) rfl) (fun w _ => (rless_c p9 i w).mono fun _ _ h => ⟨h.1.trans (congrArg Ending.returned (bool_as hlp)), h.2⟩) rfl rfl rfl (w_n rfl) ?_
      refine TL_seq ?_
      refine T_cond_t rfl ?_
      refine T_region ?_
      refine TL_q (.int .i64 ((c : Nat) : Int)) (fun _ _ hρ _ => r_move (hρ _ _ rfl)) rfl rfl rfl (w_n rfl) ?_
      refine TL_q (.int .i64 ((c + 1 : Nat) : Int)) (fun _ _ hρ _ => r_as (r_add (hρ _ _ rfl) (hρ _ _ rfl)) (int_as ((wrap64 (by omega) (by omega)).trans (by omega)))) rfl rfl rfl (w_n rfl) ?_
      refine TL_q (.int .i64 ((c + 1 : Nat) : Int)) (fun _ _ hρ _ => r_assign (hρ _ _ rfl)) rfl rfl rfl (w_n rfl) ?_
      refine TL_nil ?_
      refine p_seq ?_
      by_cases hb9 : b9 = true
      · skip
        subst hb9
        refine T_region ?_
        refine TL_q (.bool true) (fun _ _ hρ _ => r_move (hρ _ _ rfl)) rfl rfl rfl (w_n rfl) ?_
        refine TL_q (.bool true) (fun _ _ hρ _ => r_move (hρ _ _ rfl)) rfl rfl rfl (w_n rfl) ?_
        refine TL_no rfl rfl (want_n 22 rfl rfl rfl) ?_
        refine TL_no rfl rfl (want_n 22 rfl rfl rfl) ?_
        refine TL_no rfl rfl (want_n 22 rfl rfl rfl) ?_
        refine TL_q (.bool true) (fun _ _ hρ _ => r_pick_t (hρ _ _ rfl) (hρ _ _ rfl)) rfl rfl rfl (w_n rfl) ?_
        refine TL_q (.bool true) (fun _ _ hρ _ => r_assign (hρ _ _ rfl)) rfl rfl rfl (w_n rfl) ?_
        refine TL_nil ?_
        refine p_blk_n ?_
        refine p_seq ?_
        refine T_region ?_
        refine TL_q (.int .i64 ((k + 1 : Nat) : Int)) (fun _ _ hρ _ => r_as (r_add (hρ _ _ rfl) (hρ _ _ rfl)) (int_as ((wrap64 (by omega) (by omega)).trans (by omega)))) rfl rfl rfl (w_n rfl) ?_
        refine TL_q (.int .i64 ((k + 1 : Nat) : Int)) (fun _ _ hρ _ => r_move (hρ _ _ rfl)) rfl rfl rfl (w_n rfl) ?_
        refine TL_nil ?_
        exact p_at (k + 1, c + 1, true) ⟨⟨by omega, by rw [ahead_step hp9, if_pos hlp, ← hc], (decide_eq_true ((mem_step hp9).2 (.inl (of_decide_eq_true hbd.symm)))).symm⟩, by dsimp only; omega⟩ (sub_cons rfl (sub_cons rfl (sub_cons rfl (sub_cons rfl (sub_cons rfl (sub_cons rfl (sub_cons rfl (sub_cons rfl sub_nil)))))))) (sub_cons rfl sub_nil)
      · skip
        replace hb9 := eq_false_of_ne_true hb9
        subst hb9
        by_cases hpe : p9 = i
        · skip
          refine T_region ?_
          refine TL_q (.bool false) (fun _ _ hρ _ => r_move (hρ _ _ rfl)) rfl rfl rfl (w_n rfl) ?_
          refine TL_q (.bool false) (fun _ _ hρ _ => r_move (hρ _ _ rfl)) rfl rfl rfl (w_n rfl) ?_
          refine TL_q (.agg #[.int .u64 p9.t, .int .i64 p9.s, .int .u64 p9.q]) (fun _ _ hρ hm => r_loadA ag32 sz32 (hρ _ _ rfl) (hm.at 2 rfl) rfl rfl) rfl rfl rfl (want_y 22 rfl rfl rfl) ?_
          refine TL_q (.agg #[.int .u64 i.t, .int .i64 i.s, .int .u64 i.q]) (fun _ _ hρ hm => r_loadA ag32 sz32 (hρ _ _ rfl) (hm.at 1 rfl) rfl rfl) rfl rfl rfl (want_y 22 rfl rfl rfl) ?_
          refine TL_q (.bool true) (fun _ _ hρ _ => r_as (r_as (r_eqlA (by kernel_rfl) (hρ _ _ rfl) (hρ _ _ rfl) (run_equalI (l := [(0, .u64), (1, .i64), (2, .u64)]) (by kernel_rfl) rfl rfl)) (bool_as (eqTid p9 i))) (bool_as (decide_eq_true hpe))) rfl rfl rfl (want_y 22 rfl rfl rfl) ?_
          refine TL_q (.bool true) (fun _ _ hρ _ => r_pick_f (hρ _ _ rfl) (hρ _ _ rfl)) rfl rfl rfl (w_n rfl) ?_
          refine TL_q (.bool true) (fun _ _ hρ _ => r_assign (hρ _ _ rfl)) rfl rfl rfl (w_n rfl) ?_
          refine TL_nil ?_
          refine p_blk_n ?_
          refine p_seq ?_
          refine T_region ?_
          refine TL_q (.int .i64 ((k + 1 : Nat) : Int)) (fun _ _ hρ _ => r_as (r_add (hρ _ _ rfl) (hρ _ _ rfl)) (int_as ((wrap64 (by omega) (by omega)).trans (by omega)))) rfl rfl rfl (w_n rfl) ?_
          refine TL_q (.int .i64 ((k + 1 : Nat) : Int)) (fun _ _ hρ _ => r_move (hρ _ _ rfl)) rfl rfl rfl (w_n rfl) ?_
          refine TL_nil ?_
          exact p_at (k + 1, c + 1, true) ⟨⟨by omega, by rw [ahead_step hp9, if_pos hlp, ← hc], (decide_eq_true ((mem_step hp9).2 (.inr hpe))).symm⟩, by dsimp only; omega⟩ (sub_cons rfl (sub_cons rfl (sub_cons rfl (sub_cons rfl (sub_cons rfl (sub_cons rfl (sub_cons rfl (sub_cons rfl sub_nil)))))))) (sub_cons rfl sub_nil)
        · skip
          refine T_region ?_
          refine TL_q (.bool false) (fun _ _ hρ _ => r_move (hρ _ _ rfl)) rfl rfl rfl (w_n rfl) ?_
          refine TL_q (.bool false) (fun _ _ hρ _ => r_move (hρ _ _ rfl)) rfl rfl rfl (w_n rfl) ?_
          refine TL_q (.agg #[.int .u64 p9.t, .int .i64 p9.s, .int .u64 p9.q]) (fun _ _ hρ hm => r_loadA ag32 sz32 (hρ _ _ rfl) (hm.at 2 rfl) rfl rfl) rfl rfl rfl (want_y 22 rfl rfl rfl) ?_
          refine TL_q (.agg #[.int .u64 i.t, .int .i64 i.s, .int .u64 i.q]) (fun _ _ hρ hm => r_loadA ag32 sz32 (hρ _ _ rfl) (hm.at 1 rfl) rfl rfl) rfl rfl rfl (want_y 22 rfl rfl rfl) ?_
          refine TL_q (.bool false) (fun _ _ hρ _ => r_as (r_as (r_eqlA (by kernel_rfl) (hρ _ _ rfl) (hρ _ _ rfl) (run_equalI (l := [(0, .u64), (1, .i64), (2, .u64)]) (by kernel_rfl) rfl rfl)) (bool_as (eqTid p9 i))) (bool_as (decide_eq_false hpe))) rfl rfl rfl (want_y 22 rfl rfl rfl) ?_
          refine TL_q (.bool false) (fun _ _ hρ _ => r_pick_f (hρ _ _ rfl) (hρ _ _ rfl)) rfl rfl rfl (w_n rfl) ?_
          refine TL_q (.bool false) (fun _ _ hρ _ => r_assign (hρ _ _ rfl)) rfl rfl rfl (w_n rfl) ?_
          refine TL_nil ?_
          refine p_blk_n ?_
          refine p_seq ?_
          refine T_region ?_
          refine TL_q (.int .i64 ((k + 1 : Nat) : Int)) (fun _ _ hρ _ => r_as (r_add (hρ _ _ rfl) (hρ _ _ rfl)) (int_as ((wrap64 (by omega) (by omega)).trans (by omega)))) rfl rfl rfl (w_n rfl) ?_
          refine TL_q (.int .i64 ((k + 1 : Nat) : Int)) (fun _ _ hρ _ => r_move (hρ _ _ rfl)) rfl rfl rfl (w_n rfl) ?_
          refine TL_nil ?_
          exact p_at (k + 1, c + 1, false) ⟨⟨by omega, by rw [ahead_step hp9, if_pos hlp, ← hc], (decide_eq_false (fun h => ((mem_step hp9).1 h).elim (of_decide_eq_false hbd.symm) hpe)).symm⟩, by dsimp only; omega⟩ (sub_cons rfl (sub_cons rfl (sub_cons rfl (sub_cons rfl (sub_cons rfl (sub_cons rfl (sub_cons rfl (sub_cons rfl sub_nil)))))))) (sub_cons rfl sub_nil)
    · skip
      refine T_seq (T_region ?_)
      refine TL_q (.agg #[.int .u64 p9.t, .int .i64 p9.s, .int .u64 p9.q]) (fun _ _ hρ hm => r_loadA ag32 sz32 (hρ _ _ rfl) (hm.at 2 rfl) rfl rfl) rfl rfl rfl (w_n rfl) ?_
      refine TL_q (.agg #[.int .u64 i.t, .int .i64 i.s, .int .u64 i.q]) (fun _ _ hρ hm => r_loadA ag32 sz32 (hρ _ _ rfl) (hm.at 1 rfl) rfl rfl) rfl rfl rfl (w_n rfl) ?_
      refine TL_call (.bool false) (fun _ _ hρ _ => r_call (args := [.agg #[.int .u64 p9.t, .int .i64 p9.s, .int .u64 p9.q], .agg #[.int .u64 i.t, .int .i64 i.s, .int .u64 i.q]]) (enters_of Try.func62 (by kernel_rfl) rfl) (hρ _ _ rfl) ((cons2 (hρ _ _ rfl) (cons2 (hρ _ _ rfl) rfl))) rfl) (fun w _ => (rless_c p9 i w).mono fun _ _ h => ⟨h.1.trans (congrArg Ending.returned (bool_as (eq_false_of_ne_true hlp))), h.2⟩) rfl rfl rfl (w_n rfl) ?_
      refine TL_seq ?_
      refine T_cond_f rfl ?_
      refine T_skip' ?_
      refine p_seq ?_
      by_cases hb9 : b9 = true
      · skip
        subst hb9
        refine T_region ?_
        refine TL_q (.bool true) (fun _ _ hρ _ => r_move (hρ _ _ rfl)) rfl rfl rfl (w_n rfl) ?_
        refine TL_q (.bool true) (fun _ _ hρ _ => r_move (hρ _ _ rfl)) rfl rfl rfl (w_n rfl) ?_
        refine TL_no rfl rfl (want_n 22 rfl rfl rfl) ?_
        refine TL_no rfl rfl (want_n 22 rfl rfl rfl) ?_
        refine TL_no rfl rfl (want_n 22 rfl rfl rfl) ?_
        refine TL_q (.bool true) (fun _ _ hρ _ => r_pick_t (hρ _ _ rfl) (hρ _ _ rfl)) rfl rfl rfl (w_n rfl) ?_
        refine TL_q (.bool true) (fun _ _ hρ _ => r_assign (hρ _ _ rfl)) rfl rfl rfl (w_n rfl) ?_
        refine TL_nil ?_
        refine p_blk_n ?_
        refine p_seq ?_
        refine T_region ?_
        refine TL_q (.int .i64 ((k + 1 : Nat) : Int)) (fun _ _ hρ _ => r_as (r_add (hρ _ _ rfl) (hρ _ _ rfl)) (int_as ((wrap64 (by omega) (by omega)).trans (by omega)))) rfl rfl rfl (w_n rfl) ?_
        refine TL_q (.int .i64 ((k + 1 : Nat) : Int)) (fun _ _ hρ _ => r_move (hρ _ _ rfl)) rfl rfl rfl (w_n rfl) ?_
        refine TL_nil ?_
        exact p_at (k + 1, c, true) ⟨⟨by omega, by rw [ahead_step hp9, if_neg hlp, Nat.add_zero, ← hc], (decide_eq_true ((mem_step hp9).2 (.inl (of_decide_eq_true hbd.symm)))).symm⟩, by dsimp only; omega⟩ (sub_cons rfl (sub_cons rfl (sub_cons rfl (sub_cons rfl (sub_cons rfl (sub_cons rfl (sub_cons rfl (sub_cons rfl sub_nil)))))))) (sub_cons rfl sub_nil)
      · skip
        replace hb9 := eq_false_of_ne_true hb9
        subst hb9
        by_cases hpe : p9 = i
        · skip
          refine T_region ?_
          refine TL_q (.bool false) (fun _ _ hρ _ => r_move (hρ _ _ rfl)) rfl rfl rfl (w_n rfl) ?_
          refine TL_q (.bool false) (fun _ _ hρ _ => r_move (hρ _ _ rfl)) rfl rfl rfl (w_n rfl) ?_
          refine TL_q (.agg #[.int .u64 p9.t, .int .i64 p9.s, .int .u64 p9.q]) (fun _ _ hρ hm => r_loadA ag32 sz32 (hρ _ _ rfl) (hm.at 2 rfl) rfl rfl) rfl rfl rfl (want_y 22 rfl rfl rfl) ?_
          refine TL_q (.agg #[.int .u64 i.t, .int .i64 i.s, .int .u64 i.q]) (fun _ _ hρ hm => r_loadA ag32 sz32 (hρ _ _ rfl) (hm.at 1 rfl) rfl rfl) rfl rfl rfl (want_y 22 rfl rfl rfl) ?_
          refine TL_q (.bool true) (fun _ _ hρ _ => r_as (r_as (r_eqlA (by kernel_rfl) (hρ _ _ rfl) (hρ _ _ rfl) (run_equalI (l := [(0, .u64), (1, .i64), (2, .u64)]) (by kernel_rfl) rfl rfl)) (bool_as (eqTid p9 i))) (bool_as (decide_eq_true hpe))) rfl rfl rfl (want_y 22 rfl rfl rfl) ?_
          refine TL_q (.bool true) (fun _ _ hρ _ => r_pick_f (hρ _ _ rfl) (hρ _ _ rfl)) rfl rfl rfl (w_n rfl) ?_
          refine TL_q (.bool true) (fun _ _ hρ _ => r_assign (hρ _ _ rfl)) rfl rfl rfl (w_n rfl) ?_
          refine TL_nil ?_
          refine p_blk_n ?_
          refine p_seq ?_
          refine T_region ?_
          refine TL_q (.int .i64 ((k + 1 : Nat) : Int)) (fun _ _ hρ _ => r_as (r_add (hρ _ _ rfl) (hρ _ _ rfl)) (int_as ((wrap64 (by omega) (by omega)).trans (by omega)))) rfl rfl rfl (w_n rfl) ?_
          refine TL_q (.int .i64 ((k + 1 : Nat) : Int)) (fun _ _ hρ _ => r_move (hρ _ _ rfl)) rfl rfl rfl (w_n rfl) ?_
          refine TL_nil ?_
          exact p_at (k + 1, c, true) ⟨⟨by omega, by rw [ahead_step hp9, if_neg hlp, Nat.add_zero, ← hc], (decide_eq_true ((mem_step hp9).2 (.inr hpe))).symm⟩, by dsimp only; omega⟩ (sub_cons rfl (sub_cons rfl (sub_cons rfl (sub_cons rfl (sub_cons rfl (sub_cons rfl (sub_cons rfl (sub_cons rfl sub_nil)))))))) (sub_cons rfl sub_nil)
        · skip
          refine T_region ?_
          refine TL_q (.bool false) (fun _ _ hρ _ => r_move (hρ _ _ rfl)) rfl rfl rfl (w_n rfl) ?_
          refine TL_q (.bool false) (fun _ _ hρ _ => r_move (hρ _ _ rfl)) rfl rfl rfl (w_n rfl) ?_
          refine TL_q (.agg #[.int .u64 p9.t, .int .i64 p9.s, .int .u64 p9.q]) (fun _ _ hρ hm => r_loadA ag32 sz32 (hρ _ _ rfl) (hm.at 2 rfl) rfl rfl) rfl rfl rfl (want_y 22 rfl rfl rfl) ?_
          refine TL_q (.agg #[.int .u64 i.t, .int .i64 i.s, .int .u64 i.q]) (fun _ _ hρ hm => r_loadA ag32 sz32 (hρ _ _ rfl) (hm.at 1 rfl) rfl rfl) rfl rfl rfl (want_y 22 rfl rfl rfl) ?_
          refine TL_q (.bool false) (fun _ _ hρ _ => r_as (r_as (r_eqlA (by kernel_rfl) (hρ _ _ rfl) (hρ _ _ rfl) (run_equalI (l := [(0, .u64), (1, .i64), (2, .u64)]) (by kernel_rfl) rfl rfl)) (bool_as (eqTid p9 i))) (bool_as (decide_eq_false hpe))) rfl rfl rfl (want_y 22 rfl rfl rfl) ?_
          refine TL_q (.bool false) (fun _ _ hρ _ => r_pick_f (hρ _ _ rfl) (hρ _ _ rfl)) rfl rfl rfl (w_n rfl) ?_
          refine TL_q (.bool false) (fun _ _ hρ _ => r_assign (hρ _ _ rfl)) rfl rfl rfl (w_n rfl) ?_
          refine TL_nil ?_
          refine p_blk_n ?_
          refine p_seq ?_
          refine T_region ?_
          refine TL_q (.int .i64 ((k + 1 : Nat) : Int)) (fun _ _ hρ _ => r_as (r_add (hρ _ _ rfl) (hρ _ _ rfl)) (int_as ((wrap64 (by omega) (by omega)).trans (by omega)))) rfl rfl rfl (w_n rfl) ?_
          refine TL_q (.int .i64 ((k + 1 : Nat) : Int)) (fun _ _ hρ _ => r_move (hρ _ _ rfl)) rfl rfl rfl (w_n rfl) ?_
          refine TL_nil ?_
          exact p_at (k + 1, c, false) ⟨⟨by omega, by rw [ahead_step hp9, if_neg hlp, Nat.add_zero, ← hc], (decide_eq_false (fun h => ((mem_step hp9).1 h).elim (of_decide_eq_false hbd.symm) hpe)).symm⟩, by dsimp only; omega⟩ (sub_cons rfl (sub_cons rfl (sub_cons rfl (sub_cons rfl (sub_cons rfl (sub_cons rfl (sub_cons rfl (sub_cons rfl sub_nil)))))))) (sub_cons rfl sub_nil)
  · replace h1 := of_decide_eq_false h1
    refine T_exit' ?_
    refine p_then_x ?_
    refine p_then_x ?_
    refine p_blk_x ?_
    refine p_seq ?_
    refine T_seq (T_region ?_)
    refine TL_q (.int .i64 ((c : Nat) : Int)) (fun _ _ hρ _ => r_move (hρ _ _ rfl)) rfl rfl rfl (w_n rfl) ?_
    refine TL_q (.bool b9) (fun _ _ hρ _ => r_move (hρ _ _ rfl)) rfl rfl rfl (w_n rfl) ?_
    refine TL_q (.int .i64 ((c : Nat) : Int)) (fun _ _ hρ _ => r_assign (hρ _ _ rfl)) rfl rfl rfl (w_n rfl) ?_
    refine TL_q (.bool b9) (fun _ _ hρ _ => r_assign (hρ _ _ rfl)) rfl rfl rfl (w_n rfl) ?_
    refine TL_seq ?_
    refine T_ret' ?_
    refine ret_of rfl (.tuple #[.int .i64 ((c : Nat) : Int), .bool b9]) (fun tmps w hk hm => res2 rfl (res_tmp (hk 4 _ rfl)) (res_tmp (hk 5 _ rfl))) (fun w hm => ?_)
    have hke : k = l.length := by omega
    subst hke
    rw [List.take_length] at hc hbd
    exact ⟨by rw [hc, hbd], hm.ext⟩

theorem rbelow_c (l : List Tid) (a : Option Addr) (cap : Nat) (i : Tid) (w : World) (hv : SliceAt w a cap 3 Tid.cells l) (hcap : cap ≤ Go.maxLen) : Calls Try.prog 29 #[.slice a l.length cap, i.v] w fun e w' => e = .returned (.int .i64 (((aheadL l i : Nat) : Int) - 1)) ∧ Below w.heap.size w w' := by
  have hvl := hv.1
  unfold Go.maxLen at hcap
  have hah := ahead_le l i
  refine calls_of_T (l := [.slice a l.length cap, .agg #[.int .u64 i.t, .int .i64 i.s, .int .u64 i.q]]) 15 Try.func29 rfl rfl rfl ?_
  show T _ _ _ [(0, .slice a l.length cap), (1, .agg #[.int .u64 i.t, .int .i64 i.s, .int .u64 i.q])] []
  refine T_seq (T_region ?_)
  refine TL_new 1 (.cells #[.int .u64 i.t, .int .i64 i.s, .int .u64 i.q] 32) (fun B => .pointer (some ⟨B, 0, none⟩)) (fun _ _ hρ _ => r_box (hρ _ _ rfl) rfl) rfl rfl rfl (w_n rfl) ?_
  intro B1
  refine TL_q (.int .i64 0) (fun _ _ hρ _ => r_assign (hρ _ _ rfl)) rfl rfl rfl (w_n rfl) ?_
  refine TL_seq ?_
  refine T_seq (T_region ?_)
  refine TL_q (.slice a l.length cap) (fun _ _ hρ _ => r_move (hρ _ _ rfl)) rfl rfl rfl (w_n rfl) ?_
  refine TL_q (.agg #[.int .u64 i.t, .int .i64 i.s, .int .u64 i.q]) (fun _ _ hρ hm => r_loadA ag32 sz32 (hρ _ _ rfl) (hm.at 1 rfl) rfl rfl) rfl rfl rfl (w_n rfl) ?_
  refine TL_call (.tuple #[.int .i64 ((aheadL l i : Nat) : Int), .bool (decide (i ∈ l))]) (fun _ _ hρ _ => r_call (args := [.slice a l.length cap, .agg #[.int .u64 i.t, .int .i64 i.s, .int .u64 i.q]]) (enters_of Try.func50 (by kernel_rfl) rfl) (hρ _ _ rfl) ((cons2 (hρ _ _ rfl) (cons2 (hρ _ _ rfl) rfl))) rfl) (fun w hm => place_c l a cap i w (hv.keep hm.ext) hcap) rfl rfl rfl (w_n rfl) ?_
  refine TL_q (.tuple #[.int .i64 ((aheadL l i : Nat) : Int), .bool (decide (i ∈ l))]) (fun _ _ hρ _ => r_move (hρ _ _ rfl)) rfl rfl rfl (w_n rfl) ?_
  refine TL_q (.int .i64 ((aheadL l i : Nat) : Int)) (fun _ _ hρ _ => r_extract (hρ _ _ rfl) rfl) rfl rfl rfl (w_n rfl) ?_
  refine TL_q (.bool (decide (i ∈ l))) (fun _ _ hρ _ => r_extract (hρ _ _ rfl) rfl) rfl rfl rfl (w_n rfl) ?_
  refine TL_q (.int .i64 ((aheadL l i : Nat) : Int)) (fun _ _ hρ _ => r_assign (hρ _ _ rfl)) rfl rfl rfl (w_n rfl) ?_
  refine TL_q (.bool (decide (i ∈ l))) (fun _ _ hρ _ => r_assign (hρ _ _ rfl)) rfl rfl rfl (w_n rfl) ?_
  refine TL_seq ?_
  refine T_seq (T_region ?_)
  refine TL_q (.int .i64 ((aheadL l i : Nat) : Int)) (fun _ _ hρ _ => r_move (hρ _ _ rfl)) rfl rfl rfl (w_n rfl) ?_
  refine TL_q (.int .i64 (((aheadL l i : Nat) : Int) - 1)) (fun _ _ hρ _ => r_as (r_sub (hρ _ _ rfl) (hρ _ _ rfl)) (int_as (wrap64 (by omega) (by omega)))) rfl rfl rfl (w_n rfl) ?_
  refine TL_q (.int .i64 (((aheadL l i : Nat) : Int) - 1)) (fun _ _ hρ _ => r_assign (hρ _ _ rfl)) rfl rfl rfl (w_n rfl) ?_
  refine TL_seq ?_
  refine T_ret' ?_
  refine ret_of rfl (.int .i64 (((aheadL l i : Nat) : Int) - 1)) (fun tmps w hk hm => res1 rfl (res_tmp (hk 4 _ rfl))) (fun w hm => ?_)
  exact ⟨rfl, hm.ext⟩

theorem rfold_c (l : List Tid) (a : Option Addr) (cap : Nat) (t : Int) (w : World) (hv : SliceAt w a cap 3 Tid.cells l) (hcap : cap ≤ Go.maxLen) : Calls Try.prog 30 #[.slice a l.length cap, .int .u64 t] w fun e w' => e = .returned (.int .i64 ((foldN l t : Nat) : Int)) ∧ Below w.heap.size w w' := by
  have hvl := hv.1
  unfold Go.maxLen at hcap
  refine calls_of_T (l := [.slice a l.length cap, .int .u64 t]) 22 Try.func30 rfl rfl rfl ?_
  show T _ _ _ [(0, .slice a l.length cap), (1, .int .u64 t)] []
  refine T_seq (T_region ?_)
  refine TL_q (.int .i64 0) (fun _ _ hρ _ => r_assign (hρ _ _ rfl)) rfl rfl rfl (w_n rfl) ?_
  refine TL_seq ?_
  refine T_seq (T_region ?_)
  refine TL_q (.int .i64 0) (fun _ _ hρ _ => r_assign (hρ _ _ rfl)) rfl rfl rfl (w_n rfl) ?_
  refine TL_seq ?_
  refine T_seq ?_
  refine T_seq (T_region ?_)
  refine TL_q (.slice a l.length cap) (fun _ _ hρ _ => r_move (hρ _ _ rfl)) rfl rfl rfl (w_n rfl) ?_
  refine TL_q (.int .i64 ((l.length : Nat) : Int)) (fun _ _ hρ _ => r_len sl22 (hρ _ _ rfl)) rfl rfl rfl (w_n rfl) ?_
  refine TL_q (.int .i64 0) (fun _ _ hρ _ => r_move (hρ _ _ rfl)) rfl rfl rfl (w_n rfl) ?_
  refine TL_seq ?_
  refine T_block ?_
  refine T_loop (ι := Nat × Nat) (fun (z : Nat × Nat) => match z with | (k, c) => k ≤ l.length ∧ c = foldN (l.take k) t) (fun (z : Nat × Nat) => match z with | (k, c) => [(1, .int .u64 t), (4, .int .i64 0), (8, .slice a l.length cap), (9, .int .i64 ((l.length : Nat) : Int)), (10, .int .i64 ((k : Nat) : Int)), (5, .int .i64 ((c : Nat) : Int))]) (fun (z : Nat × Nat) => match z with | (k, c) => []) (fun (z : Nat × Nat) => match z with | (k, c) => l.length - k) (0, 0) ⟨Nat.zero_le _, rfl⟩ (sub_cons rfl (sub_cons rfl (sub_cons rfl (sub_cons rfl (sub_cons rfl (sub_cons rfl sub_nil)))))) sub_nil ?_
  rintro ⟨k, c⟩ hp
  obtain ⟨hk, hc⟩ := hp
  have hck : c ≤ k := by rw [hc]; exact Nat.le_trans (fold_le _ _) (by rw [List.length_take]; omega)
  show T _ _ _ [(1, .int .u64 t), (4, .int .i64 0), (8, .slice a l.length cap), (9, .int .i64 ((l.length : Nat) : Int)), (10, .int .i64 ((k : Nat) : Int)), (5, .int .i64 ((c : Nat) : Int))] []
  refine T_seq (T_region ?_)
  refine TL_q (.bool (decide (((k : Nat) : Int) < ((l.length : Nat) : Int)))) (fun _ _ hρ _ => r_lss (hρ _ _ rfl) (hρ _ _ rfl)) rfl rfl rfl (w_n rfl) ?_
  refine TL_seq ?_
  refine T_seq ?_
  refine T_cond rfl (fun h1 => ?_) (fun h1 => ?_)
  · replace h1 := of_decide_eq_true h1
    refine T_skip' ?_
    refine p_seq ?_
    refine T_seq ?_
    refine T_block ?_
    obtain ⟨p9, hp9⟩ : ∃ x, l[k]? = some x := ⟨_, List.getElem?_eq_getElem (by omega)⟩
    obtain ⟨b1, of1, cs1, T1, fz1, ha1, hq1, hr1⟩ := hv.open (i := k) (by omega)
    subst ha1
    refine T_seq (T_region ?_)
    refine TL_q (.pointer (some ⟨b1, of1 + k * 3, none⟩)) (fun _ _ hρ _ => r_indexAddrS (i := k) sl22 sz32 (hρ _ _ rfl) (hρ _ _ rfl) (by omega)) rfl rfl rfl (w_n rfl) ?_
    refine TL_q (.agg #[.int .u64 p9.t, .int .i64 p9.s, .int .u64 p9.q]) (fun _ _ hρ hm => r_loadRow (f := Tid.cells) (u := p9) ag32 sz32 (hρ _ _ rfl) (hm.old hq1) hr1 hp9) rfl rfl rfl (w_n rfl) ?_
    refine TL_new 1 (.cells #[.int .u64 0, .int .i64 0, .int .u64 0] 32) (fun B => .pointer (some ⟨B, 0, none⟩)) (fun _ _ _ _ => r_alloc (v := .agg #[.int .u64 0, .int .i64 0, .int .u64 0]) (by kernel_rfl) rfl) rfl rfl rfl (w_n rfl) ?_
    intro B2
    refine TL_store 1 (.cells #[.int .u64 p9.t, .int .i64 p9.s, .int .u64 p9.q] 32) rfl (fun _ _ hρ hm => r_store sz32 (hρ _ _ rfl) (hρ _ _ rfl) (hm.at 1 rfl) rfl rfl rfl rfl) rfl rfl (w_n rfl) ?_
    refine TL_seq ?_
    by_cases hle : p9.t ≤ t
    · skip
      refine T_seq (T_region ?_)
      refine TL_q (.pointer (some ⟨B2, 0, none⟩)) (fun _ _ hρ _ => r_fieldAddr fl32_0 sz30 (hρ _ _ rfl)) rfl rfl rfl (w_n rfl) ?_
      refine TL_q (.int .u64 p9.t) (fun _ _ hρ hm => r_load ag30 (hρ _ _ rfl) (hm.at 1 rfl) rfl) rfl rfl rfl (w_n rfl) ?_
      refine TL_q (.int .u64 t) (fun _ _ hρ _ => r_move (hρ _ _ rfl)) rfl rfl rfl (w_n rfl) ?_
      refine TL_q (.bool true) (fun _ _ hρ _ => r_as (r_leq (hρ _ _ rfl) (hρ _ _ rfl)) (bool_as (decide_eq_true hle))) rfl rfl rfl (w_n rfl) ?_
      refine TL_seq ?_
      refine T_cond_t rfl ?_
      refine T_region ?_
      refine TL_q (.int .i64 ((c : Nat) : Int)) (fun _ _ hρ _ => r_move (hρ _ _ rfl)) rfl rfl rfl (w_n rfl) ?_
      refine TL_q (.int .i64 ((c + 1 : Nat) : Int)) (fun _ _ hρ _ => r_as (r_add (hρ _ _ rfl) (hρ _ _ rfl)) (int_as ((wrap64 (by omega) (by omega)).trans (by omega)))) rfl rfl rfl (w_n rfl) ?_
      refine TL_q (.int .i64 ((c + 1 : Nat) : Int)) (fun _ _ hρ _ => r_assign (hρ _ _ rfl)) rfl rfl rfl (w_n rfl) ?_
      refine TL_nil ?_
      refine p_blk_n ?_
      refine p_seq ?_
      refine T_region ?_
      refine TL_q (.int .i64 ((k + 1 : Nat) : Int)) (fun _ _ hρ _ => r_as (r_add (hρ _ _ rfl) (hρ _ _ rfl)) (int_as ((wrap64 (by omega) (by omega)).trans (by omega)))) rfl rfl rfl (w_n rfl) ?_
      refine TL_q (.int .i64 ((k + 1 : Nat) : Int)) (fun _ _ hρ _ => r_move (hρ _ _ rfl)) rfl rfl rfl (w_n rfl) ?_
      refine TL_nil ?_
      exact p_at (k + 1, c + 1) ⟨⟨by omega, by rw [fold_step hp9, if_pos hle, ← hc]⟩, by dsimp only; omega⟩ (sub_cons rfl (sub_cons rfl (sub_cons rfl (sub_cons rfl (sub_cons rfl (sub_cons rfl sub_nil)))))) sub_nil
    · skip
      refine T_seq (T_region ?_)
      refine TL_q (.pointer (some ⟨B2, 0, none⟩)) (fun _ _ hρ _ => r_fieldAddr fl32_0 sz30 (hρ _ _ rfl)) rfl rfl rfl (w_n rfl) ?_
      refine TL_q (.int .u64 p9.t) (fun _ _ hρ hm => r_load ag30 (hρ _ _ rfl) (hm.at 1 rfl) rfl) rfl rfl rfl (w_n rfl) ?_
      refine TL_q (.int .u64 t) (fun _ _ hρ _ => r_move (hρ _ _ rfl)) rfl rfl rfl (w_n rfl) ?_
      refine TL_q (.bool false) (fun _ _ hρ _ => r_as (r_leq (hρ _ _ rfl) (hρ _ _ rfl)) (bool_as (decide_eq_false hle))) rfl rfl rfl (w_n rfl) ?_
      refine TL_seq ?_
      refine T_cond_f rfl ?_
      refine T_skip' ?_
      refine p_blk_n ?_
      refine p_seq ?_
      refine T_region ?_
      refine TL_q (.int .i64 ((k + 1 : Nat) : Int)) (fun _ _ hρ _ => r_as (r_add (hρ _ _ rfl) (hρ _ _ rfl)) (int_as ((wrap64 (by omega) (by omega)).trans (by omega)))) rfl rfl rfl (w_n rfl) ?_
      refine TL_q (.int .i64 ((k + 1 : Nat) : Int)) (fun _ _ hρ _ => r_move (hρ _ _ rfl)) rfl rfl rfl (w_n rfl) ?_
      refine TL_nil ?_
      exact p_at (k + 1, c) ⟨⟨by omega, by rw [fold_step hp9, if_neg hle, Nat.add_zero, ← hc]⟩, by dsimp only; omega⟩ (sub_cons rfl (sub_cons rfl (sub_cons rfl (sub_cons rfl (sub_cons rfl (sub_cons rfl sub_nil)))))) sub_nil
  · replace h1 := of_decide_eq_false h1
    refine T_exit' ?_
    refine p_then_x ?_
    refine p_then_x ?_
    refine p_blk_x ?_
    refine p_seq ?_
    refine T_seq (T_region ?_)
    refine TL_q (.int .i64 ((c : Nat) : Int)) (fun _ _ hρ _ => r_move (hρ _ _ rfl)) rfl rfl rfl (w_n rfl) ?_
    refine TL_q (.int .i64 ((c : Nat) : Int)) (fun _ _ hρ _ => r_assign (hρ _ _ rfl)) rfl rfl rfl (w_n rfl) ?_
    refine TL_seq ?_
    refine T_ret' ?_
    refine ret_of rfl (.int .i64 ((c : Nat) : Int)) (fun tmps w hk hm => res1 rfl (res_tmp (hk 4 _ rfl))) (fun w hm => ?_)
    have hke : k = l.length := by omega
    subst hke
    rw [List.take_length] at hc
    exact ⟨by rw [hc], hm.ext⟩

theorem rdue_c (n : Nat) (ms : List Tid) (a : Option Addr) (cap : Nat) (l : List Tid) (b : Option Addr) (capb : Nat) (w : World) (hv : SliceAt w a cap 3 Tid.cells ms) (hcap : cap ≤ Go.maxLen) (hu : SliceAt w b capb 3 Tid.cells l) (hcapb : capb ≤ Go.maxLen) (hlen : l.length ≤ 100000) (hn1 : 1 ≤ n) (hn63 : n ≤ 9223372036854775807) : Calls Try.prog 32 #[.slice a ms.length cap, .slice b l.length capb, .int .i64 (n : Int)] w fun e w' => ∃ a' cap', e = .returned (.slice a' (dueI ms l n).length cap') ∧ Below w.heap.size w w' ∧ w'.ownsRow w.heap.size 32 3 (.slice a' (dueI ms l n).length cap') (dueI ms l n).length ((dueI ms l n).flatMap Tid.cells) := by
  have hvl := hv.1
  unfold Go.maxLen at hcap
  have hul := hu.1
  unfold Go.maxLen at hcapb
  refine calls_of_T (l := [.slice a ms.length cap, .slice b l.length capb, .int .i64 ((n : Nat) : Int)]) 43 Try.func32 rfl rfl rfl ?_
  show T _ _ _ [(0, .slice a ms.length cap), (1, .slice b l.length capb), (2, .int .i64 ((n : Nat) : Int))] []
  refine T_seq (T_region ?_)
  refine TL_q (.slice none 0 0) (fun _ _ hρ _ => r_assign (hρ _ _ rfl)) rfl rfl rfl (w_n rfl) ?_
  refine TL_seq ?_
  refine T_seq (T_region ?_)
  refine TL_q (.slice none 0 0) (fun _ _ hρ _ => r_assign (hρ _ _ rfl)) rfl rfl rfl (w_n rfl) ?_
  refine TL_seq ?_
  refine T_seq (T_region ?_)
  refine TL_q (.int .i64 0) (fun _ _ hρ _ => r_assign (hρ _ _ rfl)) rfl rfl rfl (w_n rfl) ?_
  refine TL_seq ?_
  refine T_seq ?_
  refine T_mem (_ :: _) (fun _ hm => hm.nilRow 950 32 3) ?_
  refine T_seq (T_region ?_)
  refine TL_q (.slice b l.length capb) (fun _ _ hρ _ => r_move (hρ _ _ rfl)) rfl rfl rfl (w_n rfl) ?_
  refine TL_q (.int .i64 ((l.length : Nat) : Int)) (fun _ _ hρ _ => r_len sl22 (hρ _ _ rfl)) rfl rfl rfl (w_n rfl) ?_
  refine TL_q (.int .i64 0) (fun _ _ hρ _ => r_move (hρ _ _ rfl)) rfl rfl rfl (w_n rfl) ?_
  refine TL_seq ?_
  refine T_block ?_
  refine T_loop (ι := Nat × Nat × List Tid × Option Addr × Nat) (fun (z : Nat × Nat × List Tid × Option Addr × Nat) => match z with | (k, n9, os, oa, oc) => k ≤ l.length ∧ n9 = ((l.take k).filter (behI ms)).length ∧ os = evN ((l.take k).filter (behI ms)) n ((l.take k).filter (behI ms)).length) (fun (z : Nat × Nat × List Tid × Option Addr × Nat) => match z with | (k, n9, os, oa, oc) => [(0, .slice a ms.length cap), (2, .int .i64 ((n : Nat) : Int)), (6, .slice none 0 0), (11, .slice b l.length capb), (12, .int .i64 ((l.length : Nat) : Int)), (13, .int .i64 ((k : Nat) : Int)), (8, .int .i64 ((n9 : Nat) : Int)), (7, .slice oa os.length oc)]) (fun (z : Nat × Nat × List Tid × Option Addr × Nat) => match z with | (k, n9, os, oa, oc) => [(950, .row (.slice oa os.length oc) 32 3 os.length (os.flatMap Tid.cells))]) (fun (z : Nat × Nat × List Tid × Option Addr × Nat) => match z with | (k, n9, os, oa, oc) => l.length - k) (0, 0, [], none, 0) ⟨Nat.zero_le _, rfl, rfl⟩ (sub_cons rfl (sub_cons rfl (sub_cons rfl (sub_cons rfl (sub_cons rfl (sub_cons rfl (sub_cons rfl (sub_cons rfl sub_nil)))))))) (sub_cons rfl sub_nil) ?_
  rintro ⟨k, n9, os, oa, oc⟩ hp
  obtain ⟨hk, hcn, hos⟩ := hp
  have hnk : n9 ≤ k := by rw [hcn]; exact Nat.le_trans (List.length_filter_le _ _) (by rw [List.length_take]; omega)
  have hol : os.length ≤ k := by rw [hos]; exact Nat.le_trans (ev_len _ _ _) (by omega)
  show T _ _ _ [(0, .slice a ms.length cap), (2, .int .i64 ((n : Nat) : Int)), (6, .slice none 0 0), (11, .slice b l.length capb), (12, .int .i64 ((l.length : Nat) : Int)), (13, .int .i64 ((k : Nat) : Int)), (8, .int .i64 ((n9 : Nat) : Int)), (7, .slice oa os.length oc)] [(950, .row (.slice oa os.length oc) 32 3 os.length (os.flatMap Tid.cells))]
  refine T_seq (T_region ?_)
  refine TL_q (.bool (decide (((k : Nat) : Int) < ((l.length : Nat) : Int)))) (fun _ _ hρ _ => r_lss (hρ _ _ rfl) (hρ _ _ rfl)) rfl rfl rfl (w_n rfl) ?_
  refine TL_seq ?_
  refine T_seq ?_
  refine T_cond rfl (fun h1 => ?_) (fun h1 => ?_)
  · replace h1 := of_decide_eq_true h1
    refine T_skip' ?_
    refine p_seq ?_
    refine T_seq ?_
    refine T_block ?_
    obtain ⟨d9, hd9⟩ : ∃ x, l[k]? = some x := ⟨_, List.getElem?_eq_getElem (by omega)⟩
    obtain ⟨b1, of1, cs1, T1, fz1, ha1, hq1, hr1⟩ := hu.open (i := k) (by omega)
    subst ha1
    refine T_seq (T_region ?_)
    refine TL_q (.pointer (some ⟨b1, of1 + k * 3, none⟩)) (fun _ _ hρ _ => r_indexAddrS (i := k) sl22 sz32 (hρ _ _ rfl) (hρ _ _ rfl) (by omega)) rfl rfl rfl (w_n rfl) ?_
    refine TL_q (.agg #[.int .u64 d9.t, .int .i64 d9.s, .int .u64 d9.q]) (fun _ _ hρ hm => r_loadRow (f := Tid.cells) (u := d9) ag32 sz32 (hρ _ _ rfl) (hm.old hq1) hr1 hd9) rfl rfl rfl (w_n rfl) ?_
    refine TL_new 1 (.cells #[.int .u64 0, .int .i64 0, .int .u64 0] 32) (fun B => .pointer (some ⟨B, 0, none⟩)) (fun _ _ _ _ => r_alloc (v := .agg #[.int .u64 0, .int .i64 0, .int .u64 0]) (by kernel_rfl) rfl) rfl rfl rfl (w_n rfl) ?_
    intro B2
    refine TL_store 1 (.cells #[.int .u64 d9.t, .int .i64 d9.s, .int .u64 d9.q] 32) rfl (fun _ _ hρ hm => r_store sz32 (hρ _ _ rfl) (hρ _ _ rfl) (hm.at 1 rfl) rfl rfl rfl rfl) rfl rfl (w_n rfl) ?_
    refine TL_seq ?_
    refine T_seq ?_
    by_cases hzm : (0 : Int) < ((ms.length : Nat) : Int)
    · skip
      obtain ⟨y9, hy9⟩ : ∃ x, ms[ms.length - 1]? = some x := ⟨_, List.getElem?_eq_getElem (by omega)⟩
      obtain ⟨b3, of3, cs3, T3, fz3, ha3, hq3, hr3⟩ := hv.open (i := ms.length - 1) (by omega)
      subst ha3
      by_cases hly : lessI y9 d9 = true
      · skip
        refine T_seq (T_draw (V := [(0, .slice (some ⟨b3, of3, none⟩) ms.length cap), (1, .int .i64 ((ms.length : Nat) : Int)), (2, .bool true), (3, .bool true), (4, .slice (some ⟨b3, of3, none⟩) ms.length cap), (5, .slice (some ⟨b3, of3, none⟩) ms.length cap), (6, .int .i64 ((ms.length : Nat) : Int)), (7, .int .i64 ((ms.length - 1 : Nat) : Int)), (8, .pointer (some ⟨b3, of3 + (ms.length - 1) * 3, none⟩)), (9, .agg #[.int .u64 y9.t, .int .i64 y9.s, .int .u64 y9.q]), (10, .agg #[.int .u64 d9.t, .int .i64 d9.s, .int .u64 d9.q])]) [0, 1, 3, 7, 15, 15, 47, 111, 255, 511, 15, 2047, 4095, 8191] [[(0, none)], [(17, some 0)], [(18, some 1)], [(19, some 2)], [(0, none)], [(0, none)], [(22, some 5)], [(23, some 6)], [(21, some 4), (24, some 7)], [(25, some 8)], [(10, none)], [(26, some 9), (27, some 10)], [(28, some 11)], [(29, some 12), (20, some 3)]] 2048 mixed (by kernel_rfl) ?_)
        refine G_step [0, 1, 2, 3, 4, 5, 6, 7, 8, 9, 10] 11 [] (by kernel_rfl) (allM (all_cons (q_run (.slice (some ⟨b3, of3, none⟩) ms.length cap) rfl rfl (wv_n rfl) rfl (fun _ _ hρ _ => r_move (hρ _ _ rfl))) (all_cons (q_run (.int .i64 ((ms.length : Nat) : Int)) rfl rfl (wv_n rfl) rfl (fun _ _ hρ _ => r_len sl22 (hρ _ _ rfl))) (all_cons (q_run (.bool true) rfl rfl (wv_n rfl) rfl (fun _ _ hρ _ => r_as (r_gtr (hρ _ _ rfl) (hρ _ _ rfl)) (bool_as (decide_eq_true hzm)))) (all_cons (q_run (.bool true) rfl rfl (wv_n rfl) rfl (fun _ _ hρ _ => r_move (hρ _ _ rfl))) (all_cons (q_run (.slice (some ⟨b3, of3, none⟩) ms.length cap) rfl rfl (wv_y rfl rfl) rfl (fun _ _ hρ _ => r_move (hρ _ _ rfl))) (all_cons (q_run (.slice (some ⟨b3, of3, none⟩) ms.length cap) rfl rfl (wv_y rfl rfl) rfl (fun _ _ hρ _ => r_move (hρ _ _ rfl))) (all_cons (q_run (.int .i64 ((ms.length : Nat) : Int)) rfl rfl (wv_y rfl rfl) rfl (fun _ _ hρ _ => r_len sl22 (hρ _ _ rfl))) (all_cons (q_run (.int .i64 ((ms.length - 1 : Nat) : Int)) rfl rfl (wv_y rfl rfl) rfl (fun _ _ hρ _ => r_as (r_sub (hρ _ _ rfl) (hρ _ _ rfl)) (int_as ((wrap64 (by omega) (by omega)).trans (by omega))))) (all_cons (q_run (.pointer (some ⟨b3, of3 + (ms.length - 1) * 3, none⟩)) rfl rfl (wv_y rfl rfl) rfl (fun _ _ hρ _ => r_indexAddrS (i := ms.length - 1) sl22 sz32 (hρ _ _ rfl) (hρ _ _ rfl) (by omega))) (all_cons (q_run (.agg #[.int .u64 y9.t, .int .i64 y9.s, .int .u64 y9.q]) rfl rfl (wv_y rfl rfl) rfl (fun _ _ hρ hm => r_loadRow (f := Tid.cells) (u := y9) ag32 sz32 (hρ _ _ rfl) (hm.old hq3) hr3 hy9)) (all_cons (q_run (.agg #[.int .u64 d9.t, .int .i64 d9.s, .int .u64 d9.q]) rfl rfl (wv_y rfl rfl) rfl (fun _ _ hρ hm => r_loadA ag32 sz32 (hρ _ _ rfl) (hm.at 1 rfl) rfl rfl)) all_nil)))))))))))) (allM (all_cons ?_ all_nil))
        refine LOb_call (.bool true) [(12, .bool false), (13, .bool false)] rfl (wv_y rfl rfl) rfl rfl (fun _ _ hρ _ => r_call (args := [.agg #[.int .u64 y9.t, .int .i64 y9.s, .int .u64 y9.q], .agg #[.int .u64 d9.t, .int .i64 d9.s, .int .u64 d9.q]]) (enters_of Try.func62 (by kernel_rfl) rfl) (hρ _ _ rfl) ((cons2 (hρ _ _ rfl) (cons2 (hρ _ _ rfl) rfl))) rfl) (fun w _ => (rless_c y9 d9 w).mono fun _ _ h => ⟨h.1.trans (congrArg Ending.returned (bool_as hly)), h.2⟩) (by kernel_rfl) ?_
        refine G_last [12, 13] [(0, .slice (some ⟨b3, of3, none⟩) ms.length cap), (2, .int .i64 ((n : Nat) : Int)), (6, .slice none 0 0), (11, .slice (some ⟨b1, of1, none⟩) l.length capb), (12, .int .i64 ((l.length : Nat) : Int)), (13, .int .i64 ((k : Nat) : Int)), (8, .int .i64 ((n9 : Nat) : Int)), (7, .slice oa os.length oc), (14, .bool (decide (((k : Nat) : Int) < ((l.length : Nat) : Int)))), (15, .pointer (some ⟨b1, of1 + k * 3, none⟩)), (16, .agg #[.int .u64 d9.t, .int .i64 d9.s, .int .u64 d9.q]), (10, .pointer (some ⟨B2, 0, none⟩)), (17, .slice (some ⟨b3, of3, none⟩) ms.length cap), (18, .int .i64 ((ms.length : Nat) : Int)), (19, .bool true), (20, .bool true), (21, .slice (some ⟨b3, of3, none⟩) ms.length cap), (22, .slice (some ⟨b3, of3, none⟩) ms.length cap), (23, .int .i64 ((ms.length : Nat) : Int)), (24, .int .i64 ((ms.length - 1 : Nat) : Int)), (25, .pointer (some ⟨b3, of3 + (ms.length - 1) * 3, none⟩)), (26, .agg #[.int .u64 y9.t, .int .i64 y9.s, .int .u64 y9.q]), (27, .agg #[.int .u64 d9.t, .int .i64 d9.s, .int .u64 d9.q]), (28, .bool true), (29, .bool false), (30, .bool false)] (by kernel_rfl) (allM (all_cons (q_run (.bool false) rfl rfl (wv_y rfl rfl) rfl (fun _ _ hρ _ => r_not (b := true) (hρ _ _ rfl))) (all_cons (q_run (.bool false) rfl rfl (wv_n rfl) rfl (fun _ _ hρ _ => r_pick_t (hρ _ _ rfl) (hρ _ _ rfl))) all_nil))) (end_old rfl rfl (end_old rfl rfl (end_old rfl rfl (end_old rfl rfl (end_old rfl rfl (end_old rfl rfl (end_old rfl rfl (end_old rfl rfl (end_old rfl rfl (end_old rfl rfl (end_old rfl rfl (end_old rfl rfl (end_new 0 rfl rfl (end_new 1 rfl rfl (end_new 2 rfl rfl (end_new 3 rfl rfl (end_new 4 rfl rfl (end_new 5 rfl rfl (end_new 6 rfl rfl (end_new 7 rfl rfl (end_new 8 rfl rfl (end_new 9 rfl rfl (end_new 10 rfl rfl (end_new 11 rfl rfl (end_new 12 rfl rfl (end_new 13 rfl rfl end_nil)))))))))))))))))))))))))) ?_
        refine T_cond_f rfl ?_
        refine T_skip' ?_
        refine p_seq ?_
        refine T_seq (T_region ?_)
        refine TL_q (.int .i64 ((n9 : Nat) : Int)) (fun _ _ hρ _ => r_move (hρ _ _ rfl)) rfl rfl rfl (w_n rfl) ?_
        refine TL_q (.int .i64 ((n9 + 1 : Nat) : Int)) (fun _ _ hρ _ => r_as (r_add (hρ _ _ rfl) (hρ _ _ rfl)) (int_as ((wrap64 (by omega) (by omega)).trans (by omega)))) rfl rfl rfl (w_n rfl) ?_
        refine TL_q (.int .i64 ((n9 + 1 : Nat) : Int)) (fun _ _ hρ _ => r_assign (hρ _ _ rfl)) rfl rfl rfl (w_n rfl) ?_
        refine TL_seq ?_
        by_cases hz : (((n9 + 1) % n : Nat) : Int) = 0
        · skip
          refine T_seq (T_region ?_)
          refine TL_q (.int .i64 ((n9 + 1 : Nat) : Int)) (fun _ _ hρ _ => r_move (hρ _ _ rfl)) rfl rfl rfl (w_n rfl) ?_
          refine TL_q (.int .i64 ((n : Nat) : Int)) (fun _ _ hρ _ => r_move (hρ _ _ rfl)) rfl rfl rfl (w_n rfl) ?_
          refine TL_q (.int .i64 (((n9 + 1) % n : Nat) : Int)) (fun _ _ hρ _ => r_as (r_rem (hρ _ _ rfl) (hρ _ _ rfl) (by omega)) (int_as (Int.ofNat_tmod _ _).symm)) rfl rfl rfl (w_n rfl) ?_
          refine TL_q (.bool true) (fun _ _ hρ _ => r_as (r_eql (hρ _ _ rfl) (hρ _ _ rfl)) (bool_as (decide_eq_true hz))) rfl rfl rfl (w_n rfl) ?_
          refine TL_seq ?_
          refine T_cond_t rfl ?_
          refine T_region ?_
          refine TL_q (.slice oa os.length oc) (fun _ _ hρ _ => r_move (hρ _ _ rfl)) rfl rfl rfl (w_n rfl) ?_
          refine TL_q (.agg #[.int .u64 d9.t, .int .i64 d9.s, .int .u64 d9.q]) (fun _ _ hρ hm => r_loadA ag32 sz32 (hρ _ _ rfl) (hm.at 1 rfl) rfl rfl) rfl rfl rfl (w_n rfl) ?_
          refine TL_new 2 (.cells #[.int .u64 d9.t, .int .i64 d9.s, .int .u64 d9.q] 32) (fun B => .slice (some ⟨B, 0, none⟩) 1 1) (fun _ _ hρ _ => r_buildSlice (vs := [(0, .agg #[.int .u64 d9.t, .int .i64 d9.s, .int .u64 d9.q])]) (by kernel_rfl) (cons2 (pair2 (hρ _ _ rfl)) rfl)) rfl rfl rfl (w_n rfl) ?_
          intro B4
          refine TL_append (n := os.length) (m := 1) (xs := (os.flatMap Tid.cells)) (news := [.int .u64 d9.t, .int .i64 d9.s, .int .u64 d9.q]) (z := .agg #[.int .u64 0, .int .i64 0, .int .u64 0]) 950 rfl rfl rfl sl22 sz32 by32 (by kernel_rfl) rfl rfl (.inl rfl) (fun _ hm => src_blk (news := [.int .u64 d9.t, .int .i64 d9.s, .int .u64 d9.q]) (hm.at 2 rfl) rfl) (by simp [Value.oneCell']) (by omega) (by omega) rfl (w_n rfl) ?_
          intro a5 cap5
          refine TL_q (.slice a5 (os.length + 1) cap5) (fun _ _ hρ _ => r_assign (hρ _ _ rfl)) rfl rfl rfl (w_n rfl) ?_
          refine TL_nil ?_
          refine p_blk_n ?_
          refine p_seq ?_
          refine T_region ?_
          refine TL_q (.int .i64 ((k + 1 : Nat) : Int)) (fun _ _ hρ _ => r_as (r_add (hρ _ _ rfl) (hρ _ _ rfl)) (int_as ((wrap64 (by omega) (by omega)).trans (by omega)))) rfl rfl rfl (w_n rfl) ?_
          refine TL_q (.int .i64 ((k + 1 : Nat) : Int)) (fun _ _ hρ _ => r_move (hρ _ _ rfl)) rfl rfl rfl (w_n rfl) ?_
          refine TL_nil ?_
          have hn6 : (os.length + 1) = (os ++ [d9]).length := by simp
          have hx6 : ((os.flatMap Tid.cells) ++ [.int .u64 d9.t, .int .i64 d9.s, .int .u64 d9.q]) = (os ++ [d9]).flatMap Tid.cells := by simp [Tid.cells]
          rw [hx6, hn6]
          exact p_at (k + 1, n9 + 1, os ++ [d9], a5, cap5) ⟨⟨by omega, by rw [sift_t hd9 (by rw [beh_last' hy9]; exact hly), List.length_append, ← hcn]; rfl, by rw [due_t hd9 (by rw [beh_last' hy9]; exact hly) (by rw [← hcn]; exact Int.natCast_eq_zero.1 hz), ← hos]⟩, by dsimp only; omega⟩ (sub_cons rfl (sub_cons rfl (sub_cons rfl (sub_cons rfl (sub_cons rfl (sub_cons rfl (sub_cons rfl (sub_cons rfl sub_nil)))))))) (sub_cons rfl sub_nil)
        · skip
          refine T_seq (T_region ?_)
          refine TL_q (.int .i64 ((n9 + 1 : Nat) : Int)) (fun _ _ hρ _ => r_move (hρ _ _ rfl)) rfl rfl rfl (w_n rfl) ?_
          refine TL_q (.int .i64 ((n : Nat) : Int)) (fun _ _ hρ _ => r_move (hρ _ _ rfl)) rfl rfl rfl (w_n rfl) ?_
          refine TL_q (.int .i64 (((n9 + 1) % n : Nat) : Int)) (fun _ _ hρ _ => r_as (r_rem (hρ _ _ rfl) (hρ _ _ rfl) (by omega)) (int_as (Int.ofNat_tmod _ _).symm)) rfl rfl rfl (w_n rfl) ?_
          refine TL_q (.bool false) (fun _ _ hρ _ => r_as (r_eql (hρ _ _ rfl) (hρ _ _ rfl)) (bool_as (decide_eq_false hz))) rfl rfl rfl (w_n rfl) ?_
          refine TL_seq ?_
          refine T_cond_f rfl ?_
          refine T_skip' ?_
          refine p_blk_n ?_
          refine p_seq ?_
          refine T_region ?_
          refine TL_q (.int .i64 ((k + 1 : Nat) : Int)) (fun _ _ hρ _ => r_as (r_add (hρ _ _ rfl) (hρ _ _ rfl)) (int_as ((wrap64 (by omega) (by omega)).trans (by omega)))) rfl rfl rfl (w_n rfl) ?_
          refine TL_q (.int .i64 ((k + 1 : Nat) : Int)) (fun _ _ hρ _ => r_move (hρ _ _ rfl)) rfl rfl rfl (w_n rfl) ?_
          refine TL_nil ?_
          exact p_at (k + 1, n9 + 1, os, oa, oc) ⟨⟨by omega, by rw [sift_t hd9 (by rw [beh_last' hy9]; exact hly), List.length_append, ← hcn]; rfl, by rw [due_f hd9 (by rw [beh_last' hy9]; exact hly) (by rw [← hcn]; exact fun e => hz (Int.natCast_eq_zero.2 e))]; exact hos⟩, by dsimp only; omega⟩ (sub_cons rfl (sub_cons rfl (sub_cons rfl (sub_cons rfl (sub_cons rfl (sub_cons rfl (sub_cons rfl (sub_cons rfl sub_nil)))))))) (sub_cons rfl sub_nil)
      · skip
        refine T_seq (T_draw (V := [(0, .slice (some ⟨b3, of3, none⟩) ms.length cap), (1, .int .i64 ((ms.length : Nat) : Int)), (2, .bool true), (3, .bool true), (4, .slice (some ⟨b3, of3, none⟩) ms.length cap), (5, .slice (some ⟨b3, of3, none⟩) ms.length cap), (6, .int .i64 ((ms.length : Nat) : Int)), (7, .int .i64 ((ms.length - 1 : Nat) : Int)), (8, .pointer (some ⟨b3, of3 + (ms.length - 1) * 3, none⟩)), (9, .agg #[.int .u64 y9.t, .int .i64 y9.s, .int .u64 y9.q]), (10, .agg #[.int .u64 d9.t, .int .i64 d9.s, .int .u64 d9.q])]) [0, 1, 3, 7, 15, 15, 47, 111, 255, 511, 15, 2047, 4095, 8191] [[(0, none)], [(17, some 0)], [(18, some 1)], [(19, some 2)], [(0, none)], [(0, none)], [(22, some 5)], [(23, some 6)], [(21, some 4), (24, some 7)], [(25, some 8)], [(10, none)], [(26, some 9), (27, some 10)], [(28, some 11)], [(29, some 12), (20, some 3)]] 2048 mixed (by kernel_rfl) ?_)
        refine G_step [0, 1, 2, 3, 4, 5, 6, 7, 8, 9, 10] 11 [] (by kernel_rfl) (allM (all_cons (q_run (.slice (some ⟨b3, of3, none⟩) ms.length cap) rfl rfl (wv_n rfl) rfl (fun _ _ hρ _ => r_move (hρ _ _ rfl))) (all_cons (q_run (.int .i64 ((ms.length : Nat) : Int)) rfl rfl (wv_n rfl) rfl (fun _ _ hρ _ => r_len sl22 (hρ _ _ rfl))) (all_cons (q_run (.bool true) rfl rfl (wv_n rfl) rfl (fun _ _ hρ _ => r_as (r_gtr (hρ _ _ rfl) (hρ _ _ rfl)) (bool_as (decide_eq_true hzm)))) (all_cons (q_run (.bool true) rfl rfl (wv_n rfl) rfl (fun _ _ hρ _ => r_move (hρ _ _ rfl))) (all_cons (q_run (.slice (some ⟨b3, of3, none⟩) ms.length cap) rfl rfl (wv_y rfl rfl) rfl (fun _ _ hρ _ => r_move (hρ _ _ rfl))) (all_cons (q_run (.slice (some ⟨b3, of3, none⟩) ms.length cap) rfl rfl (wv_y rfl rfl) rfl (fun _ _ hρ _ => r_move (hρ _ _ rfl))) (all_cons (q_run (.int .i64 ((ms.length : Nat) : Int)) rfl rfl (wv_y rfl rfl) rfl (fun _ _ hρ _ => r_len sl22 (hρ _ _ rfl))) (all_cons (q_run (.int .i64 ((ms.length - 1 : Nat) : Int)) rfl rfl (wv_y rfl rfl) rfl (fun _ _ hρ _ => r_as (r_sub (hρ _ _ rfl) (hρ _ _ rfl)) (int_as ((wrap64 (by omega) (by omega)).trans (by omega))))) (all_cons (q_run (.pointer (some ⟨b3, of3 + (ms.length - 1) * 3, none⟩)) rfl rfl (wv_y rfl rfl) rfl (fun _ _ hρ _ => r_indexAddrS (i := ms.length - 1) sl22 sz32 (hρ _ _ rfl) (hρ _ _ rfl) (by omega))) (all_cons (q_run (.agg #[.int .u64 y9.t, .int .i64 y9.s, .int .u64 y9.q]) rfl rfl (wv_y rfl rfl) rfl (fun _ _ hρ hm => r_loadRow (f := Tid.cells) (u := y9) ag32 sz32 (hρ _ _ rfl) (hm.old hq3) hr3 hy9)) (all_cons (q_run (.agg #[.int .u64 d9.t, .int .i64 d9.s, .int .u64 d9.q]) rfl rfl (wv_y rfl rfl) rfl (fun _ _ hρ hm => r_loadA ag32 sz32 (hρ _ _ rfl) (hm.at 1 rfl) rfl rfl)) all_nil)))))))))))) (allM (all_cons ?_ all_nil))
        refine LOb_call (.bool false) [(12, .bool true), (13, .bool true)] rfl (wv_y rfl rfl) rfl rfl (fun _ _ hρ _ => r_call (args := [.agg #[.int .u64 y9.t, .int .i64 y9.s, .int .u64 y9.q], .agg #[.int .u64 d9.t, .int .i64 d9.s, .int .u64 d9.q]]) (enters_of Try.func62 (by kernel_rfl) rfl) (hρ _ _ rfl) ((cons2 (hρ _ _ rfl) (cons2 (hρ _ _ rfl) rfl))) rfl) (fun w _ => (rless_c y9 d9 w).mono fun _ _ h => ⟨h.1.trans (congrArg Ending.returned (bool_as (eq_false_of_ne_true hly))), h.2⟩) (by kernel_rfl) ?_
        refine G_last [12, 13] [(0, .slice (some ⟨b3, of3, none⟩) ms.length cap), (2, .int .i64 ((n : Nat) : Int)), (6, .slice none 0 0), (11, .slice (some ⟨b1, of1, none⟩) l.length capb), (12, .int .i64 ((l.length : Nat) : Int)), (13, .int .i64 ((k : Nat) : Int)), (8, .int .i64 ((n9 : Nat) : Int)), (7, .slice oa os.length oc), (14, .bool (decide (((k : Nat) : Int) < ((l.length : Nat) : Int)))), (15, .pointer (some ⟨b1, of1 + k * 3, none⟩)), (16, .agg #[.int .u64 d9.t, .int .i64 d9.s, .int .u64 d9.q]), (10, .pointer (some ⟨B2, 0, none⟩)), (17, .slice (some ⟨b3, of3, none⟩) ms.length cap), (18, .int .i64 ((ms.length : Nat) : Int)), (19, .bool true), (20, .bool true), (21, .slice (some ⟨b3, of3, none⟩) ms.length cap), (22, .slice (some ⟨b3, of3, none⟩) ms.length cap), (23, .int .i64 ((ms.length : Nat) : Int)), (24, .int .i64 ((ms.length - 1 : Nat) : Int)), (25, .pointer (some ⟨b3, of3 + (ms.length - 1) * 3, none⟩)), (26, .agg #[.int .u64 y9.t, .int .i64 y9.s, .int .u64 y9.q]), (27, .agg #[.int .u64 d9.t, .int .i64 d9.s, .int .u64 d9.q]), (28, .bool false), (29, .bool true), (30, .bool true)] (by kernel_rfl) (allM (all_cons (q_run (.bool true) rfl rfl (wv_y rfl rfl) rfl (fun _ _ hρ _ => r_not (b := false) (hρ _ _ rfl))) (all_cons (q_run (.bool true) rfl rfl (wv_n rfl) rfl (fun _ _ hρ _ => r_pick_t (hρ _ _ rfl) (hρ _ _ rfl))) all_nil))) (end_old rfl rfl (end_old rfl rfl (end_old rfl rfl (end_old rfl rfl (end_old rfl rfl (end_old rfl rfl (end_old rfl rfl (end_old rfl rfl (end_old rfl rfl (end_old rfl rfl (end_old rfl rfl (end_old rfl rfl (end_new 0 rfl rfl (end_new 1 rfl rfl (end_new 2 rfl rfl (end_new 3 rfl rfl (end_new 4 rfl rfl (end_new 5 rfl rfl (end_new 6 rfl rfl (end_new 7 rfl rfl (end_new 8 rfl rfl (end_new 9 rfl rfl (end_new 10 rfl rfl (end_new 11 rfl rfl (end_new 12 rfl rfl (end_new 13 rfl rfl end_nil)))))))))))))))))))))))))) ?_
        refine T_cond_t rfl ?_
        refine T_exit' ?_
        refine p_then_x ?_
        refine p_blk_x ?_
        refine p_seq ?_
        refine T_region ?_
        refine TL_q (.int .i64 ((k + 1 : Nat) : Int)) (fun _ _ hρ _ => r_as (r_add (hρ _ _ rfl) (hρ _ _ rfl)) (int_as ((wrap64 (by omega) (by omega)).trans (by omega)))) rfl rfl rfl (w_n rfl) ?_
        refine TL_q (.int .i64 ((k + 1 : Nat) : Int)) (fun _ _ hρ _ => r_move (hρ _ _ rfl)) rfl rfl rfl (w_n rfl) ?_
        refine TL_nil ?_
        exact p_at (k + 1, n9, os, oa, oc) ⟨⟨by omega, by rw [sift_f hd9 (by rw [beh_last' hy9]; exact eq_false_of_ne_true hly)]; exact ⟨hcn, hos⟩⟩, by dsimp only; omega⟩ (sub_cons rfl (sub_cons rfl (sub_cons rfl (sub_cons rfl (sub_cons rfl (sub_cons rfl (sub_cons rfl (sub_cons rfl sub_nil)))))))) (sub_cons rfl sub_nil)
    · skip
      refine T_seq (T_draw (V := [(0, .slice a ms.length cap), (1, .int .i64 ((ms.length : Nat) : Int)), (2, .bool false), (3, .bool false), (4, undef), (5, undef), (6, undef), (7, undef), (8, undef), (9, undef), (10, undef), (11, undef), (12, undef), (13, .bool false)]) [0, 1, 3, 7, 15, 15, 47, 111, 255, 511, 15, 2047, 4095, 8191] [[(0, none)], [(17, some 0)], [(18, some 1)], [(19, some 2)], [(0, none)], [(0, none)], [(22, some 5)], [(23, some 6)], [(21, some 4), (24, some 7)], [(25, some 8)], [(10, none)], [(26, some 9), (27, some 10)], [(28, some 11)], [(29, some 12), (20, some 3)]] 0 mixed (by kernel_rfl) ?_)
      refine G_last [0, 1, 2, 3, 4, 5, 6, 7, 8, 9, 10, 11, 12, 13] [(0, .slice a ms.length cap), (2, .int .i64 ((n : Nat) : Int)), (6, .slice none 0 0), (11, .slice (some ⟨b1, of1, none⟩) l.length capb), (12, .int .i64 ((l.length : Nat) : Int)), (13, .int .i64 ((k : Nat) : Int)), (8, .int .i64 ((n9 : Nat) : Int)), (7, .slice oa os.length oc), (14, .bool (decide (((k : Nat) : Int) < ((l.length : Nat) : Int)))), (15, .pointer (some ⟨b1, of1 + k * 3, none⟩)), (16, .agg #[.int .u64 d9.t, .int .i64 d9.s, .int .u64 d9.q]), (10, .pointer (some ⟨B2, 0, none⟩)), (17, .slice a ms.length cap), (18, .int .i64 ((ms.length : Nat) : Int)), (19, .bool false), (20, .bool false), (21, undef), (22, undef), (23, undef), (24, undef), (25, undef), (26, undef), (27, undef), (28, undef), (29, undef), (30, .bool false)] (by kernel_rfl) (allM (all_cons (q_run (.slice a ms.length cap) rfl rfl (wv_n rfl) rfl (fun _ _ hρ _ => r_move (hρ _ _ rfl))) (all_cons (q_run (.int .i64 ((ms.length : Nat) : Int)) rfl rfl (wv_n rfl) rfl (fun _ _ hρ _ => r_len sl22 (hρ _ _ rfl))) (all_cons (q_run (.bool false) rfl rfl (wv_n rfl) rfl (fun _ _ hρ _ => r_as (r_gtr (hρ _ _ rfl) (hρ _ _ rfl)) (bool_as (decide_eq_false hzm)))) (all_cons (q_run (.bool false) rfl rfl (wv_n rfl) rfl (fun _ _ hρ _ => r_move (hρ _ _ rfl))) (all_cons (q_no rfl rfl (wv_no rfl rfl)) (all_cons (q_no rfl rfl (wv_no rfl rfl)) (all_cons (q_no rfl rfl (wv_no rfl rfl)) (all_cons (q_no rfl rfl (wv_no rfl rfl)) (all_cons (q_no rfl rfl (wv_no rfl rfl)) (all_cons (q_no rfl rfl (wv_no rfl rfl)) (all_cons (q_no rfl rfl (wv_no rfl rfl)) (all_cons (q_no rfl rfl (wv_no rfl rfl)) (all_cons (q_no rfl rfl (wv_no rfl rfl)) (all_cons (q_run (.bool false) rfl rfl (wv_n rfl) rfl (fun _ _ hρ _ => r_pick_f (hρ _ _ rfl) (hρ _ _ rfl))) all_nil))))))))))))))) (end_old rfl rfl (end_old rfl rfl (end_old rfl rfl (end_old rfl rfl (end_old rfl rfl (end_old rfl rfl (end_old rfl rfl (end_old rfl rfl (end_old rfl rfl (end_old rfl rfl (end_old rfl rfl (end_old rfl rfl (end_new 0 rfl rfl (end_new 1 rfl rfl (end_new 2 rfl rfl (end_new 3 rfl rfl (end_new 4 rfl rfl (end_new 5 rfl rfl (end_new 6 rfl rfl (end_new 7 rfl rfl (end_new 8 rfl rfl (end_new 9 rfl rfl (end_new 10 rfl rfl (end_new 11 rfl rfl (end_new 12 rfl rfl (end_new 13 rfl rfl end_nil)))))))))))))))))))))))))) ?_
      refine T_cond_f rfl ?_
      refine T_skip' ?_
      refine p_seq ?_
      refine T_seq (T_region ?_)
      refine TL_q (.int .i64 ((n9 : Nat) : Int)) (fun _ _ hρ _ => r_move (hρ _ _ rfl)) rfl rfl rfl (w_n rfl) ?_
      refine TL_q (.int .i64 ((n9 + 1 : Nat) : Int)) (fun _ _ hρ _ => r_as (r_add (hρ _ _ rfl) (hρ _ _ rfl)) (int_as ((wrap64 (by omega) (by omega)).trans (by omega)))) rfl rfl rfl (w_n rfl) ?_
      refine TL_q (.int .i64 ((n9 + 1 : Nat) : Int)) (fun _ _ hρ _ => r_assign (hρ _ _ rfl)) rfl rfl rfl (w_n rfl) ?_
      refine TL_seq ?_
      by_cases hz : (((n9 + 1) % n : Nat) : Int) = 0
      · skip
        refine T_seq (T_region ?_)
        refine TL_q (.int .i64 ((n9 + 1 : Nat) : Int)) (fun _ _ hρ _ => r_move (hρ _ _ rfl)) rfl rfl rfl (w_n rfl) ?_
        refine TL_q (.int .i64 ((n : Nat) : Int)) (fun _ _ hρ _ => r_move (hρ _ _ rfl)) rfl rfl rfl (w_n rfl) ?_
        refine TL_q (.int .i64 (((n9 + 1) % n : Nat) : Int)) (fun _ _ hρ _ => r_as (r_rem (hρ _ _ rfl) (hρ _ _ rfl) (by omega)) (int_as (Int.ofNat_tmod _ _).symm)) rfl rfl rfl (w_n rfl) ?_
        refine TL_q (.bool true) (fun _ _ hρ _ => r_as (r_eql (hρ _ _ rfl) (hρ _ _ rfl)) (bool_as (decide_eq_true hz))) rfl rfl rfl (w_n rfl) ?_
        refine TL_seq ?_
        refine T_cond_t rfl ?_
        refine T_region ?_
        refine TL_q (.slice oa os.length oc) (fun _ _ hρ _ => r_move (hρ _ _ rfl)) rfl rfl rfl (w_n rfl) ?_
        refine TL_q (.agg #[.int .u64 d9.t, .int .i64 d9.s, .int .u64 d9.q]) (fun _ _ hρ hm => r_loadA ag32 sz32 (hρ _ _ rfl) (hm.at 1 rfl) rfl rfl) rfl rfl rfl (w_n rfl) ?_
        refine TL_new 3 (.cells #[.int .u64 d9.t, .int .i64 d9.s, .int .u64 d9.q] 32) (fun B => .slice (some ⟨B, 0, none⟩) 1 1) (fun _ _ hρ _ => r_buildSlice (vs := [(0, .agg #[.int .u64 d9.t, .int .i64 d9.s, .int .u64 d9.q])]) (by kernel_rfl) (cons2 (pair2 (hρ _ _ rfl)) rfl)) rfl rfl rfl (w_n rfl) ?_
        intro B7
        refine TL_append (n := os.length) (m := 1) (xs := (os.flatMap Tid.cells)) (news := [.int .u64 d9.t, .int .i64 d9.s, .int .u64 d9.q]) (z := .agg #[.int .u64 0, .int .i64 0, .int .u64 0]) 950 rfl rfl rfl sl22 sz32 by32 (by kernel_rfl) rfl rfl (.inl rfl) (fun _ hm => src_blk (news := [.int .u64 d9.t, .int .i64 d9.s, .int .u64 d9.q]) (hm.at 3 rfl) rfl) (by simp [Value.oneCell']) (by omega) (by omega) rfl (w_n rfl) ?_
        intro a8 cap8
        refine TL_q (.slice a8 (os.length + 1) cap8) (fun _ _ hρ _ => r_assign (hρ _ _ rfl)) rfl rfl rfl (w_n rfl) ?_
        refine TL_nil ?_
        refine p_blk_n ?_
        refine p_seq ?_
        refine T_region ?_
        refine TL_q (.int .i64 ((k + 1 : Nat) : Int)) (fun _ _ hρ _ => r_as (r_add (hρ _ _ rfl) (hρ _ _ rfl)) (int_as ((wrap64 (by omega) (by omega)).trans (by omega)))) rfl rfl rfl (w_n rfl) ?_
        refine TL_q (.int .i64 ((k + 1 : Nat) : Int)) (fun _ _ hρ _ => r_move (hρ _ _ rfl)) rfl rfl rfl (w_n rfl) ?_
        refine TL_nil ?_
        have hn9 : (os.length + 1) = (os ++ [d9]).length := by simp
        have hx9 : ((os.flatMap Tid.cells) ++ [.int .u64 d9.t, .int .i64 d9.s, .int .u64 d9.q]) = (os ++ [d9]).flatMap Tid.cells := by simp [Tid.cells]
        rw [hx9, hn9]
        exact p_at (k + 1, n9 + 1, os ++ [d9], a8, cap8) ⟨⟨by omega, by rw [sift_t hd9 (beh_z' (by omega)), List.length_append, ← hcn]; rfl, by rw [due_t hd9 (beh_z' (by omega)) (by rw [← hcn]; exact Int.natCast_eq_zero.1 hz), ← hos]⟩, by dsimp only; omega⟩ (sub_cons rfl (sub_cons rfl (sub_cons rfl (sub_cons rfl (sub_cons rfl (sub_cons rfl (sub_cons rfl (sub_cons rfl sub_nil)))))))) (sub_cons rfl sub_nil)
      · skip
        refine T_seq (T_region ?_)
        refine TL_q (.int .i64 ((n9 + 1 : Nat) : Int)) (fun _ _ hρ _ => r_move (hρ _ _ rfl)) rfl rfl rfl (w_n rfl) ?_
        refine TL_q (.int .i64 ((n : Nat) : Int)) (fun _ _ hρ _ => r_move (hρ _ _ rfl)) rfl rfl rfl (w_n rfl) ?_
        refine TL_q (.int .i64 (((n9 + 1) % n : Nat) : Int)) (fun _ _ hρ _ => r_as (r_rem (hρ _ _ rfl) (hρ _ _ rfl) (by omega)) (int_as (Int.ofNat_tmod _ _).symm)) rfl rfl rfl (w_n rfl) ?_
        refine TL_q (.bool false) (fun _ _ hρ _ => r_as (r_eql (hρ _ _ rfl) (hρ _ _ rfl)) (bool_as (decide_eq_false hz))) rfl rfl rfl (w_n rfl) ?_
        refine TL_seq ?_
        refine T_cond_f rfl ?_
        refine T_skip' ?_
        refine p_blk_n ?_
        refine p_seq ?_
        refine T_region ?_
        refine TL_q (.int .i64 ((k + 1 : Nat) : Int)) (fun _ _ hρ _ => r_as (r_add (hρ _ _ rfl) (hρ _ _ rfl)) (int_as ((wrap64 (by omega) (by omega)).trans (by omega)))) rfl rfl rfl (w_n rfl) ?_
        refine TL_q (.int .i64 ((k + 1 : Nat) : Int)) (fun _ _ hρ _ => r_move (hρ _ _ rfl)) rfl rfl rfl (w_n rfl) ?_
        refine TL_nil ?_
        exact p_at (k + 1, n9 + 1, os, oa, oc) ⟨⟨by omega, by rw [sift_t hd9 (beh_z' (by omega)), List.length_append, ← hcn]; rfl, by rw [due_f hd9 (beh_z' (by omega)) (by rw [← hcn]; exact fun e => hz (Int.natCast_eq_zero.2 e))]; exact hos⟩, by dsimp only; omega⟩ (sub_cons rfl (sub_cons rfl (sub_cons rfl (sub_cons rfl (sub_cons rfl (sub_cons rfl (sub_cons rfl (sub_cons rfl sub_nil)))))))) (sub_cons rfl sub_nil)
  · replace h1 := of_decide_eq_false h1
    refine T_exit' ?_
    refine p_then_x ?_
    refine p_then_x ?_
    refine p_blk_x ?_
    refine p_seq ?_
    refine T_seq (T_region ?_)
    refine TL_q (.slice oa os.length oc) (fun _ _ hρ _ => r_move (hρ _ _ rfl)) rfl rfl rfl (w_n rfl) ?_
    refine TL_q (.slice oa os.length oc) (fun _ _ hρ _ => r_assign (hρ _ _ rfl)) rfl rfl rfl (w_n rfl) ?_
    refine TL_seq ?_
    refine T_ret' ?_
    refine ret_of rfl (.slice oa os.length oc) (fun tmps w hk hm => res1 rfl (res_tmp (hk 6 _ rfl))) (fun w hm => ?_)
    have hke : k = l.length := by omega
    subst hke
    rw [List.take_length] at hos
    exact ⟨oa, oc, by rw [hos]; rfl, hm.ext, by have h9 := hm.row 950 rfl; rw [hos] at h9; exact h9⟩

theorem from_c (b n : Nat) (w : World) (hb : b ≤ 1000) (hn : n ≤ 1000) : Calls Try.prog 18 #[.int .i64 (b : Int), .int .i64 (n : Int)] w fun e w' => ∃ a' cap', e = .returned (.slice a' (rangeF b n).length cap') ∧ Below w.heap.size w w' ∧ w'.ownsRow w.heap.size 3 1 (.slice a' (rangeF b n).length cap') (rangeF b n).length ((rangeF b n).flatMap inc) := by
  refine calls_of_T (l := [.int .i64 ((b : Nat) : Int), .int .i64 ((n : Nat) : Int)]) 19 Try.func18 rfl rfl rfl ?_
  show T _ _ _ [(0, .int .i64 ((b : Nat) : Int)), (1, .int .i64 ((n : Nat) : Int))] []
  refine T_seq (T_region ?_)
  refine TL_q (.slice none 0 0) (fun _ _ hρ _ => r_assign (hρ _ _ rfl)) rfl rfl rfl (w_n rfl) ?_
  refine TL_seq ?_
  refine T_seq (T_region ?_)
  refine TL_q (.slice none 0 0) (fun _ _ hρ _ => r_assign (hρ _ _ rfl)) rfl rfl rfl (w_n rfl) ?_
  refine TL_seq ?_
  refine T_seq ?_
  refine T_mem (_ :: _) (fun _ hm => hm.nilRow 950 3 1) ?_
  refine T_seq (T_region ?_)
  refine TL_q (.int .i64 ((n : Nat) : Int)) (fun _ _ hρ _ => r_move (hρ _ _ rfl)) rfl rfl rfl (w_n rfl) ?_
  refine TL_q (.int .i64 0) (fun _ _ hρ _ => r_move (hρ _ _ rfl)) rfl rfl rfl (w_n rfl) ?_
  refine TL_seq ?_
  refine T_block ?_
  refine T_loop (ι := Nat × List Int × Option Addr × Nat) (fun (z : Nat × List Int × Option Addr × Nat) => match z with | (k, os, oa, oc) => k ≤ n ∧ os = rangeF b k) (fun (z : Nat × List Int × Option Addr × Nat) => match z with | (k, os, oa, oc) => [(0, .int .i64 ((b : Nat) : Int)), (4, .slice none 0 0), (7, .int .i64 ((n : Nat) : Int)), (8, .int .i64 ((k : Nat) : Int)), (5, .slice oa os.length oc)]) (fun (z : Nat × List Int × Option Addr × Nat) => match z with | (k, os, oa, oc) => [(950, .row (.slice oa os.length oc) 3 1 os.length (os.flatMap inc))]) (fun (z : Nat × List Int × Option Addr × Nat) => match z with | (k, os, oa, oc) => n - k) (0, [], none, 0) ⟨Nat.zero_le _, rfl⟩ (sub_cons rfl (sub_cons rfl (sub_cons rfl (sub_cons rfl (sub_cons rfl sub_nil))))) (sub_cons rfl sub_nil) ?_
  rintro ⟨k, os, oa, oc⟩ hp
  obtain ⟨hk, hos⟩ := hp
  have hol : os.length = k := by rw [hos, rangeF_len]
  show T _ _ _ [(0, .int .i64 ((b : Nat) : Int)), (4, .slice none 0 0), (7, .int .i64 ((n : Nat) : Int)), (8, .int .i64 ((k : Nat) : Int)), (5, .slice oa os.length oc)] [(950, .row (.slice oa os.length oc) 3 1 os.length (os.flatMap inc))]
  refine T_seq (T_region ?_)
  refine TL_q (.bool (decide (((k : Nat) : Int) < ((n : Nat) : Int)))) (fun _ _ hρ _ => r_lss (hρ _ _ rfl) (hρ _ _ rfl)) rfl rfl rfl (w_n rfl) ?_
  refine TL_seq ?_
  refine T_seq ?_
  refine T_cond rfl (fun h1 => ?_) (fun h1 => ?_)
  · replace h1 := of_decide_eq_true h1
    refine T_skip' ?_
    refine p_seq ?_
    refine T_seq ?_
    refine T_block ?_
    refine T_seq (T_region ?_)
    refine TL_q (.int .i64 ((k : Nat) : Int)) (fun _ _ hρ _ => r_move (hρ _ _ rfl)) rfl rfl rfl (w_n rfl) ?_
    refine TL_q (.int .i64 ((k : Nat) : Int)) (fun _ _ hρ _ => r_assign (hρ _ _ rfl)) rfl rfl rfl (w_n rfl) ?_
    refine TL_seq ?_
    refine T_region ?_
    refine TL_q (.slice oa os.length oc) (fun _ _ hρ _ => r_move (hρ _ _ rfl)) rfl rfl rfl (w_n rfl) ?_
    refine TL_q (.int .i64 ((b : Nat) : Int)) (fun _ _ hρ _ => r_move (hρ _ _ rfl)) rfl rfl rfl (w_n rfl) ?_
    refine TL_q (.int .i64 ((k : Nat) : Int)) (fun _ _ hρ _ => r_move (hρ _ _ rfl)) rfl rfl rfl (w_n rfl) ?_
    refine TL_q (.int .i64 ((b + k : Nat) : Int)) (fun _ _ hρ _ => r_as (r_add (hρ _ _ rfl) (hρ _ _ rfl)) (int_as ((wrap64 (by omega) (by omega)).trans (by omega)))) rfl rfl rfl (w_n rfl) ?_
    refine TL_new 1 (.cells #[.int .i64 ((b + k : Nat) : Int)] 3) (fun B => .slice (some ⟨B, 0, none⟩) 1 1) (fun _ _ hρ _ => r_buildSlice (vs := [(0, .int .i64 ((b + k : Nat) : Int))]) (by kernel_rfl) (cons2 (pair2 (hρ _ _ rfl)) rfl)) rfl rfl rfl (w_n rfl) ?_
    intro B1
    refine TL_append (n := os.length) (m := 1) (xs := (os.flatMap inc)) (news := [.int .i64 ((b + k : Nat) : Int)]) (z := .int .i64 0) 950 rfl rfl rfl sl43 sz3 by3 (by kernel_rfl) rfl rfl (.inl rfl) (fun _ hm => src_blk (news := [.int .i64 ((b + k : Nat) : Int)]) (hm.at 1 rfl) rfl) (by simp [Value.oneCell']) (by omega) (by omega) rfl (w_n rfl) ?_
    intro a2 cap2
    refine TL_q (.slice a2 (os.length + 1) cap2) (fun _ _ hρ _ => r_assign (hρ _ _ rfl)) rfl rfl rfl (w_n rfl) ?_
    refine TL_nil ?_
    refine p_blk_n ?_
    refine p_seq ?_
    refine T_region ?_
    refine TL_q (.int .i64 ((k + 1 : Nat) : Int)) (fun _ _ hρ _ => r_as (r_add (hρ _ _ rfl) (hρ _ _ rfl)) (int_as ((wrap64 (by omega) (by omega)).trans (by omega)))) rfl rfl rfl (w_n rfl) ?_
    refine TL_q (.int .i64 ((k + 1 : Nat) : Int)) (fun _ _ hρ _ => r_move (hρ _ _ rfl)) rfl rfl rfl (w_n rfl) ?_
    refine TL_nil ?_
    have hn3 : (os.length + 1) = (os ++ [((b + k : Nat) : Int)]).length := by simp
    have hx3 : ((os.flatMap inc) ++ [.int .i64 ((b + k : Nat) : Int)]) = (os ++ [((b + k : Nat) : Int)]).flatMap inc := by simp [inc]
    rw [hx3, hn3]
    exact p_at (k + 1, os ++ [((b + k : Nat) : Int)], a2, cap2) ⟨⟨by omega, by rw [rangeF_step, ← hos]⟩, by dsimp only; omega⟩ (sub_cons rfl (sub_cons rfl (sub_cons rfl (sub_cons rfl (sub_cons rfl sub_nil))))) (sub_cons rfl sub_nil)
  · replace h1 := of_decide_eq_false h1
    refine T_exit' ?_
    refine p_then_x ?_
    refine p_then_x ?_
    refine p_blk_x ?_
    refine p_seq ?_
    refine T_seq (T_region ?_)
    refine TL_q (.slice oa os.length oc) (fun _ _ hρ _ => r_move (hρ _ _ rfl)) rfl rfl rfl (w_n rfl) ?_
    refine TL_q (.slice oa os.length oc) (fun _ _ hρ _ => r_assign (hρ _ _ rfl)) rfl rfl rfl (w_n rfl) ?_
    refine TL_seq ?_
    refine T_ret' ?_
    refine ret_of rfl (.slice oa os.length oc) (fun tmps w hk hm => res1 rfl (res_tmp (hk 4 _ rfl))) (fun w hm => ?_)
    have hke : k = n := by omega
    subst hke
    subst hos
    exact ⟨oa, oc, rfl, hm.ext, hm.row 950 rfl⟩

theorem shows_c (ms : List Mk) (a : Option Addr) (cap : Nat) (l : List Tid) (b : Option Addr) (capb : Nat) (ns : List Int) (d : Option Addr) (capd : Nat) (w : World) (hv : SliceAt w a cap 4 Mk.cells ms) (hcap : cap ≤ Go.maxLen) (hu : SliceAt w b capb 3 Tid.cells l) (hcapb : capb ≤ Go.maxLen) (hn : SliceAt w d capd 1 inc ns) (hcapd : capd ≤ Go.maxLen) (hmk : marksB ms = true) (hil : idsM ms = l) (hln : ns.length = ms.length) (hpn : PaintN w ms ns) : Calls Try.prog 22 #[.slice a ms.length cap, .slice b l.length capb, .slice d ns.length capd] w fun e w' => e = .returned (.bool true) ∧ Below w.heap.size w w' := by
  have hvl := hv.1
  unfold Go.maxLen at hcap
  have hm6 := (marksB_iff.1 hmk).2.2
  have hul := hu.1
  have hnl := hn.1
  have hll : l.length = ms.length := by rw [← hil, ids_len]
  unfold Go.maxLen at hcapb hcapd
  refine calls_of_T (l := [.slice a ms.length cap, .slice b l.length capb, .slice d ns.length capd]) 46 Try.func22 rfl rfl rfl ?_
  show T _ _ _ [(0, .slice a ms.length cap), (1, .slice b l.length capb), (2, .slice d ns.length capd)] []
  refine T_seq (T_region ?_)
  refine TL_q (.bool false) (fun _ _ hρ _ => r_assign (hρ _ _ rfl)) rfl rfl rfl (w_n rfl) ?_
  refine TL_seq ?_
  refine T_seq ?_
  refine T_seq (T_region ?_)
  refine TL_q (.slice a ms.length cap) (fun _ _ hρ _ => r_move (hρ _ _ rfl)) rfl rfl rfl (w_n rfl) ?_
  refine TL_callN (fun (_ : Option Addr × Nat) => True) (fun (ar1, cr1) => .slice ar1 ((idsM ms).length) cr1) (fun (ar1, cr1) => [(1, .row (.slice ar1 ((idsM ms).length) cr1) 32 3 ((idsM ms).length) ((idsM ms).flatMap Tid.cells))]) (fun _ _ hρ _ => r_call (args := [.slice a ms.length cap]) (enters_of Try.func34 (by kernel_rfl) rfl) (hρ _ _ rfl) ((cons2 (hρ _ _ rfl) rfl)) rfl) (fun w hm => (ids_ok ms a cap w (hv.keep hm.ext) hcap hmk).mono fun e w' ⟨a', cap', he, hb, hr⟩ => ⟨(a', cap'), trivial, he, hb, newOk1 1 hr⟩) rfl rfl rfl (w_n rfl) ?_
  rintro ⟨ar1, cr1⟩ -
  refine TL_q (.slice b l.length capb) (fun _ _ hρ _ => r_move (hρ _ _ rfl)) rfl rfl rfl (w_n rfl) ?_
  refine TL_call (.bool true) (fun _ _ hρ _ => r_call (args := [.slice ar1 ((idsM ms).length) cr1, .slice b l.length capb]) (enters_of Try.func33 (by kernel_rfl) rfl) (hρ _ _ rfl) ((cons2 (hρ _ _ rfl) (cons2 (hρ _ _ rfl) rfl))) rfl) (fun w hm => (equal_i (idsM ms) l ar1 b cr1 capb w (SliceAt.own Tid.cells_len (hm.row 1 rfl) rfl rfl) (hu.keep hm.ext) (by rw [ids_len]; omega) (by omega)).mono fun _ _ h => ⟨h.1.trans (congrArg Ending.returned (bool_as (decide_eq_true hil))), h.2⟩) rfl rfl rfl (w_n rfl) ?_
  refine TL_q (.bool false) (fun _ _ hρ _ => r_not (b := true) (hρ _ _ rfl)) rfl rfl rfl (w_n rfl) ?_
  refine TL_q (.bool false) (fun _ _ hρ _ => r_move (hρ _ _ rfl)) rfl rfl rfl (w_n rfl) ?_
  refine TL_q (.slice a ms.length cap) (fun _ _ hρ _ => r_move (hρ _ _ rfl)) rfl rfl rfl (want_y 14 rfl rfl rfl) ?_
  refine TL_q (.int .i64 ((ms.length : Nat) : Int)) (fun _ _ hρ _ => r_len sl25 (hρ _ _ rfl)) rfl rfl rfl (want_y 14 rfl rfl rfl) ?_
  refine TL_q (.slice d ns.length capd) (fun _ _ hρ _ => r_move (hρ _ _ rfl)) rfl rfl rfl (want_y 14 rfl rfl rfl) ?_
  refine TL_q (.int .i64 ((ns.length : Nat) : Int)) (fun _ _ hρ _ => r_len sl43 (hρ _ _ rfl)) rfl rfl rfl (want_y 14 rfl rfl rfl) ?_
  refine TL_q (.bool false) (fun _ _ hρ _ => r_as (r_neq (hρ _ _ rfl) (hρ _ _ rfl)) (bool_as (by rw [decide_eq_true (by omega)]; rfl))) rfl rfl rfl (want_y 14 rfl rfl rfl) ?_
  refine TL_q (.bool false) (fun _ _ hρ _ => r_pick_f (hρ _ _ rfl) (hρ _ _ rfl)) rfl rfl rfl (w_n rfl) ?_
  refine TL_seq ?_
  refine T_cond_f rfl ?_
  refine T_skip' ?_
  refine p_seq ?_
  refine T_seq ?_
  refine T_seq (T_region ?_)
  refine TL_q (.slice d ns.length capd) (fun _ _ hρ _ => r_move (hρ _ _ rfl)) rfl rfl rfl (w_n rfl) ?_
  refine TL_q (.int .i64 ((ns.length : Nat) : Int)) (fun _ _ hρ _ => r_len sl43 (hρ _ _ rfl)) rfl rfl rfl (w_n rfl) ?_
  refine TL_q (.int .i64 0) (fun _ _ hρ _ => r_move (hρ _ _ rfl)) rfl rfl rfl (w_n rfl) ?_
  refine TL_seq ?_
  refine T_block ?_
  refine T_loop (ι := Nat) (fun (k : Nat) => k ≤ ns.length) (fun (k : Nat) => [(0, .slice a ms.length cap), (21, .slice d ns.length capd), (22, .int .i64 ((ns.length : Nat) : Int)), (23, .int .i64 ((k : Nat) : Int))]) (fun (k : Nat) => [(1, .row (.slice ar1 ((idsM ms).length) cr1) 32 3 ((idsM ms).length) ((idsM ms).flatMap Tid.cells))]) (fun (k : Nat) => ns.length - k) 0 (Nat.zero_le _) (sub_cons rfl (sub_cons rfl (sub_cons rfl (sub_cons rfl sub_nil)))) (sub_cons rfl sub_nil) ?_
  rintro k hp
  have hk := hp
  show T _ _ _ [(0, .slice a ms.length cap), (21, .slice d ns.length capd), (22, .int .i64 ((ns.length : Nat) : Int)), (23, .int .i64 ((k : Nat) : Int))] [(1, .row (.slice ar1 ((idsM ms).length) cr1) 32 3 ((idsM ms).length) ((idsM ms).flatMap Tid.cells))]
  refine T_seq (T_region ?_)
  refine TL_q (.bool (decide (((k : Nat) : Int) < ((ns.length : Nat) : Int)))) (fun _ _ hρ _ => r_lss (hρ _ _ rfl) (hρ _ _ rfl)) rfl rfl rfl (w_n rfl) ?_
  refine TL_seq ?_
  refine T_seq ?_
  refine T_cond rfl (fun h1 => ?_) (fun h1 => ?_)
  · replace h1 := of_decide_eq_true h1
    refine T_skip' ?_
    refine p_seq ?_
    refine T_seq ?_
    refine T_block ?_
    obtain ⟨x9, hx9⟩ : ∃ x, ns[k]? = some x := ⟨_, List.getElem?_eq_getElem (by omega)⟩
    obtain ⟨b2, of2, cs2, T2, fz2, ha2, hq2, hr2⟩ := hn.open (i := k) (by omega)
    subst ha2
    refine T_seq (T_region ?_)
    refine TL_q (.int .i64 ((k : Nat) : Int)) (fun _ _ hρ _ => r_move (hρ _ _ rfl)) rfl rfl rfl (w_n rfl) ?_
    refine TL_q (.pointer (some ⟨b2, of2 + k * 1, none⟩)) (fun _ _ hρ _ => r_indexAddrS (i := k) sl43 sz3 (hρ _ _ rfl) (hρ _ _ rfl) (by omega)) rfl rfl rfl (w_n rfl) ?_
    refine TL_q (.int .i64 x9) (fun _ _ hρ hm => r_loadRow1 (f := inc) (u := x9) ag3 (hρ _ _ rfl) (hm.old hq2) hr2 hx9 rfl) rfl rfl rfl (w_n rfl) ?_
    refine TL_q (.int .i64 ((k : Nat) : Int)) (fun _ _ hρ _ => r_assign (hρ _ _ rfl)) rfl rfl rfl (w_n rfl) ?_
    refine TL_q (.int .i64 x9) (fun _ _ hρ _ => r_assign (hρ _ _ rfl)) rfl rfl rfl (w_n rfl) ?_
    refine TL_seq ?_
    obtain ⟨m9, hm9⟩ : ∃ x, ms[k]? = some x := ⟨_, List.getElem?_eq_getElem (by omega)⟩
    obtain ⟨cp, hcp1, hcp2, hcp3⟩ := hpn k m9 x9 hm9 hx9
    obtain ⟨b3, of3, cs3, T3, fz3, ha3, hq3, hr3⟩ := hv.open (i := k) (by omega)
    subst ha3
    refine T_mem (_ :: _) (fun _ hm => hm.cvs0 960) ?_
    refine T_seq (T_draw (V := [(0, .slice (some ⟨b3, of3, none⟩) ms.length cap), (1, .int .i64 ((k : Nat) : Int)), (2, .pointer (some ⟨b3, of3 + k * 4, none⟩)), (3, .pointer (some ⟨b3, of3 + k * 4 + 3, none⟩)), (4, .pointer m9.ptr), (5, .bool false), (6, .bool false), (7, .slice (some ⟨b3, of3, none⟩) ms.length cap), (8, .int .i64 ((k : Nat) : Int)), (9, .pointer (some ⟨b3, of3 + k * 4, none⟩)), (10, .pointer (some ⟨b3, of3 + k * 4 + 3, none⟩)), (11, .pointer m9.ptr), (12, .int .i64 x9)]) [0, 0, 3, 7, 15, 31, 63, 127, 127, 511, 1023, 2047, 127, 4223, 16383, 32767, 65535] [[(0, none)], [(7, none)], [(28, some 0), (29, some 1)], [(30, some 2)], [(31, some 3)], [(32, some 4)], [(33, some 5)], [(0, none)], [(7, none)], [(35, some 7), (36, some 8)], [(37, some 9)], [(38, some 10)], [(8, none)], [(40, some 12)], [(39, some 11), (41, some 13)], [(42, some 14)], [(43, some 15), (34, some 6)]] 24576 mixed (by kernel_rfl) ?_)
    refine G_step [0, 1, 2, 3, 4, 5, 6, 7, 8, 9, 10, 11, 12] 13 [] (by kernel_rfl) (allM (all_cons (q_run (.slice (some ⟨b3, of3, none⟩) ms.length cap) rfl rfl (wv_n rfl) rfl (fun _ _ hρ _ => r_move (hρ _ _ rfl))) (all_cons (q_run (.int .i64 ((k : Nat) : Int)) rfl rfl (wv_n rfl) rfl (fun _ _ hρ _ => r_move (hρ _ _ rfl))) (all_cons (q_run (.pointer (some ⟨b3, of3 + k * 4, none⟩)) rfl rfl (wv_n rfl) rfl (fun _ _ hρ _ => r_indexAddrS (i := k) sl25 sz36 (hρ _ _ rfl) (hρ _ _ rfl) (by omega))) (all_cons (q_run (.pointer (some ⟨b3, of3 + k * 4 + 3, none⟩)) rfl rfl (wv_n rfl) rfl (fun _ _ hρ _ => r_fieldAddr fl36_1 sz34 (hρ _ _ rfl))) (all_cons (q_run (.pointer m9.ptr) rfl rfl (wv_n rfl) rfl (fun _ _ hρ hm => r_loadRowJ (f := Mk.cells) (u := m9) 3 ag34 (hρ _ _ rfl) (hm.old hq3) hr3 hm9 rfl)) (all_cons (q_run (.bool false) rfl rfl (wv_n rfl) rfl (fun _ _ hρ _ => r_as (r_eqlPn po34 (hρ _ _ rfl) (hρ _ _ rfl)) (bool_as (by rw [ptr_none, hcp1]; rfl)))) (all_cons (q_run (.bool false) rfl rfl (wv_n rfl) rfl (fun _ _ hρ _ => r_move (hρ _ _ rfl))) (all_cons (q_run (.slice (some ⟨b3, of3, none⟩) ms.length cap) rfl rfl (wv_y rfl rfl) rfl (fun _ _ hρ _ => r_move (hρ _ _ rfl))) (all_cons (q_run (.int .i64 ((k : Nat) : Int)) rfl rfl (wv_y rfl rfl) rfl (fun _ _ hρ _ => r_move (hρ _ _ rfl))) (all_cons (q_run (.pointer (some ⟨b3, of3 + k * 4, none⟩)) rfl rfl (wv_y rfl rfl) rfl (fun _ _ hρ _ => r_indexAddrS (i := k) sl25 sz36 (hρ _ _ rfl) (hρ _ _ rfl) (by omega))) (all_cons (q_run (.pointer (some ⟨b3, of3 + k * 4 + 3, none⟩)) rfl rfl (wv_y rfl rfl) rfl (fun _ _ hρ _ => r_fieldAddr fl36_1 sz34 (hρ _ _ rfl))) (all_cons (q_run (.pointer m9.ptr) rfl rfl (wv_y rfl rfl) rfl (fun _ _ hρ hm => r_loadRowJ (f := Mk.cells) (u := m9) 3 ag34 (hρ _ _ rfl) (hm.old hq3) hr3 hm9 rfl)) (all_cons (q_run (.int .i64 x9) rfl rfl (wv_y rfl rfl) rfl (fun _ _ hρ _ => r_move (hρ _ _ rfl))) all_nil)))))))))))))) (allM (all_cons ?_ all_nil))
    refine LOb_callX (ι := Cv) (fun (dv5 : Cv) e w w' => e = .returned (.pointer (some ⟨dv5.p, 0, none⟩)) ∧ CvNew w w' [] dv5 ∧ Painted dv5 x9) (fun dv5 => .pointer (some ⟨dv5.p, 0, none⟩)) _ (fun dv5 => []) rfl (wv_y rfl rfl) rfl rfl (fun _ _ hρ _ => r_call (args := [.int .i64 x9]) (enters_of Try.func24 (by kernel_rfl) rfl) (hρ _ _ rfl) ((cons2 (hρ _ _ rfl) rfl)) rfl) (fun w _ => painted_c x9 w) (fun _ e w w' hm h => ⟨h.1, hm.cvGet 960 rfl h.2.1 (fun _ hx => nomatch hx)⟩) (fun dv5 => by kernel_rfl) ?_
    rintro dv5 ⟨_, w1_dv5, w2_dv5, _, hn_dv5, hp_dv5⟩
    refine G_step [7, 8, 9, 10, 11] 14 [] (by kernel_rfl) (allM (all_cons (q_run (.slice (some ⟨b3, of3, none⟩) ms.length cap) rfl rfl (wv_y rfl rfl) rfl (fun _ _ hρ _ => r_move (hρ _ _ rfl))) (all_cons (q_run (.int .i64 ((k : Nat) : Int)) rfl rfl (wv_y rfl rfl) rfl (fun _ _ hρ _ => r_move (hρ _ _ rfl))) (all_cons (q_run (.pointer (some ⟨b3, of3 + k * 4, none⟩)) rfl rfl (wv_y rfl rfl) rfl (fun _ _ hρ _ => r_indexAddrS (i := k) sl25 sz36 (hρ _ _ rfl) (hρ _ _ rfl) (by omega))) (all_cons (q_run (.pointer (some ⟨b3, of3 + k * 4 + 3, none⟩)) rfl rfl (wv_y rfl rfl) rfl (fun _ _ hρ _ => r_fieldAddr fl36_1 sz34 (hρ _ _ rfl))) (all_cons (q_run (.pointer m9.ptr) rfl rfl (wv_y rfl rfl) rfl (fun _ _ hρ hm => r_loadRowJ (f := Mk.cells) (u := m9) 3 ag34 (hρ _ _ rfl) (hm.old hq3) hr3 hm9 rfl)) all_nil)))))) (allM (all_cons ?_ all_nil))
    refine LOb_call (.bool true) [(15, .bool false), (16, .bool false)] rfl (wv_y rfl rfl) rfl rfl (fun _ _ hρ _ => r_call (args := [.pointer m9.ptr, .pointer (some ⟨dv5.p, 0, none⟩)]) (enters_of Try.func23 (by kernel_rfl) rfl) (hρ _ _ rfl) ((cons2 (hρ _ _ rfl) (cons2 (hρ _ _ rfl) rfl))) rfl) (fun w hm => (by rw [ptr_some hcp1]; exact (same_eq cp dv5 w (hcp2.below hm.ext) (hm.cv 960 rfl List.mem_cons_self) (hcp3.1.trans hp_dv5.1.symm) (hcp3.2.1.trans hp_dv5.2.1.symm)).mono fun _ _ h => ⟨h.1.trans (congrArg Ending.returned (bool_as (decide_eq_true (painted_ts hcp3 hp_dv5)))), h.2⟩)) (by kernel_rfl) ?_
    refine G_last [15, 16] [(0, .slice (some ⟨b3, of3, none⟩) ms.length cap), (21, .slice (some ⟨b2, of2, none⟩) ns.length capd), (22, .int .i64 ((ns.length : Nat) : Int)), (23, .int .i64 ((k : Nat) : Int)), (24, .bool (decide (((k : Nat) : Int) < ((ns.length : Nat) : Int)))), (25, .int .i64 ((k : Nat) : Int)), (26, .pointer (some ⟨b2, of2 + k * 1, none⟩)), (27, .int .i64 x9), (7, .int .i64 ((k : Nat) : Int)), (8, .int .i64 x9), (28, .slice (some ⟨b3, of3, none⟩) ms.length cap), (29, .int .i64 ((k : Nat) : Int)), (30, .pointer (some ⟨b3, of3 + k * 4, none⟩)), (31, .pointer (some ⟨b3, of3 + k * 4 + 3, none⟩)), (32, .pointer m9.ptr), (33, .bool false), (34, .bool false), (35, .slice (some ⟨b3, of3, none⟩) ms.length cap), (36, .int .i64 ((k : Nat) : Int)), (37, .pointer (some ⟨b3, of3 + k * 4, none⟩)), (38, .pointer (some ⟨b3, of3 + k * 4 + 3, none⟩)), (39, .pointer m9.ptr), (40, .int .i64 x9), (41, .pointer (some ⟨dv5.p, 0, none⟩)), (42, .bool true), (43, .bool false), (44, .bool false)] (by kernel_rfl) (allM (all_cons (q_run (.bool false) rfl rfl (wv_y rfl rfl) rfl (fun _ _ hρ _ => r_not (b := true) (hρ _ _ rfl))) (all_cons (q_run (.bool false) rfl rfl (wv_n rfl) rfl (fun _ _ hρ _ => r_pick_f (hρ _ _ rfl) (hρ _ _ rfl))) all_nil))) (end_old rfl rfl (end_old rfl rfl (end_old rfl rfl (end_old rfl rfl (end_old rfl rfl (end_old rfl rfl (end_old rfl rfl (end_old rfl rfl (end_old rfl rfl (end_old rfl rfl (end_new 0 rfl rfl (end_new 1 rfl rfl (end_new 2 rfl rfl (end_new 3 rfl rfl (end_new 4 rfl rfl (end_new 5 rfl rfl (end_new 6 rfl rfl (end_new 7 rfl rfl (end_new 8 rfl rfl (end_new 9 rfl rfl (end_new 10 rfl rfl (end_new 11 rfl rfl (end_new 12 rfl rfl (end_new 13 rfl rfl (end_new 14 rfl rfl (end_new 15 rfl rfl (end_new 16 rfl rfl end_nil))))))))))))))))))))))))))) ?_
    refine T_cond_f rfl ?_
    refine T_skip' ?_
    refine p_blk_n ?_
    refine p_seq ?_
    refine T_region ?_
    refine TL_q (.int .i64 ((k + 1 : Nat) : Int)) (fun _ _ hρ _ => r_as (r_add (hρ _ _ rfl) (hρ _ _ rfl)) (int_as ((wrap64 (by omega) (by omega)).trans (by omega)))) rfl rfl rfl (w_n rfl) ?_
    refine TL_q (.int .i64 ((k + 1 : Nat) : Int)) (fun _ _ hρ _ => r_move (hρ _ _ rfl)) rfl rfl rfl (w_n rfl) ?_
    refine TL_nil ?_
    exact p_at (k + 1) ⟨by omega, by omega⟩ (sub_cons rfl (sub_cons rfl (sub_cons rfl (sub_cons rfl sub_nil)))) (sub_cons rfl sub_nil)
  · replace h1 := of_decide_eq_false h1
    refine T_exit' ?_
    refine p_then_x ?_
    refine p_then_x ?_
    refine p_blk_x ?_
    refine p_seq ?_
    refine T_seq (T_region ?_)
    refine TL_q (.bool true) (fun _ _ hρ _ => r_assign (hρ _ _ rfl)) rfl rfl rfl (w_n rfl) ?_
    refine TL_seq ?_
    refine T_ret' ?_
    refine ret_of rfl (.bool true) (fun tmps w hk hm => res1 rfl (res_tmp (hk 6 _ rfl))) (fun w hm => ?_)
    exact ⟨rfl, hm.ext⟩
end Go.Proofs.Ytmihoejecpcmjaa
