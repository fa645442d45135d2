/- Texts of this seat, merged: part 5. -/
import Derived.Test.YtmihoejecpcmjaaMg4
/- MarksKeep: the first and the last stay (plainly). -/
namespace Go.Proofs.Ytmihoejecpcmjaa
open Go Go.RowKit
theorem put_longer {l : List Tid} {d : Tid} (h6 : l.length ≤ 6) : l.length ≤ (putG id l d).length := by
  have h := insG_len id l d
  unfold putG
  split
  · exact h.1
  · have ho := out_bound (timesG id (insG id l d)) ((timesG id (insG id l d)).length - 2)
    have hl : (timesG id (insG id l d)).length = (insG id l d).length := List.length_map _
    rw [List.length_eraseIdx_of_lt (by unfold outN; omega)]
    omega
theorem ins_first {l : List Tid} {d : Tid} (h : Up l) : (insG id l d)[0]? = match l[0]? with
    | none => some d
    | some f => some (if lessI d f = true then d else f) := by
  cases l with
  | nil => rfl
  | cons f r =>
    show _ = some (if lessI d f = true then d else f)
    obtain ⟨h1, h2⟩ := List.pairwise_cons.1 h
    by_cases hf : lessI f d = true
    · have ha : aheadL (f :: r) d = aheadL r d + 1 := by unfold aheadL; rw [List.filter_cons, if_pos hf]; rfl
      rw [if_neg (less_asym hf)]
      unfold insG
      rw [List.map_id, show id d = d from rfl, ha]
      split
      · rfl
      · rfl
    · have ha : aheadL (f :: r) d = 0 := by
        unfold aheadL
        rw [List.filter_eq_nil_iff.2]
        · rfl
        · intro x hx hx2
          rcases List.mem_cons.1 hx with rfl | hx
          · exact hf hx2
          · exact hf (less_trans (h1 x hx) hx2)
      unfold insG
      rw [List.map_id, show id d = d from rfl, ha]
      rcases less_tri f d with e | e | e
      · exact absurd e hf
      · subst e
        rw [if_pos (show (f :: r)[0]? = some f from rfl), if_neg (less_irr f)]; rfl
      · rw [if_pos e, if_neg (fun e2 => by cases Option.some.inj e2; exact less_irr _ e)]; rfl
theorem ins_last {l : List Tid} {d : Tid} (h : Up l) : (insG id l d)[(insG id l d).length - 1]? = match l[l.length - 1]? with
    | none => some d
    | some f => some (if lessI f d = true then d else f) := by
  by_cases hl : l.length = 0
  · rw [List.eq_nil_of_length_eq_zero hl]; rfl
  · obtain ⟨f, hf⟩ : ∃ x, l[l.length - 1]? = some x := ⟨_, List.getElem?_eq_getElem (by omega)⟩
    rw [hf]
    show _ = some (if lessI f d = true then d else f)
    have hle := ahead_le l d
    by_cases hfd : lessI f d = true
    · have ha : aheadL l d = l.length := by
        unfold aheadL
        rw [List.filter_eq_self.2]
        intro x hx
        obtain ⟨i, hi⟩ := List.getElem?_of_mem hx
        by_cases e : i = l.length - 1
        · subst e; rw [hf] at hi; cases hi; exact hfd
        · exact less_trans (up_lt h (by have := (List.getElem?_eq_some_iff.1 hi).1; omega) hi hf) hfd
      rw [if_pos hfd]
      unfold insG
      rw [List.map_id, show id d = d from rfl, ha, if_neg (by rw [List.getElem?_eq_none (Nat.le_refl _)]; exact fun e => by cases e), List.take_length, List.drop_length]
      rw [List.length_append, show l.length + [d].length - 1 = l.length from rfl, List.getElem?_append_right (Nat.le_refl _), Nat.sub_self]; rfl
    · rw [if_neg hfd]
      have hlt : aheadL l d < l.length := by
        rcases Nat.lt_or_ge (aheadL l d) l.length with h1 | h1
        · exact h1
        · have e : aheadL l d = l.length := by omega
          exact absurd (ahead_front h f (by rw [e, List.take_length]; exact List.mem_of_getElem? hf)) hfd
      unfold insG
      rw [List.map_id, show id d = d from rfl]
      split
      · rename_i e
        have e2 : l.set (aheadL l d) d = l := by
          obtain ⟨g1, g2⟩ := List.getElem?_eq_some_iff.1 e
          conv => lhs; arg 3; rw [← g2]
          exact List.set_getElem_self g1
        rw [e2, hf]
      · have hn : (l.take (aheadL l d) ++ d :: l.drop (aheadL l d)).length = l.length + 1 := by rw [List.length_append, List.length_cons, List.length_take, List.length_drop]; omega
        rw [hn, Nat.add_sub_cancel, List.getElem?_append_right (by rw [List.length_take]; omega), List.length_take, Nat.min_eq_left hle]
        rw [show l.length - aheadL l d = (l.length - aheadL l d - 1) + 1 by omega, List.getElem?_cons_succ, List.getElem?_drop, show aheadL l d + (l.length - aheadL l d - 1) = l.length - 1 by omega, hf]
theorem put_ends {l : List Tid} {d : Tid} (h6 : l.length ≤ 6) : (putG id l d)[0]? = (insG id l d)[0]? ∧ (putG id l d)[(putG id l d).length - 1]? = (insG id l d)[(insG id l d).length - 1]? := by
  have h := insG_len id l d
  unfold putG
  split
  · exact ⟨rfl, rfl⟩
  · rename_i hn
    have hl : (timesG id (insG id l d)).length = (insG id l d).length := List.length_map _
    have ho := out_bound (timesG id (insG id l d)) ((timesG id (insG id l d)).length - 2)
    have h7 : (insG id l d).length = 7 := by omega
    rw [hl, h7] at ho
    have ho1 := ho.1
    have ho2 := ho.2 (by decide)
    unfold outN
    rw [hl, h7]
    refine ⟨?_, ?_⟩
    · rw [List.getElem?_eraseIdx_of_lt (by omega)]
    · rw [List.length_eraseIdx_of_lt (by omega), h7, List.getElem?_eraseIdx_of_ge (by omega)]
theorem put_first {l : List Tid} {d f : Tid} (h : Up l) (h6 : l.length ≤ 6) (hf : l[0]? = some f) : (putG id l d)[0]? = some (if lessI d f = true then d else f) := by
  rw [(put_ends h6).1, ins_first h, hf]
theorem put_last {l : List Tid} {d f : Tid} (h : Up l) (h6 : l.length ≤ 6) (hf : l[l.length - 1]? = some f) : (putG id l d)[(putG id l d).length - 1]? = some (if lessI f d = true then d else f) := by
  rw [(put_ends h6).2, ins_last h, hf]
/-- What a round of MarksKeep keeps. -/
structure Keeps (ms : List Mk) (cs : List Cv) (fi la : Tid) : Prop where
  mks : marksB ms = true
  cv : ∀ m ∈ ms, ∃ c, c ∈ cs ∧ m.c = some c
  fst : 0 < ms.length → (idsM ms)[0]? = some fi
  lst : 0 < ms.length → (idsM ms)[ms.length - 1]? = some la
/-- One id is put. -/
structure Step (ms mr ns : List Mk) (d : Tid) : Prop where
  eq : ns = putsG Mk.i ms mr
  mks : marksB ms = true
  one : idsM mr = [d]
  ok : okI d = true
  has : ∀ m ∈ mr, m.c.isSome = true
theorem Step.ids {ms mr ns : List Mk} {d : Tid} (h : Step ms mr ns d) : idsM ns = putG id (idsM ms) d := by
  rw [h.eq, ids_puts, h.one]; rfl
theorem Step.all {ms mr ns : List Mk} {d : Tid} (h : Step ms mr ns d) : mr.all okM = true := List.all_eq_true.2 fun m hm => okM_iff.2 ⟨by
  have : m.i ∈ idsM mr := List.mem_map_of_mem hm
  rw [h.one] at this
  rw [List.mem_singleton.1 this]; exact h.ok, h.has m hm⟩
theorem Step.marks {ms mr ns : List Mk} {d : Tid} (h : Step ms mr ns d) : marksB ns = true := by rw [h.eq]; exact puts_marks h.mks h.all
theorem Step.len {ms mr ns : List Mk} {d : Tid} (h : Step ms mr ns d) : ms.length ≤ ns.length ∧ ns.length ≤ 6 ∧ 1 ≤ ns.length := by
  have h6 := (marks_iff.1 h.mks).2.2
  have h7 := (marks_iff.1 h.marks).2.2
  have hi := h.ids
  have hl : ns.length = (putG id (idsM ms) d).length := by rw [← hi, ids_len]
  have hp := put_longer (l := idsM ms) (d := d) (by rw [ids_len]; exact h6)
  rw [ids_len, ← hl] at hp
  refine ⟨hp, h7, ?_⟩
  by_cases e : ms.length = 0
  · rw [hl, List.eq_nil_of_length_eq_zero e]; exact Nat.le_refl _
  · omega
theorem Step.first {ms mr ns : List Mk} {d fi la : Tid} {cs : List Cv} (h : Step ms mr ns d) (hk : Keeps ms cs fi la) : (idsM ns)[0]? = some (if ms.length = 0 ∨ lessI d fi = true then d else fi) := by
  rw [h.ids]
  by_cases e : ms.length = 0
  · rw [if_pos (.inl e), List.eq_nil_of_length_eq_zero e]; rfl
  · rw [put_first (marks_iff.1 h.mks).1 (by rw [ids_len]; exact (marks_iff.1 h.mks).2.2) (hk.fst (by omega))]
    by_cases e2 : lessI d fi = true
    · rw [if_pos e2, if_pos (.inr e2)]
    · rw [if_neg e2, if_neg (fun h => h.elim e e2)]
theorem Step.last {ms mr ns : List Mk} {d fi la : Tid} {cs : List Cv} (h : Step ms mr ns d) (hk : Keeps ms cs fi la) : (idsM ns)[ns.length - 1]? = some (if ms.length = 0 ∨ lessI la d = true then d else la) := by
  rw [← ids_len ns, h.ids]
  by_cases e : ms.length = 0
  · rw [if_pos (.inl e), List.eq_nil_of_length_eq_zero e]; rfl
  · rw [put_last (marks_iff.1 h.mks).1 (by rw [ids_len]; exact (marks_iff.1 h.mks).2.2) (by rw [ids_len]; exact hk.lst (by omega))]
    by_cases e2 : lessI la d = true
    · rw [if_pos e2, if_pos (.inr e2)]
    · rw [if_neg e2, if_neg (fun h => h.elim e e2)]
theorem Step.keeps {ms mr ns : List Mk} {d fi la f2 l2 : Tid} {cs cr : List Cv} {b : Nat} (h : Step ms mr ns d) (hk : Keeps ms cs fi la) (hp : PaintOk mr cr b) (h1 : (idsM ns)[0]? = some f2) (h2 : (idsM ns)[ns.length - 1]? = some l2) : Keeps ns (cr ++ cs) f2 l2 := by
  refine ⟨h.marks, fun m hm => ?_, fun _ => h1, fun _ => h2⟩
  rw [h.eq] at hm
  rcases putsG_mem hm with h3 | h3
  · obtain ⟨c, hc, e⟩ := hk.cv m h3
    exact ⟨c, List.mem_append_right _ hc, e⟩
  · obtain ⟨j, hj⟩ := List.getElem?_of_mem h3
    obtain ⟨c, hc, e, _⟩ := hp j m hj
    exact ⟨c, List.mem_append_left _ hc, e⟩
theorem Step.old {ms mr ns : List Mk} {d x : Tid} (h : Step ms mr ns d) (hx : x ∈ idsM ns) (hne : ¬ x = d) : x ∈ idsM ms := by
  rw [h.ids] at hx
  rcases putG_mem hx with h1 | h1
  · exact h1
  · exact absurd h1 hne
end Go.Proofs.Ytmihoejecpcmjaa
/- MarksTells: the references' answers (plainly). -/
namespace Go.Proofs.Ytmihoejecpcmjaa
open Go Go.RowKit
theorem mem_step {l : List Tid} {k : Nat} {p i : Tid} (h : l[k]? = some p) : i ∈ l.take (k + 1) ↔ i ∈ l.take k ∨ p = i := by
  rw [List.take_add_one, h, List.mem_append]
  exact ⟨fun h => h.imp id fun h => (List.mem_singleton.1 h).symm, fun h => h.imp id fun h => by rw [h]; exact List.mem_singleton.2 rfl⟩
/-- Numbers, one behind the other. -/
def rangeF (b n : Nat) : List Int := (List.range n).map fun j => ((b + j : Nat) : Int)
theorem rangeF_len (b n : Nat) : (rangeF b n).length = n := by unfold rangeF; rw [List.length_map, List.length_range]
theorem rangeF_step (b n : Nat) : rangeF b (n + 1) = rangeF b n ++ [((b + n : Nat) : Int)] := by unfold rangeF; rw [List.range_succ, List.map_append]; rfl
/-- Marks have canvases of these numbers. -/
def PaintN (w : World) (ms : List Mk) (ns : List Int) : Prop := ∀ (k : Nat) (m : Mk) (x : Int), ms[k]? = some m → ns[k]? = some x → ∃ c, m.c = some c ∧ CvAt w c ∧ Painted c x
theorem ptr_some {m : Mk} {c : Cv} (h : m.c = some c) : m.ptr = some ⟨c.p, 0, none⟩ := by
  cases m; cases h; rfl
theorem painted_ts {c d : Cv} {x : Int} (h1 : Painted c x) (h2 : Painted d x) : c.ts = d.ts := h1.2.2.trans h2.2.2.symm
theorem PaintN.keep {w w' : World} {ms : List Mk} {ns : List Int} (h : PaintN w ms ns) (hb : Below w.heap.size w w') : PaintN w' ms ns := fun k m x hm hx => by
  obtain ⟨c, h1, h2, h3⟩ := h k m x hm hx
  exact ⟨c, h1, h2.below hb, h3⟩
end Go.Proofs.Ytmihoejecpcmjaa
/- net and journal: The references; shows. Printed by a program of this seat's prover. -/
namespace Go.Proofs.Ytmihoejecpcmjaa
open Go Go.RowKit
set_option maxRecDepth 10000
theorem place_c (l : List Tid) (a : Option Addr) (cap : Nat) (i : Tid) (w : World) (hv : SliceAt w a cap 3 Tid.cells l) (hcap : cap ≤ Go.maxLen) : Calls Try.prog 50 #[.slice a l.length cap, i.v] w fun e w' => e = .returned (.tuple #[.int .i64 ((aheadL l i : Nat) : Int), .bool (decide (i ∈ l))]) ∧ Below w.heap.size w w' := by
  have hvl := hv.1
  unfold Go.maxLen at hcap
  refine calls_of_T (l := [.slice a l.length cap, .agg #[.int .u64 i.t, .int .i64 i.s, .int .u64 i.q]]) 30 Try.func50 rfl rfl rfl ?_
  show T _ _ _ [(0, .slice a l.length cap), (1, .agg #[.int .u64 i.t, .int .i64 i.s, .int .u64 i.q])] []
  refine T_seq (T_region ?_)
  refine TL_new 1 (.cells #[.int .u64 i.t, .int .i64 i.s, .int .u64 i.q] 32) (fun B => .pointer (some ⟨B, 0, none⟩)) (fun _ _ hρ _ => r_box (hρ _ _ rfl) rfl) rfl rfl rfl (w_n rfl) ?_
  intro B1
  refine TL_q (.int .i64 0) (fun _ _ hρ _ => r_assign (hρ _ _ rfl)) rfl rfl rfl (w_n rfl) ?_
  refine TL_q (.bool false) (fun _ _ hρ _ => r_assign (hρ _ _ rfl)) rfl rfl rfl (w_n rfl) ?_
  refine TL_seq ?_
  refine T_seq (T_region ?_)
  refine TL_q (.int .i64 0) (fun _ _ hρ _ => r_assign (hρ _ _ rfl)) rfl rfl rfl (w_n rfl) ?_
  refine TL_q (.bool false) (fun _ _ hρ _ => r_assign (hρ _ _ rfl)) rfl rfl rfl (w_n rfl) ?_
  refine TL_seq ?_
  refine T_seq ?_
  refine T_seq (T_region ?_)
  refine TL_q (.slice a l.length cap) (fun _ _ hρ _ => r_move (hρ _ _ rfl)) rfl rfl rfl (w_n rfl) ?_
  refine TL_q (.int .i64 ((l.length : Nat) : Int)) (fun _ _ hρ _ => r_len sl22 (hρ _ _ rfl)) rfl rfl rfl (w_n rfl) ?_
  refine TL_q (.int .i64 0) (fun _ _ hρ _ => r_move (hρ _ _ rfl)) rfl rfl rfl (w_n rfl) ?_
  refine TL_seq ?_
  refine T_block ?_
  refine T_loop (ι := Nat × Nat × Bool) (fun (z : Nat × Nat × Bool) => match z with | (k, c, b9) => k ≤ l.length ∧ c = aheadL (l.take k) i ∧ b9 = decide (i ∈ l.take k)) (fun (z : Nat × Nat × Bool) => match z with | (k, c, b9) => [(3, .pointer (some ⟨B1, 0, none⟩)), (4, .int .i64 0), (5, .bool false), (10, .slice a l.length cap), (11, .int .i64 ((l.length : Nat) : Int)), (12, .int .i64 ((k : Nat) : Int)), (6, .int .i64 ((c : Nat) : Int)), (7, .bool b9)]) (fun (z : Nat × Nat × Bool) => match z with | (k, c, b9) => [(1, .blk B1 (.cells #[.int .u64 i.t, .int .i64 i.s, .int .u64 i.q] 32))]) (fun (z : Nat × Nat × Bool) => match z with | (k, c, b9) => l.length - k) (0, 0, false) ⟨Nat.zero_le _, rfl, rfl⟩ (sub_cons rfl (sub_cons rfl (sub_cons rfl (sub_cons rfl (sub_cons rfl (sub_cons rfl (sub_cons rfl (sub_cons rfl sub_nil)))))))) (sub_cons rfl sub_nil) ?_
  rintro ⟨k, c, b9⟩ hp
  obtain ⟨hk, hc, hbd⟩ := hp
  have hck : c ≤ k := by rw [hc]; exact Nat.le_trans (ahead_le _ _) (by rw [List.length_take]; omega)
  show T _ _ _ [(3, .pointer (some ⟨B1, 0, none⟩)), (4, .int .i64 0), (5, .bool false), (10, .slice a l.length cap), (11, .int .i64 ((l.length : Nat) : Int)), (12, .int .i64 ((k : Nat) : Int)), (6, .int .i64 ((c : Nat) : Int)), (7, .bool b9)] [(1, .blk B1 (.cells #[.int .u64 i.t, .int .i64 i.s, .int .u64 i.q] 32))]
  refine T_seq (T_region ?_)
  refine TL_q (.bool (decide (((k : Nat) : Int) < ((l.length : Nat) : Int)))) (fun _ _ hρ _ => r_lss (hρ _ _ rfl) (hρ _ _ rfl)) rfl rfl rfl (w_n rfl) ?_
  refine TL_seq ?_
  refine T_seq ?_
  refine T_cond rfl (fun h1 => ?_) (fun h1 => ?_)
  · replace h1 := of_decide_eq_true h1
    refine T_skip' ?_
    refine p_seq ?_
    refine T_seq ?_
    refine T_block ?_
    obtain ⟨p9, hp9⟩ : ∃ x, l[k]? = some x := ⟨_, List.getElem?_eq_getElem (by omega)⟩
    obtain ⟨b2, of2, cs2, T2, fz2, ha2, hq2, hr2⟩ := hv.open (i := k) (by omega)
    subst ha2
    refine T_seq (T_region ?_)
    refine TL_q (.pointer (some ⟨b2, of2 + k * 3, none⟩)) (fun _ _ hρ _ => r_indexAddrS (i := k) sl22 sz32 (hρ _ _ rfl) (hρ _ _ rfl) (by omega)) rfl rfl rfl (w_n rfl) ?_
    refine TL_q (.agg #[.int .u64 p9.t, .int .i64 p9.s, .int .u64 p9.q]) (fun _ _ hρ hm => r_loadRow (f := Tid.cells) (u := p9) ag32 sz32 (hρ _ _ rfl) (hm.old hq2) hr2 hp9) rfl rfl rfl (w_n rfl) ?_
    refine TL_new 2 (.cells #[.int .u64 0, .int .i64 0, .int .u64 0] 32) (fun B => .pointer (some ⟨B, 0, none⟩)) (fun _ _ _ _ => r_alloc (v := .agg #[.int .u64 0, .int .i64 0, .int .u64 0]) (by kernel_rfl) rfl) rfl rfl rfl (w_n rfl) ?_
    intro B3
    refine TL_store 2 (.cells #[.int .u64 p9.t, .int .i64 p9.s, .int .u64 p9.q] 32) rfl (fun _ _ hρ hm => r_store sz32 (hρ _ _ rfl) (hρ _ _ rfl) (hm.at 2 rfl) rfl rfl rfl rfl) rfl rfl (w_n rfl) ?_
    refine TL_seq ?_
    refine T_seq ?_
    by_cases hlp : lessI p9 i = true
    · skip
      refine T_seq (T_region ?_)
      refine TL_q (.agg #[.int .u64 p9.t, .int .i64 p9.s, .int .u64 p9.q]) (fun _ _ hρ hm => r_loadA ag32 sz32 (hρ _ _ rfl) (hm.at 2 rfl) rfl rfl) rfl rfl rfl (w_n rfl) ?_
      refine TL_q (.agg #[.int .u64 i.t, .int .i64 i.s, .int .u64 i.q]) (fun _ _ hρ hm => r_loadA ag32 sz32 (hρ _ _ rfl) (hm.at 1 rfl) rfl rfl) rfl rfl rfl (w_n rfl) ?_
      refine TL_call (.bool true) (fun _ _ hρ _ => r_call (args := [.agg #[.int .u64 p9.t, .int .i64 p9.s, .int .u64 p9.q], .agg #[.int .u64 i.t, .int .i64 i.s, .int .u64 i.q]]) (enters_of Try.func62 (by kernel_rfl) rfl) (hρ _ _ rfl) ((cons2 (hρ _ _ rfl) (cons2 (hρ _ _ rfl) rfl))) rfl) (fun w _ => (rless_c p9 i w).mono fun _ _ h => ⟨h.1.trans (congrArg Ending.returned (bool_as hlp)), h.2⟩) rfl rfl rfl (w_n rfl) ?_
      refine TL_seq ?_
      refine T_cond_t rfl ?_
      refine T_region ?_
      refine TL_q (.int .i64 ((c : Nat) : Int)) (fun _ _ hρ _ => r_move (hρ _ _ rfl)) rfl rfl rfl (w_n rfl) ?_
      refine TL_q (.int .i64 ((c + 1 : Nat) : Int)) (fun _ _ hρ _ => r_as (r_add (hρ _ _ rfl) (hρ _ _ rfl)) (int_as ((wrap64 (by omega) (by omega)).trans (by omega)))) rfl rfl rfl (w_n rfl) ?_
      refine TL_q (.int .i64 ((c + 1 : Nat) : Int)) (fun _ _ hρ _ => r_assign (hρ _ _ rfl)) rfl rfl rfl (w_n rfl) ?_
      refine TL_nil ?_
      refine p_seq ?_
      by_cases hb9 : b9 = true
      · skip
        subst hb9
        refine T_region ?_
        refine TL_q (.bool true) (fun _ _ hρ _ => r_move (hρ _ _ rfl)) rfl rfl rfl (w_n rfl) ?_
        refine TL_q (.bool true) (fun _ _ hρ _ => r_move (hρ _ _ rfl)) rfl rfl rfl (w_n rfl) ?_
        refine TL_no rfl rfl (want_n 22 rfl rfl rfl) ?_
        refine TL_no rfl rfl (want_n 22 rfl rfl rfl) ?_
        refine TL_no rfl rfl (want_n 22 rfl rfl rfl) ?_
        refine TL_q (.bool true) (fun _ _ hρ _ => r_pick_t (hρ _ _ rfl) (hρ _ _ rfl)) rfl rfl rfl (w_n rfl) ?_
        refine TL_q (.bool true) (fun _ _ hρ _ => r_assign (hρ _ _ rfl)) rfl rfl rfl (w_n rfl) ?_
        refine TL_nil ?_
        refine p_blk_n ?_
        refine p_seq ?_
        refine T_region ?_
        refine TL_q (.int .i64 ((k + 1 : Nat) : Int)) (fun _ _ hρ _ => r_as (r_add (hρ _ _ rfl) (hρ _ _ rfl)) (int_as ((wrap64 (by omega) (by omega)).trans (by omega)))) rfl rfl rfl (w_n rfl) ?_
        refine TL_q (.int .i64 ((k + 1 : Nat) : Int)) (fun _ _ hρ _ => r_move (hρ _ _ rfl)) rfl rfl rfl (w_n rfl) ?_
        refine TL_nil ?_
        exact p_at (k + 1, c + 1, true) ⟨⟨by omega, by rw [ahead_step hp9, if_pos hlp, ← hc], (decide_eq_true ((mem_step hp9).2 (.inl (of_decide_eq_true hbd.symm)))).symm⟩, by dsimp only; omega⟩ (sub_cons rfl (sub_cons rfl (sub_cons rfl (sub_cons rfl (sub_cons rfl (sub_cons rfl (sub_cons rfl (sub_cons rfl sub_nil)))))))) (sub_cons rfl sub_nil)
      · skip
        replace hb9 := eq_false_of_ne_true hb9
        subst hb9
        by_cases hpe : p9 = i
        · skip
          refine T_region ?_
          refine TL_q (.bool false) (fun _ _ hρ _ => r_move (hρ _ _ rfl)) rfl rfl rfl (w_n rfl) ?_
          refine TL_q (.bool false) (fun _ _ hρ _ => r_move (hρ _ _ rfl)) rfl rfl rfl (w_n rfl) ?_
          refine TL_q (.agg #[.int .u64 p9.t, .int .i64 p9.s, .int .u64 p9.q]) (fun _ _ hρ hm => r_loadA ag32 sz32 (hρ _ _ rfl) (hm.at 2 rfl) rfl rfl) rfl rfl rfl (want_y 22 rfl rfl rfl) ?_
          refine TL_q (.agg #[.int .u64 i.t, .int .i64 i.s, .int .u64 i.q]) (fun _ _ hρ hm => r_loadA ag32 sz32 (hρ _ _ rfl) (hm.at 1 rfl) rfl rfl) rfl rfl rfl (want_y 22 rfl rfl rfl) ?_
          refine TL_q (.bool true) (fun _ _ hρ _ => r_as (r_as (r_eqlA (by kernel_rfl) (hρ _ _ rfl) (hρ _ _ rfl) (run_equalI (l := [(0, .u64), (1, .i64), (2, .u64)]) (by kernel_rfl) rfl rfl)) (bool_as (eqTid p9 i))) (bool_as (decide_eq_true hpe))) rfl rfl rfl (want_y 22 rfl rfl rfl) ?_
          refine TL_q (.bool true) (fun _ _ hρ _ => r_pick_f (hρ _ _ rfl) (hρ _ _ rfl)) rfl rfl rfl (w_n rfl) ?_
          refine TL_q (.bool true) (fun _ _ hρ _ => r_assign (hρ _ _ rfl)) rfl rfl rfl (w_n rfl) ?_
          refine TL_nil ?_
          refine p_blk_n ?_
          refine p_seq ?_
          refine T_region ?_
          refine TL_q (.int .i64 ((k + 1 : Nat) : Int)) (fun _ _ hρ _ => r_as (r_add (hρ _ _ rfl) (hρ _ _ rfl)) (int_as ((wrap64 (by omega) (by omega)).trans (by omega)))) rfl rfl rfl (w_n rfl) ?_
          refine TL_q (.int .i64 ((k + 1 : Nat) : Int)) (fun _ _ hρ _ => r_move (hρ _ _ rfl)) rfl rfl rfl (w_n rfl) ?_
          refine TL_nil ?_
          exact p_at (k + 1, c + 1, true) ⟨⟨by omega, by rw [ahead_step hp9, if_pos hlp, ← hc], (decide_eq_true ((mem_step hp9).2 (.inr hpe))).symm⟩, by dsimp only; omega⟩ (sub_cons rfl (sub_cons rfl (sub_cons rfl (sub_cons rfl (sub_cons rfl (sub_cons rfl (sub_cons rfl (sub_cons rfl sub_nil)))))))) (sub_cons rfl sub_nil)
        · skip
          refine T_region ?_
          refine TL_q (.bool false) (fun _ _ hρ _ => r_move (hρ _ _ rfl)) rfl rfl rfl (w_n rfl) ?_
          refine TL_q (.bool false) (fun _ _ hρ _ => r_move (hρ _ _ rfl)) rfl rfl rfl (w_n rfl) ?_
          refine TL_q (.agg #[.int .u64 p9.t, .int .i64 p9.s, .int .u64 p9.q]) (fun _ _ hρ hm => r_loadA ag32 sz32 (hρ _ _ rfl) (hm.at 2 rfl) rfl rfl) rfl rfl rfl (want_y 22 rfl rfl rfl) ?_
          refine TL_q (.agg #[.int .u64 i.t, .int .i64 i.s, .int .u64 i.q]) (fun _ _ hρ hm => r_loadA ag32 sz32 (hρ _ _ rfl) (hm.at 1 rfl) rfl rfl) rfl rfl rfl (want_y 22 rfl rfl rfl) ?_
          refine TL_q (.bool false) (fun _ _ hρ _ => r_as (r_as (r_eqlA (by kernel_rfl) (hρ _ _ rfl) (hρ _ _ rfl) (run_equalI (l := [(0, .u64), (1, .i64), (2, .u64)]) (by kernel_rfl) rfl rfl)) (bool_as (eqTid p9 i))) (bool_as (decide_eq_false hpe))) rfl rfl rfl (want_y 22 rfl rfl rfl) ?_
          refine TL_q (.bool false) (fun _ _ hρ _ => r_pick_f (hρ _ _ rfl) (hρ _ _ rfl)) rfl rfl rfl (w_n rfl) ?_
          refine TL_q (.bool false) (fun _ _ hρ _ => r_assign (hρ _ _ rfl)) rfl rfl rfl (w_n rfl) ?_
          refine TL_nil ?_
          refine p_blk_n ?_
          refine p_seq ?_
          refine T_region ?_
          refine TL_q (.int .i64 ((k + 1 : Nat) : Int)) (fun _ _ hρ _ => r_as (r_add (hρ _ _ rfl) (hρ _ _ rfl)) (int_as ((wrap64 (by omega) (by omega)).trans (by omega)))) rfl rfl rfl (w_n rfl) ?_
          refine TL_q (.int .i64 ((k + 1 : Nat) : Int)) (fun _ _ hρ _ => r_move (hρ _ _ rfl)) rfl rfl rfl (w_n rfl) ?_
          refine TL_nil ?_
          exact p_at (k + 1, c + 1, false) ⟨⟨by omega, by rw [ahead_step hp9, if_pos hlp, ← hc], (decide_eq_false (fun h => ((mem_step hp9).1 h).elim (of_decide_eq_false hbd.symm) hpe)).symm⟩, by dsimp only; omega⟩ (sub_cons rfl (sub_cons rfl (sub_cons rfl (sub_cons rfl (sub_cons rfl (sub_cons rfl (sub_cons rfl (sub_cons rfl sub_nil)))))))) (sub_cons rfl sub_nil)
    · skip
      refine T_seq (T_region ?_)
      refine TL_q (.agg #[.int .u64 p9.t, .int .i64 p9.s, .int .u64 p9.q]) (fun _ _ hρ hm => r_loadA ag32 sz32 (hρ _ _ rfl) (hm.at 2 rfl) rfl rfl) rfl rfl rfl (w_n rfl) ?_
      refine TL_q (.agg #[.int .u64 i.t, .int .i64 i.s, .int .u64 i.q]) (fun _ _ hρ hm => r_loadA ag32 sz32 (hρ _ _ rfl) (hm.at 1 rfl) rfl rfl) rfl rfl rfl (w_n rfl) ?_
      refine TL_call (.bool false) (fun _ _ hρ _ => r_call (args := [.agg #[.int .u64 p9.t, .int .i64 p9.s, .int .u64 p9.q], .agg #[.int .u64 i.t, .int .i64 i.s, .int .u64 i.q]]) (enters_of Try.func62 (by kernel_rfl) rfl) (hρ _ _ rfl) ((cons2 (hρ _ _ rfl) (cons2 (hρ _ _ rfl) rfl))) rfl) (fun w _ => (rless_c p9 i w).mono fun _ _ h => ⟨h.1.trans (congrArg Ending.returned (bool_as (eq_false_of_ne_true hlp))), h.2⟩) rfl rfl rfl (w_n rfl) ?_
      refine TL_seq ?_
      refine T_cond_f rfl ?_
      refine T_skip' ?_
      refine p_seq ?_
      by_cases hb9 : b9 = true
      · skip
        subst hb9
        refine T_region ?_
        refine TL_q (.bool true) (fun _ _ hρ _ => r_move (hρ _ _ rfl)) rfl rfl rfl (w_n rfl) ?_
        refine TL_q (.bool true) (fun _ _ hρ _ => r_move (hρ _ _ rfl)) rfl rfl rfl (w_n rfl) ?_
        refine TL_no rfl rfl (want_n 22 rfl rfl rfl) ?_
        refine TL_no rfl rfl (want_n 22 rfl rfl rfl) ?_
        refine TL_no rfl rfl (want_n 22 rfl rfl rfl) ?_
        refine TL_q (.bool true) (fun _ _ hρ _ => r_pick_t (hρ _ _ rfl) (hρ _ _ rfl)) rfl rfl rfl (w_n rfl) ?_
        refine TL_q (.bool true) (fun _ _ hρ _ => r_assign (hρ _ _ rfl)) rfl rfl rfl (w_n rfl) ?_
        refine TL_nil ?_
        refine p_blk_n ?_
        refine p_seq ?_
        refine T_region ?_
        refine TL_q (.int .i64 ((k + 1 : Nat) : Int)) (fun _ _ hρ _ => r_as (r_add (hρ _ _ rfl) (hρ _ _ rfl)) (int_as ((wrap64 (by omega) (by omega)).trans (by omega)))) rfl rfl rfl (w_n rfl) ?_
        refine TL_q (.int .i64 ((k + 1 : Nat) : Int)) (fun _ _ hρ _ => r_move (hρ _ _ rfl)) rfl rfl rfl (w_n rfl) ?_
        refine TL_nil ?_
        exact p_at (k + 1, c, true) ⟨⟨by omega, by rw [ahead_step hp9, if_neg hlp, Nat.add_zero, ← hc], (decide_eq_true ((mem_step hp9).2 (.inl (of_decide_eq_true hbd.symm)))).symm⟩, by dsimp only; omega⟩ (sub_cons rfl (sub_cons rfl (sub_cons rfl (sub_cons rfl (sub_cons rfl (sub_cons rfl (sub_cons rfl (sub_cons rfl sub_nil)))))))) (sub_cons rfl sub_nil)
      · skip
        replace hb9 := eq_false_of_ne_true hb9
        subst hb9
        by_cases hpe : p9 = i
        · skip
          refine T_region ?_
          refine TL_q (.bool false) (fun _ _ hρ _ => r_move (hρ _ _ rfl)) rfl rfl rfl (w_n rfl) ?_
          refine TL_q (.bool false) (fun _ _ hρ _ => r_move (hρ _ _ rfl)) rfl rfl rfl (w_n rfl) ?_
          refine TL_q (.agg #[.int .u64 p9.t, .int .i64 p9.s, .int .u64 p9.q]) (fun _ _ hρ hm => r_loadA ag32 sz32 (hρ _ _ rfl) (hm.at 2 rfl) rfl rfl) rfl rfl rfl (want_y 22 rfl rfl rfl) ?_
          refine TL_q (.agg #[.int .u64 i.t, .int .i64 i.s, .int .u64 i.q]) (fun _ _ hρ hm => r_loadA ag32 sz32 (hρ _ _ rfl) (hm.at 1 rfl) rfl rfl) rfl rfl rfl (want_y 22 rfl rfl rfl) ?_
          refine TL_q (.bool true) (fun _ _ hρ _ => r_as (r_as (r_eqlA (by kernel_rfl) (hρ _ _ rfl) (hρ _ _ rfl) (run_equalI (l := [(0, .u64), (1, .i64), (2, .u64)]) (by kernel_rfl) rfl rfl)) (bool_as (eqTid p9 i))) (bool_as (decide_eq_true hpe))) rfl rfl rfl (want_y 22 rfl rfl rfl) ?_
          refine TL_q (.bool true) (fun _ _ hρ _ => r_pick_f (hρ _ _ rfl) (hρ _ _ rfl)) rfl rfl rfl (w_n rfl) ?_
          refine TL_q (.bool true) (fun _ _ hρ _ => r_assign (hρ _ _ rfl)) rfl rfl rfl (w_n rfl) ?_
          refine TL_nil ?_
          refine p_blk_n ?_
          refine p_seq ?_
          refine T_region ?_
          refine TL_q (.int .i64 ((k + 1 : Nat) : Int)) (fun _ _ hρ _ => r_as (r_add (hρ _ _ rfl) (hρ _ _ rfl)) (int_as ((wrap64 (by omega) (by omega)).trans (by omega)))) rfl rfl rfl (w_n rfl) ?_
          refine TL_q (.int .i64 ((k + 1 : Nat) : Int)) (fun _ _ hρ _ => r_move (hρ _ _ rfl)) rfl rfl rfl (w_n rfl) ?_
          refine TL_nil ?_
          exact p_at (k + 1, c, true) ⟨⟨by omega, by rw [ahead_step hp9, if_neg hlp, Nat.add_zero, ← hc], (decide_eq_true ((mem_step hp9).2 (.inr hpe))).symm⟩, by dsimp only; omega⟩ (sub_cons rfl (sub_cons rfl (sub_cons rfl (sub_cons rfl (sub_cons rfl (sub_cons rfl (sub_cons rfl (sub_cons rfl sub_nil)))))))) (sub_cons rfl sub_nil)
        · skip
          refine T_region ?_
          refine TL_q (.bool false) (fun _ _ hρ _ => r_move (hρ _ _ rfl)) rfl rfl rfl (w_n rfl) ?_
          refine TL_q (.bool false) (fun _ _ hρ _ => r_move (hρ _ _ rfl)) rfl rfl rfl (w_n rfl) ?_
          refine TL_q (.agg #[.int .u64 p9.t, .int .i64 p9.s, .int .u64 p9.q]) (fun _ _ hρ hm => r_loadA ag32 sz32 (hρ _ _ rfl) (hm.at 2 rfl) rfl rfl) rfl rfl rfl (want_y 22 rfl rfl rfl) ?_
          refine TL_q (.agg #[.int .u64 i.t, .int .i64 i.s, .int .u64 i.q]) (fun _ _ hρ hm => r_loadA ag32 sz32 (hρ _ _ rfl) (hm.at 1 rfl) rfl rfl) rfl rfl rfl (want_y 22 rfl rfl rfl) ?_
          refine TL_q (.bool false) (fun _ _ hρ _ => r_as (r_as (r_eqlA (by kernel_rfl) (hρ _ _ rfl) (hρ _ _ rfl) (run_equalI (l := [(0, .u64), (1, .i64), (2, .u64)]) (by kernel_rfl) rfl rfl)) (bool_as (eqTid p9 i))) (bool_as (decide_eq_false hpe))) rfl rfl rfl (want_y 22 rfl rfl rfl) ?_
          refine TL_q (.bool false) (fun _ _ hρ _ => r_pick_f (hρ _ _ rfl) (hρ _ _ rfl)) rfl rfl rfl (w_n rfl) ?_
          refine TL_q (.bool false) (fun _ _ hρ _ => r_assign (hρ _ _ rfl)) rfl rfl rfl (w_n rfl) ?_
          refine TL_nil ?_
          refine p_blk_n ?_
          refine p_seq ?_
          refine T_region ?_
          refine TL_q (.int .i64 ((k + 1 : Nat) : Int)) (fun _ _ hρ _ => r_as (r_add (hρ _ _ rfl) (hρ _ _ rfl)) (int_as ((wrap64 (by omega) (by omega)).trans (by omega)))) rfl rfl rfl (w_n rfl) ?_
          refine TL_q (.int .i64 ((k + 1 : Nat) : Int)) (fun _ _ hρ _ => r_move (hρ _ _ rfl)) rfl rfl rfl (w_n rfl) ?_
          refine TL_nil ?_
          exact p_at (k + 1, c, false) ⟨⟨by omega, by rw [ahead_step hp9, if_neg hlp, Nat.add_zero, ← hc], (decide_eq_false (fun h => ((mem_step hp9).1 h).elim (of_decide_eq_false hbd.symm) hpe)).symm⟩, by dsimp only; omega⟩ (sub_cons rfl (sub_cons rfl (sub_cons rfl (sub_cons rfl (sub_cons rfl (sub_cons rfl (sub_cons rfl (sub_cons rfl sub_nil)))))))) (sub_cons rfl sub_nil)
  · replace h1 := of_decide_eq_false h1
    refine T_exit' ?_
    refine p_then_x ?_
    refine p_then_x ?_
    refine p_blk_x ?_
    refine p_seq ?_
    refine T_seq (T_region ?_)
    refine TL_q (.int .i64 ((c : Nat) : Int)) (fun _ _ hρ _ => r_move (hρ _ _ rfl)) rfl rfl rfl (w_n rfl) ?_
    refine TL_q (.bool b9) (fun _ _ hρ _ => r_move (hρ _ _ rfl)) rfl rfl rfl (w_n rfl) ?_
    refine TL_q (.int .i64 ((c : Nat) : Int)) (fun _ _ hρ _ => r_assign (hρ _ _ rfl)) rfl rfl rfl (w_n rfl) ?_
    refine TL_q (.bool b9) (fun _ _ hρ _ => r_assign (hρ _ _ rfl)) rfl rfl rfl (w_n rfl) ?_
    refine TL_seq ?_
    refine T_ret' ?_
    refine ret_of rfl (.tuple #[.int .i64 ((c : Nat) : Int), .bool b9]) (fun tmps w hk hm => res2 rfl (res_tmp (hk 4 _ rfl)) (res_tmp (hk 5 _ rfl))) (fun w hm => ?_)
    have hke : k = l.length := by omega
    subst hke
    rw [List.take_length] at hc hbd
    exact ⟨by rw [hc, hbd], hm.ext⟩

theorem from_c (b n : Nat) (w : World) (hb : b ≤ 1000) (hn : n ≤ 1000) : Calls Try.prog 18 #[.int .i64 (b : Int), .int .i64 (n : Int)] w fun e w' => ∃ a' cap', e = .returned (.slice a' (rangeF b n).length cap') ∧ Below w.heap.size w w' ∧ w'.ownsRow w.heap.size 3 1 (.slice a' (rangeF b n).length cap') (rangeF b n).length ((rangeF b n).flatMap inc) := by
  refine calls_of_T (l := [.int .i64 ((b : Nat) : Int), .int .i64 ((n : Nat) : Int)]) 19 Try.func18 rfl rfl rfl ?_
  show T _ _ _ [(0, .int .i64 ((b : Nat) : Int)), (1, .int .i64 ((n : Nat) : Int))] []
  refine T_seq (T_region ?_)
  refine TL_q (.slice none 0 0) (fun _ _ hρ _ => r_assign (hρ _ _ rfl)) rfl rfl rfl (w_n rfl) ?_
  refine TL_seq ?_
  refine T_seq (T_region ?_)
  refine TL_q (.slice none 0 0) (fun _ _ hρ _ => r_assign (hρ _ _ rfl)) rfl rfl rfl (w_n rfl) ?_
  refine TL_seq ?_
  refine T_seq ?_
  refine T_mem (_ :: _) (fun _ hm => hm.nilRow 950 3 1) ?_
  refine T_seq (T_region ?_)
  refine TL_q (.int .i64 ((n : Nat) : Int)) (fun _ _ hρ _ => r_move (hρ _ _ rfl)) rfl rfl rfl (w_n rfl) ?_
  refine TL_q (.int .i64 0) (fun _ _ hρ _ => r_move (hρ _ _ rfl)) rfl rfl rfl (w_n rfl) ?_
  refine TL_seq ?_
  refine T_block ?_
  refine T_loop (ι := Nat × List Int × Option Addr × Nat) (fun (z : Nat × List Int × Option Addr × Nat) => match z with | (k, os, oa, oc) => k ≤ n ∧ os = rangeF b k) (fun (z : Nat × List Int × Option Addr × Nat) => match z with | (k, os, oa, oc) => [(0, .int .i64 ((b : Nat) : Int)), (4, .slice none 0 0), (7, .int .i64 ((n : Nat) : Int)), (8, .int .i64 ((k : Nat) : Int)), (5, .slice oa os.length oc)]) (fun (z : Nat × List Int × Option Addr × Nat) => match z with | (k, os, oa, oc) => [(950, .row (.slice oa os.length oc) 3 1 os.length (os.flatMap inc))]) (fun (z : Nat × List Int × Option Addr × Nat) => match z with | (k, os, oa, oc) => n - k) (0, [], none, 0) ⟨Nat.zero_le _, rfl⟩ (sub_cons rfl (sub_cons rfl (sub_cons rfl (sub_cons rfl (sub_cons rfl sub_nil))))) (sub_cons rfl sub_nil) ?_
  rintro ⟨k, os, oa, oc⟩ hp
  obtain ⟨hk, hos⟩ := hp
  have hol : os.length = k := by rw [hos, rangeF_len]
  show T _ _ _ [(0, .int .i64 ((b : Nat) : Int)), (4, .slice none 0 0), (7, .int .i64 ((n : Nat) : Int)), (8, .int .i64 ((k : Nat) : Int)), (5, .slice oa os.length oc)] [(950, .row (.slice oa os.length oc) 3 1 os.length (os.flatMap inc))]
  refine T_seq (T_region ?_)
  refine TL_q (.bool (decide (((k : Nat) : Int) < ((n : Nat) : Int)))) (fun _ _ hρ _ => r_lss (hρ _ _ rfl) (hρ _ _ rfl)) rfl rfl rfl (w_n rfl) ?_
  refine TL_seq ?_
  refine T_seq ?_
  refine T_cond rfl (fun h1 => ?_) (fun h1 => ?_)
  · replace h1 := of_decide_eq_true h1
    refine T_skip' ?_
    refine p_seq ?_
    refine T_seq ?_
    refine T_block ?_
    refine T_seq (T_region ?_)
    refine TL_q (.int .i64 ((k : Nat) : Int)) (fun _ _ hρ _ => r_move (hρ _ _ rfl)) rfl rfl rfl (w_n rfl) ?_
    refine TL_q (.int .i64 ((k : Nat) : Int)) (fun _ _ hρ _ => r_assign (hρ _ _ rfl)) rfl rfl rfl (w_n rfl) ?_
    refine TL_seq ?_
    refine T_region ?_
    refine TL_q (.slice oa os.length oc) (fun _ _ hρ _ => r_move (hρ _ _ rfl)) rfl rfl rfl (w_n rfl) ?_
    refine TL_q (.int .i64 ((b : Nat) : Int)) (fun _ _ hρ _ => r_move (hρ _ _ rfl)) rfl rfl rfl (w_n rfl) ?_
    refine TL_q (.int .i64 ((k : Nat) : Int)) (fun _ _ hρ _ => r_move (hρ _ _ rfl)) rfl rfl rfl (w_n rfl) ?_
    refine TL_q (.int .i64 ((b + k : Nat) : Int)) (fun _ _ hρ _ => r_as (r_add (hρ _ _ rfl) (hρ _ _ rfl)) (int_as ((wrap64 (by omega) (by omega)).trans (by omega)))) rfl rfl rfl (w_n rfl) ?_
    refine TL_new 1 (.cells #[.int .i64 ((b + k : Nat) : Int)] 3) (fun B => .slice (some ⟨B, 0, none⟩) 1 1) (fun _ _ hρ _ => r_buildSlice (vs := [(0, .int .i64 ((b + k : Nat) : Int))]) (by kernel_rfl) (cons2 (pair2 (hρ _ _ rfl)) rfl)) rfl rfl rfl (w_n rfl) ?_
    intro B1
    refine TL_append (n := os.length) (m := 1) (xs := (os.flatMap inc)) (news := [.int .i64 ((b + k : Nat) : Int)]) (z := .int .i64 0) 950 rfl rfl rfl sl43 sz3 by3 (by kernel_rfl) rfl rfl (.inl rfl) (fun _ hm => src_blk (news := [.int .i64 ((b + k : Nat) : Int)]) (hm.at 1 rfl) rfl) (by simp [Value.oneCell']) (by omega) (by omega) rfl (w_n rfl) ?_
    intro a2 cap2
    refine TL_q (.slice a2 (os.length + 1) cap2) (fun _ _ hρ _ => r_assign (hρ _ _ rfl)) rfl rfl rfl (w_n rfl) ?_
    refine TL_nil ?_
    refine p_blk_n ?_
    refine p_seq ?_
    refine T_region ?_
    refine TL_q (.int .i64 ((k + 1 : Nat) : Int)) (fun _ _ hρ _ => r_as (r_add (hρ _ _ rfl) (hρ _ _ rfl)) (int_as ((wrap64 (by omega) (by omega)).trans (by omega)))) rfl rfl rfl (w_n rfl) ?_
    refine TL_q (.int .i64 ((k + 1 : Nat) : Int)) (fun _ _ hρ _ => r_move (hρ _ _ rfl)) rfl rfl rfl (w_n rfl) ?_
    refine TL_nil ?_
    have hn3 : (os.length + 1) = (os ++ [((b + k : Nat) : Int)]).length := by simp
    have hx3 : ((os.flatMap inc) ++ [.int .i64 ((b + k : Nat) : Int)]) = (os ++ [((b + k : Nat) : Int)]).flatMap inc := by simp [inc]
    rw [hx3, hn3]
    exact p_at (k + 1, os ++ [((b + k : Nat) : Int)], a2, cap2) ⟨⟨by omega, by rw [rangeF_step, ← hos]⟩, by dsimp only; omega⟩ (sub_cons rfl (sub_cons rfl (sub_cons rfl (sub_cons rfl (sub_cons rfl sub_nil))))) (sub_cons rfl sub_nil)
  · replace h1 := of_decide_eq_false h1
    refine T_exit' ?_
    refine p_then_x ?_
    refine p_then_x ?_
    refine p_blk_x ?_
    refine p_seq ?_
    refine T_seq (T_region ?_)
    refine TL_q (.slice oa os.length oc) (fun _ _ hρ _ => r_move (hρ _ _ rfl)) rfl rfl rfl (w_n rfl) ?_
    refine TL_q (.slice oa os.length oc) (fun _ _ hρ _ => r_assign (hρ _ _ rfl)) rfl rfl rfl (w_n rfl) ?_
    refine TL_seq ?_
    refine T_ret' ?_
    refine ret_of rfl (.slice oa os.length oc) (fun tmps w hk hm => res1 rfl (res_tmp (hk 4 _ rfl))) (fun w hm => ?_)
    have hke : k = n := by omega
    subst hke
    subst hos
    exact ⟨oa, oc, rfl, hm.ext, hm.row 950 rfl⟩

theorem shows_c (ms : List Mk) (a : Option Addr) (cap : Nat) (l : List Tid) (b : Option Addr) (capb : Nat) (ns : List Int) (d : Option Addr) (capd : Nat) (w : World) (hv : SliceAt w a cap 4 Mk.cells ms) (hcap : cap ≤ Go.maxLen) (hu : SliceAt w b capb 3 Tid.cells l) (hcapb : capb ≤ Go.maxLen) (hn : SliceAt w d capd 1 inc ns) (hcapd : capd ≤ Go.maxLen) (hmk : marksB ms = true) (hil : idsM ms = l) (hln : ns.length = ms.length) (hpn : PaintN w ms ns) : Calls Try.prog 22 #[.slice a ms.length cap, .slice b l.length capb, .slice d ns.length capd] w fun e w' => e = .returned (.bool true) ∧ Below w.heap.size w w' := by
  have hvl := hv.1
  unfold Go.maxLen at hcap
  have hm6 := (marksB_iff.1 hmk).2.2
  have hul := hu.1
  have hnl := hn.1
  have hll : l.length = ms.length := by rw [← hil, ids_len]
  unfold Go.maxLen at hcapb hcapd
  refine calls_of_T (l := [.slice a ms.length cap, .slice b l.length capb, .slice d ns.length capd]) 46 Try.func22 rfl rfl rfl ?_
  show T _ _ _ [(0, .slice a ms.length cap), (1, .slice b l.length capb), (2, .slice d ns.length capd)] []
  refine T_seq (T_region ?_)
  refine TL_q (.bool false) (fun _ _ hρ _ => r_assign (hρ _ _ rfl)) rfl rfl rfl (w_n rfl) ?_
  refine TL_seq ?_
  refine T_seq ?_
  refine T_seq (T_region ?_)
  refine TL_q (.slice a ms.length cap) (fun _ _ hρ _ => r_move (hρ _ _ rfl)) rfl rfl rfl (w_n rfl) ?_
  refine TL_callN (fun (_ : Option Addr × Nat) => True) (fun (ar1, cr1) => .slice ar1 ((idsM ms).length) cr1) (fun (ar1, cr1) => [(1, .row (.slice ar1 ((idsM ms).length) cr1) 32 3 ((idsM ms).length) ((idsM ms).flatMap Tid.cells))]) (fun _ _ hρ _ => r_call (args := [.slice a ms.length cap]) (enters_of Try.func34 (by kernel_rfl) rfl) (hρ _ _ rfl) ((cons2 (hρ _ _ rfl) rfl)) rfl) (fun w hm => (ids_ok ms a cap w (hv.keep hm.ext) hcap hmk).mono fun e w' ⟨a', cap', he, hb, hr⟩ => ⟨(a', cap'), trivial, he, hb, newOk1 1 hr⟩) rfl rfl rfl (w_n rfl) ?_
  rintro ⟨ar1, cr1⟩ -
  refine TL_q (.slice b l.length capb) (fun _ _ hρ _ => r_move (hρ _ _ rfl)) rfl rfl rfl (w_n rfl) ?_
  refine TL_call (.bool true) (fun _ _ hρ _ => r_call (args := [.slice ar1 ((idsM ms).length) cr1, .slice b l.length capb]) (enters_of Try.func33 (by kernel_rfl) rfl) (hρ _ _ rfl) ((cons2 (hρ _ _ rfl) (cons2 (hρ _ _ rfl) rfl))) rfl) (fun w hm => (equal_i (idsM ms) l ar1 b cr1 capb w (SliceAt.own Tid.cells_len (hm.row 1 rfl) rfl rfl) (hu.keep hm.ext) (by rw [ids_len]; omega) (by omega)).mono fun _ _ h => ⟨h.1.trans (congrArg Ending.returned (bool_as (decide_eq_true hil))), h.2⟩) rfl rfl rfl (w_n rfl) ?_
  refine TL_q (.bool false) (fun _ _ hρ _ => r_not (b := true) (hρ _ _ rfl)) rfl rfl rfl (w_n rfl) ?_
  refine TL_q (.bool false) (fun _ _ hρ _ => r_move (hρ _ _ rfl)) rfl rfl rfl (w_n rfl) ?_
  refine TL_q (.slice a ms.length cap) (fun _ _ hρ _ => r_move (hρ _ _ rfl)) rfl rfl rfl (want_y 14 rfl rfl rfl) ?_
  refine TL_q (.int .i64 ((ms.length : Nat) : Int)) (fun _ _ hρ _ => r_len sl25 (hρ _ _ rfl)) rfl rfl rfl (want_y 14 rfl rfl rfl) ?_
  refine TL_q (.slice d ns.length capd) (fun _ _ hρ _ => r_move (hρ _ _ rfl)) rfl rfl rfl (want_y 14 rfl rfl rfl) ?_
  refine TL_q (.int .i64 ((ns.length : Nat) : Int)) (fun _ _ hρ _ => r_len sl43 (hρ _ _ rfl)) rfl rfl rfl (want_y 14 rfl rfl rfl) ?_
  refine TL_q (.bool false) (fun _ _ hρ _ => r_as (r_neq (hρ _ _ rfl) (hρ _ _ rfl)) (bool_as (by rw [decide_eq_true (by omega)]; rfl))) rfl rfl rfl (want_y 14 rfl rfl rfl) ?_
  refine TL_q (.bool false) (fun _ _ hρ _ => r_pick_f (hρ _ _ rfl) (hρ _ _ rfl)) rfl rfl rfl (w_n rfl) ?_
  refine TL_seq ?_
  refine T_cond_f rfl ?_
  refine T_skip' ?_
  refine p_seq ?_
  refine T_seq ?_
  refine T_seq (T_region ?_)
  refine TL_q (.slice d ns.length capd) (fun _ _ hρ _ => r_move (hρ _ _ rfl)) rfl rfl rfl (w_n rfl) ?_
  refine TL_q (.int .i64 ((ns.length : Nat) : Int)) (fun _ _ hρ _ => r_len sl43 (hρ _ _ rfl)) rfl rfl rfl (w_n rfl) ?_
  refine TL_q (.int .i64 0) (fun _ _ hρ _ => r_move (hρ _ _ rfl)) rfl rfl rfl (w_n rfl) ?_
  refine TL_seq ?_
  refine T_block ?_
  refine T_loop (ι := Nat) (fun (k : Nat) => k ≤ ns.length) (fun (k : Nat) => [(0, .slice a ms.length cap), (21, .slice d ns.length capd), (22, .int .i64 ((ns.length : Nat) : Int)), (23, .int .i64 ((k : Nat) : Int))]) (fun (k : Nat) => [(1, .row (.slice ar1 ((idsM ms).length) cr1) 32 3 ((idsM ms).length) ((idsM ms).flatMap Tid.cells))]) (fun (k : Nat) => ns.length - k) 0 (Nat.zero_le _) (sub_cons rfl (sub_cons rfl (sub_cons rfl (sub_cons rfl sub_nil)))) (sub_cons rfl sub_nil) ?_
  rintro k hp
  have hk := hp
  show T _ _ _ [(0, .slice a ms.length cap), (21, .slice d ns.length capd), (22, .int .i64 ((ns.length : Nat) : Int)), (23, .int .i64 ((k : Nat) : Int))] [(1, .row (.slice ar1 ((idsM ms).length) cr1) 32 3 ((idsM ms).length) ((idsM ms).flatMap Tid.cells))]
  refine T_seq (T_region ?_)
  refine TL_q (.bool (decide (((k : Nat) : Int) < ((ns.length : Nat) : Int)))) (fun _ _ hρ _ => r_lss (hρ _ _ rfl) (hρ _ _ rfl)) rfl rfl rfl (w_n rfl) ?_
  refine TL_seq ?_
  refine T_seq ?_
  refine T_cond rfl (fun h1 => ?_) (fun h1 => ?_)
  · replace h1 := of_decide_eq_true h1
    refine T_skip' ?_
    refine p_seq ?_
    refine T_seq ?_
    refine T_block ?_
    obtain ⟨x9, hx9⟩ : ∃ x, ns[k]? = some x := ⟨_, List.getElem?_eq_getElem (by omega)⟩
    obtain ⟨b2, of2, cs2, T2, fz2, ha2, hq2, hr2⟩ := hn.open (i := k) (by omega)
    subst ha2
    refine T_seq (T_region ?_)
    refine TL_q (.int .i64 ((k : Nat) : Int)) (fun _ _ hρ _ => r_move (hρ _ _ rfl)) rfl rfl rfl (w_n rfl) ?_
    refine TL_q (.pointer (some ⟨b2, of2 + k * 1, none⟩)) (fun _ _ hρ _ => r_indexAddrS (i := k) sl43 sz3 (hρ _ _ rfl) (hρ _ _ rfl) (by omega)) rfl rfl rfl (w_n rfl) ?_
    refine TL_q (.int .i64 x9) (fun _ _ hρ hm => r_loadRow1 (f := inc) (u := x9) ag3 (hρ _ _ rfl) (hm.old hq2) hr2 hx9 rfl) rfl rfl rfl (w_n rfl) ?_
    refine TL_q (.int .i64 ((k : Nat) : Int)) (fun _ _ hρ _ => r_assign (hρ _ _ rfl)) rfl rfl rfl (w_n rfl) ?_
    refine TL_q (.int .i64 x9) (fun _ _ hρ _ => r_assign (hρ _ _ rfl)) rfl rfl rfl (w_n rfl) ?_
    refine TL_seq ?_
    obtain ⟨m9, hm9⟩ : ∃ x, ms[k]? = some x := ⟨_, List.getElem?_eq_getElem (by omega)⟩
    obtain ⟨cp, hcp1, hcp2, hcp3⟩ := hpn k m9 x9 hm9 hx9
    obtain ⟨b3, of3, cs3, T3, fz3, ha3, hq3, hr3⟩ := hv.open (i := k) (by omega)
    subst ha3
    refine T_mem (_ :: _) (fun _ hm => hm.cvs0 960) ?_
    refine T_seq (T_draw (V := [(0, .slice (some ⟨b3, of3, none⟩) ms.length cap), (1, .int .i64 ((k : Nat) : Int)), (2, .pointer (some ⟨b3, of3 + k * 4, none⟩)), (3, .pointer (some ⟨b3, of3 + k * 4 + 3, none⟩)), (4, .pointer m9.ptr), (5, .bool false), (6, .bool false), (7, .slice (some ⟨b3, of3, none⟩) ms.length cap), (8, .int .i64 ((k : Nat) : Int)), (9, .pointer (some ⟨b3, of3 + k * 4, none⟩)), (10, .pointer (some ⟨b3, of3 + k * 4 + 3, none⟩)), (11, .pointer m9.ptr), (12, .int .i64 x9)]) [0, 0, 3, 7, 15, 31, 63, 127, 127, 511, 1023, 2047, 127, 4223, 16383, 32767, 65535] [[(0, none)], [(7, none)], [(28, some 0), (29, some 1)], [(30, some 2)], [(31, some 3)], [(32, some 4)], [(33, some 5)], [(0, none)], [(7, none)], [(35, some 7), (36, some 8)], [(37, some 9)], [(38, some 10)], [(8, none)], [(40, some 12)], [(39, some 11), (41, some 13)], [(42, some 14)], [(43, some 15), (34, some 6)]] 24576 mixed (by kernel_rfl) ?_)
    refine G_step [0, 1, 2, 3, 4, 5, 6, 7, 8, 9, 10, 11, 12] 13 [] (by kernel_rfl) (allM (all_cons (q_run (.slice (some ⟨b3, of3, none⟩) ms.length cap) rfl rfl (wv_n rfl) rfl (fun _ _ hρ _ => r_move (hρ _ _ rfl))) (all_cons (q_run (.int .i64 ((k : Nat) : Int)) rfl rfl (wv_n rfl) rfl (fun _ _ hρ _ => r_move (hρ _ _ rfl))) (all_cons (q_run (.pointer (some ⟨b3, of3 + k * 4, none⟩)) rfl rfl (wv_n rfl) rfl (fun _ _ hρ _ => r_indexAddrS (i := k) sl25 sz36 (hρ _ _ rfl) (hρ _ _ rfl) (by omega))) (all_cons (q_run (.pointer (some ⟨b3, of3 + k * 4 + 3, none⟩)) rfl rfl (wv_n rfl) rfl (fun _ _ hρ _ => r_fieldAddr fl36_1 sz34 (hρ _ _ rfl))) (all_cons (q_run (.pointer m9.ptr) rfl rfl (wv_n rfl) rfl (fun _ _ hρ hm => r_loadRowJ (f := Mk.cells) (u := m9) 3 ag34 (hρ _ _ rfl) (hm.old hq3) hr3 hm9 rfl)) (all_cons (q_run (.bool false) rfl rfl (wv_n rfl) rfl (fun _ _ hρ _ => r_as (r_eqlPn po34 (hρ _ _ rfl) (hρ _ _ rfl)) (bool_as (by rw [ptr_none, hcp1]; rfl)))) (all_cons (q_run (.bool false) rfl rfl (wv_n rfl) rfl (fun _ _ hρ _ => r_move (hρ _ _ rfl))) (all_cons (q_run (.slice (some ⟨b3, of3, none⟩) ms.length cap) rfl rfl (wv_y rfl rfl) rfl (fun _ _ hρ _ => r_move (hρ _ _ rfl))) (all_cons (q_run (.int .i64 ((k : Nat) : Int)) rfl rfl (wv_y rfl rfl) rfl (fun _ _ hρ _ => r_move (hρ _ _ rfl))) (all_cons (q_run (.pointer (some ⟨b3, of3 + k * 4, none⟩)) rfl rfl (wv_y rfl rfl) rfl (fun _ _ hρ _ => r_indexAddrS (i := k) sl25 sz36 (hρ _ _ rfl) (hρ _ _ rfl) (by omega))) (all_cons (q_run (.pointer (some ⟨b3, of3 + k * 4 + 3, none⟩)) rfl rfl (wv_y rfl rfl) rfl (fun _ _ hρ _ => r_fieldAddr fl36_1 sz34 (hρ _ _ rfl))) (all_cons (q_run (.pointer m9.ptr) rfl rfl (wv_y rfl rfl) rfl (fun _ _ hρ hm => r_loadRowJ (f := Mk.cells) (u := m9) 3 ag34 (hρ _ _ rfl) (hm.old hq3) hr3 hm9 rfl)) (all_cons (q_run (.int .i64 x9) rfl rfl (wv_y rfl rfl) rfl (fun _ _ hρ _ => r_move (hρ _ _ rfl))) all_nil)))))))))))))) (allM (all_cons ?_ all_nil))
    refine LOb_callX (ι := Cv) (fun (dv5 : Cv) e w w' => e = .returned (.pointer (some ⟨dv5.p, 0, none⟩)) ∧ CvNew w w' [] dv5 ∧ Painted dv5 x9) (fun dv5 => .pointer (some ⟨dv5.p, 0, none⟩)) _ (fun dv5 => []) rfl (wv_y rfl rfl) rfl rfl (fun _ _ hρ _ => r_call (args := [.int .i64 x9]) (enters_of Try.func24 (by kernel_rfl) rfl) (hρ _ _ rfl) ((cons2 (hρ _ _ rfl) rfl)) rfl) (fun w _ => painted_c x9 w) (fun _ e w w' hm h => ⟨h.1, hm.cvGet 960 rfl h.2.1 (fun _ hx => nomatch hx)⟩) (fun dv5 => by kernel_rfl) ?_
    rintro dv5 ⟨_, w1_dv5, w2_dv5, _, hn_dv5, hp_dv5⟩
    refine G_step [7, 8, 9, 10, 11] 14 [] (by kernel_rfl) (allM (all_cons (q_run (.slice (some ⟨b3, of3, none⟩) ms.length cap) rfl rfl (wv_y rfl rfl) rfl (fun _ _ hρ _ => r_move (hρ _ _ rfl))) (all_cons (q_run (.int .i64 ((k : Nat) : Int)) rfl rfl (wv_y rfl rfl) rfl (fun _ _ hρ _ => r_move (hρ _ _ rfl))) (all_cons (q_run (.pointer (some ⟨b3, of3 + k * 4, none⟩)) rfl rfl (wv_y rfl rfl) rfl (fun _ _ hρ _ => r_indexAddrS (i := k) sl25 sz36 (hρ _ _ rfl) (hρ _ _ rfl) (by omega))) (all_cons (q_run (.pointer (some ⟨b3, of3 + k * 4 + 3, none⟩)) rfl rfl (wv_y rfl rfl) rfl (fun _ _ hρ _ => r_fieldAddr fl36_1 sz34 (hρ _ _ rfl))) (all_cons (q_run (.pointer m9.ptr) rfl rfl (wv_y rfl rfl) rfl (fun _ _ hρ hm => r_loadRowJ (f := Mk.cells) (u := m9) 3 ag34 (hρ _ _ rfl) (hm.old hq3) hr3 hm9 rfl)) all_nil)))))) (allM (all_cons ?_ all_nil))
    refine LOb_call (.bool true) [(15, .bool false), (16, .bool false)] rfl (wv_y rfl rfl) rfl rfl (fun _ _ hρ _ => r_call (args := [.pointer m9.ptr, .pointer (some ⟨dv5.p, 0, none⟩)]) (enters_of Try.func23 (by kernel_rfl) rfl) (hρ _ _ rfl) ((cons2 (hρ _ _ rfl) (cons2 (hρ _ _ rfl) rfl))) rfl) (fun w hm => (by rw [ptr_some hcp1]; exact (same_eq cp dv5 w (hcp2.below hm.ext) (hm.cv 960 rfl List.mem_cons_self) (hcp3.1.trans hp_dv5.1.symm) (hcp3.2.1.trans hp_dv5.2.1.symm)).mono fun _ _ h => ⟨h.1.trans (congrArg Ending.returned (bool_as (decide_eq_true (painted_ts hcp3 hp_dv5)))), h.2⟩)) (by kernel_rfl) ?_
    refine G_last [15, 16] [(0, .slice (some ⟨b3, of3, none⟩) ms.length cap), (21, .slice (some ⟨b2, of2, none⟩) ns.length capd), (22, .int .i64 ((ns.length : Nat) : Int)), (23, .int .i64 ((k : Nat) : Int)), (24, .bool (decide (((k : Nat) : Int) < ((ns.length : Nat) : Int)))), (25, .int .i64 ((k : Nat) : Int)), (26, .pointer (some ⟨b2, of2 + k * 1, none⟩)), (27, .int .i64 x9), (7, .int .i64 ((k : Nat) : Int)), (8, .int .i64 x9), (28, .slice (some ⟨b3, of3, none⟩) ms.length cap), (29, .int .i64 ((k : Nat) : Int)), (30, .pointer (some ⟨b3, of3 + k * 4, none⟩)), (31, .pointer (some ⟨b3, of3 + k * 4 + 3, none⟩)), (32, .pointer m9.ptr), (33, .bool false), (34, .bool false), (35, .slice (some ⟨b3, of3, none⟩) ms.length cap), (36, .int .i64 ((k : Nat) : Int)), (37, .pointer (some ⟨b3, of3 + k * 4, none⟩)), (38, .pointer (some ⟨b3, of3 + k * 4 + 3, none⟩)), (39, .pointer m9.ptr), (40, .int .i64 x9), (41, .pointer (some ⟨dv5.p, 0, none⟩)), (42, .bool true), (43, .bool false), (44, .bool false)] (by kernel_rfl) (allM (all_cons (q_run (.bool false) rfl rfl (wv_y rfl rfl) rfl (fun _ _ hρ _ => r_not (b := true) (hρ _ _ rfl))) (all_cons (q_run (.bool false) rfl rfl (wv_n rfl) rfl (fun _ _ hρ _ => r_pick_f (hρ _ _ rfl) (hρ _ _ rfl))) all_nil))) (end_old rfl rfl (end_old rfl rfl (end_old rfl rfl (end_old rfl rfl (end_old rfl rfl (end_old rfl rfl (end_old rfl rfl (end_old rfl rfl (end_old rfl rfl (end_old rfl rfl (end_new 0 rfl rfl (end_new 1 rfl rfl (end_new 2 rfl rfl (end_new 3 rfl rfl (end_new 4 rfl rfl (end_new 5 rfl rfl (end_new 6 rfl rfl (end_new 7 rfl rfl (end_new 8 rfl rfl (end_new 9 rfl rfl (end_new 10 rfl rfl (end_new 11 rfl rfl (end_new 12 rfl rfl (end_new 13 rfl rfl (end_new 14 rfl rfl (end_new 15 rfl rfl (end_new 16 rfl rfl end_nil))))))))))))))))))))))))))) ?_
    refine T_cond_f rfl ?_
    refine T_skip' ?_
    refine p_blk_n ?_
    refine p_seq ?_
    refine T_region ?_
    refine TL_q (.int .i64 ((k + 1 : Nat) : Int)) (fun _ _ hρ _ => r_as (r_add (hρ _ _ rfl) (hρ _ _ rfl)) (int_as ((wrap64 (by omega) (by omega)).trans (by omega)))) rfl rfl rfl (w_n rfl) ?_
    refine TL_q (.int .i64 ((k + 1 : Nat) : Int)) (fun _ _ hρ _ => r_move (hρ _ _ rfl)) rfl rfl rfl (w_n rfl) ?_
    refine TL_nil ?_
    exact p_at (k + 1) ⟨by omega, by omega⟩ (sub_cons rfl (sub_cons rfl (sub_cons rfl (sub_cons rfl sub_nil)))) (sub_cons rfl sub_nil)
  · replace h1 := of_decide_eq_false h1
    refine T_exit' ?_
    refine p_then_x ?_
    refine p_then_x ?_
    refine p_blk_x ?_
    refine p_seq ?_
    refine T_seq (T_region ?_)
    refine TL_q (.bool true) (fun _ _ hρ _ => r_assign (hρ _ _ rfl)) rfl rfl rfl (w_n rfl) ?_
    refine TL_seq ?_
    refine T_ret' ?_
    refine ret_of rfl (.bool true) (fun tmps w hk hm => res1 rfl (res_tmp (hk 6 _ rfl))) (fun w hm => ?_)
    exact ⟨rfl, hm.ext⟩
end Go.Proofs.Ytmihoejecpcmjaa
/- MarksPuts: ids with numbers (plainly). -/
namespace Go.Proofs.Ytmihoejecpcmjaa
open Go Go.RowKit
/-- A number, and an id. -/
abbrev NI := Int × Tid
/-- Ids with their places. -/
def tagL (l : List Tid) : List NI := l.zipIdx.map fun p => ((p.2 : Int), p.1)
theorem tag_at (l : List Tid) (k : Nat) : (tagL l)[k]? = (l[k]?).map fun x => ((k : Int), x) := by
  unfold tagL
  rw [List.getElem?_map, List.getElem?_zipIdx]
  cases l[k]? with
  | none => rfl
  | some x => show some (((0 + k : Nat) : Int), x) = _; rw [Nat.zero_add]; rfl
theorem tag_len (l : List Tid) : (tagL l).length = l.length := by unfold tagL; rw [List.length_map, List.length_zipIdx]
theorem tag_snd (l : List Tid) : (tagL l).map Prod.snd = l := by
  refine List.ext_getElem? (fun k => ?_)
  rw [List.getElem?_map, tag_at]
  cases l[k]? <;> rfl
/-- What the reference's Put keeps. -/
def keptP (l : List Tid) (d : Tid) : List NI := putG Prod.snd (tagL l) (-1, d)
/-- The first k of what is put together. -/
def insK (l : List Tid) (d : Tid) (n : Nat) (is : Bool) (k : Nat) : List NI :=
  if k ≤ n then (tagL l).take k else (tagL l).take n ++ (-1, d) :: (if is then ((tagL l).drop (n + 1)).take (k - n - 1) else ((tagL l).drop n).take (k - n))
theorem tag_take {l : List Tid} {k : Nat} {x : Tid} (h : l[k]? = some x) : (tagL l).take (k + 1) = (tagL l).take k ++ [((k : Int), x)] := by
  rw [List.take_add_one, tag_at, h]; rfl
theorem insK_lt {l : List Tid} {d x : Tid} {n k : Nat} {is : Bool} (h : l[k]? = some x) (hk : k < n) : insK l d n is (k + 1) = insK l d n is k ++ [((k : Int), x)] := by
  unfold insK
  rw [if_pos (by omega), if_pos (by omega), tag_take h]
theorem drop_take_one {l : List Tid} {n k : Nat} {x : Tid} (h : l[k]? = some x) (hn : n ≤ k) : ((tagL l).drop n).take (k - n + 1) = ((tagL l).drop n).take (k - n) ++ [((k : Int), x)] := by
  rw [List.take_add_one, List.getElem?_drop, show n + (k - n) = k by omega, tag_at, h]; rfl
theorem insK_is {l : List Tid} {d x : Tid} {k : Nat} (h : l[k]? = some x) : insK l d k true (k + 1) = insK l d k true k ++ [(-1, d)] := by
  unfold insK
  rw [if_neg (by omega), if_pos (Nat.le_refl _), if_pos rfl, show k + 1 - k - 1 = 0 by omega, List.take_zero]
theorem insK_no {l : List Tid} {d x : Tid} {k : Nat} (h : l[k]? = some x) : insK l d k false (k + 1) = (insK l d k false k ++ [(-1, d)]) ++ [((k : Int), x)] := by
  unfold insK
  rw [if_neg (by omega), if_pos (Nat.le_refl _), if_neg (by decide), show k + 1 - k = k - k + 1 by omega, drop_take_one h (Nat.le_refl _), Nat.sub_self, List.take_zero]
  simp
theorem insK_gt {l : List Tid} {d x : Tid} {n k : Nat} {is : Bool} (h : l[k]? = some x) (hk : n < k) : insK l d n is (k + 1) = insK l d n is k ++ [((k : Int), x)] := by
  unfold insK
  rw [if_neg (show ¬ k + 1 ≤ n by omega), if_neg (show ¬ k ≤ n by omega)]
  cases is with
  | true =>
    simp only [if_true]
    rw [show k + 1 - n - 1 = k - (n + 1) + 1 by omega, drop_take_one h (by omega), show k - n - 1 = k - (n + 1) by omega]
    simp
  | false =>
    simp only [Bool.false_eq_true, if_false]
    rw [show k + 1 - n = k - n + 1 by omega, drop_take_one h (by omega)]
    simp
/-- All of it. -/
theorem insK_all {l : List Tid} {d : Tid} (hu : Up l) : (if aheadL l d = l.length then insK l d (aheadL l d) (decide (d ∈ l)) l.length ++ [(-1, d)] else insK l d (aheadL l d) (decide (d ∈ l)) l.length) = insG Prod.snd (tagL l) (-1, d) := by
  have hle := ahead_le l d
  have hk : (tagL l).map Prod.snd = l := tag_snd l
  unfold insG
  rw [hk]
  dsimp only
  by_cases e : aheadL l d = l.length
  · rw [if_pos e, if_neg (show ¬ l[aheadL l d]? = some d by rw [e, List.getElem?_eq_none (Nat.le_refl _)]; exact fun h => by cases h)]
    unfold insK
    rw [if_pos (show l.length ≤ aheadL l d by omega), e, List.drop_of_length_le (l := tagL l) (by rw [tag_len]; exact Nat.le_refl _)]
  · rw [if_neg e]
    unfold insK
    rw [if_neg (show ¬ l.length ≤ aheadL l d by omega)]
    by_cases hd : d ∈ l
    · rw [if_pos (ahead_there hu hd), if_pos (decide_eq_true hd), List.take_of_length_le (l := (tagL l).drop (aheadL l d + 1)) (by rw [List.length_drop, tag_len]; omega)]
      rw [List.set_eq_take_append_cons_drop, if_pos (show aheadL l d < (tagL l).length by rw [tag_len]; omega)]
    · rw [if_neg (show ¬ l[aheadL l d]? = some d from fun h => hd (List.mem_of_getElem? h)), if_neg (show ¬ decide (d ∈ l) = true by rw [decide_eq_false hd]; decide), List.take_of_length_le (l := (tagL l).drop (aheadL l d)) (by rw [List.length_drop, tag_len]; omega)]
theorem insK_len {l : List Tid} {d : Tid} {n : Nat} {is : Bool} {k : Nat} (hk : k ≤ l.length) : (insK l d n is k).length ≤ k + 1 := by
  unfold insK
  split
  · rw [List.length_take, tag_len]; omega
  · rw [List.length_append, List.length_take, List.length_cons, tag_len]
    split
    · rw [List.length_take, List.length_drop, tag_len]; omega
    · rw [List.length_take, List.length_drop, tag_len]; omega
/-- How long the one is that is left out. -/
theorem outF_long (ts : List Int) : ∀ k, 0 < k → (outF ts k).2 = longI ts (outF ts k).1
  | 0, h => absurd h (Nat.lt_irrefl _)
  | k + 1, _ => by
    by_cases e : (outF ts k).1 = 0 ∨ longI ts (k + 1) < (outF ts k).2
    · rw [out_t e]
    · rw [out_f e]
      refine outF_long ts k ?_
      have := (out_bound ts k).1
      by_cases e2 : k = 0
      · subst e2; exact absurd (.inl rfl) e
      · omega
theorem outF_one (ts : List Int) : outF ts 1 = (1, longI ts 1) := out_t (.inl rfl)
theorem outF_step {ts : List Int} {k : Nat} (hk : 0 < k) : (outF ts (k + 1)).1 = if longI ts (k + 1) < longI ts (outF ts k).1 then k + 1 else (outF ts k).1 := by
  have hne : ¬ (outF ts k).1 = 0 := by have := (out_bound ts k).2 hk; omega
  rw [← outF_long ts k hk]
  by_cases e : longI ts (k + 1) < (outF ts k).2
  · rw [out_t (.inr e), if_pos e]
  · rw [out_f (fun h => h.elim hne e), if_neg e]
/-- The number that a place has. -/
def renum (S : List NI) (x : Int) (p : NI) : NI := if p.1 < 0 then (x, p.2) else (((S[p.1.toNat]?).map Prod.fst).getD 0, p.2)
theorem renum_put {S : List NI} {x : Int} {d : Tid} : (keptP (S.map Prod.snd) d).map (renum S x) = putG Prod.snd S (x, d) := by
  unfold keptP
  rw [putG_map (key' := Prod.snd) (f := renum S x) (fun p => by unfold renum; split <;> rfl)]
  congr 1
  refine List.ext_getElem? (fun k => ?_)
  rw [List.getElem?_map, tag_at, List.getElem?_map]
  cases e : S[k]? with
  | none => rfl
  | some p =>
    show some (renum S x ((k : Int), p.2)) = some p
    unfold renum
    rw [if_neg (by show ¬ (k : Int) < 0; omega)]
    show some (((S[(k : Int).toNat]?).map Prod.fst).getD 0, p.2) = some p
    rw [Int.toNat_natCast, e]; rfl
abbrev numc (p : NI) : List Value := [.int .i64 p.1]
theorem numc_len (p : NI) : (numc p).length = 1 := rfl
theorem numc_one : ∀ p : NI, ∀ u ∈ numc p, u.oneCell' = true := fun p u hu => by rw [List.mem_singleton.1 hu]; rfl
abbrev idc (p : NI) : List Value := p.2.cells
theorem idc_len (p : NI) : (idc p).length = 3 := rfl
theorem idc_one : ∀ p : NI, ∀ u ∈ idc p, u.oneCell' = true := fun p => Tid.cells_one p.2
theorem long_atG {qs : List NI} {k : Nat} {x y : NI} (hx : qs[k - 1]? = some x) (hy : qs[k + 1]? = some y) : longI (timesG Prod.snd qs) k = IntKind.wrap .u64 (y.2.t - x.2.t) := by
  unfold longI timesG
  rw [List.getD_eq_getElem?_getD, List.getD_eq_getElem?_getD, List.getElem?_map, List.getElem?_map, hx, hy]; rfl
theorem kept_few {l : List Tid} {d : Tid} {qs : List NI} (h : qs = insG Prod.snd (tagL l) (-1, d)) (h6 : qs.length ≤ 6) : qs = keptP l d := by
  unfold keptP putG
  rw [← h, if_pos h6]
theorem kept_many {l : List Tid} {d : Tid} {qs : List NI} {o : Nat} (h : qs = insG Prod.snd (tagL l) (-1, d)) (h6 : ¬ qs.length ≤ 6) (ho : o = (outF (timesG Prod.snd qs) (qs.length - 2)).1) : qs.take o ++ qs.drop (o + 1) = keptP l d := by
  unfold keptP putG
  rw [← h, if_neg h6, List.eraseIdx_eq_take_drop_succ]
  have : outN (timesG Prod.snd qs) = o := by unfold outN; rw [ho, show (timesG Prod.snd qs).length = qs.length from List.length_map _]
  rw [this]
theorem ins_len7 {l : List Tid} {d : Tid} {qs : List NI} (h : qs = insG Prod.snd (tagL l) (-1, d)) (h6 : l.length ≤ 6) : qs.length ≤ 7 := by
  have := (insG_len Prod.snd (tagL l) (-1, d)).2
  rw [← h, tag_len] at this; omega
end Go.Proofs.Ytmihoejecpcmjaa
/- MarksPuts: marks with numbers (plainly). -/
namespace Go.Proofs.Ytmihoejecpcmjaa
open Go Go.RowKit
/-- Numbers from b on. -/
def tagB {α : Type} (b : Nat) (l : List α) : List (Int × α) := l.zipIdx.map fun p => (((b + p.2 : Nat) : Int), p.1)
theorem tagB_at {α : Type} (b : Nat) (l : List α) (k : Nat) : (tagB b l)[k]? = (l[k]?).map fun x => (((b + k : Nat) : Int), x) := by
  unfold tagB
  rw [List.getElem?_map, List.getElem?_zipIdx]
  cases l[k]? with
  | none => rfl
  | some x => show some (((b + (0 + k) : Nat) : Int), x) = _; rw [Nat.zero_add]; rfl
theorem tagB_map {α β : Type} (b : Nat) (l : List α) (f : α → β) : (tagB b l).map (fun p => (p.1, f p.2)) = tagB b (l.map f) := by
  refine List.ext_getElem? (fun k => ?_)
  rw [List.getElem?_map, tagB_at, tagB_at, List.getElem?_map]
  cases l[k]? <;> rfl
theorem tagB_snd {α : Type} (b : Nat) (l : List α) : (tagB b l).map Prod.snd = l := by
  refine List.ext_getElem? (fun k => ?_)
  rw [List.getElem?_map, tagB_at]
  cases l[k]? <;> rfl
theorem tagB_len {α : Type} (b : Nat) (l : List α) : (tagB b l).length = l.length := by unfold tagB; rw [List.length_map, List.length_zipIdx]
/-- What the numbers and ids are behind putting the first j. -/
def stateP (I Y : List Tid) (j : Nat) : List NI := putsG Prod.snd (tagB 0 I) ((tagB 100 Y).take j)
theorem state_step {I Y : List Tid} {j : Nat} {d : Tid} (h : Y[j]? = some d) : stateP I Y (j + 1) = putG Prod.snd (stateP I Y j) (((100 + j : Nat) : Int), d) := by
  unfold stateP
  refine putsG_step Prod.snd ?_
  rw [tagB_at, h]; rfl
theorem state_renum {I Y : List Tid} {j : Nat} {d : Tid} (h : Y[j]? = some d) : (keptP ((stateP I Y j).map Prod.snd) d).map (renum (stateP I Y j) ((100 + j : Nat) : Int)) = stateP I Y (j + 1) := by
  rw [renum_put, state_step h]
/-- The marks, with their numbers. -/
def marksP (ms xs : List Mk) : List (Int × Mk) := putsG (fun p => p.2.i) (tagB 0 ms) (tagB 100 xs)
theorem marksP_snd (ms xs : List Mk) : (marksP ms xs).map Prod.snd = putsG Mk.i ms xs := by
  unfold marksP
  rw [putsG_map (key := fun p : Int × Mk => p.2.i) (key' := Mk.i) (f := Prod.snd) (fun _ => rfl), tagB_snd, tagB_snd]
theorem marksP_ids (ms xs : List Mk) : (marksP ms xs).map (fun p => (p.1, p.2.i)) = stateP (idsM ms) (idsM xs) xs.length := by
  unfold marksP stateP
  rw [putsG_map (key := fun p : Int × Mk => p.2.i) (key' := Prod.snd) (f := fun p => (p.1, p.2.i)) (fun _ => rfl), tagB_map, tagB_map, List.take_of_length_le (by rw [tagB_len, ids_len]; exact Nat.le_refl _)]
theorem marksP_num (ms xs : List Mk) : (marksP ms xs).map Prod.fst = (stateP (idsM ms) (idsM xs) xs.length).map Prod.fst := by
  rw [← marksP_ids, List.map_map]; rfl
theorem paint_tag {w : World} {ms : List Mk} {cs : List Cv} {b : Nat} (hc : ∀ c ∈ cs, CvAt w c) (hp : PaintOk ms cs b) : ∀ p ∈ tagB b ms, ∃ c, p.2.c = some c ∧ CvAt w c ∧ Painted c p.1 := fun p hp' => by
  obtain ⟨k, hk⟩ := List.getElem?_of_mem hp'
  rw [tagB_at] at hk
  cases e : ms[k]? with
  | none => rw [e] at hk; cases hk
  | some m =>
    rw [e] at hk
    cases hk
    obtain ⟨c, h1, h2, h3⟩ := hp k m e
    exact ⟨c, h2, hc c h1, h3⟩
theorem paintN_puts {w : World} {ms xs : List Mk} {cs cx : List Cv} (hc : ∀ c ∈ cs, CvAt w c) (hp : PaintOk ms cs 0) (hc2 : ∀ c ∈ cx, CvAt w c) (hp2 : PaintOk xs cx 100) : PaintN w (putsG Mk.i ms xs) ((stateP (idsM ms) (idsM xs) xs.length).map Prod.fst) := by
  rw [← marksP_snd, ← marksP_num]
  intro k m x hm hx
  rw [List.getElem?_map] at hm hx
  cases e : (marksP ms xs)[k]? with
  | none => rw [e] at hm; cases hm
  | some p =>
    rw [e] at hm hx
    cases hm; cases hx
    rcases putsG_mem (List.mem_of_getElem? e) with h | h
    · exact paint_tag hc hp p h
    · exact paint_tag hc2 hp2 p h
theorem state_ids (ms xs : List Mk) : (stateP (idsM ms) (idsM xs) xs.length).map Prod.snd = idsM (putsG Mk.i ms xs) := by
  rw [← marksP_ids, List.map_map, ← marksP_snd]
  unfold idsM
  rw [List.map_map]; rfl
end Go.Proofs.Ytmihoejecpcmjaa
/- net and journal: The reference's Put. Printed by a program of this seat's prover. -/
namespace Go.Proofs.Ytmihoejecpcmjaa
open Go Go.RowKit
set_option maxRecDepth 10000
set_option maxHeartbeats 4000000 in
theorem rput_c (l : List Tid) (a : Option Addr) (cap : Nat) (d : Tid) (w : World) (hv : SliceAt w a cap 3 Tid.cells l) (hcap : cap ≤ Go.maxLen) (hul : Up l) (h6 : l.length ≤ 6) : Calls Try.prog 20 #[.slice a l.length cap, d.v] w fun e w' => ∃ a1 c1 a2 c2, e = .returned (.tuple #[.slice a1 (keptP l d).length c1, .slice a2 (keptP l d).length c2]) ∧ Below w.heap.size w w' ∧ NewOk w w' [(0, .row (.slice a1 (keptP l d).length c1) 3 1 (keptP l d).length ((keptP l d).flatMap numc)), (1, .row (.slice a2 (keptP l d).length c2) 32 3 (keptP l d).length ((keptP l d).flatMap idc))] := by
  have hvl := hv.1
  unfold Go.maxLen at hcap
  refine calls_of_T (l := [.slice a l.length cap, .agg #[.int .u64 d.t, .int .i64 d.s, .int .u64 d.q]]) 118 Try.func20 rfl rfl rfl ?_
  show T _ _ _ [(0, .slice a l.length cap), (1, .agg #[.int .u64 d.t, .int .i64 d.s, .int .u64 d.q])] []
  refine T_seq (T_region ?_)
  refine TL_new 1 (.cells #[.int .u64 d.t, .int .i64 d.s, .int .u64 d.q] 32) (fun B => .pointer (some ⟨B, 0, none⟩)) (fun _ _ hρ _ => r_box (hρ _ _ rfl) rfl) rfl rfl rfl (w_n rfl) ?_
  intro B1
  refine TL_q (.slice none 0 0) (fun _ _ hρ _ => r_assign (hρ _ _ rfl)) rfl rfl rfl (w_n rfl) ?_
  refine TL_q (.slice none 0 0) (fun _ _ hρ _ => r_assign (hρ _ _ rfl)) rfl rfl rfl (w_n rfl) ?_
  refine TL_seq ?_
  refine T_seq (T_region ?_)
  refine TL_q (.slice none 0 0) (fun _ _ hρ _ => r_assign (hρ _ _ rfl)) rfl rfl rfl (w_n rfl) ?_
  refine TL_seq ?_
  refine T_seq (T_region ?_)
  refine TL_q (.slice none 0 0) (fun _ _ hρ _ => r_assign (hρ _ _ rfl)) rfl rfl rfl (w_n rfl) ?_
  refine TL_seq ?_
  refine T_mem (_ :: _) (fun _ hm => hm.nilRow 950 3 1) ?_
  refine T_mem (_ :: _) (fun _ hm => hm.nilRow 951 32 3) ?_
  refine T_seq (T_region ?_)
  refine TL_q (.slice a l.length cap) (fun _ _ hρ _ => r_move (hρ _ _ rfl)) rfl rfl rfl (w_n rfl) ?_
  refine TL_q (.agg #[.int .u64 d.t, .int .i64 d.s, .int .u64 d.q]) (fun _ _ hρ hm => r_loadA ag32 sz32 (hρ _ _ rfl) (hm.at 1 rfl) rfl rfl) rfl rfl rfl (w_n rfl) ?_
  refine TL_call (.tuple #[.int .i64 ((aheadL l d : Nat) : Int), .bool (decide (d ∈ l))]) (fun _ _ hρ _ => r_call (args := [.slice a l.length cap, .agg #[.int .u64 d.t, .int .i64 d.s, .int .u64 d.q]]) (enters_of Try.func50 (by kernel_rfl) rfl) (hρ _ _ rfl) ((cons2 (hρ _ _ rfl) (cons2 (hρ _ _ rfl) rfl))) rfl) (fun w hm => place_c l a cap d w (hv.keep hm.ext) hcap) rfl rfl rfl (w_n rfl) ?_
  refine TL_q (.tuple #[.int .i64 ((aheadL l d : Nat) : Int), .bool (decide (d ∈ l))]) (fun _ _ hρ _ => r_move (hρ _ _ rfl)) rfl rfl rfl (w_n rfl) ?_
  refine TL_q (.int .i64 ((aheadL l d : Nat) : Int)) (fun _ _ hρ _ => r_extract (hρ _ _ rfl) rfl) rfl rfl rfl (w_n rfl) ?_
  refine TL_q (.bool (decide (d ∈ l))) (fun _ _ hρ _ => r_extract (hρ _ _ rfl) rfl) rfl rfl rfl (w_n rfl) ?_
  refine TL_q (.int .i64 ((aheadL l d : Nat) : Int)) (fun _ _ hρ _ => r_assign (hρ _ _ rfl)) rfl rfl rfl (w_n rfl) ?_
  refine TL_q (.bool (decide (d ∈ l))) (fun _ _ hρ _ => r_assign (hρ _ _ rfl)) rfl rfl rfl (w_n rfl) ?_
  refine TL_seq ?_
  refine T_seq ?_
  obtain ⟨n9, hn9⟩ : ∃ z, z = aheadL l d := ⟨_, rfl⟩
  rw [← hn9]
  have hnl : n9 ≤ l.length := by rw [hn9]; exact ahead_le _ _
  obtain ⟨is9, his9⟩ : ∃ z, z = decide (d ∈ l) := ⟨_, rfl⟩
  rw [← his9]
  refine T_seq (T_region ?_)
  refine TL_q (.slice a l.length cap) (fun _ _ hρ _ => r_move (hρ _ _ rfl)) rfl rfl rfl (w_n rfl) ?_
  refine TL_q (.int .i64 ((l.length : Nat) : Int)) (fun _ _ hρ _ => r_len sl22 (hρ _ _ rfl)) rfl rfl rfl (w_n rfl) ?_
  refine TL_q (.int .i64 0) (fun _ _ hρ _ => r_move (hρ _ _ rfl)) rfl rfl rfl (w_n rfl) ?_
  refine TL_seq ?_
  refine T_block ?_
  refine T_loop (ι := Nat × List NI × Option Addr × Nat × Option Addr × Nat) (fun (z : Nat × List NI × Option Addr × Nat × Option Addr × Nat) => match z with | (k, ps, na, nc, ia, ic) => k ≤ l.length ∧ ps = insK l d n9 is9 k) (fun (z : Nat × List NI × Option Addr × Nat × Option Addr × Nat) => match z with | (k, ps, na, nc, ia, ic) => [(0, .slice a l.length cap), (3, .pointer (some ⟨B1, 0, none⟩)), (4, .slice none 0 0), (5, .slice none 0 0), (8, .int .i64 ((n9 : Nat) : Int)), (9, .bool is9), (20, .slice a l.length cap), (21, .int .i64 ((l.length : Nat) : Int)), (22, .int .i64 ((k : Nat) : Int)), (6, .slice na ps.length nc), (7, .slice ia ps.length ic)]) (fun (z : Nat × List NI × Option Addr × Nat × Option Addr × Nat) => match z with | (k, ps, na, nc, ia, ic) => [(1, .blk B1 (.cells #[.int .u64 d.t, .int .i64 d.s, .int .u64 d.q] 32)), (950, .row (.slice na ps.length nc) 3 1 ps.length (ps.flatMap numc)), (951, .row (.slice ia ps.length ic) 32 3 ps.length (ps.flatMap idc))]) (fun (z : Nat × List NI × Option Addr × Nat × Option Addr × Nat) => match z with | (k, ps, na, nc, ia, ic) => l.length - k) (0, [], none, 0, none, 0) ⟨Nat.zero_le _, by unfold insK; rw [if_pos (Nat.zero_le _)]; rfl⟩ (sub_cons rfl (sub_cons rfl (sub_cons rfl (sub_cons rfl (sub_cons rfl (sub_cons rfl (sub_cons rfl (sub_cons rfl (sub_cons rfl (sub_cons rfl (sub_cons rfl sub_nil))))))))))) (sub_cons rfl (sub_cons rfl (sub_cons rfl sub_nil))) ?_
  rintro ⟨k, ps, na, nc, ia, ic⟩ hp
  obtain ⟨hk, hps⟩ := hp
  have hpl : ps.length ≤ k + 1 := by rw [hps]; exact insK_len hk
  show T _ _ _ [(0, .slice a l.length cap), (3, .pointer (some ⟨B1, 0, none⟩)), (4, .slice none 0 0), (5, .slice none 0 0), (8, .int .i64 ((n9 : Nat) : Int)), (9, .bool is9), (20, .slice a l.length cap), (21, .int .i64 ((l.length : Nat) : Int)), (22, .int .i64 ((k : Nat) : Int)), (6, .slice na ps.length nc), (7, .slice ia ps.length ic)] [(1, .blk B1 (.cells #[.int .u64 d.t, .int .i64 d.s, .int .u64 d.q] 32)), (950, .row (.slice na ps.length nc) 3 1 ps.length (ps.flatMap numc)), (951, .row (.slice ia ps.length ic) 32 3 ps.length (ps.flatMap idc))]
  refine T_seq (T_region ?_)
  refine TL_q (.bool (decide (((k : Nat) : Int) < ((l.length : Nat) : Int)))) (fun _ _ hρ _ => r_lss (hρ _ _ rfl) (hρ _ _ rfl)) rfl rfl rfl (w_n rfl) ?_
  refine TL_seq ?_
  refine T_seq ?_
  refine T_cond rfl (fun h1 => ?_) (fun h1 => ?_)
  · replace h1 := of_decide_eq_true h1
    refine T_skip' ?_
    refine p_seq ?_
    refine T_seq ?_
    refine T_block ?_
    obtain ⟨x9, hx9⟩ : ∃ x, l[k]? = some x := ⟨_, List.getElem?_eq_getElem (by omega)⟩
    obtain ⟨b2, of2, cs2, T2, fz2, ha2, hq2, hr2⟩ := hv.open (i := k) (by omega)
    subst ha2
    refine T_seq (T_region ?_)
    refine TL_q (.int .i64 ((k : Nat) : Int)) (fun _ _ hρ _ => r_move (hρ _ _ rfl)) rfl rfl rfl (w_n rfl) ?_
    refine TL_q (.pointer (some ⟨b2, of2 + k * 3, none⟩)) (fun _ _ hρ _ => r_indexAddrS (i := k) sl22 sz32 (hρ _ _ rfl) (hρ _ _ rfl) (by omega)) rfl rfl rfl (w_n rfl) ?_
    refine TL_q (.agg #[.int .u64 x9.t, .int .i64 x9.s, .int .u64 x9.q]) (fun _ _ hρ hm => r_loadRow (f := Tid.cells) (u := x9) ag32 sz32 (hρ _ _ rfl) (hm.old hq2) hr2 hx9) rfl rfl rfl (w_n rfl) ?_
    refine TL_new 2 (.cells #[.int .u64 0, .int .i64 0, .int .u64 0] 32) (fun B => .pointer (some ⟨B, 0, none⟩)) (fun _ _ _ _ => r_alloc (v := .agg #[.int .u64 0, .int .i64 0, .int .u64 0]) (by kernel_rfl) rfl) rfl rfl rfl (w_n rfl) ?_
    intro B3
    refine TL_q (.int .i64 ((k : Nat) : Int)) (fun _ _ hρ _ => r_assign (hρ _ _ rfl)) rfl rfl rfl (w_n rfl) ?_
    refine TL_store 2 (.cells #[.int .u64 x9.t, .int .i64 x9.s, .int .u64 x9.q] 32) rfl (fun _ _ hρ hm => r_store sz32 (hρ _ _ rfl) (hρ _ _ rfl) (hm.at 2 rfl) rfl rfl rfl rfl) rfl rfl (w_n rfl) ?_
    refine TL_seq ?_
    refine T_seq ?_
    by_cases hkn : ((k : Nat) : Int) = ((n9 : Nat) : Int)
    · skip
      refine T_seq (T_region ?_)
      refine TL_q (.int .i64 ((k : Nat) : Int)) (fun _ _ hρ _ => r_move (hρ _ _ rfl)) rfl rfl rfl (w_n rfl) ?_
      refine TL_q (.int .i64 ((n9 : Nat) : Int)) (fun _ _ hρ _ => r_move (hρ _ _ rfl)) rfl rfl rfl (w_n rfl) ?_
      refine TL_q (.bool true) (fun _ _ hρ _ => r_as (r_eql (hρ _ _ rfl) (hρ _ _ rfl)) (bool_as (decide_eq_true hkn))) rfl rfl rfl (w_n rfl) ?_
      refine TL_seq ?_
      refine T_cond_t rfl ?_
      refine T_join (ι := Nat × (Option Addr) × Nat × Nat × (Option Addr) × Nat) (fun _ => True) (fun (z : Nat × (Option Addr) × Nat × Nat × (Option Addr) × Nat) => match z with | (Bx1, ax2, capx2, Bx5, ax6, capx6) => [(0, .slice (some ⟨b2, of2, none⟩) l.length cap), (3, .pointer (some ⟨B1, 0, none⟩)), (4, .slice none 0 0), (5, .slice none 0 0), (8, .int .i64 ((n9 : Nat) : Int)), (9, .bool is9), (20, .slice (some ⟨b2, of2, none⟩) l.length cap), (21, .int .i64 ((l.length : Nat) : Int)), (22, .int .i64 ((k : Nat) : Int)), (23, .bool (decide (((k : Nat) : Int) < ((l.length : Nat) : Int)))), (24, .int .i64 ((k : Nat) : Int)), (25, .pointer (some ⟨b2, of2 + k * 3, none⟩)), (26, .agg #[.int .u64 x9.t, .int .i64 x9.s, .int .u64 x9.q]), (11, .pointer (some ⟨B3, 0, none⟩)), (10, .int .i64 ((k : Nat) : Int)), (27, .int .i64 ((k : Nat) : Int)), (28, .int .i64 ((n9 : Nat) : Int)), (29, .bool true), (30, .slice na ps.length nc), (31, .slice (some ⟨Bx1, 0, none⟩) 1 1), (32, .slice ax2 (ps.length + 1) capx2), (33, .slice ia ps.length ic), (34, .agg #[.int .u64 d.t, .int .i64 d.s, .int .u64 d.q]), (35, .slice (some ⟨Bx5, 0, none⟩) 1 1), (36, .slice ax6 (ps.length + 1) capx6), (6, .slice ax2 (ps.length + 1) capx2), (7, .slice ax6 (ps.length + 1) capx6)]) (fun (z : Nat × (Option Addr) × Nat × Nat × (Option Addr) × Nat) => match z with | (Bx1, ax2, capx2, Bx5, ax6, capx6) => [(1, .blk B1 (.cells #[.int .u64 d.t, .int .i64 d.s, .int .u64 d.q] 32)), (2, .blk B3 (.cells #[.int .u64 x9.t, .int .i64 x9.s, .int .u64 x9.q] 32)), (3, .blk Bx1 (.cells #[.int .i64 (-1)] 3)), (4, .blk Bx5 (.cells #[.int .u64 d.t, .int .i64 d.s, .int .u64 d.q] 32)), (950, .row (.slice ax2 (ps.length + 1) capx2) 3 1 (ps.length + 1) ((ps.flatMap numc) ++ [.int .i64 (-1)])), (951, .row (.slice ax6 (ps.length + 1) capx6) 32 3 (ps.length + 1) ((ps.flatMap idc) ++ [.int .u64 d.t, .int .i64 d.s, .int .u64 d.q]))]) (T_draw (V := [(0, .slice na ps.length nc), (3, .slice ia ps.length ic), (4, .agg #[.int .u64 d.t, .int .i64 d.s, .int .u64 d.q])]) [0, 0, 3, 0, 0, 16, 63, 127, 255] [[(6, none)], [], [(30, some 0), (31, some 1)], [(7, none)], [(3, none)], [(34, some 4)], [(33, some 3), (35, some 5)], [(32, some 2)], [(36, some 6)]] 102 mixed (by kernel_rfl) ?_) (fun z hz => ?_)
      · skip
        refine G_step [0, 3, 4] 1 [5] (by kernel_rfl) (allM (all_cons (q_run (.slice na ps.length nc) rfl rfl (wv_n rfl) rfl (fun _ _ hρ _ => r_move (hρ _ _ rfl))) (all_cons (q_run (.slice ia ps.length ic) rfl rfl (wv_n rfl) rfl (fun _ _ hρ _ => r_move (hρ _ _ rfl))) (all_cons (q_run (.agg #[.int .u64 d.t, .int .i64 d.s, .int .u64 d.q]) rfl rfl (wv_n rfl) rfl (fun _ _ hρ hm => r_loadA ag32 sz32 (hρ _ _ rfl) (hm.at 1 rfl) rfl rfl)) all_nil)))) (allM (all_cons ?_ (all_cons ?_ all_nil)))
        · skip
          refine LOb_new 3 (.cells #[.int .i64 (-1)] 3) (fun B => .slice (some ⟨B, 0, none⟩) 1 1) (fun B => []) rfl (wv_n rfl) rfl rfl (fun _ _ hρ _ => r_buildSlice (vs := [(0, .int .i64 (-1))]) (by kernel_rfl) (cons2 (pair2 (hρ _ _ rfl)) rfl)) (fun B => by kernel_rfl) ?_
          intro B4
          refine G_step [0, 3, 4] 2 [5] (by kernel_rfl) (allM (all_cons (q_run (.slice na ps.length nc) rfl rfl (wv_n rfl) rfl (fun _ _ hρ _ => r_move (hρ _ _ rfl))) (all_cons (q_run (.slice ia ps.length ic) rfl rfl (wv_n rfl) rfl (fun _ _ hρ _ => r_move (hρ _ _ rfl))) (all_cons (q_run (.agg #[.int .u64 d.t, .int .i64 d.s, .int .u64 d.q]) rfl rfl (wv_n rfl) rfl (fun _ _ hρ hm => r_loadA ag32 sz32 (hρ _ _ rfl) (hm.at 1 rfl) rfl rfl)) all_nil)))) (allM (all_cons ?_ (all_cons ?_ all_nil)))
          · skip
            refine LOb_append (n := ps.length) (m := 1) (xs := (ps.flatMap numc)) (news := [.int .i64 (-1)]) (z := .int .i64 0) 950 (fun a cap => []) rfl (wv_n rfl) rfl rfl rfl sl43 sz3 by3 (by kernel_rfl) rfl rfl (.inl rfl) (fun _ hm => src_blk (news := [.int .i64 (-1)]) (hm.at 3 rfl) rfl) (by first | (intro u hu; obtain ⟨x, _, hx⟩ := List.mem_flatMap.1 hu; first | exact numc_one x u hx | exact idc_one x u hx) | simp [Value.oneCell']) (by omega) (by omega) (fun a cap => by kernel_rfl) ?_
            intro a5 cap5
            refine G_step [3, 4] 5 [] (by kernel_rfl) (allM (all_cons (q_run (.slice ia ps.length ic) rfl rfl (wv_n rfl) rfl (fun _ _ hρ _ => r_move (hρ _ _ rfl))) (all_cons (q_run (.agg #[.int .u64 d.t, .int .i64 d.s, .int .u64 d.q]) rfl rfl (wv_n rfl) rfl (fun _ _ hρ hm => r_loadA ag32 sz32 (hρ _ _ rfl) (hm.at 1 rfl) rfl rfl)) all_nil))) (allM (all_cons ?_ all_nil))
            refine LOb_new 4 (.cells #[.int .u64 d.t, .int .i64 d.s, .int .u64 d.q] 32) (fun B => .slice (some ⟨B, 0, none⟩) 1 1) (fun B => []) rfl (wv_n rfl) rfl rfl (fun _ _ hρ _ => r_buildSlice (vs := [(0, .agg #[.int .u64 d.t, .int .i64 d.s, .int .u64 d.q])]) (by kernel_rfl) (cons2 (pair2 (hρ _ _ rfl)) rfl)) (fun B => by kernel_rfl) ?_
            intro B6
            refine G_step [3] 6 [] (by kernel_rfl) (allM (all_cons (q_run (.slice ia ps.length ic) rfl rfl (wv_n rfl) rfl (fun _ _ hρ _ => r_move (hρ _ _ rfl))) all_nil)) (allM (all_cons ?_ all_nil))
            refine LOb_append (n := ps.length) (m := 1) (xs := (ps.flatMap idc)) (news := [.int .u64 d.t, .int .i64 d.s, .int .u64 d.q]) (z := .agg #[.int .u64 0, .int .i64 0, .int .u64 0]) 951 (fun a cap => [(7, .slice a5 (ps.length + 1) cap5), (8, .slice a (ps.length + 1) cap)]) rfl (wv_n rfl) rfl rfl rfl sl22 sz32 by32 (by kernel_rfl) rfl rfl (.inl rfl) (fun _ hm => src_blk (news := [.int .u64 d.t, .int .i64 d.s, .int .u64 d.q]) (hm.at 4 rfl) rfl) (by first | (intro u hu; obtain ⟨x, _, hx⟩ := List.mem_flatMap.1 hu; first | exact numc_one x u hx | exact idc_one x u hx) | simp [Value.oneCell']) (by omega) (by omega) (fun a cap => by kernel_rfl) ?_
            intro a7 cap7
            exact G_lastQ [7, 8] [(0, .slice (some ⟨b2, of2, none⟩) l.length cap), (3, .pointer (some ⟨B1, 0, none⟩)), (4, .slice none 0 0), (5, .slice none 0 0), (8, .int .i64 ((n9 : Nat) : Int)), (9, .bool is9), (20, .slice (some ⟨b2, of2, none⟩) l.length cap), (21, .int .i64 ((l.length : Nat) : Int)), (22, .int .i64 ((k : Nat) : Int)), (23, .bool (decide (((k : Nat) : Int) < ((l.length : Nat) : Int)))), (24, .int .i64 ((k : Nat) : Int)), (25, .pointer (some ⟨b2, of2 + k * 3, none⟩)), (26, .agg #[.int .u64 x9.t, .int .i64 x9.s, .int .u64 x9.q]), (11, .pointer (some ⟨B3, 0, none⟩)), (10, .int .i64 ((k : Nat) : Int)), (27, .int .i64 ((k : Nat) : Int)), (28, .int .i64 ((n9 : Nat) : Int)), (29, .bool true), (30, .slice na ps.length nc), (31, .slice (some ⟨B4, 0, none⟩) 1 1), (32, .slice a5 (ps.length + 1) cap5), (33, .slice ia ps.length ic), (34, .agg #[.int .u64 d.t, .int .i64 d.s, .int .u64 d.q]), (35, .slice (some ⟨B6, 0, none⟩) 1 1), (36, .slice a7 (ps.length + 1) cap7), (6, .slice a5 (ps.length + 1) cap5), (7, .slice a7 (ps.length + 1) cap7)] (by kernel_rfl) (allM (all_cons (q_run (.slice a5 (ps.length + 1) cap5) rfl rfl (wv_n rfl) rfl (fun _ _ hρ _ => r_assign (hρ _ _ rfl))) (all_cons (q_run (.slice a7 (ps.length + 1) cap7) rfl rfl (wv_n rfl) rfl (fun _ _ hρ _ => r_assign (hρ _ _ rfl))) all_nil))) (end_old rfl rfl (end_old rfl rfl (end_old rfl rfl (end_old rfl rfl (end_old rfl rfl (end_old rfl rfl (end_old rfl rfl (end_old rfl rfl (end_old rfl rfl (end_old rfl rfl (end_old rfl rfl (end_old rfl rfl (end_old rfl rfl (end_old rfl rfl (end_old rfl rfl (end_old rfl rfl (end_old rfl rfl (end_old rfl rfl (end_new 0 rfl rfl (end_new 1 rfl rfl (end_new 2 rfl rfl (end_new 3 rfl rfl (end_new 4 rfl rfl (end_new 5 rfl rfl (end_new 6 rfl rfl (end_new 7 rfl rfl (end_new 8 rfl rfl end_nil))))))))))))))))))))))))))) (fun a w hf hm => At_intro (B4, a5, cap5, B6, a7, cap7) trivial hf hm (sub_cons rfl (sub_cons rfl (sub_cons rfl (sub_cons rfl (sub_cons rfl (sub_cons rfl (sub_cons rfl (sub_cons rfl (sub_cons rfl (sub_cons rfl (sub_cons rfl (sub_cons rfl (sub_cons rfl (sub_cons rfl (sub_cons rfl (sub_cons rfl (sub_cons rfl (sub_cons rfl (sub_cons rfl (sub_cons rfl (sub_cons rfl (sub_cons rfl (sub_cons rfl (sub_cons rfl (sub_cons rfl (sub_cons rfl (sub_cons rfl sub_nil))))))))))))))))))))))))))) (sub_cons rfl (sub_cons rfl (sub_cons rfl (sub_cons rfl (sub_cons rfl (sub_cons rfl sub_nil)))))))
          · skip
            refine LOb_new 4 (.cells #[.int .u64 d.t, .int .i64 d.s, .int .u64 d.q] 32) (fun B => .slice (some ⟨B, 0, none⟩) 1 1) (fun B => []) rfl (wv_n rfl) rfl rfl (fun _ _ hρ _ => r_buildSlice (vs := [(0, .agg #[.int .u64 d.t, .int .i64 d.s, .int .u64 d.q])]) (by kernel_rfl) (cons2 (pair2 (hρ _ _ rfl)) rfl)) (fun B => by kernel_rfl) ?_
            intro B8
            refine G_step [0, 3] 2 [] (by kernel_rfl) (allM (all_cons (q_run (.slice na ps.length nc) rfl rfl (wv_n rfl) rfl (fun _ _ hρ _ => r_move (hρ _ _ rfl))) (all_cons (q_run (.slice ia ps.length ic) rfl rfl (wv_n rfl) rfl (fun _ _ hρ _ => r_move (hρ _ _ rfl))) all_nil))) (allM (all_cons ?_ all_nil))
            refine LOb_append (n := ps.length) (m := 1) (xs := (ps.flatMap numc)) (news := [.int .i64 (-1)]) (z := .int .i64 0) 950 (fun a cap => []) rfl (wv_n rfl) rfl rfl rfl sl43 sz3 by3 (by kernel_rfl) rfl rfl (.inl rfl) (fun _ hm => src_blk (news := [.int .i64 (-1)]) (hm.at 3 rfl) rfl) (by first | (intro u hu; obtain ⟨x, _, hx⟩ := List.mem_flatMap.1 hu; first | exact numc_one x u hx | exact idc_one x u hx) | simp [Value.oneCell']) (by omega) (by omega) (fun a cap => by kernel_rfl) ?_
            intro a9 cap9
            refine G_step [3] 6 [] (by kernel_rfl) (allM (all_cons (q_run (.slice ia ps.length ic) rfl rfl (wv_n rfl) rfl (fun _ _ hρ _ => r_move (hρ _ _ rfl))) all_nil)) (allM (all_cons ?_ all_nil))
            refine LOb_append (n := ps.length) (m := 1) (xs := (ps.flatMap idc)) (news := [.int .u64 d.t, .int .i64 d.s, .int .u64 d.q]) (z := .agg #[.int .u64 0, .int .i64 0, .int .u64 0]) 951 (fun a cap => [(7, .slice a9 (ps.length + 1) cap9), (8, .slice a (ps.length + 1) cap)]) rfl (wv_n rfl) rfl rfl rfl sl22 sz32 by32 (by kernel_rfl) rfl rfl (.inl rfl) (fun _ hm => src_blk (news := [.int .u64 d.t, .int .i64 d.s, .int .u64 d.q]) (hm.at 4 rfl) rfl) (by first | (intro u hu; obtain ⟨x, _, hx⟩ := List.mem_flatMap.1 hu; first | exact numc_one x u hx | exact idc_one x u hx) | simp [Value.oneCell']) (by omega) (by omega) (fun a cap => by kernel_rfl) ?_
            intro a10 cap10
            exact G_lastQ [7, 8] [(0, .slice (some ⟨b2, of2, none⟩) l.length cap), (3, .pointer (some ⟨B1, 0, none⟩)), (4, .slice none 0 0), (5, .slice none 0 0), (8, .int .i64 ((n9 : Nat) : Int)), (9, .bool is9), (20, .slice (some ⟨b2, of2, none⟩) l.length cap), (21, .int .i64 ((l.length : Nat) : Int)), (22, .int .i64 ((k : Nat) : Int)), (23, .bool (decide (((k : Nat) : Int) < ((l.length : Nat) : Int)))), (24, .int .i64 ((k : Nat) : Int)), (25, .pointer (some ⟨b2, of2 + k * 3, none⟩)), (26, .agg #[.int .u64 x9.t, .int .i64 x9.s, .int .u64 x9.q]), (11, .pointer (some ⟨B3, 0, none⟩)), (10, .int .i64 ((k : Nat) : Int)), (27, .int .i64 ((k : Nat) : Int)), (28, .int .i64 ((n9 : Nat) : Int)), (29, .bool true), (30, .slice na ps.length nc), (31, .slice (some ⟨B4, 0, none⟩) 1 1), (32, .slice a9 (ps.length + 1) cap9), (33, .slice ia ps.length ic), (34, .agg #[.int .u64 d.t, .int .i64 d.s, .int .u64 d.q]), (35, .slice (some ⟨B8, 0, none⟩) 1 1), (36, .slice a10 (ps.length + 1) cap10), (6, .slice a9 (ps.length + 1) cap9), (7, .slice a10 (ps.length + 1) cap10)] (by kernel_rfl) (allM (all_cons (q_run (.slice a9 (ps.length + 1) cap9) rfl rfl (wv_n rfl) rfl (fun _ _ hρ _ => r_assign (hρ _ _ rfl))) (all_cons (q_run (.slice a10 (ps.length + 1) cap10) rfl rfl (wv_n rfl) rfl (fun _ _ hρ _ => r_assign (hρ _ _ rfl))) all_nil))) (end_old rfl rfl (end_old rfl rfl (end_old rfl rfl (end_old rfl rfl (end_old rfl rfl (end_old rfl rfl (end_old rfl rfl (end_old rfl rfl (end_old rfl rfl (end_old rfl rfl (end_old rfl rfl (end_old rfl rfl (end_old rfl rfl (end_old rfl rfl (end_old rfl rfl (end_old rfl rfl (end_old rfl rfl (end_old rfl rfl (end_new 0 rfl rfl (end_new 1 rfl rfl (end_new 2 rfl rfl (end_new 3 rfl rfl (end_new 4 rfl rfl (end_new 5 rfl rfl (end_new 6 rfl rfl (end_new 7 rfl rfl (end_new 8 rfl rfl end_nil))))))))))))))))))))))))))) (fun a w hf hm => At_intro (B4, a9, cap9, B8, a10, cap10) trivial hf hm (sub_cons rfl (sub_cons rfl (sub_cons rfl (sub_cons rfl (sub_cons rfl (sub_cons rfl (sub_cons rfl (sub_cons rfl (sub_cons rfl (sub_cons rfl (sub_cons rfl (sub_cons rfl (sub_cons rfl (sub_cons rfl (sub_cons rfl (sub_cons rfl (sub_cons rfl (sub_cons rfl (sub_cons rfl (sub_cons rfl (sub_cons rfl (sub_cons rfl (sub_cons rfl (sub_cons rfl (sub_cons rfl (sub_cons rfl (sub_cons rfl sub_nil))))))))))))))))))))))))))) (sub_cons rfl (sub_cons rfl (sub_cons rfl (sub_cons rfl (sub_cons rfl (sub_cons rfl sub_nil)))))))
        · skip
          refine LOb_new 4 (.cells #[.int .u64 d.t, .int .i64 d.s, .int .u64 d.q] 32) (fun B => .slice (some ⟨B, 0, none⟩) 1 1) (fun B => []) rfl (wv_n rfl) rfl rfl (fun _ _ hρ _ => r_buildSlice (vs := [(0, .agg #[.int .u64 d.t, .int .i64 d.s, .int .u64 d.q])]) (by kernel_rfl) (cons2 (pair2 (hρ _ _ rfl)) rfl)) (fun B => by kernel_rfl) ?_
          intro B11
          refine G_step [0, 3] 1 [] (by kernel_rfl) (allM (all_cons (q_run (.slice na ps.length nc) rfl rfl (wv_n rfl) rfl (fun _ _ hρ _ => r_move (hρ _ _ rfl))) (all_cons (q_run (.slice ia ps.length ic) rfl rfl (wv_n rfl) rfl (fun _ _ hρ _ => r_move (hρ _ _ rfl))) all_nil))) (allM (all_cons ?_ all_nil))
          refine LOb_new 3 (.cells #[.int .i64 (-1)] 3) (fun B => .slice (some ⟨B, 0, none⟩) 1 1) (fun B => []) rfl (wv_n rfl) rfl rfl (fun _ _ hρ _ => r_buildSlice (vs := [(0, .int .i64 (-1))]) (by kernel_rfl) (cons2 (pair2 (hρ _ _ rfl)) rfl)) (fun B => by kernel_rfl) ?_
          intro B12
          refine G_step [0, 3] 2 [] (by kernel_rfl) (allM (all_cons (q_run (.slice na ps.length nc) rfl rfl (wv_n rfl) rfl (fun _ _ hρ _ => r_move (hρ _ _ rfl))) (all_cons (q_run (.slice ia ps.length ic) rfl rfl (wv_n rfl) rfl (fun _ _ hρ _ => r_move (hρ _ _ rfl))) all_nil))) (allM (all_cons ?_ all_nil))
          refine LOb_append (n := ps.length) (m := 1) (xs := (ps.flatMap numc)) (news := [.int .i64 (-1)]) (z := .int .i64 0) 950 (fun a cap => []) rfl (wv_n rfl) rfl rfl rfl sl43 sz3 by3 (by kernel_rfl) rfl rfl (.inl rfl) (fun _ hm => src_blk (news := [.int .i64 (-1)]) (hm.at 3 rfl) rfl) (by first | (intro u hu; obtain ⟨x, _, hx⟩ := List.mem_flatMap.1 hu; first | exact numc_one x u hx | exact idc_one x u hx) | simp [Value.oneCell']) (by omega) (by omega) (fun a cap => by kernel_rfl) ?_
          intro a13 cap13
          refine G_step [3] 6 [] (by kernel_rfl) (allM (all_cons (q_run (.slice ia ps.length ic) rfl rfl (wv_n rfl) rfl (fun _ _ hρ _ => r_move (hρ _ _ rfl))) all_nil)) (allM (all_cons ?_ all_nil))
          refine LOb_append (n := ps.length) (m := 1) (xs := (ps.flatMap idc)) (news := [.int .u64 d.t, .int .i64 d.s, .int .u64 d.q]) (z := .agg #[.int .u64 0, .int .i64 0, .int .u64 0]) 951 (fun a cap => [(7, .slice a13 (ps.length + 1) cap13), (8, .slice a (ps.length + 1) cap)]) rfl (wv_n rfl) rfl rfl rfl sl22 sz32 by32 (by kernel_rfl) rfl rfl (.inl rfl) (fun _ hm => src_blk (news := [.int .u64 d.t, .int .i64 d.s, .int .u64 d.q]) (hm.at 4 rfl) rfl) (by first | (intro u hu; obtain ⟨x, _, hx⟩ := List.mem_flatMap.1 hu; first | exact numc_one x u hx | exact idc_one x u hx) | simp [Value.oneCell']) (by omega) (by omega) (fun a cap => by kernel_rfl) ?_
          intro a14 cap14
          exact G_lastQ [7, 8] [(0, .slice (some ⟨b2, of2, none⟩) l.length cap), (3, .pointer (some ⟨B1, 0, none⟩)), (4, .slice none 0 0), (5, .slice none 0 0), (8, .int .i64 ((n9 : Nat) : Int)), (9, .bool is9), (20, .slice (some ⟨b2, of2, none⟩) l.length cap), (21, .int .i64 ((l.length : Nat) : Int)), (22, .int .i64 ((k : Nat) : Int)), (23, .bool (decide (((k : Nat) : Int) < ((l.length : Nat) : Int)))), (24, .int .i64 ((k : Nat) : Int)), (25, .pointer (some ⟨b2, of2 + k * 3, none⟩)), (26, .agg #[.int .u64 x9.t, .int .i64 x9.s, .int .u64 x9.q]), (11, .pointer (some ⟨B3, 0, none⟩)), (10, .int .i64 ((k : Nat) : Int)), (27, .int .i64 ((k : Nat) : Int)), (28, .int .i64 ((n9 : Nat) : Int)), (29, .bool true), (30, .slice na ps.length nc), (31, .slice (some ⟨B12, 0, none⟩) 1 1), (32, .slice a13 (ps.length + 1) cap13), (33, .slice ia ps.length ic), (34, .agg #[.int .u64 d.t, .int .i64 d.s, .int .u64 d.q]), (35, .slice (some ⟨B11, 0, none⟩) 1 1), (36, .slice a14 (ps.length + 1) cap14), (6, .slice a13 (ps.length + 1) cap13), (7, .slice a14 (ps.length + 1) cap14)] (by kernel_rfl) (allM (all_cons (q_run (.slice a13 (ps.length + 1) cap13) rfl rfl (wv_n rfl) rfl (fun _ _ hρ _ => r_assign (hρ _ _ rfl))) (all_cons (q_run (.slice a14 (ps.length + 1) cap14) rfl rfl (wv_n rfl) rfl (fun _ _ hρ _ => r_assign (hρ _ _ rfl))) all_nil))) (end_old rfl rfl (end_old rfl rfl (end_old rfl rfl (end_old rfl rfl (end_old rfl rfl (end_old rfl rfl (end_old rfl rfl (end_old rfl rfl (end_old rfl rfl (end_old rfl rfl (end_old rfl rfl (end_old rfl rfl (end_old rfl rfl (end_old rfl rfl (end_old rfl rfl (end_old rfl rfl (end_old rfl rfl (end_old rfl rfl (end_new 0 rfl rfl (end_new 1 rfl rfl (end_new 2 rfl rfl (end_new 3 rfl rfl (end_new 4 rfl rfl (end_new 5 rfl rfl (end_new 6 rfl rfl (end_new 7 rfl rfl (end_new 8 rfl rfl end_nil))))))))))))))))))))))))))) (fun a w hf hm => At_intro (B12, a13, cap13, B11, a14, cap14) trivial hf hm (sub_cons rfl (sub_cons rfl (sub_cons rfl (sub_cons rfl (sub_cons rfl (sub_cons rfl (sub_cons rfl (sub_cons rfl (sub_cons rfl (sub_cons rfl (sub_cons rfl (sub_cons rfl (sub_cons rfl (sub_cons rfl (sub_cons rfl (sub_cons rfl (sub_cons rfl (sub_cons rfl (sub_cons rfl (sub_cons rfl (sub_cons rfl (sub_cons rfl (sub_cons rfl (sub_cons rfl (sub_cons rfl (sub_cons rfl (sub_cons rfl sub_nil))))))))))))))))))))))))))) (sub_cons rfl (sub_cons rfl (sub_cons rfl (sub_cons rfl (sub_cons rfl (sub_cons rfl sub_nil)))))))
      · skip
        obtain ⟨Bx1, ax2, capx2, Bx5, ax6, capx6⟩ := z
        show T _ _ _ [(0, .slice (some ⟨b2, of2, none⟩) l.length cap), (3, .pointer (some ⟨B1, 0, none⟩)), (4, .slice none 0 0), (5, .slice none 0 0), (8, .int .i64 ((n9 : Nat) : Int)), (9, .bool is9), (20, .slice (some ⟨b2, of2, none⟩) l.length cap), (21, .int .i64 ((l.length : Nat) : Int)), (22, .int .i64 ((k : Nat) : Int)), (23, .bool (decide (((k : Nat) : Int) < ((l.length : Nat) : Int)))), (24, .int .i64 ((k : Nat) : Int)), (25, .pointer (some ⟨b2, of2 + k * 3, none⟩)), (26, .agg #[.int .u64 x9.t, .int .i64 x9.s, .int .u64 x9.q]), (11, .pointer (some ⟨B3, 0, none⟩)), (10, .int .i64 ((k : Nat) : Int)), (27, .int .i64 ((k : Nat) : Int)), (28, .int .i64 ((n9 : Nat) : Int)), (29, .bool true), (30, .slice na ps.length nc), (31, .slice (some ⟨Bx1, 0, none⟩) 1 1), (32, .slice ax2 (ps.length + 1) capx2), (33, .slice ia ps.length ic), (34, .agg #[.int .u64 d.t, .int .i64 d.s, .int .u64 d.q]), (35, .slice (some ⟨Bx5, 0, none⟩) 1 1), (36, .slice ax6 (ps.length + 1) capx6), (6, .slice ax2 (ps.length + 1) capx2), (7, .slice ax6 (ps.length + 1) capx6)] [(1, .blk B1 (.cells #[.int .u64 d.t, .int .i64 d.s, .int .u64 d.q] 32)), (2, .blk B3 (.cells #[.int .u64 x9.t, .int .i64 x9.s, .int .u64 x9.q] 32)), (3, .blk Bx1 (.cells #[.int .i64 (-1)] 3)), (4, .blk Bx5 (.cells #[.int .u64 d.t, .int .i64 d.s, .int .u64 d.q] 32)), (950, .row (.slice ax2 (ps.length + 1) capx2) 3 1 (ps.length + 1) ((ps.flatMap numc) ++ [.int .i64 (-1)])), (951, .row (.slice ax6 (ps.length + 1) capx6) 32 3 (ps.length + 1) ((ps.flatMap idc) ++ [.int .u64 d.t, .int .i64 d.s, .int .u64 d.q]))]
        by_cases his : is9 = true
        · skip
          subst his
          refine T_seq (T_region ?_)
          refine TL_q (.bool true) (fun _ _ hρ _ => r_move (hρ _ _ rfl)) rfl rfl rfl (w_n rfl) ?_
          refine TL_seq ?_
          refine T_cond_t rfl ?_
          refine T_exit' ?_
          refine p_then_x ?_
          refine p_blk_x ?_
          refine p_seq ?_
          refine T_region ?_
          refine TL_q (.int .i64 ((k + 1 : Nat) : Int)) (fun _ _ hρ _ => r_as (r_add (hρ _ _ rfl) (hρ _ _ rfl)) (int_as ((wrap64 (by omega) (by omega)).trans (by omega)))) rfl rfl rfl (w_n rfl) ?_
          refine TL_q (.int .i64 ((k + 1 : Nat) : Int)) (fun _ _ hρ _ => r_move (hρ _ _ rfl)) rfl rfl rfl (w_n rfl) ?_
          refine TL_nil ?_
          have hn15 : (ps.length + 1) = (ps ++ [((-1 : Int), d)]).length := by simp
          have hx15 : ((ps.flatMap numc) ++ [.int .i64 (-1)]) = (ps ++ [((-1 : Int), d)]).flatMap numc := by simp [numc]
          rw [hx15, hn15]
          have hx16 : ((ps.flatMap idc) ++ [.int .u64 d.t, .int .i64 d.s, .int .u64 d.q]) = (ps ++ [((-1 : Int), d)]).flatMap idc := by simp [idc]
          rw [hx16]
          exact p_at (k + 1, ps ++ [((-1 : Int), d)], ax2, capx2, ax6, capx6) ⟨⟨by omega, by have e : n9 = k := (by omega); subst e; rw [insK_is hx9, ← hps]⟩, by dsimp only; omega⟩ (sub_cons rfl (sub_cons rfl (sub_cons rfl (sub_cons rfl (sub_cons rfl (sub_cons rfl (sub_cons rfl (sub_cons rfl (sub_cons rfl (sub_cons rfl (sub_cons rfl sub_nil))))))))))) (sub_cons rfl (sub_cons rfl (sub_cons rfl sub_nil)))
        · skip
          replace his := eq_false_of_ne_true his
          subst his
          refine T_seq (T_region ?_)
          refine TL_q (.bool false) (fun _ _ hρ _ => r_move (hρ _ _ rfl)) rfl rfl rfl (w_n rfl) ?_
          refine TL_seq ?_
          refine T_cond_f rfl ?_
          refine T_skip' ?_
          refine p_seq ?_
          have hn17 : (ps.length + 1) = (ps ++ [((-1 : Int), d)]).length := by simp
          have hx17 : ((ps.flatMap numc) ++ [.int .i64 (-1)]) = (ps ++ [((-1 : Int), d)]).flatMap numc := by simp [numc]
          rw [hx17, hn17]
          have hx18 : ((ps.flatMap idc) ++ [.int .u64 d.t, .int .i64 d.s, .int .u64 d.q]) = (ps ++ [((-1 : Int), d)]).flatMap idc := by simp [idc]
          rw [hx18]
          refine T_joinE (ι := Nat × (Option Addr) × Nat × Nat × (Option Addr) × Nat) (fun _ => True) (fun (z : Nat × (Option Addr) × Nat × Nat × (Option Addr) × Nat) => match z with | (Bx2_2, ax3, capx3, Bx2_6, ax7, capx7) => [(0, .slice (some ⟨b2, of2, none⟩) l.length cap), (3, .pointer (some ⟨B1, 0, none⟩)), (4, .slice none 0 0), (5, .slice none 0 0), (8, .int .i64 ((n9 : Nat) : Int)), (9, .bool false), (20, .slice (some ⟨b2, of2, none⟩) l.length cap), (21, .int .i64 ((l.length : Nat) : Int)), (22, .int .i64 ((k : Nat) : Int)), (23, .bool (decide (((k : Nat) : Int) < ((l.length : Nat) : Int)))), (24, .int .i64 ((k : Nat) : Int)), (25, .pointer (some ⟨b2, of2 + k * 3, none⟩)), (26, .agg #[.int .u64 x9.t, .int .i64 x9.s, .int .u64 x9.q]), (11, .pointer (some ⟨B3, 0, none⟩)), (10, .int .i64 ((k : Nat) : Int)), (27, .int .i64 ((k : Nat) : Int)), (28, .int .i64 ((n9 : Nat) : Int)), (29, .bool true), (30, .slice na ps.length nc), (31, .slice (some ⟨Bx1, 0, none⟩) 1 1), (32, .slice ax2 ((ps ++ [((-1 : Int), d)]).length) capx2), (33, .slice ia ps.length ic), (34, .agg #[.int .u64 d.t, .int .i64 d.s, .int .u64 d.q]), (35, .slice (some ⟨Bx5, 0, none⟩) 1 1), (36, .slice ax6 ((ps ++ [((-1 : Int), d)]).length) capx6), (37, .bool false), (38, .slice ax2 ((ps ++ [((-1 : Int), d)]).length) capx2), (39, .int .i64 ((k : Nat) : Int)), (40, .slice (some ⟨Bx2_2, 0, none⟩) 1 1), (41, .slice ax3 ((ps ++ [((-1 : Int), d)]).length + 1) capx3), (42, .slice ax6 ((ps ++ [((-1 : Int), d)]).length) capx6), (43, .agg #[.int .u64 x9.t, .int .i64 x9.s, .int .u64 x9.q]), (44, .slice (some ⟨Bx2_6, 0, none⟩) 1 1), (45, .slice ax7 ((ps ++ [((-1 : Int), d)]).length + 1) capx7), (6, .slice ax3 ((ps ++ [((-1 : Int), d)]).length + 1) capx3), (7, .slice ax7 ((ps ++ [((-1 : Int), d)]).length + 1) capx7)]) (fun (z : Nat × (Option Addr) × Nat × Nat × (Option Addr) × Nat) => match z with | (Bx2_2, ax3, capx3, Bx2_6, ax7, capx7) => [(1, .blk B1 (.cells #[.int .u64 d.t, .int .i64 d.s, .int .u64 d.q] 32)), (2, .blk B3 (.cells #[.int .u64 x9.t, .int .i64 x9.s, .int .u64 x9.q] 32)), (3, .blk Bx1 (.cells #[.int .i64 (-1)] 3)), (4, .blk Bx5 (.cells #[.int .u64 d.t, .int .i64 d.s, .int .u64 d.q] 32)), (5, .blk Bx2_2 (.cells #[.int .i64 ((k : Nat) : Int)] 3)), (6, .blk Bx2_6 (.cells #[.int .u64 x9.t, .int .i64 x9.s, .int .u64 x9.q] 32)), (950, .row (.slice ax3 ((ps ++ [((-1 : Int), d)]).length + 1) capx3) 3 1 ((ps ++ [((-1 : Int), d)]).length + 1) (((ps ++ [((-1 : Int), d)]).flatMap numc) ++ [.int .i64 ((k : Nat) : Int)])), (951, .row (.slice ax7 ((ps ++ [((-1 : Int), d)]).length + 1) capx7) 32 3 ((ps ++ [((-1 : Int), d)]).length + 1) (((ps ++ [((-1 : Int), d)]).flatMap idc) ++ [.int .u64 x9.t, .int .i64 x9.s, .int .u64 x9.q]))]) (T_draw (V := [(0, .slice ax2 ((ps ++ [((-1 : Int), d)]).length) capx2), (1, .int .i64 ((k : Nat) : Int)), (4, .slice ax6 ((ps ++ [((-1 : Int), d)]).length) capx6), (5, .agg #[.int .u64 x9.t, .int .i64 x9.s, .int .u64 x9.q])]) [0, 0, 2, 7, 0, 0, 32, 127, 255, 511] [[(6, none)], [(10, none)], [(39, some 1)], [(38, some 0), (40, some 2)], [(7, none)], [(11, none)], [(43, some 5)], [(42, some 4), (44, some 6)], [(41, some 3)], [(45, some 7)]] 204 mixed (by kernel_rfl) ?_) (fun z hz => ?_)
          · skip
            refine G_step [0, 1, 4, 5] 2 [6] (by kernel_rfl) (allM (all_cons (q_run (.slice ax2 ((ps ++ [((-1 : Int), d)]).length) capx2) rfl rfl (wv_n rfl) rfl (fun _ _ hρ _ => r_move (hρ _ _ rfl))) (all_cons (q_run (.int .i64 ((k : Nat) : Int)) rfl rfl (wv_n rfl) rfl (fun _ _ hρ _ => r_move (hρ _ _ rfl))) (all_cons (q_run (.slice ax6 ((ps ++ [((-1 : Int), d)]).length) capx6) rfl rfl (wv_n rfl) rfl (fun _ _ hρ _ => r_move (hρ _ _ rfl))) (all_cons (q_run (.agg #[.int .u64 x9.t, .int .i64 x9.s, .int .u64 x9.q]) rfl rfl (wv_n rfl) rfl (fun _ _ hρ hm => r_loadA ag32 sz32 (hρ _ _ rfl) (hm.at 2 rfl) rfl rfl)) all_nil))))) (allM (all_cons ?_ (all_cons ?_ all_nil)))
            · skip
              refine LOb_new 5 (.cells #[.int .i64 ((k : Nat) : Int)] 3) (fun B => .slice (some ⟨B, 0, none⟩) 1 1) (fun B => []) rfl (wv_n rfl) rfl rfl (fun _ _ hρ _ => r_buildSlice (vs := [(0, .int .i64 ((k : Nat) : Int))]) (by kernel_rfl) (cons2 (pair2 (hρ _ _ rfl)) rfl)) (fun B => by kernel_rfl) ?_
              intro B19
              refine G_step [0, 4, 5] 3 [6] (by kernel_rfl) (allM (all_cons (q_run (.slice ax2 ((ps ++ [((-1 : Int), d)]).length) capx2) rfl rfl (wv_n rfl) rfl (fun _ _ hρ _ => r_move (hρ _ _ rfl))) (all_cons (q_run (.slice ax6 ((ps ++ [((-1 : Int), d)]).length) capx6) rfl rfl (wv_n rfl) rfl (fun _ _ hρ _ => r_move (hρ _ _ rfl))) (all_cons (q_run (.agg #[.int .u64 x9.t, .int .i64 x9.s, .int .u64 x9.q]) rfl rfl (wv_n rfl) rfl (fun _ _ hρ hm => r_loadA ag32 sz32 (hρ _ _ rfl) (hm.at 2 rfl) rfl rfl)) all_nil)))) (allM (all_cons ?_ (all_cons ?_ all_nil)))
              · skip
                refine LOb_append (n := (ps ++ [((-1 : Int), d)]).length) (m := 1) (xs := ((ps ++ [((-1 : Int), d)]).flatMap numc)) (news := [.int .i64 ((k : Nat) : Int)]) (z := .int .i64 0) 950 (fun a cap => []) rfl (wv_n rfl) rfl rfl rfl sl43 sz3 by3 (by kernel_rfl) rfl rfl (.inl rfl) (fun _ hm => src_blk (news := [.int .i64 ((k : Nat) : Int)]) (hm.at 5 rfl) rfl) (by first | (intro u hu; obtain ⟨x, _, hx⟩ := List.mem_flatMap.1 hu; first | exact numc_one x u hx | exact idc_one x u hx) | simp [Value.oneCell']) (by omega) (by omega) (fun a cap => by kernel_rfl) ?_
                intro a20 cap20
                refine G_step [4, 5] 6 [] (by kernel_rfl) (allM (all_cons (q_run (.slice ax6 ((ps ++ [((-1 : Int), d)]).length) capx6) rfl rfl (wv_n rfl) rfl (fun _ _ hρ _ => r_move (hρ _ _ rfl))) (all_cons (q_run (.agg #[.int .u64 x9.t, .int .i64 x9.s, .int .u64 x9.q]) rfl rfl (wv_n rfl) rfl (fun _ _ hρ hm => r_loadA ag32 sz32 (hρ _ _ rfl) (hm.at 2 rfl) rfl rfl)) all_nil))) (allM (all_cons ?_ all_nil))
                refine LOb_new 6 (.cells #[.int .u64 x9.t, .int .i64 x9.s, .int .u64 x9.q] 32) (fun B => .slice (some ⟨B, 0, none⟩) 1 1) (fun B => []) rfl (wv_n rfl) rfl rfl (fun _ _ hρ _ => r_buildSlice (vs := [(0, .agg #[.int .u64 x9.t, .int .i64 x9.s, .int .u64 x9.q])]) (by kernel_rfl) (cons2 (pair2 (hρ _ _ rfl)) rfl)) (fun B => by kernel_rfl) ?_
                intro B21
                refine G_step [4] 7 [] (by kernel_rfl) (allM (all_cons (q_run (.slice ax6 ((ps ++ [((-1 : Int), d)]).length) capx6) rfl rfl (wv_n rfl) rfl (fun _ _ hρ _ => r_move (hρ _ _ rfl))) all_nil)) (allM (all_cons ?_ all_nil))
                refine LOb_append (n := (ps ++ [((-1 : Int), d)]).length) (m := 1) (xs := ((ps ++ [((-1 : Int), d)]).flatMap idc)) (news := [.int .u64 x9.t, .int .i64 x9.s, .int .u64 x9.q]) (z := .agg #[.int .u64 0, .int .i64 0, .int .u64 0]) 951 (fun a cap => [(8, .slice a20 ((ps ++ [((-1 : Int), d)]).length + 1) cap20), (9, .slice a ((ps ++ [((-1 : Int), d)]).length + 1) cap)]) rfl (wv_n rfl) rfl rfl rfl sl22 sz32 by32 (by kernel_rfl) rfl rfl (.inl rfl) (fun _ hm => src_blk (news := [.int .u64 x9.t, .int .i64 x9.s, .int .u64 x9.q]) (hm.at 6 rfl) rfl) (by first | (intro u hu; obtain ⟨x, _, hx⟩ := List.mem_flatMap.1 hu; first | exact numc_one x u hx | exact idc_one x u hx) | simp [Value.oneCell']) (by omega) (by omega) (fun a cap => by kernel_rfl) ?_
                intro a22 cap22
                exact G_lastQ [8, 9] [(0, .slice (some ⟨b2, of2, none⟩) l.length cap), (3, .pointer (some ⟨B1, 0, none⟩)), (4, .slice none 0 0), (5, .slice none 0 0), (8, .int .i64 ((n9 : Nat) : Int)), (9, .bool false), (20, .slice (some ⟨b2, of2, none⟩) l.length cap), (21, .int .i64 ((l.length : Nat) : Int)), (22, .int .i64 ((k : Nat) : Int)), (23, .bool (decide (((k : Nat) : Int) < ((l.length : Nat) : Int)))), (24, .int .i64 ((k : Nat) : Int)), (25, .pointer (some ⟨b2, of2 + k * 3, none⟩)), (26, .agg #[.int .u64 x9.t, .int .i64 x9.s, .int .u64 x9.q]), (11, .pointer (some ⟨B3, 0, none⟩)), (10, .int .i64 ((k : Nat) : Int)), (27, .int .i64 ((k : Nat) : Int)), (28, .int .i64 ((n9 : Nat) : Int)), (29, .bool true), (30, .slice na ps.length nc), (31, .slice (some ⟨Bx1, 0, none⟩) 1 1), (32, .slice ax2 ((ps ++ [((-1 : Int), d)]).length) capx2), (33, .slice ia ps.length ic), (34, .agg #[.int .u64 d.t, .int .i64 d.s, .int .u64 d.q]), (35, .slice (some ⟨Bx5, 0, none⟩) 1 1), (36, .slice ax6 ((ps ++ [((-1 : Int), d)]).length) capx6), (37, .bool false), (38, .slice ax2 ((ps ++ [((-1 : Int), d)]).length) capx2), (39, .int .i64 ((k : Nat) : Int)), (40, .slice (some ⟨B19, 0, none⟩) 1 1), (41, .slice a20 ((ps ++ [((-1 : Int), d)]).length + 1) cap20), (42, .slice ax6 ((ps ++ [((-1 : Int), d)]).length) capx6), (43, .agg #[.int .u64 x9.t, .int .i64 x9.s, .int .u64 x9.q]), (44, .slice (some ⟨B21, 0, none⟩) 1 1), (45, .slice a22 ((ps ++ [((-1 : Int), d)]).length + 1) cap22), (6, .slice a20 ((ps ++ [((-1 : Int), d)]).length + 1) cap20), (7, .slice a22 ((ps ++ [((-1 : Int), d)]).length + 1) cap22)] (by kernel_rfl) (allM (all_cons (q_run (.slice a20 ((ps ++ [((-1 : Int), d)]).length + 1) cap20) rfl rfl (wv_n rfl) rfl (fun _ _ hρ _ => r_assign (hρ _ _ rfl))) (all_cons (q_run (.slice a22 ((ps ++ [((-1 : Int), d)]).length + 1) cap22) rfl rfl (wv_n rfl) rfl (fun _ _ hρ _ => r_assign (hρ _ _ rfl))) all_nil))) (end_old rfl rfl (end_old rfl rfl (end_old rfl rfl (end_old rfl rfl (end_old rfl rfl (end_old rfl rfl (end_old rfl rfl (end_old rfl rfl (end_old rfl rfl (end_old rfl rfl (end_old rfl rfl (end_old rfl rfl (end_old rfl rfl (end_old rfl rfl (end_old rfl rfl (end_old rfl rfl (end_old rfl rfl (end_old rfl rfl (end_old rfl rfl (end_old rfl rfl (end_old rfl rfl (end_old rfl rfl (end_old rfl rfl (end_old rfl rfl (end_old rfl rfl (end_old rfl rfl (end_new 0 rfl rfl (end_new 1 rfl rfl (end_new 2 rfl rfl (end_new 3 rfl rfl (end_new 4 rfl rfl (end_new 5 rfl rfl (end_new 6 rfl rfl (end_new 7 rfl rfl (end_new 8 rfl rfl (end_new 9 rfl rfl end_nil)))))))))))))))))))))))))))))))))))) (fun a w hf hm => At_intro (B19, a20, cap20, B21, a22, cap22) trivial hf hm (sub_cons rfl (sub_cons rfl (sub_cons rfl (sub_cons rfl (sub_cons rfl (sub_cons rfl (sub_cons rfl (sub_cons rfl (sub_cons rfl (sub_cons rfl (sub_cons rfl (sub_cons rfl (sub_cons rfl (sub_cons rfl (sub_cons rfl (sub_cons rfl (sub_cons rfl (sub_cons rfl (sub_cons rfl (sub_cons rfl (sub_cons rfl (sub_cons rfl (sub_cons rfl (sub_cons rfl (sub_cons rfl (sub_cons rfl (sub_cons rfl (sub_cons rfl (sub_cons rfl (sub_cons rfl (sub_cons rfl (sub_cons rfl (sub_cons rfl (sub_cons rfl (sub_cons rfl (sub_cons rfl sub_nil)))))))))))))))))))))))))))))))))))) (sub_cons rfl (sub_cons rfl (sub_cons rfl (sub_cons rfl (sub_cons rfl (sub_cons rfl (sub_cons rfl (sub_cons rfl sub_nil)))))))))
              · skip
                refine LOb_new 6 (.cells #[.int .u64 x9.t, .int .i64 x9.s, .int .u64 x9.q] 32) (fun B => .slice (some ⟨B, 0, none⟩) 1 1) (fun B => []) rfl (wv_n rfl) rfl rfl (fun _ _ hρ _ => r_buildSlice (vs := [(0, .agg #[.int .u64 x9.t, .int .i64 x9.s, .int .u64 x9.q])]) (by kernel_rfl) (cons2 (pair2 (hρ _ _ rfl)) rfl)) (fun B => by kernel_rfl) ?_
                intro B23
                refine G_step [0, 4] 3 [] (by kernel_rfl) (allM (all_cons (q_run (.slice ax2 ((ps ++ [((-1 : Int), d)]).length) capx2) rfl rfl (wv_n rfl) rfl (fun _ _ hρ _ => r_move (hρ _ _ rfl))) (all_cons (q_run (.slice ax6 ((ps ++ [((-1 : Int), d)]).length) capx6) rfl rfl (wv_n rfl) rfl (fun _ _ hρ _ => r_move (hρ _ _ rfl))) all_nil))) (allM (all_cons ?_ all_nil))
                refine LOb_append (n := (ps ++ [((-1 : Int), d)]).length) (m := 1) (xs := ((ps ++ [((-1 : Int), d)]).flatMap numc)) (news := [.int .i64 ((k : Nat) : Int)]) (z := .int .i64 0) 950 (fun a cap => []) rfl (wv_n rfl) rfl rfl rfl sl43 sz3 by3 (by kernel_rfl) rfl rfl (.inl rfl) (fun _ hm => src_blk (news := [.int .i64 ((k : Nat) : Int)]) (hm.at 5 rfl) rfl) (by first | (intro u hu; obtain ⟨x, _, hx⟩ := List.mem_flatMap.1 hu; first | exact numc_one x u hx | exact idc_one x u hx) | simp [Value.oneCell']) (by omega) (by omega) (fun a cap => by kernel_rfl) ?_
                intro a24 cap24
                refine G_step [4] 7 [] (by kernel_rfl) (allM (all_cons (q_run (.slice ax6 ((ps ++ [((-1 : Int), d)]).length) capx6) rfl rfl (wv_n rfl) rfl (fun _ _ hρ _ => r_move (hρ _ _ rfl))) all_nil)) (allM (all_cons ?_ all_nil))
                refine LOb_append (n := (ps ++ [((-1 : Int), d)]).length) (m := 1) (xs := ((ps ++ [((-1 : Int), d)]).flatMap idc)) (news := [.int .u64 x9.t, .int .i64 x9.s, .int .u64 x9.q]) (z := .agg #[.int .u64 0, .int .i64 0, .int .u64 0]) 951 (fun a cap => [(8, .slice a24 ((ps ++ [((-1 : Int), d)]).length + 1) cap24), (9, .slice a ((ps ++ [((-1 : Int), d)]).length + 1) cap)]) rfl (wv_n rfl) rfl rfl rfl sl22 sz32 by32 (by kernel_rfl) rfl rfl (.inl rfl) (fun _ hm => src_blk (news := [.int .u64 x9.t, .int .i64 x9.s, .int .u64 x9.q]) (hm.at 6 rfl) rfl) (by first | (intro u hu; obtain ⟨x, _, hx⟩ := List.mem_flatMap.1 hu; first | exact numc_one x u hx | exact idc_one x u hx) | simp [Value.oneCell']) (by omega) (by omega) (fun a cap => by kernel_rfl) ?_
                intro a25 cap25
                exact G_lastQ [8, 9] [(0, .slice (some ⟨b2, of2, none⟩) l.length cap), (3, .pointer (some ⟨B1, 0, none⟩)), (4, .slice none 0 0), (5, .slice none 0 0), (8, .int .i64 ((n9 : Nat) : Int)), (9, .bool false), (20, .slice (some ⟨b2, of2, none⟩) l.length cap), (21, .int .i64 ((l.length : Nat) : Int)), (22, .int .i64 ((k : Nat) : Int)), (23, .bool (decide (((k : Nat) : Int) < ((l.length : Nat) : Int)))), (24, .int .i64 ((k : Nat) : Int)), (25, .pointer (some ⟨b2, of2 + k * 3, none⟩)), (26, .agg #[.int .u64 x9.t, .int .i64 x9.s, .int .u64 x9.q]), (11, .pointer (some ⟨B3, 0, none⟩)), (10, .int .i64 ((k : Nat) : Int)), (27, .int .i64 ((k : Nat) : Int)), (28, .int .i64 ((n9 : Nat) : Int)), (29, .bool true), (30, .slice na ps.length nc), (31, .slice (some ⟨Bx1, 0, none⟩) 1 1), (32, .slice ax2 ((ps ++ [((-1 : Int), d)]).length) capx2), (33, .slice ia ps.length ic), (34, .agg #[.int .u64 d.t, .int .i64 d.s, .int .u64 d.q]), (35, .slice (some ⟨Bx5, 0, none⟩) 1 1), (36, .slice ax6 ((ps ++ [((-1 : Int), d)]).length) capx6), (37, .bool false), (38, .slice ax2 ((ps ++ [((-1 : Int), d)]).length) capx2), (39, .int .i64 ((k : Nat) : Int)), (40, .slice (some ⟨B19, 0, none⟩) 1 1), (41, .slice a24 ((ps ++ [((-1 : Int), d)]).length + 1) cap24), (42, .slice ax6 ((ps ++ [((-1 : Int), d)]).length) capx6), (43, .agg #[.int .u64 x9.t, .int .i64 x9.s, .int .u64 x9.q]), (44, .slice (some ⟨B23, 0, none⟩) 1 1), (45, .slice a25 ((ps ++ [((-1 : Int), d)]).length + 1) cap25), (6, .slice a24 ((ps ++ [((-1 : Int), d)]).length + 1) cap24), (7, .slice a25 ((ps ++ [((-1 : Int), d)]).length + 1) cap25)] (by kernel_rfl) (allM (all_cons (q_run (.slice a24 ((ps ++ [((-1 : Int), d)]).length + 1) cap24) rfl rfl (wv_n rfl) rfl (fun _ _ hρ _ => r_assign (hρ _ _ rfl))) (all_cons (q_run (.slice a25 ((ps ++ [((-1 : Int), d)]).length + 1) cap25) rfl rfl (wv_n rfl) rfl (fun _ _ hρ _ => r_assign (hρ _ _ rfl))) all_nil))) (end_old rfl rfl (end_old rfl rfl (end_old rfl rfl (end_old rfl rfl (end_old rfl rfl (end_old rfl rfl (end_old rfl rfl (end_old rfl rfl (end_old rfl rfl (end_old rfl rfl (end_old rfl rfl (end_old rfl rfl (end_old rfl rfl (end_old rfl rfl (end_old rfl rfl (end_old rfl rfl (end_old rfl rfl (end_old rfl rfl (end_old rfl rfl (end_old rfl rfl (end_old rfl rfl (end_old rfl rfl (end_old rfl rfl (end_old rfl rfl (end_old rfl rfl (end_old rfl rfl (end_new 0 rfl rfl (end_new 1 rfl rfl (end_new 2 rfl rfl (end_new 3 rfl rfl (end_new 4 rfl rfl (end_new 5 rfl rfl (end_new 6 rfl rfl (end_new 7 rfl rfl (end_new 8 rfl rfl (end_new 9 rfl rfl end_nil)))))))))))))))))))))))))))))))))))) (fun a w hf hm => At_intro (B19, a24, cap24, B23, a25, cap25) trivial hf hm (sub_cons rfl (sub_cons rfl (sub_cons rfl (sub_cons rfl (sub_cons rfl (sub_cons rfl (sub_cons rfl (sub_cons rfl (sub_cons rfl (sub_cons rfl (sub_cons rfl (sub_cons rfl (sub_cons rfl (sub_cons rfl (sub_cons rfl (sub_cons rfl (sub_cons rfl (sub_cons rfl (sub_cons rfl (sub_cons rfl (sub_cons rfl (sub_cons rfl (sub_cons rfl (sub_cons rfl (sub_cons rfl (sub_cons rfl (sub_cons rfl (sub_cons rfl (sub_cons rfl (sub_cons rfl (sub_cons rfl (sub_cons rfl (sub_cons rfl (sub_cons rfl (sub_cons rfl (sub_cons rfl sub_nil)))))))))))))))))))))))))))))))))))) (sub_cons rfl (sub_cons rfl (sub_cons rfl (sub_cons rfl (sub_cons rfl (sub_cons rfl (sub_cons rfl (sub_cons rfl sub_nil)))))))))
            · skip
              refine LOb_new 6 (.cells #[.int .u64 x9.t, .int .i64 x9.s, .int .u64 x9.q] 32) (fun B => .slice (some ⟨B, 0, none⟩) 1 1) (fun B => []) rfl (wv_n rfl) rfl rfl (fun _ _ hρ _ => r_buildSlice (vs := [(0, .agg #[.int .u64 x9.t, .int .i64 x9.s, .int .u64 x9.q])]) (by kernel_rfl) (cons2 (pair2 (hρ _ _ rfl)) rfl)) (fun B => by kernel_rfl) ?_
              intro B26
              refine G_step [0, 1, 4] 2 [] (by kernel_rfl) (allM (all_cons (q_run (.slice ax2 ((ps ++ [((-1 : Int), d)]).length) capx2) rfl rfl (wv_n rfl) rfl (fun _ _ hρ _ => r_move (hρ _ _ rfl))) (all_cons (q_run (.int .i64 ((k : Nat) : Int)) rfl rfl (wv_n rfl) rfl (fun _ _ hρ _ => r_move (hρ _ _ rfl))) (all_cons (q_run (.slice ax6 ((ps ++ [((-1 : Int), d)]).length) capx6) rfl rfl (wv_n rfl) rfl (fun _ _ hρ _ => r_move (hρ _ _ rfl))) all_nil)))) (allM (all_cons ?_ all_nil))
              refine LOb_new 5 (.cells #[.int .i64 ((k : Nat) : Int)] 3) (fun B => .slice (some ⟨B, 0, none⟩) 1 1) (fun B => []) rfl (wv_n rfl) rfl rfl (fun _ _ hρ _ => r_buildSlice (vs := [(0, .int .i64 ((k : Nat) : Int))]) (by kernel_rfl) (cons2 (pair2 (hρ _ _ rfl)) rfl)) (fun B => by kernel_rfl) ?_
              intro B27
              refine G_step [0, 4] 3 [] (by kernel_rfl) (allM (all_cons (q_run (.slice ax2 ((ps ++ [((-1 : Int), d)]).length) capx2) rfl rfl (wv_n rfl) rfl (fun _ _ hρ _ => r_move (hρ _ _ rfl))) (all_cons (q_run (.slice ax6 ((ps ++ [((-1 : Int), d)]).length) capx6) rfl rfl (wv_n rfl) rfl (fun _ _ hρ _ => r_move (hρ _ _ rfl))) all_nil))) (allM (all_cons ?_ all_nil))
              refine LOb_append (n := (ps ++ [((-1 : Int), d)]).length) (m := 1) (xs := ((ps ++ [((-1 : Int), d)]).flatMap numc)) (news := [.int .i64 ((k : Nat) : Int)]) (z := .int .i64 0) 950 (fun a cap => []) rfl (wv_n rfl) rfl rfl rfl sl43 sz3 by3 (by kernel_rfl) rfl rfl (.inl rfl) (fun _ hm => src_blk (news := [.int .i64 ((k : Nat) : Int)]) (hm.at 5 rfl) rfl) (by first | (intro u hu; obtain ⟨x, _, hx⟩ := List.mem_flatMap.1 hu; first | exact numc_one x u hx | exact idc_one x u hx) | simp [Value.oneCell']) (by omega) (by omega) (fun a cap => by kernel_rfl) ?_
              intro a28 cap28
              refine G_step [4] 7 [] (by kernel_rfl) (allM (all_cons (q_run (.slice ax6 ((ps ++ [((-1 : Int), d)]).length) capx6) rfl rfl (wv_n rfl) rfl (fun _ _ hρ _ => r_move (hρ _ _ rfl))) all_nil)) (allM (all_cons ?_ all_nil))
              refine LOb_append (n := (ps ++ [((-1 : Int), d)]).length) (m := 1) (xs := ((ps ++ [((-1 : Int), d)]).flatMap idc)) (news := [.int .u64 x9.t, .int .i64 x9.s, .int .u64 x9.q]) (z := .agg #[.int .u64 0, .int .i64 0, .int .u64 0]) 951 (fun a cap => [(8, .slice a28 ((ps ++ [((-1 : Int), d)]).length + 1) cap28), (9, .slice a ((ps ++ [((-1 : Int), d)]).length + 1) cap)]) rfl (wv_n rfl) rfl rfl rfl sl22 sz32 by32 (by kernel_rfl) rfl rfl (.inl rfl) (fun _ hm => src_blk (news := [.int .u64 x9.t, .int .i64 x9.s, .int .u64 x9.q]) (hm.at 6 rfl) rfl) (by first | (intro u hu; obtain ⟨x, _, hx⟩ := List.mem_flatMap.1 hu; first | exact numc_one x u hx | exact idc_one x u hx) | simp [Value.oneCell']) (by omega) (by omega) (fun a cap => by kernel_rfl) ?_
              intro a29 cap29
              exact G_lastQ [8, 9] [(0, .slice (some ⟨b2, of2, none⟩) l.length cap), (3, .pointer (some ⟨B1, 0, none⟩)), (4, .slice none 0 0), (5, .slice none 0 0), (8, .int .i64 ((n9 : Nat) : Int)), (9, .bool false), (20, .slice (some ⟨b2, of2, none⟩) l.length cap), (21, .int .i64 ((l.length : Nat) : Int)), (22, .int .i64 ((k : Nat) : Int)), (23, .bool (decide (((k : Nat) : Int) < ((l.length : Nat) : Int)))), (24, .int .i64 ((k : Nat) : Int)), (25, .pointer (some ⟨b2, of2 + k * 3, none⟩)), (26, .agg #[.int .u64 x9.t, .int .i64 x9.s, .int .u64 x9.q]), (11, .pointer (some ⟨B3, 0, none⟩)), (10, .int .i64 ((k : Nat) : Int)), (27, .int .i64 ((k : Nat) : Int)), (28, .int .i64 ((n9 : Nat) : Int)), (29, .bool true), (30, .slice na ps.length nc), (31, .slice (some ⟨Bx1, 0, none⟩) 1 1), (32, .slice ax2 ((ps ++ [((-1 : Int), d)]).length) capx2), (33, .slice ia ps.length ic), (34, .agg #[.int .u64 d.t, .int .i64 d.s, .int .u64 d.q]), (35, .slice (some ⟨Bx5, 0, none⟩) 1 1), (36, .slice ax6 ((ps ++ [((-1 : Int), d)]).length) capx6), (37, .bool false), (38, .slice ax2 ((ps ++ [((-1 : Int), d)]).length) capx2), (39, .int .i64 ((k : Nat) : Int)), (40, .slice (some ⟨B27, 0, none⟩) 1 1), (41, .slice a28 ((ps ++ [((-1 : Int), d)]).length + 1) cap28), (42, .slice ax6 ((ps ++ [((-1 : Int), d)]).length) capx6), (43, .agg #[.int .u64 x9.t, .int .i64 x9.s, .int .u64 x9.q]), (44, .slice (some ⟨B26, 0, none⟩) 1 1), (45, .slice a29 ((ps ++ [((-1 : Int), d)]).length + 1) cap29), (6, .slice a28 ((ps ++ [((-1 : Int), d)]).length + 1) cap28), (7, .slice a29 ((ps ++ [((-1 : Int), d)]).length + 1) cap29)] (by kernel_rfl) (allM (all_cons (q_run (.slice a28 ((ps ++ [((-1 : Int), d)]).length + 1) cap28) rfl rfl (wv_n rfl) rfl (fun _ _ hρ _ => r_assign (hρ _ _ rfl))) (all_cons (q_run (.slice a29 ((ps ++ [((-1 : Int), d)]).length + 1) cap29) rfl rfl (wv_n rfl) rfl (fun _ _ hρ _ => r_assign (hρ _ _ rfl))) all_nil))) (end_old rfl rfl (end_old rfl rfl (end_old rfl rfl (end_old rfl rfl (end_old rfl rfl (end_old rfl rfl (end_old rfl rfl (end_old rfl rfl (end_old rfl rfl (end_old rfl rfl (end_old rfl rfl (end_old rfl rfl (end_old rfl rfl (end_old rfl rfl (end_old rfl rfl (end_old rfl rfl (end_old rfl rfl (end_old rfl rfl (end_old rfl rfl (end_old rfl rfl (end_old rfl rfl (end_old rfl rfl (end_old rfl rfl (end_old rfl rfl (end_old rfl rfl (end_old rfl rfl (end_new 0 rfl rfl (end_new 1 rfl rfl (end_new 2 rfl rfl (end_new 3 rfl rfl (end_new 4 rfl rfl (end_new 5 rfl rfl (end_new 6 rfl rfl (end_new 7 rfl rfl (end_new 8 rfl rfl (end_new 9 rfl rfl end_nil)))))))))))))))))))))))))))))))))))) (fun a w hf hm => At_intro (B27, a28, cap28, B26, a29, cap29) trivial hf hm (sub_cons rfl (sub_cons rfl (sub_cons rfl (sub_cons rfl (sub_cons rfl (sub_cons rfl (sub_cons rfl (sub_cons rfl (sub_cons rfl (sub_cons rfl (sub_cons rfl (sub_cons rfl (sub_cons rfl (sub_cons rfl (sub_cons rfl (sub_cons rfl (sub_cons rfl (sub_cons rfl (sub_cons rfl (sub_cons rfl (sub_cons rfl (sub_cons rfl (sub_cons rfl (sub_cons rfl (sub_cons rfl (sub_cons rfl (sub_cons rfl (sub_cons rfl (sub_cons rfl (sub_cons rfl (sub_cons rfl (sub_cons rfl (sub_cons rfl (sub_cons rfl (sub_cons rfl (sub_cons rfl sub_nil)))))))))))))))))))))))))))))))))))) (sub_cons rfl (sub_cons rfl (sub_cons rfl (sub_cons rfl (sub_cons rfl (sub_cons rfl (sub_cons rfl (sub_cons rfl sub_nil)))))))))
          · skip
            obtain ⟨Bx2_2, ax3, capx3, Bx2_6, ax7, capx7⟩ := z
            show POk _ _ .normal [(0, .slice (some ⟨b2, of2, none⟩) l.length cap), (3, .pointer (some ⟨B1, 0, none⟩)), (4, .slice none 0 0), (5, .slice none 0 0), (8, .int .i64 ((n9 : Nat) : Int)), (9, .bool false), (20, .slice (some ⟨b2, of2, none⟩) l.length cap), (21, .int .i64 ((l.length : Nat) : Int)), (22, .int .i64 ((k : Nat) : Int)), (23, .bool (decide (((k : Nat) : Int) < ((l.length : Nat) : Int)))), (24, .int .i64 ((k : Nat) : Int)), (25, .pointer (some ⟨b2, of2 + k * 3, none⟩)), (26, .agg #[.int .u64 x9.t, .int .i64 x9.s, .int .u64 x9.q]), (11, .pointer (some ⟨B3, 0, none⟩)), (10, .int .i64 ((k : Nat) : Int)), (27, .int .i64 ((k : Nat) : Int)), (28, .int .i64 ((n9 : Nat) : Int)), (29, .bool true), (30, .slice na ps.length nc), (31, .slice (some ⟨Bx1, 0, none⟩) 1 1), (32, .slice ax2 ((ps ++ [((-1 : Int), d)]).length) capx2), (33, .slice ia ps.length ic), (34, .agg #[.int .u64 d.t, .int .i64 d.s, .int .u64 d.q]), (35, .slice (some ⟨Bx5, 0, none⟩) 1 1), (36, .slice ax6 ((ps ++ [((-1 : Int), d)]).length) capx6), (37, .bool false), (38, .slice ax2 ((ps ++ [((-1 : Int), d)]).length) capx2), (39, .int .i64 ((k : Nat) : Int)), (40, .slice (some ⟨Bx2_2, 0, none⟩) 1 1), (41, .slice ax3 ((ps ++ [((-1 : Int), d)]).length + 1) capx3), (42, .slice ax6 ((ps ++ [((-1 : Int), d)]).length) capx6), (43, .agg #[.int .u64 x9.t, .int .i64 x9.s, .int .u64 x9.q]), (44, .slice (some ⟨Bx2_6, 0, none⟩) 1 1), (45, .slice ax7 ((ps ++ [((-1 : Int), d)]).length + 1) capx7), (6, .slice ax3 ((ps ++ [((-1 : Int), d)]).length + 1) capx3), (7, .slice ax7 ((ps ++ [((-1 : Int), d)]).length + 1) capx7)] [(1, .blk B1 (.cells #[.int .u64 d.t, .int .i64 d.s, .int .u64 d.q] 32)), (2, .blk B3 (.cells #[.int .u64 x9.t, .int .i64 x9.s, .int .u64 x9.q] 32)), (3, .blk Bx1 (.cells #[.int .i64 (-1)] 3)), (4, .blk Bx5 (.cells #[.int .u64 d.t, .int .i64 d.s, .int .u64 d.q] 32)), (5, .blk Bx2_2 (.cells #[.int .i64 ((k : Nat) : Int)] 3)), (6, .blk Bx2_6 (.cells #[.int .u64 x9.t, .int .i64 x9.s, .int .u64 x9.q] 32)), (950, .row (.slice ax3 ((ps ++ [((-1 : Int), d)]).length + 1) capx3) 3 1 ((ps ++ [((-1 : Int), d)]).length + 1) (((ps ++ [((-1 : Int), d)]).flatMap numc) ++ [.int .i64 ((k : Nat) : Int)])), (951, .row (.slice ax7 ((ps ++ [((-1 : Int), d)]).length + 1) capx7) 32 3 ((ps ++ [((-1 : Int), d)]).length + 1) (((ps ++ [((-1 : Int), d)]).flatMap idc) ++ [.int .u64 x9.t, .int .i64 x9.s, .int .u64 x9.q]))]
            refine p_blk_n ?_
            refine p_seq ?_
            refine T_region ?_
            refine TL_q (.int .i64 ((k + 1 : Nat) : Int)) (fun _ _ hρ _ => r_as (r_add (hρ _ _ rfl) (hρ _ _ rfl)) (int_as ((wrap64 (by omega) (by omega)).trans (by omega)))) rfl rfl rfl (w_n rfl) ?_
            refine TL_q (.int .i64 ((k + 1 : Nat) : Int)) (fun _ _ hρ _ => r_move (hρ _ _ rfl)) rfl rfl rfl (w_n rfl) ?_
            refine TL_nil ?_
            have hn30 : ((ps ++ [((-1 : Int), d)]).length + 1) = ((ps ++ [((-1 : Int), d)]) ++ [(((k : Nat) : Int), x9)]).length := by simp
            have hx30 : (((ps ++ [((-1 : Int), d)]).flatMap numc) ++ [.int .i64 ((k : Nat) : Int)]) = ((ps ++ [((-1 : Int), d)]) ++ [(((k : Nat) : Int), x9)]).flatMap numc := by simp [numc]
            rw [hx30, hn30]
            have hx31 : (((ps ++ [((-1 : Int), d)]).flatMap idc) ++ [.int .u64 x9.t, .int .i64 x9.s, .int .u64 x9.q]) = ((ps ++ [((-1 : Int), d)]) ++ [(((k : Nat) : Int), x9)]).flatMap idc := by simp [idc]
            rw [hx31]
            exact p_at (k + 1, (ps ++ [((-1 : Int), d)]) ++ [(((k : Nat) : Int), x9)], ax3, capx3, ax7, capx7) ⟨⟨by omega, by have e : n9 = k := (by omega); subst e; rw [insK_no hx9, ← hps]⟩, by dsimp only; omega⟩ (sub_cons rfl (sub_cons rfl (sub_cons rfl (sub_cons rfl (sub_cons rfl (sub_cons rfl (sub_cons rfl (sub_cons rfl (sub_cons rfl (sub_cons rfl (sub_cons rfl sub_nil))))))))))) (sub_cons rfl (sub_cons rfl (sub_cons rfl sub_nil)))
    · skip
      refine T_seq (T_region ?_)
      refine TL_q (.int .i64 ((k : Nat) : Int)) (fun _ _ hρ _ => r_move (hρ _ _ rfl)) rfl rfl rfl (w_n rfl) ?_
      refine TL_q (.int .i64 ((n9 : Nat) : Int)) (fun _ _ hρ _ => r_move (hρ _ _ rfl)) rfl rfl rfl (w_n rfl) ?_
      refine TL_q (.bool false) (fun _ _ hρ _ => r_as (r_eql (hρ _ _ rfl) (hρ _ _ rfl)) (bool_as (decide_eq_false hkn))) rfl rfl rfl (w_n rfl) ?_
      refine TL_seq ?_
      refine T_cond_f rfl ?_
      refine T_skip' ?_
      refine p_seq ?_
      refine T_joinE (ι := Nat × (Option Addr) × Nat × Nat × (Option Addr) × Nat) (fun _ => True) (fun (z : Nat × (Option Addr) × Nat × Nat × (Option Addr) × Nat) => match z with | (Bx3_2, ax3, capx3, Bx3_6, ax7, capx7) => [(0, .slice (some ⟨b2, of2, none⟩) l.length cap), (3, .pointer (some ⟨B1, 0, none⟩)), (4, .slice none 0 0), (5, .slice none 0 0), (8, .int .i64 ((n9 : Nat) : Int)), (9, .bool is9), (20, .slice (some ⟨b2, of2, none⟩) l.length cap), (21, .int .i64 ((l.length : Nat) : Int)), (22, .int .i64 ((k : Nat) : Int)), (23, .bool (decide (((k : Nat) : Int) < ((l.length : Nat) : Int)))), (24, .int .i64 ((k : Nat) : Int)), (25, .pointer (some ⟨b2, of2 + k * 3, none⟩)), (26, .agg #[.int .u64 x9.t, .int .i64 x9.s, .int .u64 x9.q]), (11, .pointer (some ⟨B3, 0, none⟩)), (10, .int .i64 ((k : Nat) : Int)), (27, .int .i64 ((k : Nat) : Int)), (28, .int .i64 ((n9 : Nat) : Int)), (29, .bool false), (38, .slice na ps.length nc), (39, .int .i64 ((k : Nat) : Int)), (40, .slice (some ⟨Bx3_2, 0, none⟩) 1 1), (41, .slice ax3 (ps.length + 1) capx3), (42, .slice ia ps.length ic), (43, .agg #[.int .u64 x9.t, .int .i64 x9.s, .int .u64 x9.q]), (44, .slice (some ⟨Bx3_6, 0, none⟩) 1 1), (45, .slice ax7 (ps.length + 1) capx7), (6, .slice ax3 (ps.length + 1) capx3), (7, .slice ax7 (ps.length + 1) capx7)]) (fun (z : Nat × (Option Addr) × Nat × Nat × (Option Addr) × Nat) => match z with | (Bx3_2, ax3, capx3, Bx3_6, ax7, capx7) => [(1, .blk B1 (.cells #[.int .u64 d.t, .int .i64 d.s, .int .u64 d.q] 32)), (2, .blk B3 (.cells #[.int .u64 x9.t, .int .i64 x9.s, .int .u64 x9.q] 32)), (7, .blk Bx3_2 (.cells #[.int .i64 ((k : Nat) : Int)] 3)), (8, .blk Bx3_6 (.cells #[.int .u64 x9.t, .int .i64 x9.s, .int .u64 x9.q] 32)), (950, .row (.slice ax3 (ps.length + 1) capx3) 3 1 (ps.length + 1) ((ps.flatMap numc) ++ [.int .i64 ((k : Nat) : Int)])), (951, .row (.slice ax7 (ps.length + 1) capx7) 32 3 (ps.length + 1) ((ps.flatMap idc) ++ [.int .u64 x9.t, .int .i64 x9.s, .int .u64 x9.q]))]) (T_draw (V := [(0, .slice na ps.length nc), (1, .int .i64 ((k : Nat) : Int)), (4, .slice ia ps.length ic), (5, .agg #[.int .u64 x9.t, .int .i64 x9.s, .int .u64 x9.q])]) [0, 0, 2, 7, 0, 0, 32, 127, 255, 511] [[(6, none)], [(10, none)], [(39, some 1)], [(38, some 0), (40, some 2)], [(7, none)], [(11, none)], [(43, some 5)], [(42, some 4), (44, some 6)], [(41, some 3)], [(45, some 7)]] 204 mixed (by kernel_rfl) ?_) (fun z hz => ?_)
      · skip
        refine G_step [0, 1, 4, 5] 2 [6] (by kernel_rfl) (allM (all_cons (q_run (.slice na ps.length nc) rfl rfl (wv_n rfl) rfl (fun _ _ hρ _ => r_move (hρ _ _ rfl))) (all_cons (q_run (.int .i64 ((k : Nat) : Int)) rfl rfl (wv_n rfl) rfl (fun _ _ hρ _ => r_move (hρ _ _ rfl))) (all_cons (q_run (.slice ia ps.length ic) rfl rfl (wv_n rfl) rfl (fun _ _ hρ _ => r_move (hρ _ _ rfl))) (all_cons (q_run (.agg #[.int .u64 x9.t, .int .i64 x9.s, .int .u64 x9.q]) rfl rfl (wv_n rfl) rfl (fun _ _ hρ hm => r_loadA ag32 sz32 (hρ _ _ rfl) (hm.at 2 rfl) rfl rfl)) all_nil))))) (allM (all_cons ?_ (all_cons ?_ all_nil)))
        · skip
          refine LOb_new 7 (.cells #[.int .i64 ((k : Nat) : Int)] 3) (fun B => .slice (some ⟨B, 0, none⟩) 1 1) (fun B => []) rfl (wv_n rfl) rfl rfl (fun _ _ hρ _ => r_buildSlice (vs := [(0, .int .i64 ((k : Nat) : Int))]) (by kernel_rfl) (cons2 (pair2 (hρ _ _ rfl)) rfl)) (fun B => by kernel_rfl) ?_
          intro B32
          refine G_step [0, 4, 5] 3 [6] (by kernel_rfl) (allM (all_cons (q_run (.slice na ps.length nc) rfl rfl (wv_n rfl) rfl (fun _ _ hρ _ => r_move (hρ _ _ rfl))) (all_cons (q_run (.slice ia ps.length ic) rfl rfl (wv_n rfl) rfl (fun _ _ hρ _ => r_move (hρ _ _ rfl))) (all_cons (q_run (.agg #[.int .u64 x9.t, .int .i64 x9.s, .int .u64 x9.q]) rfl rfl (wv_n rfl) rfl (fun _ _ hρ hm => r_loadA ag32 sz32 (hρ _ _ rfl) (hm.at 2 rfl) rfl rfl)) all_nil)))) (allM (all_cons ?_ (all_cons ?_ all_nil)))
          · skip
            refine LOb_append (n := ps.length) (m := 1) (xs := (ps.flatMap numc)) (news := [.int .i64 ((k : Nat) : Int)]) (z := .int .i64 0) 950 (fun a cap => []) rfl (wv_n rfl) rfl rfl rfl sl43 sz3 by3 (by kernel_rfl) rfl rfl (.inl rfl) (fun _ hm => src_blk (news := [.int .i64 ((k : Nat) : Int)]) (hm.at 7 rfl) rfl) (by first | (intro u hu; obtain ⟨x, _, hx⟩ := List.mem_flatMap.1 hu; first | exact numc_one x u hx | exact idc_one x u hx) | simp [Value.oneCell']) (by omega) (by omega) (fun a cap => by kernel_rfl) ?_
            intro a33 cap33
            refine G_step [4, 5] 6 [] (by kernel_rfl) (allM (all_cons (q_run (.slice ia ps.length ic) rfl rfl (wv_n rfl) rfl (fun _ _ hρ _ => r_move (hρ _ _ rfl))) (all_cons (q_run (.agg #[.int .u64 x9.t, .int .i64 x9.s, .int .u64 x9.q]) rfl rfl (wv_n rfl) rfl (fun _ _ hρ hm => r_loadA ag32 sz32 (hρ _ _ rfl) (hm.at 2 rfl) rfl rfl)) all_nil))) (allM (all_cons ?_ all_nil))
            refine LOb_new 8 (.cells #[.int .u64 x9.t, .int .i64 x9.s, .int .u64 x9.q] 32) (fun B => .slice (some ⟨B, 0, none⟩) 1 1) (fun B => []) rfl (wv_n rfl) rfl rfl (fun _ _ hρ _ => r_buildSlice (vs := [(0, .agg #[.int .u64 x9.t, .int .i64 x9.s, .int .u64 x9.q])]) (by kernel_rfl) (cons2 (pair2 (hρ _ _ rfl)) rfl)) (fun B => by kernel_rfl) ?_
            intro B34
            refine G_step [4] 7 [] (by kernel_rfl) (allM (all_cons (q_run (.slice ia ps.length ic) rfl rfl (wv_n rfl) rfl (fun _ _ hρ _ => r_move (hρ _ _ rfl))) all_nil)) (allM (all_cons ?_ all_nil))
            refine LOb_append (n := ps.length) (m := 1) (xs := (ps.flatMap idc)) (news := [.int .u64 x9.t, .int .i64 x9.s, .int .u64 x9.q]) (z := .agg #[.int .u64 0, .int .i64 0, .int .u64 0]) 951 (fun a cap => [(8, .slice a33 (ps.length + 1) cap33), (9, .slice a (ps.length + 1) cap)]) rfl (wv_n rfl) rfl rfl rfl sl22 sz32 by32 (by kernel_rfl) rfl rfl (.inl rfl) (fun _ hm => src_blk (news := [.int .u64 x9.t, .int .i64 x9.s, .int .u64 x9.q]) (hm.at 8 rfl) rfl) (by first | (intro u hu; obtain ⟨x, _, hx⟩ := List.mem_flatMap.1 hu; first | exact numc_one x u hx | exact idc_one x u hx) | simp [Value.oneCell']) (by omega) (by omega) (fun a cap => by kernel_rfl) ?_
            intro a35 cap35
            exact G_lastQ [8, 9] [(0, .slice (some ⟨b2, of2, none⟩) l.length cap), (3, .pointer (some ⟨B1, 0, none⟩)), (4, .slice none 0 0), (5, .slice none 0 0), (8, .int .i64 ((n9 : Nat) : Int)), (9, .bool is9), (20, .slice (some ⟨b2, of2, none⟩) l.length cap), (21, .int .i64 ((l.length : Nat) : Int)), (22, .int .i64 ((k : Nat) : Int)), (23, .bool (decide (((k : Nat) : Int) < ((l.length : Nat) : Int)))), (24, .int .i64 ((k : Nat) : Int)), (25, .pointer (some ⟨b2, of2 + k * 3, none⟩)), (26, .agg #[.int .u64 x9.t, .int .i64 x9.s, .int .u64 x9.q]), (11, .pointer (some ⟨B3, 0, none⟩)), (10, .int .i64 ((k : Nat) : Int)), (27, .int .i64 ((k : Nat) : Int)), (28, .int .i64 ((n9 : Nat) : Int)), (29, .bool false), (38, .slice na ps.length nc), (39, .int .i64 ((k : Nat) : Int)), (40, .slice (some ⟨B32, 0, none⟩) 1 1), (41, .slice a33 (ps.length + 1) cap33), (42, .slice ia ps.length ic), (43, .agg #[.int .u64 x9.t, .int .i64 x9.s, .int .u64 x9.q]), (44, .slice (some ⟨B34, 0, none⟩) 1 1), (45, .slice a35 (ps.length + 1) cap35), (6, .slice a33 (ps.length + 1) cap33), (7, .slice a35 (ps.length + 1) cap35)] (by kernel_rfl) (allM (all_cons (q_run (.slice a33 (ps.length + 1) cap33) rfl rfl (wv_n rfl) rfl (fun _ _ hρ _ => r_assign (hρ _ _ rfl))) (all_cons (q_run (.slice a35 (ps.length + 1) cap35) rfl rfl (wv_n rfl) rfl (fun _ _ hρ _ => r_assign (hρ _ _ rfl))) all_nil))) (end_old rfl rfl (end_old rfl rfl (end_old rfl rfl (end_old rfl rfl (end_old rfl rfl (end_old rfl rfl (end_old rfl rfl (end_old rfl rfl (end_old rfl rfl (end_old rfl rfl (end_old rfl rfl (end_old rfl rfl (end_old rfl rfl (end_old rfl rfl (end_old rfl rfl (end_old rfl rfl (end_old rfl rfl (end_old rfl rfl (end_new 0 rfl rfl (end_new 1 rfl rfl (end_new 2 rfl rfl (end_new 3 rfl rfl (end_new 4 rfl rfl (end_new 5 rfl rfl (end_new 6 rfl rfl (end_new 7 rfl rfl (end_new 8 rfl rfl (end_new 9 rfl rfl end_nil)))))))))))))))))))))))))))) (fun a w hf hm => At_intro (B32, a33, cap33, B34, a35, cap35) trivial hf hm (sub_cons rfl (sub_cons rfl (sub_cons rfl (sub_cons rfl (sub_cons rfl (sub_cons rfl (sub_cons rfl (sub_cons rfl (sub_cons rfl (sub_cons rfl (sub_cons rfl (sub_cons rfl (sub_cons rfl (sub_cons rfl (sub_cons rfl (sub_cons rfl (sub_cons rfl (sub_cons rfl (sub_cons rfl (sub_cons rfl (sub_cons rfl (sub_cons rfl (sub_cons rfl (sub_cons rfl (sub_cons rfl (sub_cons rfl (sub_cons rfl (sub_cons rfl sub_nil)))))))))))))))))))))))))))) (sub_cons rfl (sub_cons rfl (sub_cons rfl (sub_cons rfl (sub_cons rfl (sub_cons rfl sub_nil)))))))
          · skip
            refine LOb_new 8 (.cells #[.int .u64 x9.t, .int .i64 x9.s, .int .u64 x9.q] 32) (fun B => .slice (some ⟨B, 0, none⟩) 1 1) (fun B => []) rfl (wv_n rfl) rfl rfl (fun _ _ hρ _ => r_buildSlice (vs := [(0, .agg #[.int .u64 x9.t, .int .i64 x9.s, .int .u64 x9.q])]) (by kernel_rfl) (cons2 (pair2 (hρ _ _ rfl)) rfl)) (fun B => by kernel_rfl) ?_
            intro B36
            refine G_step [0, 4] 3 [] (by kernel_rfl) (allM (all_cons (q_run (.slice na ps.length nc) rfl rfl (wv_n rfl) rfl (fun _ _ hρ _ => r_move (hρ _ _ rfl))) (all_cons (q_run (.slice ia ps.length ic) rfl rfl (wv_n rfl) rfl (fun _ _ hρ _ => r_move (hρ _ _ rfl))) all_nil))) (allM (all_cons ?_ all_nil))
            refine LOb_append (n := ps.length) (m := 1) (xs := (ps.flatMap numc)) (news := [.int .i64 ((k : Nat) : Int)]) (z := .int .i64 0) 950 (fun a cap => []) rfl (wv_n rfl) rfl rfl rfl sl43 sz3 by3 (by kernel_rfl) rfl rfl (.inl rfl) (fun _ hm => src_blk (news := [.int .i64 ((k : Nat) : Int)]) (hm.at 7 rfl) rfl) (by first | (intro u hu; obtain ⟨x, _, hx⟩ := List.mem_flatMap.1 hu; first | exact numc_one x u hx | exact idc_one x u hx) | simp [Value.oneCell']) (by omega) (by omega) (fun a cap => by kernel_rfl) ?_
            intro a37 cap37
            refine G_step [4] 7 [] (by kernel_rfl) (allM (all_cons (q_run (.slice ia ps.length ic) rfl rfl (wv_n rfl) rfl (fun _ _ hρ _ => r_move (hρ _ _ rfl))) all_nil)) (allM (all_cons ?_ all_nil))
            refine LOb_append (n := ps.length) (m := 1) (xs := (ps.flatMap idc)) (news := [.int .u64 x9.t, .int .i64 x9.s, .int .u64 x9.q]) (z := .agg #[.int .u64 0, .int .i64 0, .int .u64 0]) 951 (fun a cap => [(8, .slice a37 (ps.length + 1) cap37), (9, .slice a (ps.length + 1) cap)]) rfl (wv_n rfl) rfl rfl rfl sl22 sz32 by32 (by kernel_rfl) rfl rfl (.inl rfl) (fun _ hm => src_blk (news := [.int .u64 x9.t, .int .i64 x9.s, .int .u64 x9.q]) (hm.at 8 rfl) rfl) (by first | (intro u hu; obtain ⟨x, _, hx⟩ := List.mem_flatMap.1 hu; first | exact numc_one x u hx | exact idc_one x u hx) | simp [Value.oneCell']) (by omega) (by omega) (fun a cap => by kernel_rfl) ?_
            intro a38 cap38
            exact G_lastQ [8, 9] [(0, .slice (some ⟨b2, of2, none⟩) l.length cap), (3, .pointer (some ⟨B1, 0, none⟩)), (4, .slice none 0 0), (5, .slice none 0 0), (8, .int .i64 ((n9 : Nat) : Int)), (9, .bool is9), (20, .slice (some ⟨b2, of2, none⟩) l.length cap), (21, .int .i64 ((l.length : Nat) : Int)), (22, .int .i64 ((k : Nat) : Int)), (23, .bool (decide (((k : Nat) : Int) < ((l.length : Nat) : Int)))), (24, .int .i64 ((k : Nat) : Int)), (25, .pointer (some ⟨b2, of2 + k * 3, none⟩)), (26, .agg #[.int .u64 x9.t, .int .i64 x9.s, .int .u64 x9.q]), (11, .pointer (some ⟨B3, 0, none⟩)), (10, .int .i64 ((k : Nat) : Int)), (27, .int .i64 ((k : Nat) : Int)), (28, .int .i64 ((n9 : Nat) : Int)), (29, .bool false), (38, .slice na ps.length nc), (39, .int .i64 ((k : Nat) : Int)), (40, .slice (some ⟨B32, 0, none⟩) 1 1), (41, .slice a37 (ps.length + 1) cap37), (42, .slice ia ps.length ic), (43, .agg #[.int .u64 x9.t, .int .i64 x9.s, .int .u64 x9.q]), (44, .slice (some ⟨B36, 0, none⟩) 1 1), (45, .slice a38 (ps.length + 1) cap38), (6, .slice a37 (ps.length + 1) cap37), (7, .slice a38 (ps.length + 1) cap38)] (by kernel_rfl) (allM (all_cons (q_run (.slice a37 (ps.length + 1) cap37) rfl rfl (wv_n rfl) rfl (fun _ _ hρ _ => r_assign (hρ _ _ rfl))) (all_cons (q_run (.slice a38 (ps.length + 1) cap38) rfl rfl (wv_n rfl) rfl (fun _ _ hρ _ => r_assign (hρ _ _ rfl))) all_nil))) (end_old rfl rfl (end_old rfl rfl (end_old rfl rfl (end_old rfl rfl (end_old rfl rfl (end_old rfl rfl (end_old rfl rfl (end_old rfl rfl (end_old rfl rfl (end_old rfl rfl (end_old rfl rfl (end_old rfl rfl (end_old rfl rfl (end_old rfl rfl (end_old rfl rfl (end_old rfl rfl (end_old rfl rfl (end_old rfl rfl (end_new 0 rfl rfl (end_new 1 rfl rfl (end_new 2 rfl rfl (end_new 3 rfl rfl (end_new 4 rfl rfl (end_new 5 rfl rfl (end_new 6 rfl rfl (end_new 7 rfl rfl (end_new 8 rfl rfl (end_new 9 rfl rfl end_nil)))))))))))))))))))))))))))) (fun a w hf hm => At_intro (B32, a37, cap37, B36, a38, cap38) trivial hf hm (sub_cons rfl (sub_cons rfl (sub_cons rfl (sub_cons rfl (sub_cons rfl (sub_cons rfl (sub_cons rfl (sub_cons rfl (sub_cons rfl (sub_cons rfl (sub_cons rfl (sub_cons rfl (sub_cons rfl (sub_cons rfl (sub_cons rfl (sub_cons rfl (sub_cons rfl (sub_cons rfl (sub_cons rfl (sub_cons rfl (sub_cons rfl (sub_cons rfl (sub_cons rfl (sub_cons rfl (sub_cons rfl (sub_cons rfl (sub_cons rfl (sub_cons rfl sub_nil)))))))))))))))))))))))))))) (sub_cons rfl (sub_cons rfl (sub_cons rfl (sub_cons rfl (sub_cons rfl (sub_cons rfl sub_nil)))))))
        · skip
          refine LOb_new 8 (.cells #[.int .u64 x9.t, .int .i64 x9.s, .int .u64 x9.q] 32) (fun B => .slice (some ⟨B, 0, none⟩) 1 1) (fun B => []) rfl (wv_n rfl) rfl rfl (fun _ _ hρ _ => r_buildSlice (vs := [(0, .agg #[.int .u64 x9.t, .int .i64 x9.s, .int .u64 x9.q])]) (by kernel_rfl) (cons2 (pair2 (hρ _ _ rfl)) rfl)) (fun B => by kernel_rfl) ?_
          intro B39
          refine G_step [0, 1, 4] 2 [] (by kernel_rfl) (allM (all_cons (q_run (.slice na ps.length nc) rfl rfl (wv_n rfl) rfl (fun _ _ hρ _ => r_move (hρ _ _ rfl))) (all_cons (q_run (.int .i64 ((k : Nat) : Int)) rfl rfl (wv_n rfl) rfl (fun _ _ hρ _ => r_move (hρ _ _ rfl))) (all_cons (q_run (.slice ia ps.length ic) rfl rfl (wv_n rfl) rfl (fun _ _ hρ _ => r_move (hρ _ _ rfl))) all_nil)))) (allM (all_cons ?_ all_nil))
          refine LOb_new 7 (.cells #[.int .i64 ((k : Nat) : Int)] 3) (fun B => .slice (some ⟨B, 0, none⟩) 1 1) (fun B => []) rfl (wv_n rfl) rfl rfl (fun _ _ hρ _ => r_buildSlice (vs := [(0, .int .i64 ((k : Nat) : Int))]) (by kernel_rfl) (cons2 (pair2 (hρ _ _ rfl)) rfl)) (fun B => by kernel_rfl) ?_
          intro B40
          refine G_step [0, 4] 3 [] (by kernel_rfl) (allM (all_cons (q_run (.slice na ps.length nc) rfl rfl (wv_n rfl) rfl (fun _ _ hρ _ => r_move (hρ _ _ rfl))) (all_cons (q_run (.slice ia ps.length ic) rfl rfl (wv_n rfl) rfl (fun _ _ hρ _ => r_move (hρ _ _ rfl))) all_nil))) (allM (all_cons ?_ all_nil))
          refine LOb_append (n := ps.length) (m := 1) (xs := (ps.flatMap numc)) (news := [.int .i64 ((k : Nat) : Int)]) (z := .int .i64 0) 950 (fun a cap => []) rfl (wv_n rfl) rfl rfl rfl sl43 sz3 by3 (by kernel_rfl) rfl rfl (.inl rfl) (fun _ hm => src_blk (news := [.int .i64 ((k : Nat) : Int)]) (hm.at 7 rfl) rfl) (by first | (intro u hu; obtain ⟨x, _, hx⟩ := List.mem_flatMap.1 hu; first | exact numc_one x u hx | exact idc_one x u hx) | simp [Value.oneCell']) (by omega) (by omega) (fun a cap => by kernel_rfl) ?_
          intro a41 cap41
          refine G_step [4] 7 [] (by kernel_rfl) (allM (all_cons (q_run (.slice ia ps.length ic) rfl rfl (wv_n rfl) rfl (fun _ _ hρ _ => r_move (hρ _ _ rfl))) all_nil)) (allM (all_cons ?_ all_nil))
          refine LOb_append (n := ps.length) (m := 1) (xs := (ps.flatMap idc)) (news := [.int .u64 x9.t, .int .i64 x9.s, .int .u64 x9.q]) (z := .agg #[.int .u64 0, .int .i64 0, .int .u64 0]) 951 (fun a cap => [(8, .slice a41 (ps.length + 1) cap41), (9, .slice a (ps.length + 1) cap)]) rfl (wv_n rfl) rfl rfl rfl sl22 sz32 by32 (by kernel_rfl) rfl rfl (.inl rfl) (fun _ hm => src_blk (news := [.int .u64 x9.t, .int .i64 x9.s, .int .u64 x9.q]) (hm.at 8 rfl) rfl) (by first | (intro u hu; obtain ⟨x, _, hx⟩ := List.mem_flatMap.1 hu; first | exact numc_one x u hx | exact idc_one x u hx) | simp [Value.oneCell']) (by omega) (by omega) (fun a cap => by kernel_rfl) ?_
          intro a42 cap42
          exact G_lastQ [8, 9] [(0, .slice (some ⟨b2, of2, none⟩) l.length cap), (3, .pointer (some ⟨B1, 0, none⟩)), (4, .slice none 0 0), (5, .slice none 0 0), (8, .int .i64 ((n9 : Nat) : Int)), (9, .bool is9), (20, .slice (some ⟨b2, of2, none⟩) l.length cap), (21, .int .i64 ((l.length : Nat) : Int)), (22, .int .i64 ((k : Nat) : Int)), (23, .bool (decide (((k : Nat) : Int) < ((l.length : Nat) : Int)))), (24, .int .i64 ((k : Nat) : Int)), (25, .pointer (some ⟨b2, of2 + k * 3, none⟩)), (26, .agg #[.int .u64 x9.t, .int .i64 x9.s, .int .u64 x9.q]), (11, .pointer (some ⟨B3, 0, none⟩)), (10, .int .i64 ((k : Nat) : Int)), (27, .int .i64 ((k : Nat) : Int)), (28, .int .i64 ((n9 : Nat) : Int)), (29, .bool false), (38, .slice na ps.length nc), (39, .int .i64 ((k : Nat) : Int)), (40, .slice (some ⟨B40, 0, none⟩) 1 1), (41, .slice a41 (ps.length + 1) cap41), (42, .slice ia ps.length ic), (43, .agg #[.int .u64 x9.t, .int .i64 x9.s, .int .u64 x9.q]), (44, .slice (some ⟨B39, 0, none⟩) 1 1), (45, .slice a42 (ps.length + 1) cap42), (6, .slice a41 (ps.length + 1) cap41), (7, .slice a42 (ps.length + 1) cap42)] (by kernel_rfl) (allM (all_cons (q_run (.slice a41 (ps.length + 1) cap41) rfl rfl (wv_n rfl) rfl (fun _ _ hρ _ => r_assign (hρ _ _ rfl))) (all_cons (q_run (.slice a42 (ps.length + 1) cap42) rfl rfl (wv_n rfl) rfl (fun _ _ hρ _ => r_assign (hρ _ _ rfl))) all_nil))) (end_old rfl rfl (end_old rfl rfl (end_old rfl rfl (end_old rfl rfl (end_old rfl rfl (end_old rfl rfl (end_old rfl rfl (end_old rfl rfl (end_old rfl rfl (end_old rfl rfl (end_old rfl rfl (end_old rfl rfl (end_old rfl rfl (end_old rfl rfl (end_old rfl rfl (end_old rfl rfl (end_old rfl rfl (end_old rfl rfl (end_new 0 rfl rfl (end_new 1 rfl rfl (end_new 2 rfl rfl (end_new 3 rfl rfl (end_new 4 rfl rfl (end_new 5 rfl rfl (end_new 6 rfl rfl (end_new 7 rfl rfl (end_new 8 rfl rfl (end_new 9 rfl rfl end_nil)))))))))))))))))))))))))))) (fun a w hf hm => At_intro (B40, a41, cap41, B39, a42, cap42) trivial hf hm (sub_cons rfl (sub_cons rfl (sub_cons rfl (sub_cons rfl (sub_cons rfl (sub_cons rfl (sub_cons rfl (sub_cons rfl (sub_cons rfl (sub_cons rfl (sub_cons rfl (sub_cons rfl (sub_cons rfl (sub_cons rfl (sub_cons rfl (sub_cons rfl (sub_cons rfl (sub_cons rfl (sub_cons rfl (sub_cons rfl (sub_cons rfl (sub_cons rfl (sub_cons rfl (sub_cons rfl (sub_cons rfl (sub_cons rfl (sub_cons rfl (sub_cons rfl sub_nil)))))))))))))))))))))))))))) (sub_cons rfl (sub_cons rfl (sub_cons rfl (sub_cons rfl (sub_cons rfl (sub_cons rfl sub_nil)))))))
      · skip
        obtain ⟨Bx3_2, ax3, capx3, Bx3_6, ax7, capx7⟩ := z
        show POk _ _ .normal [(0, .slice (some ⟨b2, of2, none⟩) l.length cap), (3, .pointer (some ⟨B1, 0, none⟩)), (4, .slice none 0 0), (5, .slice none 0 0), (8, .int .i64 ((n9 : Nat) : Int)), (9, .bool is9), (20, .slice (some ⟨b2, of2, none⟩) l.length cap), (21, .int .i64 ((l.length : Nat) : Int)), (22, .int .i64 ((k : Nat) : Int)), (23, .bool (decide (((k : Nat) : Int) < ((l.length : Nat) : Int)))), (24, .int .i64 ((k : Nat) : Int)), (25, .pointer (some ⟨b2, of2 + k * 3, none⟩)), (26, .agg #[.int .u64 x9.t, .int .i64 x9.s, .int .u64 x9.q]), (11, .pointer (some ⟨B3, 0, none⟩)), (10, .int .i64 ((k : Nat) : Int)), (27, .int .i64 ((k : Nat) : Int)), (28, .int .i64 ((n9 : Nat) : Int)), (29, .bool false), (38, .slice na ps.length nc), (39, .int .i64 ((k : Nat) : Int)), (40, .slice (some ⟨Bx3_2, 0, none⟩) 1 1), (41, .slice ax3 (ps.length + 1) capx3), (42, .slice ia ps.length ic), (43, .agg #[.int .u64 x9.t, .int .i64 x9.s, .int .u64 x9.q]), (44, .slice (some ⟨Bx3_6, 0, none⟩) 1 1), (45, .slice ax7 (ps.length + 1) capx7), (6, .slice ax3 (ps.length + 1) capx3), (7, .slice ax7 (ps.length + 1) capx7)] [(1, .blk B1 (.cells #[.int .u64 d.t, .int .i64 d.s, .int .u64 d.q] 32)), (2, .blk B3 (.cells #[.int .u64 x9.t, .int .i64 x9.s, .int .u64 x9.q] 32)), (7, .blk Bx3_2 (.cells #[.int .i64 ((k : Nat) : Int)] 3)), (8, .blk Bx3_6 (.cells #[.int .u64 x9.t, .int .i64 x9.s, .int .u64 x9.q] 32)), (950, .row (.slice ax3 (ps.length + 1) capx3) 3 1 (ps.length + 1) ((ps.flatMap numc) ++ [.int .i64 ((k : Nat) : Int)])), (951, .row (.slice ax7 (ps.length + 1) capx7) 32 3 (ps.length + 1) ((ps.flatMap idc) ++ [.int .u64 x9.t, .int .i64 x9.s, .int .u64 x9.q]))]
        refine p_blk_n ?_
        refine p_seq ?_
        refine T_region ?_
        refine TL_q (.int .i64 ((k + 1 : Nat) : Int)) (fun _ _ hρ _ => r_as (r_add (hρ _ _ rfl) (hρ _ _ rfl)) (int_as ((wrap64 (by omega) (by omega)).trans (by omega)))) rfl rfl rfl (w_n rfl) ?_
        refine TL_q (.int .i64 ((k + 1 : Nat) : Int)) (fun _ _ hρ _ => r_move (hρ _ _ rfl)) rfl rfl rfl (w_n rfl) ?_
        refine TL_nil ?_
        have hn43 : (ps.length + 1) = (ps ++ [(((k : Nat) : Int), x9)]).length := by simp
        have hx43 : ((ps.flatMap numc) ++ [.int .i64 ((k : Nat) : Int)]) = (ps ++ [(((k : Nat) : Int), x9)]).flatMap numc := by simp [numc]
        rw [hx43, hn43]
        have hx44 : ((ps.flatMap idc) ++ [.int .u64 x9.t, .int .i64 x9.s, .int .u64 x9.q]) = (ps ++ [(((k : Nat) : Int), x9)]).flatMap idc := by simp [idc]
        rw [hx44]
        exact p_at (k + 1, ps ++ [(((k : Nat) : Int), x9)], ax3, capx3, ax7, capx7) ⟨⟨by omega, by rw [hps]; exact ((Nat.lt_or_ge k n9).elim (fun h => insK_lt hx9 h) (fun h => insK_gt hx9 (by omega))).symm⟩, by dsimp only; omega⟩ (sub_cons rfl (sub_cons rfl (sub_cons rfl (sub_cons rfl (sub_cons rfl (sub_cons rfl (sub_cons rfl (sub_cons rfl (sub_cons rfl (sub_cons rfl (sub_cons rfl sub_nil))))))))))) (sub_cons rfl (sub_cons rfl (sub_cons rfl sub_nil)))
  · replace h1 := of_decide_eq_false h1
    refine T_exit' ?_
    refine p_then_x ?_
    refine p_then_x ?_
    refine p_blk_x ?_
    refine p_seq ?_
    refine T_join (ι := List NI × Option Addr × Nat × Option Addr × Nat) (fun (z : List NI × Option Addr × Nat × Option Addr × Nat) => match z with | (qs, na2, nc2, ia2, ic2) => qs = insG Prod.snd (tagL l) ((-1 : Int), d)) (fun (z : List NI × Option Addr × Nat × Option Addr × Nat) => match z with | (qs, na2, nc2, ia2, ic2) => [(4, .slice none 0 0), (5, .slice none 0 0), (6, .slice na2 qs.length nc2), (7, .slice ia2 qs.length ic2)]) (fun (z : List NI × Option Addr × Nat × Option Addr × Nat) => match z with | (qs, na2, nc2, ia2, ic2) => [(1, .blk B1 (.cells #[.int .u64 d.t, .int .i64 d.s, .int .u64 d.q] 32)), (950, .row (.slice na2 qs.length nc2) 3 1 qs.length (qs.flatMap numc)), (951, .row (.slice ia2 qs.length ic2) 32 3 qs.length (qs.flatMap idc))]) ?_ ?_
    · skip
      have hkl : k = l.length := by omega
      subst hkl
      have hall := insK_all (d := d) hul
      rw [← hn9, ← his9, ← hps] at hall
      refine T_seq (T_region ?_)
      refine TL_q (.int .i64 ((n9 : Nat) : Int)) (fun _ _ hρ _ => r_move (hρ _ _ rfl)) rfl rfl rfl (w_n rfl) ?_
      refine TL_q (.slice a l.length cap) (fun _ _ hρ _ => r_move (hρ _ _ rfl)) rfl rfl rfl (w_n rfl) ?_
      refine TL_q (.int .i64 ((l.length : Nat) : Int)) (fun _ _ hρ _ => r_len sl22 (hρ _ _ rfl)) rfl rfl rfl (w_n rfl) ?_
      refine TL_q (.bool (decide (((n9 : Nat) : Int) = ((l.length : Nat) : Int)))) (fun _ _ hρ _ => r_eql (hρ _ _ rfl) (hρ _ _ rfl)) rfl rfl rfl (w_n rfl) ?_
      refine TL_seq ?_
      refine T_cond rfl (fun h2 => ?_) (fun h2 => ?_)
      · replace h2 := of_decide_eq_true h2
        refine T_joinE (ι := Nat × (Option Addr) × Nat × Nat × (Option Addr) × Nat) (fun _ => True) (fun (z : Nat × (Option Addr) × Nat × Nat × (Option Addr) × Nat) => match z with | (Bx4_1, ax2, capx2, Bx4_5, ax6, capx6) => [(4, .slice none 0 0), (5, .slice none 0 0), (6, .slice ax2 (ps.length + 1) capx2), (7, .slice ax6 (ps.length + 1) capx6)]) (fun (z : Nat × (Option Addr) × Nat × Nat × (Option Addr) × Nat) => match z with | (Bx4_1, ax2, capx2, Bx4_5, ax6, capx6) => [(1, .blk B1 (.cells #[.int .u64 d.t, .int .i64 d.s, .int .u64 d.q] 32)), (9, .blk Bx4_1 (.cells #[.int .i64 (-1)] 3)), (10, .blk Bx4_5 (.cells #[.int .u64 d.t, .int .i64 d.s, .int .u64 d.q] 32)), (950, .row (.slice ax2 (ps.length + 1) capx2) 3 1 (ps.length + 1) ((ps.flatMap numc) ++ [.int .i64 (-1)])), (951, .row (.slice ax6 (ps.length + 1) capx6) 32 3 (ps.length + 1) ((ps.flatMap idc) ++ [.int .u64 d.t, .int .i64 d.s, .int .u64 d.q]))]) (T_draw (V := [(0, .slice na ps.length nc), (3, .slice ia ps.length ic), (4, .agg #[.int .u64 d.t, .int .i64 d.s, .int .u64 d.q])]) [0, 0, 3, 0, 0, 16, 63, 127, 255] [[(6, none)], [], [(51, some 0), (52, some 1)], [(7, none)], [(3, none)], [(55, some 4)], [(54, some 3), (56, some 5)], [(53, some 2)], [(57, some 6)]] 102 mixed (by kernel_rfl) ?_) (fun z hz => ?_)
        · skip
          refine G_step [0, 3, 4] 1 [5] (by kernel_rfl) (allM (all_cons (q_run (.slice na ps.length nc) rfl rfl (wv_n rfl) rfl (fun _ _ hρ _ => r_move (hρ _ _ rfl))) (all_cons (q_run (.slice ia ps.length ic) rfl rfl (wv_n rfl) rfl (fun _ _ hρ _ => r_move (hρ _ _ rfl))) (all_cons (q_run (.agg #[.int .u64 d.t, .int .i64 d.s, .int .u64 d.q]) rfl rfl (wv_n rfl) rfl (fun _ _ hρ hm => r_loadA ag32 sz32 (hρ _ _ rfl) (hm.at 1 rfl) rfl rfl)) all_nil)))) (allM (all_cons ?_ (all_cons ?_ all_nil)))
          · skip
            refine LOb_new 9 (.cells #[.int .i64 (-1)] 3) (fun B => .slice (some ⟨B, 0, none⟩) 1 1) (fun B => []) rfl (wv_n rfl) rfl rfl (fun _ _ hρ _ => r_buildSlice (vs := [(0, .int .i64 (-1))]) (by kernel_rfl) (cons2 (pair2 (hρ _ _ rfl)) rfl)) (fun B => by kernel_rfl) ?_
            intro B45
            refine G_step [0, 3, 4] 2 [5] (by kernel_rfl) (allM (all_cons (q_run (.slice na ps.length nc) rfl rfl (wv_n rfl) rfl (fun _ _ hρ _ => r_move (hρ _ _ rfl))) (all_cons (q_run (.slice ia ps.length ic) rfl rfl (wv_n rfl) rfl (fun _ _ hρ _ => r_move (hρ _ _ rfl))) (all_cons (q_run (.agg #[.int .u64 d.t, .int .i64 d.s, .int .u64 d.q]) rfl rfl (wv_n rfl) rfl (fun _ _ hρ hm => r_loadA ag32 sz32 (hρ _ _ rfl) (hm.at 1 rfl) rfl rfl)) all_nil)))) (allM (all_cons ?_ (all_cons ?_ all_nil)))
            · skip
              refine LOb_append (n := ps.length) (m := 1) (xs := (ps.flatMap numc)) (news := [.int .i64 (-1)]) (z := .int .i64 0) 950 (fun a cap => []) rfl (wv_n rfl) rfl rfl rfl sl43 sz3 by3 (by kernel_rfl) rfl rfl (.inl rfl) (fun _ hm => src_blk (news := [.int .i64 (-1)]) (hm.at 9 rfl) rfl) (by first | (intro u hu; obtain ⟨x, _, hx⟩ := List.mem_flatMap.1 hu; first | exact numc_one x u hx | exact idc_one x u hx) | simp [Value.oneCell']) (by omega) (by omega) (fun a cap => by kernel_rfl) ?_
              intro a46 cap46
              refine G_step [3, 4] 5 [] (by kernel_rfl) (allM (all_cons (q_run (.slice ia ps.length ic) rfl rfl (wv_n rfl) rfl (fun _ _ hρ _ => r_move (hρ _ _ rfl))) (all_cons (q_run (.agg #[.int .u64 d.t, .int .i64 d.s, .int .u64 d.q]) rfl rfl (wv_n rfl) rfl (fun _ _ hρ hm => r_loadA ag32 sz32 (hρ _ _ rfl) (hm.at 1 rfl) rfl rfl)) all_nil))) (allM (all_cons ?_ all_nil))
              refine LOb_new 10 (.cells #[.int .u64 d.t, .int .i64 d.s, .int .u64 d.q] 32) (fun B => .slice (some ⟨B, 0, none⟩) 1 1) (fun B => []) rfl (wv_n rfl) rfl rfl (fun _ _ hρ _ => r_buildSlice (vs := [(0, .agg #[.int .u64 d.t, .int .i64 d.s, .int .u64 d.q])]) (by kernel_rfl) (cons2 (pair2 (hρ _ _ rfl)) rfl)) (fun B => by kernel_rfl) ?_
              intro B47
              refine G_step [3] 6 [] (by kernel_rfl) (allM (all_cons (q_run (.slice ia ps.length ic) rfl rfl (wv_n rfl) rfl (fun _ _ hρ _ => r_move (hρ _ _ rfl))) all_nil)) (allM (all_cons ?_ all_nil))
              refine LOb_append (n := ps.length) (m := 1) (xs := (ps.flatMap idc)) (news := [.int .u64 d.t, .int .i64 d.s, .int .u64 d.q]) (z := .agg #[.int .u64 0, .int .i64 0, .int .u64 0]) 951 (fun a cap => [(7, .slice a46 (ps.length + 1) cap46), (8, .slice a (ps.length + 1) cap)]) rfl (wv_n rfl) rfl rfl rfl sl22 sz32 by32 (by kernel_rfl) rfl rfl (.inl rfl) (fun _ hm => src_blk (news := [.int .u64 d.t, .int .i64 d.s, .int .u64 d.q]) (hm.at 10 rfl) rfl) (by first | (intro u hu; obtain ⟨x, _, hx⟩ := List.mem_flatMap.1 hu; first | exact numc_one x u hx | exact idc_one x u hx) | simp [Value.oneCell']) (by omega) (by omega) (fun a cap => by kernel_rfl) ?_
              intro a48 cap48
              exact G_lastQ [7, 8] [(4, .slice none 0 0), (5, .slice none 0 0), (6, .slice a46 (ps.length + 1) cap46), (7, .slice a48 (ps.length + 1) cap48)] (by kernel_rfl) (allM (all_cons (q_run (.slice a46 (ps.length + 1) cap46) rfl rfl (wv_n rfl) rfl (fun _ _ hρ _ => r_assign (hρ _ _ rfl))) (all_cons (q_run (.slice a48 (ps.length + 1) cap48) rfl rfl (wv_n rfl) rfl (fun _ _ hρ _ => r_assign (hρ _ _ rfl))) all_nil))) (end_old rfl rfl (end_old rfl rfl (end_new 7 rfl rfl (end_new 8 rfl rfl end_nil)))) (fun a w hf hm => At_intro (B45, a46, cap46, B47, a48, cap48) trivial hf hm (sub_cons rfl (sub_cons rfl (sub_cons rfl (sub_cons rfl sub_nil)))) (sub_cons rfl (sub_cons rfl (sub_cons rfl (sub_cons rfl (sub_cons rfl sub_nil))))))
            · skip
              refine LOb_new 10 (.cells #[.int .u64 d.t, .int .i64 d.s, .int .u64 d.q] 32) (fun B => .slice (some ⟨B, 0, none⟩) 1 1) (fun B => []) rfl (wv_n rfl) rfl rfl (fun _ _ hρ _ => r_buildSlice (vs := [(0, .agg #[.int .u64 d.t, .int .i64 d.s, .int .u64 d.q])]) (by kernel_rfl) (cons2 (pair2 (hρ _ _ rfl)) rfl)) (fun B => by kernel_rfl) ?_
              intro B49
              refine G_step [0, 3] 2 [] (by kernel_rfl) (allM (all_cons (q_run (.slice na ps.length nc) rfl rfl (wv_n rfl) rfl (fun _ _ hρ _ => r_move (hρ _ _ rfl))) (all_cons (q_run (.slice ia ps.length ic) rfl rfl (wv_n rfl) rfl (fun _ _ hρ _ => r_move (hρ _ _ rfl))) all_nil))) (allM (all_cons ?_ all_nil))
              refine LOb_append (n := ps.length) (m := 1) (xs := (ps.flatMap numc)) (news := [.int .i64 (-1)]) (z := .int .i64 0) 950 (fun a cap => []) rfl (wv_n rfl) rfl rfl rfl sl43 sz3 by3 (by kernel_rfl) rfl rfl (.inl rfl) (fun _ hm => src_blk (news := [.int .i64 (-1)]) (hm.at 9 rfl) rfl) (by first | (intro u hu; obtain ⟨x, _, hx⟩ := List.mem_flatMap.1 hu; first | exact numc_one x u hx | exact idc_one x u hx) | simp [Value.oneCell']) (by omega) (by omega) (fun a cap => by kernel_rfl) ?_
              intro a50 cap50
              refine G_step [3] 6 [] (by kernel_rfl) (allM (all_cons (q_run (.slice ia ps.length ic) rfl rfl (wv_n rfl) rfl (fun _ _ hρ _ => r_move (hρ _ _ rfl))) all_nil)) (allM (all_cons ?_ all_nil))
              refine LOb_append (n := ps.length) (m := 1) (xs := (ps.flatMap idc)) (news := [.int .u64 d.t, .int .i64 d.s, .int .u64 d.q]) (z := .agg #[.int .u64 0, .int .i64 0, .int .u64 0]) 951 (fun a cap => [(7, .slice a50 (ps.length + 1) cap50), (8, .slice a (ps.length + 1) cap)]) rfl (wv_n rfl) rfl rfl rfl sl22 sz32 by32 (by kernel_rfl) rfl rfl (.inl rfl) (fun _ hm => src_blk (news := [.int .u64 d.t, .int .i64 d.s, .int .u64 d.q]) (hm.at 10 rfl) rfl) (by first | (intro u hu; obtain ⟨x, _, hx⟩ := List.mem_flatMap.1 hu; first | exact numc_one x u hx | exact idc_one x u hx) | simp [Value.oneCell']) (by omega) (by omega) (fun a cap => by kernel_rfl) ?_
              intro a51 cap51
              exact G_lastQ [7, 8] [(4, .slice none 0 0), (5, .slice none 0 0), (6, .slice a50 (ps.length + 1) cap50), (7, .slice a51 (ps.length + 1) cap51)] (by kernel_rfl) (allM (all_cons (q_run (.slice a50 (ps.length + 1) cap50) rfl rfl (wv_n rfl) rfl (fun _ _ hρ _ => r_assign (hρ _ _ rfl))) (all_cons (q_run (.slice a51 (ps.length + 1) cap51) rfl rfl (wv_n rfl) rfl (fun _ _ hρ _ => r_assign (hρ _ _ rfl))) all_nil))) (end_old rfl rfl (end_old rfl rfl (end_new 7 rfl rfl (end_new 8 rfl rfl end_nil)))) (fun a w hf hm => At_intro (B45, a50, cap50, B49, a51, cap51) trivial hf hm (sub_cons rfl (sub_cons rfl (sub_cons rfl (sub_cons rfl sub_nil)))) (sub_cons rfl (sub_cons rfl (sub_cons rfl (sub_cons rfl (sub_cons rfl sub_nil))))))
          · skip
            refine LOb_new 10 (.cells #[.int .u64 d.t, .int .i64 d.s, .int .u64 d.q] 32) (fun B => .slice (some ⟨B, 0, none⟩) 1 1) (fun B => []) rfl (wv_n rfl) rfl rfl (fun _ _ hρ _ => r_buildSlice (vs := [(0, .agg #[.int .u64 d.t, .int .i64 d.s, .int .u64 d.q])]) (by kernel_rfl) (cons2 (pair2 (hρ _ _ rfl)) rfl)) (fun B => by kernel_rfl) ?_
            intro B52
            refine G_step [0, 3] 1 [] (by kernel_rfl) (allM (all_cons (q_run (.slice na ps.length nc) rfl rfl (wv_n rfl) rfl (fun _ _ hρ _ => r_move (hρ _ _ rfl))) (all_cons (q_run (.slice ia ps.length ic) rfl rfl (wv_n rfl) rfl (fun _ _ hρ _ => r_move (hρ _ _ rfl))) all_nil))) (allM (all_cons ?_ all_nil))
            refine LOb_new 9 (.cells #[.int .i64 (-1)] 3) (fun B => .slice (some ⟨B, 0, none⟩) 1 1) (fun B => []) rfl (wv_n rfl) rfl rfl (fun _ _ hρ _ => r_buildSlice (vs := [(0, .int .i64 (-1))]) (by kernel_rfl) (cons2 (pair2 (hρ _ _ rfl)) rfl)) (fun B => by kernel_rfl) ?_
            intro B53
            refine G_step [0, 3] 2 [] (by kernel_rfl) (allM (all_cons (q_run (.slice na ps.length nc) rfl rfl (wv_n rfl) rfl (fun _ _ hρ _ => r_move (hρ _ _ rfl))) (all_cons (q_run (.slice ia ps.length ic) rfl rfl (wv_n rfl) rfl (fun _ _ hρ _ => r_move (hρ _ _ rfl))) all_nil))) (allM (all_cons ?_ all_nil))
            refine LOb_append (n := ps.length) (m := 1) (xs := (ps.flatMap numc)) (news := [.int .i64 (-1)]) (z := .int .i64 0) 950 (fun a cap => []) rfl (wv_n rfl) rfl rfl rfl sl43 sz3 by3 (by kernel_rfl) rfl rfl (.inl rfl) (fun _ hm => src_blk (news := [.int .i64 (-1)]) (hm.at 9 rfl) rfl) (by first | (intro u hu; obtain ⟨x, _, hx⟩ := List.mem_flatMap.1 hu; first | exact numc_one x u hx | exact idc_one x u hx) | simp [Value.oneCell']) (by omega) (by omega) (fun a cap => by kernel_rfl) ?_
            intro a54 cap54
            refine G_step [3] 6 [] (by kernel_rfl) (allM (all_cons (q_run (.slice ia ps.length ic) rfl rfl (wv_n rfl) rfl (fun _ _ hρ _ => r_move (hρ _ _ rfl))) all_nil)) (allM (all_cons ?_ all_nil))
            refine LOb_append (n := ps.length) (m := 1) (xs := (ps.flatMap idc)) (news := [.int .u64 d.t, .int .i64 d.s, .int .u64 d.q]) (z := .agg #[.int .u64 0, .int .i64 0, .int .u64 0]) 951 (fun a cap => [(7, .slice a54 (ps.length + 1) cap54), (8, .slice a (ps.length + 1) cap)]) rfl (wv_n rfl) rfl rfl rfl sl22 sz32 by32 (by kernel_rfl) rfl rfl (.inl rfl) (fun _ hm => src_blk (news := [.int .u64 d.t, .int .i64 d.s, .int .u64 d.q]) (hm.at 10 rfl) rfl) (by first | (intro u hu; obtain ⟨x, _, hx⟩ := List.mem_flatMap.1 hu; first | exact numc_one x u hx | exact idc_one x u hx) | simp [Value.oneCell']) (by omega) (by omega) (fun a cap => by kernel_rfl) ?_
            intro a55 cap55
            exact G_lastQ [7, 8] [(4, .slice none 0 0), (5, .slice none 0 0), (6, .slice a54 (ps.length + 1) cap54), (7, .slice a55 (ps.length + 1) cap55)] (by kernel_rfl) (allM (all_cons (q_run (.slice a54 (ps.length + 1) cap54) rfl rfl (wv_n rfl) rfl (fun _ _ hρ _ => r_assign (hρ _ _ rfl))) (all_cons (q_run (.slice a55 (ps.length + 1) cap55) rfl rfl (wv_n rfl) rfl (fun _ _ hρ _ => r_assign (hρ _ _ rfl))) all_nil))) (end_old rfl rfl (end_old rfl rfl (end_new 7 rfl rfl (end_new 8 rfl rfl end_nil)))) (fun a w hf hm => At_intro (B53, a54, cap54, B52, a55, cap55) trivial hf hm (sub_cons rfl (sub_cons rfl (sub_cons rfl (sub_cons rfl sub_nil)))) (sub_cons rfl (sub_cons rfl (sub_cons rfl (sub_cons rfl (sub_cons rfl sub_nil))))))
        · skip
          obtain ⟨Bx4_1, ax2, capx2, Bx4_5, ax6, capx6⟩ := z
          show POk _ _ .normal [(4, .slice none 0 0), (5, .slice none 0 0), (6, .slice ax2 (ps.length + 1) capx2), (7, .slice ax6 (ps.length + 1) capx6)] [(1, .blk B1 (.cells #[.int .u64 d.t, .int .i64 d.s, .int .u64 d.q] 32)), (9, .blk Bx4_1 (.cells #[.int .i64 (-1)] 3)), (10, .blk Bx4_5 (.cells #[.int .u64 d.t, .int .i64 d.s, .int .u64 d.q] 32)), (950, .row (.slice ax2 (ps.length + 1) capx2) 3 1 (ps.length + 1) ((ps.flatMap numc) ++ [.int .i64 (-1)])), (951, .row (.slice ax6 (ps.length + 1) capx6) 32 3 (ps.length + 1) ((ps.flatMap idc) ++ [.int .u64 d.t, .int .i64 d.s, .int .u64 d.q]))]
          have hn56 : (ps.length + 1) = (ps ++ [((-1 : Int), d)]).length := by simp
          have hx56 : ((ps.flatMap numc) ++ [.int .i64 (-1)]) = (ps ++ [((-1 : Int), d)]).flatMap numc := by simp [numc]
          rw [hx56, hn56]
          have hx57 : ((ps.flatMap idc) ++ [.int .u64 d.t, .int .i64 d.s, .int .u64 d.q]) = (ps ++ [((-1 : Int), d)]).flatMap idc := by simp [idc]
          rw [hx57]
          exact p_at (ps ++ [((-1 : Int), d)], ax2, capx2, ax6, capx6) (by rw [if_pos (by omega)] at hall; exact hall) (sub_cons rfl (sub_cons rfl (sub_cons rfl (sub_cons rfl sub_nil)))) (sub_cons rfl (sub_cons rfl (sub_cons rfl sub_nil)))
      · replace h2 := of_decide_eq_false h2
        refine T_skip' ?_
        exact p_at (ps, na, nc, ia, ic) (by rw [if_neg (by omega)] at hall; exact hall) (sub_cons rfl (sub_cons rfl (sub_cons rfl (sub_cons rfl sub_nil)))) (sub_cons rfl (sub_cons rfl (sub_cons rfl sub_nil)))
    · skip
      rintro ⟨qs, na2, nc2, ia2, ic2⟩ hall
      show T _ _ _ [(4, .slice none 0 0), (5, .slice none 0 0), (6, .slice na2 qs.length nc2), (7, .slice ia2 qs.length ic2)] [(1, .blk B1 (.cells #[.int .u64 d.t, .int .i64 d.s, .int .u64 d.q] 32)), (950, .row (.slice na2 qs.length nc2) 3 1 qs.length (qs.flatMap numc)), (951, .row (.slice ia2 qs.length ic2) 32 3 qs.length (qs.flatMap idc))]
      refine T_seq ?_
      have hq7 := ins_len7 hall h6
      by_cases h6q : ((qs.length : Nat) : Int) ≤ 6
      · skip
        refine T_seq (T_region ?_)
        refine TL_q (.slice ia2 qs.length ic2) (fun _ _ hρ _ => r_move (hρ _ _ rfl)) rfl rfl rfl (w_n rfl) ?_
        refine TL_q (.int .i64 ((qs.length : Nat) : Int)) (fun _ _ hρ _ => r_len sl22 (hρ _ _ rfl)) rfl rfl rfl (w_n rfl) ?_
        refine TL_q (.bool true) (fun _ _ hρ _ => r_as (r_leq (hρ _ _ rfl) (hρ _ _ rfl)) (bool_as (decide_eq_true h6q))) rfl rfl rfl (w_n rfl) ?_
        refine TL_seq ?_
        refine T_cond_t rfl ?_
        refine T_seq (T_region ?_)
        refine TL_q (.slice na2 qs.length nc2) (fun _ _ hρ _ => r_move (hρ _ _ rfl)) rfl rfl rfl (w_n rfl) ?_
        refine TL_q (.slice ia2 qs.length ic2) (fun _ _ hρ _ => r_move (hρ _ _ rfl)) rfl rfl rfl (w_n rfl) ?_
        refine TL_q (.slice na2 qs.length nc2) (fun _ _ hρ _ => r_assign (hρ _ _ rfl)) rfl rfl rfl (w_n rfl) ?_
        refine TL_q (.slice ia2 qs.length ic2) (fun _ _ hρ _ => r_assign (hρ _ _ rfl)) rfl rfl rfl (w_n rfl) ?_
        refine TL_seq ?_
        refine T_ret' ?_
        refine p_then_r ?_
        refine ret_of rfl (.tuple #[.slice na2 qs.length nc2, .slice ia2 qs.length ic2]) (fun tmps w hk hm => res2 rfl (res_tmp (hk 4 _ rfl)) (res_tmp (hk 5 _ rfl))) (fun w hm => ?_)
        have hkf := kept_few hall (by omega)
        rw [hkf] at hm
        exact ⟨_, _, _, _, by rw [hkf], hm.ext, newOk2 0 1 (hm.own 950 _ rfl) (hm.own 951 _ rfl) (hm.sep 950 951 _ _ rfl rfl (by decide))⟩
      · skip
        refine T_seq (T_region ?_)
        refine TL_q (.slice ia2 qs.length ic2) (fun _ _ hρ _ => r_move (hρ _ _ rfl)) rfl rfl rfl (w_n rfl) ?_
        refine TL_q (.int .i64 ((qs.length : Nat) : Int)) (fun _ _ hρ _ => r_len sl22 (hρ _ _ rfl)) rfl rfl rfl (w_n rfl) ?_
        refine TL_q (.bool false) (fun _ _ hρ _ => r_as (r_leq (hρ _ _ rfl) (hρ _ _ rfl)) (bool_as (decide_eq_false h6q))) rfl rfl rfl (w_n rfl) ?_
        refine TL_seq ?_
        refine T_cond_f rfl ?_
        refine T_skip' ?_
        refine p_seq ?_
        refine T_seq (T_region ?_)
        refine TL_q (.int .i64 1) (fun _ _ hρ _ => r_assign (hρ _ _ rfl)) rfl rfl rfl (w_n rfl) ?_
        refine TL_seq ?_
        refine T_seq ?_
        refine T_seq (T_region ?_)
        refine TL_q (.int .i64 2) (fun _ _ hρ _ => r_assign (hρ _ _ rfl)) rfl rfl rfl (w_n rfl) ?_
        refine TL_seq ?_
        refine T_block ?_
        refine T_loop (ι := Nat × Nat) (fun (z : Nat × Nat) => match z with | (k2, o9) => 2 ≤ k2 ∧ k2 ≤ qs.length - 1 ∧ o9 = (outF (timesG Prod.snd qs) (k2 - 1)).1) (fun (z : Nat × Nat) => match z with | (k2, o9) => [(4, .slice none 0 0), (5, .slice none 0 0), (6, .slice na2 qs.length nc2), (7, .slice ia2 qs.length ic2), (13, .int .i64 ((k2 : Nat) : Int)), (12, .int .i64 ((o9 : Nat) : Int))]) (fun (z : Nat × Nat) => match z with | (k2, o9) => [(1, .blk B1 (.cells #[.int .u64 d.t, .int .i64 d.s, .int .u64 d.q] 32)), (950, .row (.slice na2 qs.length nc2) 3 1 qs.length (qs.flatMap numc)), (951, .row (.slice ia2 qs.length ic2) 32 3 qs.length (qs.flatMap idc))]) (fun (z : Nat × Nat) => match z with | (k2, o9) => qs.length - k2) (2, 1) ⟨Nat.le_refl _, by omega, by rw [outF_one]⟩ (sub_cons rfl (sub_cons rfl (sub_cons rfl (sub_cons rfl (sub_cons rfl (sub_cons rfl sub_nil)))))) (sub_cons rfl (sub_cons rfl (sub_cons rfl sub_nil))) ?_
        rintro ⟨k2, o9⟩ hp
        obtain ⟨hk2, hk3, ho9⟩ := hp
        have hob := out_bound (timesG Prod.snd qs) (k2 - 1)
        rw [← ho9] at hob
        show T _ _ _ [(4, .slice none 0 0), (5, .slice none 0 0), (6, .slice na2 qs.length nc2), (7, .slice ia2 qs.length ic2), (13, .int .i64 ((k2 : Nat) : Int)), (12, .int .i64 ((o9 : Nat) : Int))] [(1, .blk B1 (.cells #[.int .u64 d.t, .int .i64 d.s, .int .u64 d.q] 32)), (950, .row (.slice na2 qs.length nc2) 3 1 qs.length (qs.flatMap numc)), (951, .row (.slice ia2 qs.length ic2) 32 3 qs.length (qs.flatMap idc))]
        refine T_seq ?_
        refine T_seq (T_region ?_)
        refine TL_q (.int .i64 ((k2 : Nat) : Int)) (fun _ _ hρ _ => r_move (hρ _ _ rfl)) rfl rfl rfl (w_n rfl) ?_
        refine TL_q (.slice ia2 qs.length ic2) (fun _ _ hρ _ => r_move (hρ _ _ rfl)) rfl rfl rfl (w_n rfl) ?_
        refine TL_q (.int .i64 ((qs.length : Nat) : Int)) (fun _ _ hρ _ => r_len sl22 (hρ _ _ rfl)) rfl rfl rfl (w_n rfl) ?_
        refine TL_q (.int .i64 ((qs.length - 1 : Nat) : Int)) (fun _ _ hρ _ => r_as (r_sub (hρ _ _ rfl) (hρ _ _ rfl)) (int_as ((wrap64 (by omega) (by omega)).trans (by omega)))) rfl rfl rfl (w_n rfl) ?_
        refine TL_q (.bool (decide (((k2 : Nat) : Int) < ((qs.length - 1 : Nat) : Int)))) (fun _ _ hρ _ => r_lss (hρ _ _ rfl) (hρ _ _ rfl)) rfl rfl rfl (w_n rfl) ?_
        refine TL_seq ?_
        refine T_cond rfl (fun h3 => ?_) (fun h3 => ?_)
        · replace h3 := of_decide_eq_true h3
          refine T_skip' ?_
          refine p_seq ?_
          refine T_seq ?_
          refine T_block ?_
          obtain ⟨y1, hy1⟩ : ∃ x, qs[k2 + 1]? = some x := ⟨_, List.getElem?_eq_getElem (by omega)⟩
          obtain ⟨x1, hx1⟩ : ∃ x, qs[k2 - 1]? = some x := ⟨_, List.getElem?_eq_getElem (by omega)⟩
          obtain ⟨y2, hy2⟩ : ∃ x, qs[o9 + 1]? = some x := ⟨_, List.getElem?_eq_getElem (by omega)⟩
          obtain ⟨x2, hx2⟩ : ∃ x, qs[o9 - 1]? = some x := ⟨_, List.getElem?_eq_getElem (by omega)⟩
          refine T_row 951 rfl (by omega) (fun g58 ha58 => ?_)
          subst ha58
          refine T_rowcap 951 rfl (fun hrc58 => ?_)
          by_cases hlt : longI (timesG Prod.snd qs) k2 < longI (timesG Prod.snd qs) o9
          · skip
            refine T_seq (T_draw (V := [(0, .slice (some ⟨g58, 0, none⟩) qs.length ic2), (1, .int .i64 ((k2 : Nat) : Int)), (2, .int .i64 ((k2 + 1 : Nat) : Int)), (3, .pointer (some ⟨g58, 0 + (k2 + 1) * 3, none⟩)), (4, .pointer (some ⟨g58, 0 + (k2 + 1) * 3, none⟩)), (5, .int .u64 y1.2.t), (6, .slice (some ⟨g58, 0, none⟩) qs.length ic2), (7, .int .i64 ((k2 : Nat) : Int)), (8, .int .i64 ((k2 - 1 : Nat) : Int)), (9, .pointer (some ⟨g58, 0 + (k2 - 1) * 3, none⟩)), (10, .pointer (some ⟨g58, 0 + (k2 - 1) * 3, none⟩)), (11, .int .u64 x1.2.t), (12, .int .u64 (longI (timesG Prod.snd qs) k2)), (13, .slice (some ⟨g58, 0, none⟩) qs.length ic2), (14, .int .i64 ((o9 : Nat) : Int)), (15, .int .i64 ((o9 + 1 : Nat) : Int)), (16, .pointer (some ⟨g58, 0 + (o9 + 1) * 3, none⟩)), (17, .pointer (some ⟨g58, 0 + (o9 + 1) * 3, none⟩)), (18, .int .u64 y2.2.t), (19, .slice (some ⟨g58, 0, none⟩) qs.length ic2), (20, .int .i64 ((o9 : Nat) : Int)), (21, .int .i64 ((o9 - 1 : Nat) : Int)), (22, .pointer (some ⟨g58, 0 + (o9 - 1) * 3, none⟩)), (23, .pointer (some ⟨g58, 0 + (o9 - 1) * 3, none⟩)), (24, .int .u64 x2.2.t), (25, .int .u64 (longI (timesG Prod.snd qs) o9)), (26, .bool true)]) [0, 0, 2, 7, 15, 31, 0, 0, 128, 448, 960, 1984, 4095, 0, 0, 16384, 57344, 122880, 253952, 0, 0, 1048576, 3670016, 7864320, 16252928, 33546240, 67108863] [[(7, none)], [(13, none)], [(71, some 1)], [(70, some 0), (72, some 2)], [(73, some 3)], [(74, some 4)], [(7, none)], [(13, none)], [(77, some 7)], [(76, some 6), (78, some 8)], [(79, some 9)], [(80, some 10)], [(75, some 5), (81, some 11)], [(7, none)], [(12, none)], [(84, some 14)], [(83, some 13), (85, some 15)], [(86, some 16)], [(87, some 17)], [(7, none)], [(12, none)], [(90, some 20)], [(89, some 19), (91, some 21)], [(92, some 22)], [(93, some 23)], [(88, some 18), (94, some 24)], [(82, some 12), (95, some 25)]] 0 mixed (by kernel_rfl) ?_)
            refine G_last [0, 1, 2, 3, 4, 5, 6, 7, 8, 9, 10, 11, 12, 13, 14, 15, 16, 17, 18, 19, 20, 21, 22, 23, 24, 25, 26] [(4, .slice none 0 0), (5, .slice none 0 0), (6, .slice na2 qs.length nc2), (7, .slice (some ⟨g58, 0, none⟩) qs.length ic2), (13, .int .i64 ((k2 : Nat) : Int)), (12, .int .i64 ((o9 : Nat) : Int)), (63, .int .i64 ((k2 : Nat) : Int)), (64, .slice (some ⟨g58, 0, none⟩) qs.length ic2), (65, .int .i64 ((qs.length : Nat) : Int)), (66, .int .i64 ((qs.length - 1 : Nat) : Int)), (67, .bool (decide (((k2 : Nat) : Int) < ((qs.length - 1 : Nat) : Int)))), (70, .slice (some ⟨g58, 0, none⟩) qs.length ic2), (71, .int .i64 ((k2 : Nat) : Int)), (72, .int .i64 ((k2 + 1 : Nat) : Int)), (73, .pointer (some ⟨g58, 0 + (k2 + 1) * 3, none⟩)), (74, .pointer (some ⟨g58, 0 + (k2 + 1) * 3, none⟩)), (75, .int .u64 y1.2.t), (76, .slice (some ⟨g58, 0, none⟩) qs.length ic2), (77, .int .i64 ((k2 : Nat) : Int)), (78, .int .i64 ((k2 - 1 : Nat) : Int)), (79, .pointer (some ⟨g58, 0 + (k2 - 1) * 3, none⟩)), (80, .pointer (some ⟨g58, 0 + (k2 - 1) * 3, none⟩)), (81, .int .u64 x1.2.t), (82, .int .u64 (longI (timesG Prod.snd qs) k2)), (83, .slice (some ⟨g58, 0, none⟩) qs.length ic2), (84, .int .i64 ((o9 : Nat) : Int)), (85, .int .i64 ((o9 + 1 : Nat) : Int)), (86, .pointer (some ⟨g58, 0 + (o9 + 1) * 3, none⟩)), (87, .pointer (some ⟨g58, 0 + (o9 + 1) * 3, none⟩)), (88, .int .u64 y2.2.t), (89, .slice (some ⟨g58, 0, none⟩) qs.length ic2), (90, .int .i64 ((o9 : Nat) : Int)), (91, .int .i64 ((o9 - 1 : Nat) : Int)), (92, .pointer (some ⟨g58, 0 + (o9 - 1) * 3, none⟩)), (93, .pointer (some ⟨g58, 0 + (o9 - 1) * 3, none⟩)), (94, .int .u64 x2.2.t), (95, .int .u64 (longI (timesG Prod.snd qs) o9)), (96, .bool true)] (by kernel_rfl) (allM (all_cons (q_run (.slice (some ⟨g58, 0, none⟩) qs.length ic2) rfl rfl (wv_n rfl) rfl (fun _ _ hρ _ => r_move (hρ _ _ rfl))) (all_cons (q_run (.int .i64 ((k2 : Nat) : Int)) rfl rfl (wv_n rfl) rfl (fun _ _ hρ _ => r_move (hρ _ _ rfl))) (all_cons (q_run (.int .i64 ((k2 + 1 : Nat) : Int)) rfl rfl (wv_n rfl) rfl (fun _ _ hρ _ => r_as (r_add (hρ _ _ rfl) (hρ _ _ rfl)) (int_as ((wrap64 (by omega) (by omega)).trans (by omega))))) (all_cons (q_run (.pointer (some ⟨g58, 0 + (k2 + 1) * 3, none⟩)) rfl rfl (wv_n rfl) rfl (fun _ _ hρ _ => r_indexAddrS (i := k2 + 1) sl22 sz32 (hρ _ _ rfl) (hρ _ _ rfl) (by omega))) (all_cons (q_run (.pointer (some ⟨g58, 0 + (k2 + 1) * 3, none⟩)) rfl rfl (wv_n rfl) rfl (fun _ _ hρ _ => r_fieldAddr (off := 0 + (k2 + 1) * 3) fl32_0 sz30 (hρ _ _ rfl))) (all_cons (q_run (.int .u64 y1.2.t) rfl rfl (wv_n rfl) rfl (fun _ _ hρ hm => r_loadOwn1 (f := idc) (u := y1) (l := qs) ag30 (hρ _ _ rfl) (hm.row 951 rfl) rfl rfl idc_len hy1 rfl)) (all_cons (q_run (.slice (some ⟨g58, 0, none⟩) qs.length ic2) rfl rfl (wv_n rfl) rfl (fun _ _ hρ _ => r_move (hρ _ _ rfl))) (all_cons (q_run (.int .i64 ((k2 : Nat) : Int)) rfl rfl (wv_n rfl) rfl (fun _ _ hρ _ => r_move (hρ _ _ rfl))) (all_cons (q_run (.int .i64 ((k2 - 1 : Nat) : Int)) rfl rfl (wv_n rfl) rfl (fun _ _ hρ _ => r_as (r_sub (hρ _ _ rfl) (hρ _ _ rfl)) (int_as ((wrap64 (by omega) (by omega)).trans (by omega))))) (all_cons (q_run (.pointer (some ⟨g58, 0 + (k2 - 1) * 3, none⟩)) rfl rfl (wv_n rfl) rfl (fun _ _ hρ _ => r_indexAddrS (i := k2 - 1) sl22 sz32 (hρ _ _ rfl) (hρ _ _ rfl) (by omega))) (all_cons (q_run (.pointer (some ⟨g58, 0 + (k2 - 1) * 3, none⟩)) rfl rfl (wv_n rfl) rfl (fun _ _ hρ _ => r_fieldAddr (off := 0 + (k2 - 1) * 3) fl32_0 sz30 (hρ _ _ rfl))) (all_cons (q_run (.int .u64 x1.2.t) rfl rfl (wv_n rfl) rfl (fun _ _ hρ hm => r_loadOwn1 (f := idc) (u := x1) (l := qs) ag30 (hρ _ _ rfl) (hm.row 951 rfl) rfl rfl idc_len hx1 rfl)) (all_cons (q_run (.int .u64 (longI (timesG Prod.snd qs) k2)) rfl rfl (wv_n rfl) rfl (fun _ _ hρ _ => r_as (r_sub (hρ _ _ rfl) (hρ _ _ rfl)) (int_as (long_atG hx1 hy1).symm))) (all_cons (q_run (.slice (some ⟨g58, 0, none⟩) qs.length ic2) rfl rfl (wv_n rfl) rfl (fun _ _ hρ _ => r_move (hρ _ _ rfl))) (all_cons (q_run (.int .i64 ((o9 : Nat) : Int)) rfl rfl (wv_n rfl) rfl (fun _ _ hρ _ => r_move (hρ _ _ rfl))) (all_cons (q_run (.int .i64 ((o9 + 1 : Nat) : Int)) rfl rfl (wv_n rfl) rfl (fun _ _ hρ _ => r_as (r_add (hρ _ _ rfl) (hρ _ _ rfl)) (int_as ((wrap64 (by omega) (by omega)).trans (by omega))))) (all_cons (q_run (.pointer (some ⟨g58, 0 + (o9 + 1) * 3, none⟩)) rfl rfl (wv_n rfl) rfl (fun _ _ hρ _ => r_indexAddrS (i := o9 + 1) sl22 sz32 (hρ _ _ rfl) (hρ _ _ rfl) (by omega))) (all_cons (q_run (.pointer (some ⟨g58, 0 + (o9 + 1) * 3, none⟩)) rfl rfl (wv_n rfl) rfl (fun _ _ hρ _ => r_fieldAddr (off := 0 + (o9 + 1) * 3) fl32_0 sz30 (hρ _ _ rfl))) (all_cons (q_run (.int .u64 y2.2.t) rfl rfl (wv_n rfl) rfl (fun _ _ hρ hm => r_loadOwn1 (f := idc) (u := y2) (l := qs) ag30 (hρ _ _ rfl) (hm.row 951 rfl) rfl rfl idc_len hy2 rfl)) (all_cons (q_run (.slice (some ⟨g58, 0, none⟩) qs.length ic2) rfl rfl (wv_n rfl) rfl (fun _ _ hρ _ => r_move (hρ _ _ rfl))) (all_cons (q_run (.int .i64 ((o9 : Nat) : Int)) rfl rfl (wv_n rfl) rfl (fun _ _ hρ _ => r_move (hρ _ _ rfl))) (all_cons (q_run (.int .i64 ((o9 - 1 : Nat) : Int)) rfl rfl (wv_n rfl) rfl (fun _ _ hρ _ => r_as (r_sub (hρ _ _ rfl) (hρ _ _ rfl)) (int_as ((wrap64 (by omega) (by omega)).trans (by omega))))) (all_cons (q_run (.pointer (some ⟨g58, 0 + (o9 - 1) * 3, none⟩)) rfl rfl (wv_n rfl) rfl (fun _ _ hρ _ => r_indexAddrS (i := o9 - 1) sl22 sz32 (hρ _ _ rfl) (hρ _ _ rfl) (by omega))) (all_cons (q_run (.pointer (some ⟨g58, 0 + (o9 - 1) * 3, none⟩)) rfl rfl (wv_n rfl) rfl (fun _ _ hρ _ => r_fieldAddr (off := 0 + (o9 - 1) * 3) fl32_0 sz30 (hρ _ _ rfl))) (all_cons (q_run (.int .u64 x2.2.t) rfl rfl (wv_n rfl) rfl (fun _ _ hρ hm => r_loadOwn1 (f := idc) (u := x2) (l := qs) ag30 (hρ _ _ rfl) (hm.row 951 rfl) rfl rfl idc_len hx2 rfl)) (all_cons (q_run (.int .u64 (longI (timesG Prod.snd qs) o9)) rfl rfl (wv_n rfl) rfl (fun _ _ hρ _ => r_as (r_sub (hρ _ _ rfl) (hρ _ _ rfl)) (int_as (long_atG hx2 hy2).symm))) (all_cons (q_run (.bool true) rfl rfl (wv_n rfl) rfl (fun _ _ hρ _ => r_as (r_lss (hρ _ _ rfl) (hρ _ _ rfl)) (bool_as (decide_eq_true hlt)))) all_nil)))))))))))))))))))))))))))) (end_old rfl rfl (end_old rfl rfl (end_old rfl rfl (end_old rfl rfl (end_old rfl rfl (end_old rfl rfl (end_old rfl rfl (end_old rfl rfl (end_old rfl rfl (end_old rfl rfl (end_old rfl rfl (end_new 0 rfl rfl (end_new 1 rfl rfl (end_new 2 rfl rfl (end_new 3 rfl rfl (end_new 4 rfl rfl (end_new 5 rfl rfl (end_new 6 rfl rfl (end_new 7 rfl rfl (end_new 8 rfl rfl (end_new 9 rfl rfl (end_new 10 rfl rfl (end_new 11 rfl rfl (end_new 12 rfl rfl (end_new 13 rfl rfl (end_new 14 rfl rfl (end_new 15 rfl rfl (end_new 16 rfl rfl (end_new 17 rfl rfl (end_new 18 rfl rfl (end_new 19 rfl rfl (end_new 20 rfl rfl (end_new 21 rfl rfl (end_new 22 rfl rfl (end_new 23 rfl rfl (end_new 24 rfl rfl (end_new 25 rfl rfl (end_new 26 rfl rfl end_nil)))))))))))))))))))))))))))))))))))))) ?_
            refine T_cond_t rfl ?_
            refine T_region ?_
            refine TL_q (.int .i64 ((k2 : Nat) : Int)) (fun _ _ hρ _ => r_move (hρ _ _ rfl)) rfl rfl rfl (w_n rfl) ?_
            refine TL_q (.int .i64 ((k2 : Nat) : Int)) (fun _ _ hρ _ => r_assign (hρ _ _ rfl)) rfl rfl rfl (w_n rfl) ?_
            refine TL_nil ?_
            refine p_blk_n ?_
            refine p_seq ?_
            refine T_region ?_
            refine TL_q (.int .i64 ((k2 : Nat) : Int)) (fun _ _ hρ _ => r_move (hρ _ _ rfl)) rfl rfl rfl (w_n rfl) ?_
            refine TL_q (.int .i64 ((k2 + 1 : Nat) : Int)) (fun _ _ hρ _ => r_as (r_add (hρ _ _ rfl) (hρ _ _ rfl)) (int_as ((wrap64 (by omega) (by omega)).trans (by omega)))) rfl rfl rfl (w_n rfl) ?_
            refine TL_q (.int .i64 ((k2 + 1 : Nat) : Int)) (fun _ _ hρ _ => r_assign (hρ _ _ rfl)) rfl rfl rfl (w_n rfl) ?_
            refine TL_nil ?_
            exact p_at (k2 + 1, k2) ⟨⟨by omega, by omega, by have h9 := outF_step (ts := (timesG Prod.snd qs)) (k := k2 - 1) (by omega); rw [show k2 - 1 + 1 = k2 by omega, ← ho9] at h9; rw [show k2 + 1 - 1 = k2 by omega, h9, if_pos hlt]⟩, by dsimp only; omega⟩ (sub_cons rfl (sub_cons rfl (sub_cons rfl (sub_cons rfl (sub_cons rfl (sub_cons rfl sub_nil)))))) (sub_cons rfl (sub_cons rfl (sub_cons rfl sub_nil)))
          · skip
            refine T_seq (T_draw (V := [(0, .slice (some ⟨g58, 0, none⟩) qs.length ic2), (1, .int .i64 ((k2 : Nat) : Int)), (2, .int .i64 ((k2 + 1 : Nat) : Int)), (3, .pointer (some ⟨g58, 0 + (k2 + 1) * 3, none⟩)), (4, .pointer (some ⟨g58, 0 + (k2 + 1) * 3, none⟩)), (5, .int .u64 y1.2.t), (6, .slice (some ⟨g58, 0, none⟩) qs.length ic2), (7, .int .i64 ((k2 : Nat) : Int)), (8, .int .i64 ((k2 - 1 : Nat) : Int)), (9, .pointer (some ⟨g58, 0 + (k2 - 1) * 3, none⟩)), (10, .pointer (some ⟨g58, 0 + (k2 - 1) * 3, none⟩)), (11, .int .u64 x1.2.t), (12, .int .u64 (longI (timesG Prod.snd qs) k2)), (13, .slice (some ⟨g58, 0, none⟩) qs.length ic2), (14, .int .i64 ((o9 : Nat) : Int)), (15, .int .i64 ((o9 + 1 : Nat) : Int)), (16, .pointer (some ⟨g58, 0 + (o9 + 1) * 3, none⟩)), (17, .pointer (some ⟨g58, 0 + (o9 + 1) * 3, none⟩)), (18, .int .u64 y2.2.t), (19, .slice (some ⟨g58, 0, none⟩) qs.length ic2), (20, .int .i64 ((o9 : Nat) : Int)), (21, .int .i64 ((o9 - 1 : Nat) : Int)), (22, .pointer (some ⟨g58, 0 + (o9 - 1) * 3, none⟩)), (23, .pointer (some ⟨g58, 0 + (o9 - 1) * 3, none⟩)), (24, .int .u64 x2.2.t), (25, .int .u64 (longI (timesG Prod.snd qs) o9)), (26, .bool false)]) [0, 0, 2, 7, 15, 31, 0, 0, 128, 448, 960, 1984, 4095, 0, 0, 16384, 57344, 122880, 253952, 0, 0, 1048576, 3670016, 7864320, 16252928, 33546240, 67108863] [[(7, none)], [(13, none)], [(71, some 1)], [(70, some 0), (72, some 2)], [(73, some 3)], [(74, some 4)], [(7, none)], [(13, none)], [(77, some 7)], [(76, some 6), (78, some 8)], [(79, some 9)], [(80, some 10)], [(75, some 5), (81, some 11)], [(7, none)], [(12, none)], [(84, some 14)], [(83, some 13), (85, some 15)], [(86, some 16)], [(87, some 17)], [(7, none)], [(12, none)], [(90, some 20)], [(89, some 19), (91, some 21)], [(92, some 22)], [(93, some 23)], [(88, some 18), (94, some 24)], [(82, some 12), (95, some 25)]] 0 mixed (by kernel_rfl) ?_)
            refine G_last [0, 1, 2, 3, 4, 5, 6, 7, 8, 9, 10, 11, 12, 13, 14, 15, 16, 17, 18, 19, 20, 21, 22, 23, 24, 25, 26] [(4, .slice none 0 0), (5, .slice none 0 0), (6, .slice na2 qs.length nc2), (7, .slice (some ⟨g58, 0, none⟩) qs.length ic2), (13, .int .i64 ((k2 : Nat) : Int)), (12, .int .i64 ((o9 : Nat) : Int)), (63, .int .i64 ((k2 : Nat) : Int)), (64, .slice (some ⟨g58, 0, none⟩) qs.length ic2), (65, .int .i64 ((qs.length : Nat) : Int)), (66, .int .i64 ((qs.length - 1 : Nat) : Int)), (67, .bool (decide (((k2 : Nat) : Int) < ((qs.length - 1 : Nat) : Int)))), (70, .slice (some ⟨g58, 0, none⟩) qs.length ic2), (71, .int .i64 ((k2 : Nat) : Int)), (72, .int .i64 ((k2 + 1 : Nat) : Int)), (73, .pointer (some ⟨g58, 0 + (k2 + 1) * 3, none⟩)), (74, .pointer (some ⟨g58, 0 + (k2 + 1) * 3, none⟩)), (75, .int .u64 y1.2.t), (76, .slice (some ⟨g58, 0, none⟩) qs.length ic2), (77, .int .i64 ((k2 : Nat) : Int)), (78, .int .i64 ((k2 - 1 : Nat) : Int)), (79, .pointer (some ⟨g58, 0 + (k2 - 1) * 3, none⟩)), (80, .pointer (some ⟨g58, 0 + (k2 - 1) * 3, none⟩)), (81, .int .u64 x1.2.t), (82, .int .u64 (longI (timesG Prod.snd qs) k2)), (83, .slice (some ⟨g58, 0, none⟩) qs.length ic2), (84, .int .i64 ((o9 : Nat) : Int)), (85, .int .i64 ((o9 + 1 : Nat) : Int)), (86, .pointer (some ⟨g58, 0 + (o9 + 1) * 3, none⟩)), (87, .pointer (some ⟨g58, 0 + (o9 + 1) * 3, none⟩)), (88, .int .u64 y2.2.t), (89, .slice (some ⟨g58, 0, none⟩) qs.length ic2), (90, .int .i64 ((o9 : Nat) : Int)), (91, .int .i64 ((o9 - 1 : Nat) : Int)), (92, .pointer (some ⟨g58, 0 + (o9 - 1) * 3, none⟩)), (93, .pointer (some ⟨g58, 0 + (o9 - 1) * 3, none⟩)), (94, .int .u64 x2.2.t), (95, .int .u64 (longI (timesG Prod.snd qs) o9)), (96, .bool false)] (by kernel_rfl) (allM (all_cons (q_run (.slice (some ⟨g58, 0, none⟩) qs.length ic2) rfl rfl (wv_n rfl) rfl (fun _ _ hρ _ => r_move (hρ _ _ rfl))) (all_cons (q_run (.int .i64 ((k2 : Nat) : Int)) rfl rfl (wv_n rfl) rfl (fun _ _ hρ _ => r_move (hρ _ _ rfl))) (all_cons (q_run (.int .i64 ((k2 + 1 : Nat) : Int)) rfl rfl (wv_n rfl) rfl (fun _ _ hρ _ => r_as (r_add (hρ _ _ rfl) (hρ _ _ rfl)) (int_as ((wrap64 (by omega) (by omega)).trans (by omega))))) (all_cons (q_run (.pointer (some ⟨g58, 0 + (k2 + 1) * 3, none⟩)) rfl rfl (wv_n rfl) rfl (fun _ _ hρ _ => r_indexAddrS (i := k2 + 1) sl22 sz32 (hρ _ _ rfl) (hρ _ _ rfl) (by omega))) (all_cons (q_run (.pointer (some ⟨g58, 0 + (k2 + 1) * 3, none⟩)) rfl rfl (wv_n rfl) rfl (fun _ _ hρ _ => r_fieldAddr (off := 0 + (k2 + 1) * 3) fl32_0 sz30 (hρ _ _ rfl))) (all_cons (q_run (.int .u64 y1.2.t) rfl rfl (wv_n rfl) rfl (fun _ _ hρ hm => r_loadOwn1 (f := idc) (u := y1) (l := qs) ag30 (hρ _ _ rfl) (hm.row 951 rfl) rfl rfl idc_len hy1 rfl)) (all_cons (q_run (.slice (some ⟨g58, 0, none⟩) qs.length ic2) rfl rfl (wv_n rfl) rfl (fun _ _ hρ _ => r_move (hρ _ _ rfl))) (all_cons (q_run (.int .i64 ((k2 : Nat) : Int)) rfl rfl (wv_n rfl) rfl (fun _ _ hρ _ => r_move (hρ _ _ rfl))) (all_cons (q_run (.int .i64 ((k2 - 1 : Nat) : Int)) rfl rfl (wv_n rfl) rfl (fun _ _ hρ _ => r_as (r_sub (hρ _ _ rfl) (hρ _ _ rfl)) (int_as ((wrap64 (by omega) (by omega)).trans (by omega))))) (all_cons (q_run (.pointer (some ⟨g58, 0 + (k2 - 1) * 3, none⟩)) rfl rfl (wv_n rfl) rfl (fun _ _ hρ _ => r_indexAddrS (i := k2 - 1) sl22 sz32 (hρ _ _ rfl) (hρ _ _ rfl) (by omega))) (all_cons (q_run (.pointer (some ⟨g58, 0 + (k2 - 1) * 3, none⟩)) rfl rfl (wv_n rfl) rfl (fun _ _ hρ _ => r_fieldAddr (off := 0 + (k2 - 1) * 3) fl32_0 sz30 (hρ _ _ rfl))) (all_cons (q_run (.int .u64 x1.2.t) rfl rfl (wv_n rfl) rfl (fun _ _ hρ hm => r_loadOwn1 (f := idc) (u := x1) (l := qs) ag30 (hρ _ _ rfl) (hm.row 951 rfl) rfl rfl idc_len hx1 rfl)) (all_cons (q_run (.int .u64 (longI (timesG Prod.snd qs) k2)) rfl rfl (wv_n rfl) rfl (fun _ _ hρ _ => r_as (r_sub (hρ _ _ rfl) (hρ _ _ rfl)) (int_as (long_atG hx1 hy1).symm))) (all_cons (q_run (.slice (some ⟨g58, 0, none⟩) qs.length ic2) rfl rfl (wv_n rfl) rfl (fun _ _ hρ _ => r_move (hρ _ _ rfl))) (all_cons (q_run (.int .i64 ((o9 : Nat) : Int)) rfl rfl (wv_n rfl) rfl (fun _ _ hρ _ => r_move (hρ _ _ rfl))) (all_cons (q_run (.int .i64 ((o9 + 1 : Nat) : Int)) rfl rfl (wv_n rfl) rfl (fun _ _ hρ _ => r_as (r_add (hρ _ _ rfl) (hρ _ _ rfl)) (int_as ((wrap64 (by omega) (by omega)).trans (by omega))))) (all_cons (q_run (.pointer (some ⟨g58, 0 + (o9 + 1) * 3, none⟩)) rfl rfl (wv_n rfl) rfl (fun _ _ hρ _ => r_indexAddrS (i := o9 + 1) sl22 sz32 (hρ _ _ rfl) (hρ _ _ rfl) (by omega))) (all_cons (q_run (.pointer (some ⟨g58, 0 + (o9 + 1) * 3, none⟩)) rfl rfl (wv_n rfl) rfl (fun _ _ hρ _ => r_fieldAddr (off := 0 + (o9 + 1) * 3) fl32_0 sz30 (hρ _ _ rfl))) (all_cons (q_run (.int .u64 y2.2.t) rfl rfl (wv_n rfl) rfl (fun _ _ hρ hm => r_loadOwn1 (f := idc) (u := y2) (l := qs) ag30 (hρ _ _ rfl) (hm.row 951 rfl) rfl rfl idc_len hy2 rfl)) (all_cons (q_run (.slice (some ⟨g58, 0, none⟩) qs.length ic2) rfl rfl (wv_n rfl) rfl (fun _ _ hρ _ => r_move (hρ _ _ rfl))) (all_cons (q_run (.int .i64 ((o9 : Nat) : Int)) rfl rfl (wv_n rfl) rfl (fun _ _ hρ _ => r_move (hρ _ _ rfl))) (all_cons (q_run (.int .i64 ((o9 - 1 : Nat) : Int)) rfl rfl (wv_n rfl) rfl (fun _ _ hρ _ => r_as (r_sub (hρ _ _ rfl) (hρ _ _ rfl)) (int_as ((wrap64 (by omega) (by omega)).trans (by omega))))) (all_cons (q_run (.pointer (some ⟨g58, 0 + (o9 - 1) * 3, none⟩)) rfl rfl (wv_n rfl) rfl (fun _ _ hρ _ => r_indexAddrS (i := o9 - 1) sl22 sz32 (hρ _ _ rfl) (hρ _ _ rfl) (by omega))) (all_cons (q_run (.pointer (some ⟨g58, 0 + (o9 - 1) * 3, none⟩)) rfl rfl (wv_n rfl) rfl (fun _ _ hρ _ => r_fieldAddr (off := 0 + (o9 - 1) * 3) fl32_0 sz30 (hρ _ _ rfl))) (all_cons (q_run (.int .u64 x2.2.t) rfl rfl (wv_n rfl) rfl (fun _ _ hρ hm => r_loadOwn1 (f := idc) (u := x2) (l := qs) ag30 (hρ _ _ rfl) (hm.row 951 rfl) rfl rfl idc_len hx2 rfl)) (all_cons (q_run (.int .u64 (longI (timesG Prod.snd qs) o9)) rfl rfl (wv_n rfl) rfl (fun _ _ hρ _ => r_as (r_sub (hρ _ _ rfl) (hρ _ _ rfl)) (int_as (long_atG hx2 hy2).symm))) (all_cons (q_run (.bool false) rfl rfl (wv_n rfl) rfl (fun _ _ hρ _ => r_as (r_lss (hρ _ _ rfl) (hρ _ _ rfl)) (bool_as (decide_eq_false hlt)))) all_nil)))))))))))))))))))))))))))) (end_old rfl rfl (end_old rfl rfl (end_old rfl rfl (end_old rfl rfl (end_old rfl rfl (end_old rfl rfl (end_old rfl rfl (end_old rfl rfl (end_old rfl rfl (end_old rfl rfl (end_old rfl rfl (end_new 0 rfl rfl (end_new 1 rfl rfl (end_new 2 rfl rfl (end_new 3 rfl rfl (end_new 4 rfl rfl (end_new 5 rfl rfl (end_new 6 rfl rfl (end_new 7 rfl rfl (end_new 8 rfl rfl (end_new 9 rfl rfl (end_new 10 rfl rfl (end_new 11 rfl rfl (end_new 12 rfl rfl (end_new 13 rfl rfl (end_new 14 rfl rfl (end_new 15 rfl rfl (end_new 16 rfl rfl (end_new 17 rfl rfl (end_new 18 rfl rfl (end_new 19 rfl rfl (end_new 20 rfl rfl (end_new 21 rfl rfl (end_new 22 rfl rfl (end_new 23 rfl rfl (end_new 24 rfl rfl (end_new 25 rfl rfl (end_new 26 rfl rfl end_nil)))))))))))))))))))))))))))))))))))))) ?_
            refine T_cond_f rfl ?_
            refine T_skip' ?_
            refine p_blk_n ?_
            refine p_seq ?_
            refine T_region ?_
            refine TL_q (.int .i64 ((k2 : Nat) : Int)) (fun _ _ hρ _ => r_move (hρ _ _ rfl)) rfl rfl rfl (w_n rfl) ?_
            refine TL_q (.int .i64 ((k2 + 1 : Nat) : Int)) (fun _ _ hρ _ => r_as (r_add (hρ _ _ rfl) (hρ _ _ rfl)) (int_as ((wrap64 (by omega) (by omega)).trans (by omega)))) rfl rfl rfl (w_n rfl) ?_
            refine TL_q (.int .i64 ((k2 + 1 : Nat) : Int)) (fun _ _ hρ _ => r_assign (hρ _ _ rfl)) rfl rfl rfl (w_n rfl) ?_
            refine TL_nil ?_
            exact p_at (k2 + 1, o9) ⟨⟨by omega, by omega, by have h9 := outF_step (ts := (timesG Prod.snd qs)) (k := k2 - 1) (by omega); rw [show k2 - 1 + 1 = k2 by omega, ← ho9] at h9; rw [show k2 + 1 - 1 = k2 by omega, h9, if_neg hlt]⟩, by dsimp only; omega⟩ (sub_cons rfl (sub_cons rfl (sub_cons rfl (sub_cons rfl (sub_cons rfl (sub_cons rfl sub_nil)))))) (sub_cons rfl (sub_cons rfl (sub_cons rfl sub_nil)))
        · replace h3 := of_decide_eq_false h3
          refine T_exit' ?_
          refine p_then_x ?_
          refine p_then_x ?_
          refine p_blk_x ?_
          refine p_seq ?_
          have hke2 : k2 = qs.length - 1 := by omega
          have hoe : o9 = (outF (timesG Prod.snd qs) (qs.length - 2)).1 := by rw [ho9, hke2]; rfl
          refine T_rowcap 950 rfl (fun hrcn => ?_)
          refine T_rowcap 951 rfl (fun hrci => ?_)
          obtain ⟨l59, hl59, hn59⟩ : ∃ lz, lz = qs.take o9 ∧ lz.length = o9 := ⟨_, rfl, by rw [List.length_take]; omega⟩
          obtain ⟨l60, hl60, hn60⟩ : ∃ lz, lz = (qs.drop (o9 + 1)).take (qs.length - (o9 + 1)) ∧ lz.length = qs.length - (o9 + 1) := ⟨_, rfl, by rw [List.length_take, List.length_drop]; omega⟩
          obtain ⟨a60, ha60⟩ : ∃ az : Option Addr, az = (if nc2 = o9 + 1 then (na2 : Option Addr) else Option.map (fun z : Addr => z.add ((o9 + 1) * 1)) (na2 : Option Addr)) := ⟨_, rfl⟩
          obtain ⟨l61, hl61, hn61⟩ : ∃ lz, lz = qs.take o9 ∧ lz.length = o9 := ⟨_, rfl, by rw [List.length_take]; omega⟩
          obtain ⟨l62, hl62, hn62⟩ : ∃ lz, lz = (qs.drop (o9 + 1)).take (qs.length - (o9 + 1)) ∧ lz.length = qs.length - (o9 + 1) := ⟨_, rfl, by rw [List.length_take, List.length_drop]; omega⟩
          obtain ⟨a62, ha62⟩ : ∃ az : Option Addr, az = (if ic2 = o9 + 1 then (ia2 : Option Addr) else Option.map (fun z : Addr => z.add ((o9 + 1) * 3)) (ia2 : Option Addr)) := ⟨_, rfl⟩
          refine T_join (ι := (Option Addr) × Nat × (Option Addr) × Nat) (fun _ => True) (fun (z : (Option Addr) × Nat × (Option Addr) × Nat) => match z with | (ax9, capx9, ax19, capx19) => [(4, .slice ax9 ((0 + l59.length) + l60.length) capx9), (5, .slice ax19 ((0 + l61.length) + l62.length) capx19)]) (fun (z : (Option Addr) × Nat × (Option Addr) × Nat) => match z with | (ax9, capx9, ax19, capx19) => [(1, .blk B1 (.cells #[.int .u64 d.t, .int .i64 d.s, .int .u64 d.q] 32)), (11, .row (.slice ax9 ((0 + l59.length) + l60.length) capx9) 3 1 ((0 + l59.length) + l60.length) (([] ++ (l59.flatMap numc)) ++ (l60.flatMap numc))), (12, .row (.slice ax19 ((0 + l61.length) + l62.length) capx19) 32 3 ((0 + l61.length) + l62.length) (([] ++ (l61.flatMap idc)) ++ (l62.flatMap idc))), (950, .row (.slice na2 qs.length nc2) 3 1 qs.length (qs.flatMap numc)), (951, .row (.slice ia2 qs.length ic2) 32 3 qs.length (qs.flatMap idc))]) (T_draw (V := [(1, .slice na2 qs.length nc2), (2, .int .i64 ((o9 : Nat) : Int)), (3, .slice na2 l59.length nc2), (5, .slice na2 qs.length nc2), (6, .int .i64 ((o9 : Nat) : Int)), (7, .int .i64 ((o9 + 1 : Nat) : Int)), (8, .slice a60 l60.length (nc2 - (o9 + 1))), (11, .slice ia2 qs.length ic2), (12, .int .i64 ((o9 : Nat) : Int)), (13, .slice ia2 l61.length ic2), (15, .slice ia2 qs.length ic2), (16, .int .i64 ((o9 : Nat) : Int)), (17, .int .i64 ((o9 + 1 : Nat) : Int)), (18, .slice a62 l62.length (ic2 - (o9 + 1)))]) [0, 0, 0, 6, 15, 0, 0, 64, 224, 511, 0, 0, 0, 6144, 16383, 0, 0, 65536, 229376, 524287, 1048575, 2097151] [[], [(6, none)], [(12, none)], [(99, some 1), (100, some 2)], [(98, some 0), (101, some 3)], [(6, none)], [(12, none)], [(104, some 6)], [(103, some 5), (105, some 7)], [(102, some 4), (106, some 8)], [], [(7, none)], [(12, none)], [(109, some 11), (110, some 12)], [(108, some 10), (111, some 13)], [(7, none)], [(12, none)], [(114, some 16)], [(113, some 15), (115, some 17)], [(112, some 14), (116, some 18)], [(107, some 9)], [(117, some 19)]] 542225 mixed (by kernel_rfl) ?_) (fun z hz => ?_)
          · skip
            refine G_step [1, 2, 3, 5, 6, 7, 8, 11, 12, 13, 15, 16, 17, 18] 0 [10] (by kernel_rfl) (allM (all_cons (q_run (.slice na2 qs.length nc2) rfl rfl (wv_n rfl) rfl (fun _ _ hρ _ => r_move (hρ _ _ rfl))) (all_cons (q_run (.int .i64 ((o9 : Nat) : Int)) rfl rfl (wv_n rfl) rfl (fun _ _ hρ _ => r_move (hρ _ _ rfl))) (all_cons (q_run (.slice na2 l59.length nc2) rfl rfl (wv_n rfl) rfl (fun ρ _ hρ _ => r_as (r_sliceO sl43 sz3 (hρ _ _ rfl) (bd_none ρ _) (bd_some (n := o9) (hρ _ _ rfl)) (bd_none ρ _) (by simp) (by omega) (by omega) (by omega)) (by rw [hn59]; exact slo_zero _ _ _ _))) (all_cons (q_run (.slice na2 qs.length nc2) rfl rfl (wv_n rfl) rfl (fun _ _ hρ _ => r_move (hρ _ _ rfl))) (all_cons (q_run (.int .i64 ((o9 : Nat) : Int)) rfl rfl (wv_n rfl) rfl (fun _ _ hρ _ => r_move (hρ _ _ rfl))) (all_cons (q_run (.int .i64 ((o9 + 1 : Nat) : Int)) rfl rfl (wv_n rfl) rfl (fun _ _ hρ _ => r_as (r_add (hρ _ _ rfl) (hρ _ _ rfl)) (int_as ((wrap64 (by omega) (by omega)).trans (by omega))))) (all_cons (q_run (.slice a60 l60.length (nc2 - (o9 + 1))) rfl rfl (wv_n rfl) rfl (fun ρ _ hρ _ => r_as (r_sliceO sl43 sz3 (hρ _ _ rfl) (bd_none ρ _) (bd_none ρ _) (bd_some (n := o9 + 1) (hρ _ _ rfl)) (by simp) (by omega) (by omega) (by omega)) (by rw [hn60, ha60]))) (all_cons (q_run (.slice ia2 qs.length ic2) rfl rfl (wv_n rfl) rfl (fun _ _ hρ _ => r_move (hρ _ _ rfl))) (all_cons (q_run (.int .i64 ((o9 : Nat) : Int)) rfl rfl (wv_n rfl) rfl (fun _ _ hρ _ => r_move (hρ _ _ rfl))) (all_cons (q_run (.slice ia2 l61.length ic2) rfl rfl (wv_n rfl) rfl (fun ρ _ hρ _ => r_as (r_sliceO sl22 sz32 (hρ _ _ rfl) (bd_none ρ _) (bd_some (n := o9) (hρ _ _ rfl)) (bd_none ρ _) (by simp) (by omega) (by omega) (by omega)) (by rw [hn61]; exact slo_zero _ _ _ _))) (all_cons (q_run (.slice ia2 qs.length ic2) rfl rfl (wv_n rfl) rfl (fun _ _ hρ _ => r_move (hρ _ _ rfl))) (all_cons (q_run (.int .i64 ((o9 : Nat) : Int)) rfl rfl (wv_n rfl) rfl (fun _ _ hρ _ => r_move (hρ _ _ rfl))) (all_cons (q_run (.int .i64 ((o9 + 1 : Nat) : Int)) rfl rfl (wv_n rfl) rfl (fun _ _ hρ _ => r_as (r_add (hρ _ _ rfl) (hρ _ _ rfl)) (int_as ((wrap64 (by omega) (by omega)).trans (by omega))))) (all_cons (q_run (.slice a62 l62.length (ic2 - (o9 + 1))) rfl rfl (wv_n rfl) rfl (fun ρ _ hρ _ => r_as (r_sliceO sl22 sz32 (hρ _ _ rfl) (bd_none ρ _) (bd_none ρ _) (bd_some (n := o9 + 1) (hρ _ _ rfl)) (by simp) (by omega) (by omega) (by omega)) (by rw [hn62, ha62]))) all_nil))))))))))))))) (allM (all_cons ?_ (all_cons ?_ all_nil)))
            · skip
              refine LOb_new 11 (.cells #[] 3) (fun B => .slice (some ⟨B, 0, none⟩) 0 0) (fun B => []) rfl (wv_n rfl) rfl rfl (fun _ _ _ _ => r_buildSlice (vs := []) (by kernel_rfl) rfl) (fun B => by kernel_rfl) ?_
              intro B63
              refine G_mem ([(11, .row (.slice (some ⟨B63, 0, none⟩) 0 0) 3 1 0 []), (1, .blk B1 (.cells #[.int .u64 d.t, .int .i64 d.s, .int .u64 d.q] 32)), (950, .row (.slice na2 qs.length nc2) 3 1 qs.length (qs.flatMap numc)), (951, .row (.slice ia2 qs.length ic2) 32 3 qs.length (qs.flatMap idc))]) (fun _ hm => MemOk.sub (hm.toRow (n := 0) (cap := 0) (s := 1) 11 rfl rfl (by omega) rfl _ rfl) (sub_cons rfl (sub_cons rfl (sub_cons rfl (sub_cons rfl sub_nil))))) ?_
              refine G_step [1, 2, 3, 5, 6, 7, 8, 11, 12, 13, 15, 16, 17, 18] 4 [10] (by kernel_rfl) (allM (all_cons (q_run (.slice na2 qs.length nc2) rfl rfl (wv_n rfl) rfl (fun _ _ hρ _ => r_move (hρ _ _ rfl))) (all_cons (q_run (.int .i64 ((o9 : Nat) : Int)) rfl rfl (wv_n rfl) rfl (fun _ _ hρ _ => r_move (hρ _ _ rfl))) (all_cons (q_run (.slice na2 l59.length nc2) rfl rfl (wv_n rfl) rfl (fun ρ _ hρ _ => r_as (r_sliceO sl43 sz3 (hρ _ _ rfl) (bd_none ρ _) (bd_some (n := o9) (hρ _ _ rfl)) (bd_none ρ _) (by simp) (by omega) (by omega) (by omega)) (by rw [hn59]; exact slo_zero _ _ _ _))) (all_cons (q_run (.slice na2 qs.length nc2) rfl rfl (wv_n rfl) rfl (fun _ _ hρ _ => r_move (hρ _ _ rfl))) (all_cons (q_run (.int .i64 ((o9 : Nat) : Int)) rfl rfl (wv_n rfl) rfl (fun _ _ hρ _ => r_move (hρ _ _ rfl))) (all_cons (q_run (.int .i64 ((o9 + 1 : Nat) : Int)) rfl rfl (wv_n rfl) rfl (fun _ _ hρ _ => r_as (r_add (hρ _ _ rfl) (hρ _ _ rfl)) (int_as ((wrap64 (by omega) (by omega)).trans (by omega))))) (all_cons (q_run (.slice a60 l60.length (nc2 - (o9 + 1))) rfl rfl (wv_n rfl) rfl (fun ρ _ hρ _ => r_as (r_sliceO sl43 sz3 (hρ _ _ rfl) (bd_none ρ _) (bd_none ρ _) (bd_some (n := o9 + 1) (hρ _ _ rfl)) (by simp) (by omega) (by omega) (by omega)) (by rw [hn60, ha60]))) (all_cons (q_run (.slice ia2 qs.length ic2) rfl rfl (wv_n rfl) rfl (fun _ _ hρ _ => r_move (hρ _ _ rfl))) (all_cons (q_run (.int .i64 ((o9 : Nat) : Int)) rfl rfl (wv_n rfl) rfl (fun _ _ hρ _ => r_move (hρ _ _ rfl))) (all_cons (q_run (.slice ia2 l61.length ic2) rfl rfl (wv_n rfl) rfl (fun ρ _ hρ _ => r_as (r_sliceO sl22 sz32 (hρ _ _ rfl) (bd_none ρ _) (bd_some (n := o9) (hρ _ _ rfl)) (bd_none ρ _) (by simp) (by omega) (by omega) (by omega)) (by rw [hn61]; exact slo_zero _ _ _ _))) (all_cons (q_run (.slice ia2 qs.length ic2) rfl rfl (wv_n rfl) rfl (fun _ _ hρ _ => r_move (hρ _ _ rfl))) (all_cons (q_run (.int .i64 ((o9 : Nat) : Int)) rfl rfl (wv_n rfl) rfl (fun _ _ hρ _ => r_move (hρ _ _ rfl))) (all_cons (q_run (.int .i64 ((o9 + 1 : Nat) : Int)) rfl rfl (wv_n rfl) rfl (fun _ _ hρ _ => r_as (r_add (hρ _ _ rfl) (hρ _ _ rfl)) (int_as ((wrap64 (by omega) (by omega)).trans (by omega))))) (all_cons (q_run (.slice a62 l62.length (ic2 - (o9 + 1))) rfl rfl (wv_n rfl) rfl (fun ρ _ hρ _ => r_as (r_sliceO sl22 sz32 (hρ _ _ rfl) (bd_none ρ _) (bd_none ρ _) (bd_some (n := o9 + 1) (hρ _ _ rfl)) (by simp) (by omega) (by omega) (by omega)) (by rw [hn62, ha62]))) all_nil))))))))))))))) (allM (all_cons ?_ (all_cons ?_ all_nil)))
              · skip
                refine LOb_append (n := 0) (m := l59.length) (xs := []) (news := (l59.flatMap numc)) (z := .int .i64 0) 11 (fun a cap => []) rfl (wv_n rfl) rfl rfl rfl sl43 sz3 by3 (by kernel_rfl) rfl rfl (.inl rfl) (fun _ hm => src_of numc_len (by have hs := SliceAt.front (l := qs) (SliceAt.own numc_len (hm.row 950 rfl) rfl rfl) (n := o9) (m := nc2) (by omega) (by omega) (by omega); rw [← hl59] at hs; exact hs)) (by first | (intro u hu; obtain ⟨x, _, hx⟩ := List.mem_flatMap.1 hu; first | exact numc_one x u hx | exact idc_one x u hx) | simp [Value.oneCell']) (by omega) (by omega) (fun a cap => by kernel_rfl) ?_
                intro a64 cap64
                refine G_step [5, 6, 7, 8, 11, 12, 13, 15, 16, 17, 18] 9 [10] (by kernel_rfl) (allM (all_cons (q_run (.slice na2 qs.length nc2) rfl rfl (wv_n rfl) rfl (fun _ _ hρ _ => r_move (hρ _ _ rfl))) (all_cons (q_run (.int .i64 ((o9 : Nat) : Int)) rfl rfl (wv_n rfl) rfl (fun _ _ hρ _ => r_move (hρ _ _ rfl))) (all_cons (q_run (.int .i64 ((o9 + 1 : Nat) : Int)) rfl rfl (wv_n rfl) rfl (fun _ _ hρ _ => r_as (r_add (hρ _ _ rfl) (hρ _ _ rfl)) (int_as ((wrap64 (by omega) (by omega)).trans (by omega))))) (all_cons (q_run (.slice a60 l60.length (nc2 - (o9 + 1))) rfl rfl (wv_n rfl) rfl (fun ρ _ hρ _ => r_as (r_sliceO sl43 sz3 (hρ _ _ rfl) (bd_none ρ _) (bd_none ρ _) (bd_some (n := o9 + 1) (hρ _ _ rfl)) (by simp) (by omega) (by omega) (by omega)) (by rw [hn60, ha60]))) (all_cons (q_run (.slice ia2 qs.length ic2) rfl rfl (wv_n rfl) rfl (fun _ _ hρ _ => r_move (hρ _ _ rfl))) (all_cons (q_run (.int .i64 ((o9 : Nat) : Int)) rfl rfl (wv_n rfl) rfl (fun _ _ hρ _ => r_move (hρ _ _ rfl))) (all_cons (q_run (.slice ia2 l61.length ic2) rfl rfl (wv_n rfl) rfl (fun ρ _ hρ _ => r_as (r_sliceO sl22 sz32 (hρ _ _ rfl) (bd_none ρ _) (bd_some (n := o9) (hρ _ _ rfl)) (bd_none ρ _) (by simp) (by omega) (by omega) (by omega)) (by rw [hn61]; exact slo_zero _ _ _ _))) (all_cons (q_run (.slice ia2 qs.length ic2) rfl rfl (wv_n rfl) rfl (fun _ _ hρ _ => r_move (hρ _ _ rfl))) (all_cons (q_run (.int .i64 ((o9 : Nat) : Int)) rfl rfl (wv_n rfl) rfl (fun _ _ hρ _ => r_move (hρ _ _ rfl))) (all_cons (q_run (.int .i64 ((o9 + 1 : Nat) : Int)) rfl rfl (wv_n rfl) rfl (fun _ _ hρ _ => r_as (r_add (hρ _ _ rfl) (hρ _ _ rfl)) (int_as ((wrap64 (by omega) (by omega)).trans (by omega))))) (all_cons (q_run (.slice a62 l62.length (ic2 - (o9 + 1))) rfl rfl (wv_n rfl) rfl (fun ρ _ hρ _ => r_as (r_sliceO sl22 sz32 (hρ _ _ rfl) (bd_none ρ _) (bd_none ρ _) (bd_some (n := o9 + 1) (hρ _ _ rfl)) (by simp) (by omega) (by omega) (by omega)) (by rw [hn62, ha62]))) all_nil)))))))))))) (allM (all_cons ?_ (all_cons ?_ all_nil)))
                · skip
                  refine LOb_append (n := (0 + l59.length)) (m := l60.length) (xs := ([] ++ (l59.flatMap numc))) (news := (l60.flatMap numc)) (z := .int .i64 0) 11 (fun a cap => []) rfl (wv_n rfl) rfl rfl rfl sl43 sz3 by3 (by kernel_rfl) rfl rfl (.inl rfl) (fun _ hm => src_of numc_len (by have hs := SliceAt.part (l := qs) (SliceAt.own numc_len (hm.row 950 rfl) rfl rfl) (lo := o9 + 1) (hi := qs.length) (m := nc2) (by omega) (by omega) (by omega) (by omega); rw [← hl60, ← ha60] at hs; exact hs)) (by first | (intro u hu; obtain ⟨x, _, hx⟩ := List.mem_flatMap.1 hu; first | exact numc_one x u hx | exact idc_one x u hx) | simp [Value.oneCell']) (by omega) (by omega) (fun a cap => by kernel_rfl) ?_
                  intro a65 cap65
                  refine G_step [11, 12, 13, 15, 16, 17, 18] 10 [] (by kernel_rfl) (allM (all_cons (q_run (.slice ia2 qs.length ic2) rfl rfl (wv_n rfl) rfl (fun _ _ hρ _ => r_move (hρ _ _ rfl))) (all_cons (q_run (.int .i64 ((o9 : Nat) : Int)) rfl rfl (wv_n rfl) rfl (fun _ _ hρ _ => r_move (hρ _ _ rfl))) (all_cons (q_run (.slice ia2 l61.length ic2) rfl rfl (wv_n rfl) rfl (fun ρ _ hρ _ => r_as (r_sliceO sl22 sz32 (hρ _ _ rfl) (bd_none ρ _) (bd_some (n := o9) (hρ _ _ rfl)) (bd_none ρ _) (by simp) (by omega) (by omega) (by omega)) (by rw [hn61]; exact slo_zero _ _ _ _))) (all_cons (q_run (.slice ia2 qs.length ic2) rfl rfl (wv_n rfl) rfl (fun _ _ hρ _ => r_move (hρ _ _ rfl))) (all_cons (q_run (.int .i64 ((o9 : Nat) : Int)) rfl rfl (wv_n rfl) rfl (fun _ _ hρ _ => r_move (hρ _ _ rfl))) (all_cons (q_run (.int .i64 ((o9 + 1 : Nat) : Int)) rfl rfl (wv_n rfl) rfl (fun _ _ hρ _ => r_as (r_add (hρ _ _ rfl) (hρ _ _ rfl)) (int_as ((wrap64 (by omega) (by omega)).trans (by omega))))) (all_cons (q_run (.slice a62 l62.length (ic2 - (o9 + 1))) rfl rfl (wv_n rfl) rfl (fun ρ _ hρ _ => r_as (r_sliceO sl22 sz32 (hρ _ _ rfl) (bd_none ρ _) (bd_none ρ _) (bd_some (n := o9 + 1) (hρ _ _ rfl)) (by simp) (by omega) (by omega) (by omega)) (by rw [hn62, ha62]))) all_nil)))))))) (allM (all_cons ?_ all_nil))
                  refine LOb_new 12 (.cells #[] 32) (fun B => .slice (some ⟨B, 0, none⟩) 0 0) (fun B => []) rfl (wv_n rfl) rfl rfl (fun _ _ _ _ => r_buildSlice (vs := []) (by kernel_rfl) rfl) (fun B => by kernel_rfl) ?_
                  intro B66
                  refine G_mem ([(12, .row (.slice (some ⟨B66, 0, none⟩) 0 0) 32 3 0 []), (11, .row (.slice a65 ((0 + l59.length) + l60.length) cap65) 3 1 ((0 + l59.length) + l60.length) (([] ++ (l59.flatMap numc)) ++ (l60.flatMap numc))), (1, .blk B1 (.cells #[.int .u64 d.t, .int .i64 d.s, .int .u64 d.q] 32)), (950, .row (.slice na2 qs.length nc2) 3 1 qs.length (qs.flatMap numc)), (951, .row (.slice ia2 qs.length ic2) 32 3 qs.length (qs.flatMap idc))]) (fun _ hm => MemOk.sub (hm.toRow (n := 0) (cap := 0) (s := 3) 12 rfl rfl (by omega) rfl _ rfl) (sub_cons rfl (sub_cons rfl (sub_cons rfl (sub_cons rfl (sub_cons rfl sub_nil)))))) ?_
                  refine G_step [11, 12, 13, 15, 16, 17, 18] 14 [] (by kernel_rfl) (allM (all_cons (q_run (.slice ia2 qs.length ic2) rfl rfl (wv_n rfl) rfl (fun _ _ hρ _ => r_move (hρ _ _ rfl))) (all_cons (q_run (.int .i64 ((o9 : Nat) : Int)) rfl rfl (wv_n rfl) rfl (fun _ _ hρ _ => r_move (hρ _ _ rfl))) (all_cons (q_run (.slice ia2 l61.length ic2) rfl rfl (wv_n rfl) rfl (fun ρ _ hρ _ => r_as (r_sliceO sl22 sz32 (hρ _ _ rfl) (bd_none ρ _) (bd_some (n := o9) (hρ _ _ rfl)) (bd_none ρ _) (by simp) (by omega) (by omega) (by omega)) (by rw [hn61]; exact slo_zero _ _ _ _))) (all_cons (q_run (.slice ia2 qs.length ic2) rfl rfl (wv_n rfl) rfl (fun _ _ hρ _ => r_move (hρ _ _ rfl))) (all_cons (q_run (.int .i64 ((o9 : Nat) : Int)) rfl rfl (wv_n rfl) rfl (fun _ _ hρ _ => r_move (hρ _ _ rfl))) (all_cons (q_run (.int .i64 ((o9 + 1 : Nat) : Int)) rfl rfl (wv_n rfl) rfl (fun _ _ hρ _ => r_as (r_add (hρ _ _ rfl) (hρ _ _ rfl)) (int_as ((wrap64 (by omega) (by omega)).trans (by omega))))) (all_cons (q_run (.slice a62 l62.length (ic2 - (o9 + 1))) rfl rfl (wv_n rfl) rfl (fun ρ _ hρ _ => r_as (r_sliceO sl22 sz32 (hρ _ _ rfl) (bd_none ρ _) (bd_none ρ _) (bd_some (n := o9 + 1) (hρ _ _ rfl)) (by simp) (by omega) (by omega) (by omega)) (by rw [hn62, ha62]))) all_nil)))))))) (allM (all_cons ?_ all_nil))
                  refine LOb_append (n := 0) (m := l61.length) (xs := []) (news := (l61.flatMap idc)) (z := .agg #[.int .u64 0, .int .i64 0, .int .u64 0]) 12 (fun a cap => []) rfl (wv_n rfl) rfl rfl rfl sl22 sz32 by32 (by kernel_rfl) rfl rfl (.inl rfl) (fun _ hm => src_of idc_len (by have hs := SliceAt.front (l := qs) (SliceAt.own idc_len (hm.row 951 rfl) rfl rfl) (n := o9) (m := ic2) (by omega) (by omega) (by omega); rw [← hl61] at hs; exact hs)) (by first | (intro u hu; obtain ⟨x, _, hx⟩ := List.mem_flatMap.1 hu; first | exact numc_one x u hx | exact idc_one x u hx) | simp [Value.oneCell']) (by omega) (by omega) (fun a cap => by kernel_rfl) ?_
                  intro a67 cap67
                  refine G_step [15, 16, 17, 18] 19 [] (by kernel_rfl) (allM (all_cons (q_run (.slice ia2 qs.length ic2) rfl rfl (wv_n rfl) rfl (fun _ _ hρ _ => r_move (hρ _ _ rfl))) (all_cons (q_run (.int .i64 ((o9 : Nat) : Int)) rfl rfl (wv_n rfl) rfl (fun _ _ hρ _ => r_move (hρ _ _ rfl))) (all_cons (q_run (.int .i64 ((o9 + 1 : Nat) : Int)) rfl rfl (wv_n rfl) rfl (fun _ _ hρ _ => r_as (r_add (hρ _ _ rfl) (hρ _ _ rfl)) (int_as ((wrap64 (by omega) (by omega)).trans (by omega))))) (all_cons (q_run (.slice a62 l62.length (ic2 - (o9 + 1))) rfl rfl (wv_n rfl) rfl (fun ρ _ hρ _ => r_as (r_sliceO sl22 sz32 (hρ _ _ rfl) (bd_none ρ _) (bd_none ρ _) (bd_some (n := o9 + 1) (hρ _ _ rfl)) (by simp) (by omega) (by omega) (by omega)) (by rw [hn62, ha62]))) all_nil))))) (allM (all_cons ?_ all_nil))
                  refine LOb_append (n := (0 + l61.length)) (m := l62.length) (xs := ([] ++ (l61.flatMap idc))) (news := (l62.flatMap idc)) (z := .agg #[.int .u64 0, .int .i64 0, .int .u64 0]) 12 (fun a cap => [(20, .slice a65 ((0 + l59.length) + l60.length) cap65), (21, .slice a ((0 + l61.length) + l62.length) cap)]) rfl (wv_n rfl) rfl rfl rfl sl22 sz32 by32 (by kernel_rfl) rfl rfl (.inl rfl) (fun _ hm => src_of idc_len (by have hs := SliceAt.part (l := qs) (SliceAt.own idc_len (hm.row 951 rfl) rfl rfl) (lo := o9 + 1) (hi := qs.length) (m := ic2) (by omega) (by omega) (by omega) (by omega); rw [← hl62, ← ha62] at hs; exact hs)) (by first | (intro u hu; obtain ⟨x, _, hx⟩ := List.mem_flatMap.1 hu; first | exact numc_one x u hx | exact idc_one x u hx) | simp [Value.oneCell']) (by omega) (by omega) (fun a cap => by kernel_rfl) ?_
                  intro a68 cap68
                  exact G_lastQ [20, 21] [(4, .slice a65 ((0 + l59.length) + l60.length) cap65), (5, .slice a68 ((0 + l61.length) + l62.length) cap68)] (by kernel_rfl) (allM (all_cons (q_run (.slice a65 ((0 + l59.length) + l60.length) cap65) rfl rfl (wv_n rfl) rfl (fun _ _ hρ _ => r_assign (hρ _ _ rfl))) (all_cons (q_run (.slice a68 ((0 + l61.length) + l62.length) cap68) rfl rfl (wv_n rfl) rfl (fun _ _ hρ _ => r_assign (hρ _ _ rfl))) all_nil))) (end_new 20 rfl rfl (end_new 21 rfl rfl end_nil)) (fun a w hf hm => At_intro (a65, cap65, a68, cap68) trivial hf hm (sub_cons rfl (sub_cons rfl sub_nil)) (sub_cons rfl (sub_cons rfl (sub_cons rfl (sub_cons rfl (sub_cons rfl sub_nil))))))
                · skip
                  refine LOb_new 12 (.cells #[] 32) (fun B => .slice (some ⟨B, 0, none⟩) 0 0) (fun B => []) rfl (wv_n rfl) rfl rfl (fun _ _ _ _ => r_buildSlice (vs := []) (by kernel_rfl) rfl) (fun B => by kernel_rfl) ?_
                  intro B69
                  refine G_step [5, 6, 7, 8, 11, 12, 13, 15, 16, 17, 18] 9 [] (by kernel_rfl) (allM (all_cons (q_run (.slice na2 qs.length nc2) rfl rfl (wv_n rfl) rfl (fun _ _ hρ _ => r_move (hρ _ _ rfl))) (all_cons (q_run (.int .i64 ((o9 : Nat) : Int)) rfl rfl (wv_n rfl) rfl (fun _ _ hρ _ => r_move (hρ _ _ rfl))) (all_cons (q_run (.int .i64 ((o9 + 1 : Nat) : Int)) rfl rfl (wv_n rfl) rfl (fun _ _ hρ _ => r_as (r_add (hρ _ _ rfl) (hρ _ _ rfl)) (int_as ((wrap64 (by omega) (by omega)).trans (by omega))))) (all_cons (q_run (.slice a60 l60.length (nc2 - (o9 + 1))) rfl rfl (wv_n rfl) rfl (fun ρ _ hρ _ => r_as (r_sliceO sl43 sz3 (hρ _ _ rfl) (bd_none ρ _) (bd_none ρ _) (bd_some (n := o9 + 1) (hρ _ _ rfl)) (by simp) (by omega) (by omega) (by omega)) (by rw [hn60, ha60]))) (all_cons (q_run (.slice ia2 qs.length ic2) rfl rfl (wv_n rfl) rfl (fun _ _ hρ _ => r_move (hρ _ _ rfl))) (all_cons (q_run (.int .i64 ((o9 : Nat) : Int)) rfl rfl (wv_n rfl) rfl (fun _ _ hρ _ => r_move (hρ _ _ rfl))) (all_cons (q_run (.slice ia2 l61.length ic2) rfl rfl (wv_n rfl) rfl (fun ρ _ hρ _ => r_as (r_sliceO sl22 sz32 (hρ _ _ rfl) (bd_none ρ _) (bd_some (n := o9) (hρ _ _ rfl)) (bd_none ρ _) (by simp) (by omega) (by omega) (by omega)) (by rw [hn61]; exact slo_zero _ _ _ _))) (all_cons (q_run (.slice ia2 qs.length ic2) rfl rfl (wv_n rfl) rfl (fun _ _ hρ _ => r_move (hρ _ _ rfl))) (all_cons (q_run (.int .i64 ((o9 : Nat) : Int)) rfl rfl (wv_n rfl) rfl (fun _ _ hρ _ => r_move (hρ _ _ rfl))) (all_cons (q_run (.int .i64 ((o9 + 1 : Nat) : Int)) rfl rfl (wv_n rfl) rfl (fun _ _ hρ _ => r_as (r_add (hρ _ _ rfl) (hρ _ _ rfl)) (int_as ((wrap64 (by omega) (by omega)).trans (by omega))))) (all_cons (q_run (.slice a62 l62.length (ic2 - (o9 + 1))) rfl rfl (wv_n rfl) rfl (fun ρ _ hρ _ => r_as (r_sliceO sl22 sz32 (hρ _ _ rfl) (bd_none ρ _) (bd_none ρ _) (bd_some (n := o9 + 1) (hρ _ _ rfl)) (by simp) (by omega) (by omega) (by omega)) (by rw [hn62, ha62]))) all_nil)))))))))))) (allM (all_cons ?_ all_nil))
                  refine LOb_append (n := (0 + l59.length)) (m := l60.length) (xs := ([] ++ (l59.flatMap numc))) (news := (l60.flatMap numc)) (z := .int .i64 0) 11 (fun a cap => []) rfl (wv_n rfl) rfl rfl rfl sl43 sz3 by3 (by kernel_rfl) rfl rfl (.inl rfl) (fun _ hm => src_of numc_len (by have hs := SliceAt.part (l := qs) (SliceAt.own numc_len (hm.row 950 rfl) rfl rfl) (lo := o9 + 1) (hi := qs.length) (m := nc2) (by omega) (by omega) (by omega) (by omega); rw [← hl60, ← ha60] at hs; exact hs)) (by first | (intro u hu; obtain ⟨x, _, hx⟩ := List.mem_flatMap.1 hu; first | exact numc_one x u hx | exact idc_one x u hx) | simp [Value.oneCell']) (by omega) (by omega) (fun a cap => by kernel_rfl) ?_
                  intro a70 cap70
                  refine G_mem ([(12, .row (.slice (some ⟨B69, 0, none⟩) 0 0) 32 3 0 []), (11, .row (.slice a70 ((0 + l59.length) + l60.length) cap70) 3 1 ((0 + l59.length) + l60.length) (([] ++ (l59.flatMap numc)) ++ (l60.flatMap numc))), (1, .blk B1 (.cells #[.int .u64 d.t, .int .i64 d.s, .int .u64 d.q] 32)), (950, .row (.slice na2 qs.length nc2) 3 1 qs.length (qs.flatMap numc)), (951, .row (.slice ia2 qs.length ic2) 32 3 qs.length (qs.flatMap idc))]) (fun _ hm => MemOk.sub (hm.toRow (n := 0) (cap := 0) (s := 3) 12 rfl rfl (by omega) rfl _ rfl) (sub_cons rfl (sub_cons rfl (sub_cons rfl (sub_cons rfl (sub_cons rfl sub_nil)))))) ?_
                  refine G_step [11, 12, 13, 15, 16, 17, 18] 14 [] (by kernel_rfl) (allM (all_cons (q_run (.slice ia2 qs.length ic2) rfl rfl (wv_n rfl) rfl (fun _ _ hρ _ => r_move (hρ _ _ rfl))) (all_cons (q_run (.int .i64 ((o9 : Nat) : Int)) rfl rfl (wv_n rfl) rfl (fun _ _ hρ _ => r_move (hρ _ _ rfl))) (all_cons (q_run (.slice ia2 l61.length ic2) rfl rfl (wv_n rfl) rfl (fun ρ _ hρ _ => r_as (r_sliceO sl22 sz32 (hρ _ _ rfl) (bd_none ρ _) (bd_some (n := o9) (hρ _ _ rfl)) (bd_none ρ _) (by simp) (by omega) (by omega) (by omega)) (by rw [hn61]; exact slo_zero _ _ _ _))) (all_cons (q_run (.slice ia2 qs.length ic2) rfl rfl (wv_n rfl) rfl (fun _ _ hρ _ => r_move (hρ _ _ rfl))) (all_cons (q_run (.int .i64 ((o9 : Nat) : Int)) rfl rfl (wv_n rfl) rfl (fun _ _ hρ _ => r_move (hρ _ _ rfl))) (all_cons (q_run (.int .i64 ((o9 + 1 : Nat) : Int)) rfl rfl (wv_n rfl) rfl (fun _ _ hρ _ => r_as (r_add (hρ _ _ rfl) (hρ _ _ rfl)) (int_as ((wrap64 (by omega) (by omega)).trans (by omega))))) (all_cons (q_run (.slice a62 l62.length (ic2 - (o9 + 1))) rfl rfl (wv_n rfl) rfl (fun ρ _ hρ _ => r_as (r_sliceO sl22 sz32 (hρ _ _ rfl) (bd_none ρ _) (bd_none ρ _) (bd_some (n := o9 + 1) (hρ _ _ rfl)) (by simp) (by omega) (by omega) (by omega)) (by rw [hn62, ha62]))) all_nil)))))))) (allM (all_cons ?_ all_nil))
                  refine LOb_append (n := 0) (m := l61.length) (xs := []) (news := (l61.flatMap idc)) (z := .agg #[.int .u64 0, .int .i64 0, .int .u64 0]) 12 (fun a cap => []) rfl (wv_n rfl) rfl rfl rfl sl22 sz32 by32 (by kernel_rfl) rfl rfl (.inl rfl) (fun _ hm => src_of idc_len (by have hs := SliceAt.front (l := qs) (SliceAt.own idc_len (hm.row 951 rfl) rfl rfl) (n := o9) (m := ic2) (by omega) (by omega) (by omega); rw [← hl61] at hs; exact hs)) (by first | (intro u hu; obtain ⟨x, _, hx⟩ := List.mem_flatMap.1 hu; first | exact numc_one x u hx | exact idc_one x u hx) | simp [Value.oneCell']) (by omega) (by omega) (fun a cap => by kernel_rfl) ?_
                  intro a71 cap71
                  refine G_step [15, 16, 17, 18] 19 [] (by kernel_rfl) (allM (all_cons (q_run (.slice ia2 qs.length ic2) rfl rfl (wv_n rfl) rfl (fun _ _ hρ _ => r_move (hρ _ _ rfl))) (all_cons (q_run (.int .i64 ((o9 : Nat) : Int)) rfl rfl (wv_n rfl) rfl (fun _ _ hρ _ => r_move (hρ _ _ rfl))) (all_cons (q_run (.int .i64 ((o9 + 1 : Nat) : Int)) rfl rfl (wv_n rfl) rfl (fun _ _ hρ _ => r_as (r_add (hρ _ _ rfl) (hρ _ _ rfl)) (int_as ((wrap64 (by omega) (by omega)).trans (by omega))))) (all_cons (q_run (.slice a62 l62.length (ic2 - (o9 + 1))) rfl rfl (wv_n rfl) rfl (fun ρ _ hρ _ => r_as (r_sliceO sl22 sz32 (hρ _ _ rfl) (bd_none ρ _) (bd_none ρ _) (bd_some (n := o9 + 1) (hρ _ _ rfl)) (by simp) (by omega) (by omega) (by omega)) (by rw [hn62, ha62]))) all_nil))))) (allM (all_cons ?_ all_nil))
                  refine LOb_append (n := (0 + l61.length)) (m := l62.length) (xs := ([] ++ (l61.flatMap idc))) (news := (l62.flatMap idc)) (z := .agg #[.int .u64 0, .int .i64 0, .int .u64 0]) 12 (fun a cap => [(20, .slice a70 ((0 + l59.length) + l60.length) cap70), (21, .slice a ((0 + l61.length) + l62.length) cap)]) rfl (wv_n rfl) rfl rfl rfl sl22 sz32 by32 (by kernel_rfl) rfl rfl (.inl rfl) (fun _ hm => src_of idc_len (by have hs := SliceAt.part (l := qs) (SliceAt.own idc_len (hm.row 951 rfl) rfl rfl) (lo := o9 + 1) (hi := qs.length) (m := ic2) (by omega) (by omega) (by omega) (by omega); rw [← hl62, ← ha62] at hs; exact hs)) (by first | (intro u hu; obtain ⟨x, _, hx⟩ := List.mem_flatMap.1 hu; first | exact numc_one x u hx | exact idc_one x u hx) | simp [Value.oneCell']) (by omega) (by omega) (fun a cap => by kernel_rfl) ?_
                  intro a72 cap72
                  exact G_lastQ [20, 21] [(4, .slice a70 ((0 + l59.length) + l60.length) cap70), (5, .slice a72 ((0 + l61.length) + l62.length) cap72)] (by kernel_rfl) (allM (all_cons (q_run (.slice a70 ((0 + l59.length) + l60.length) cap70) rfl rfl (wv_n rfl) rfl (fun _ _ hρ _ => r_assign (hρ _ _ rfl))) (all_cons (q_run (.slice a72 ((0 + l61.length) + l62.length) cap72) rfl rfl (wv_n rfl) rfl (fun _ _ hρ _ => r_assign (hρ _ _ rfl))) all_nil))) (end_new 20 rfl rfl (end_new 21 rfl rfl end_nil)) (fun a w hf hm => At_intro (a70, cap70, a72, cap72) trivial hf hm (sub_cons rfl (sub_cons rfl sub_nil)) (sub_cons rfl (sub_cons rfl (sub_cons rfl (sub_cons rfl (sub_cons rfl sub_nil))))))
              · skip
                refine LOb_new 12 (.cells #[] 32) (fun B => .slice (some ⟨B, 0, none⟩) 0 0) (fun B => []) rfl (wv_n rfl) rfl rfl (fun _ _ _ _ => r_buildSlice (vs := []) (by kernel_rfl) rfl) (fun B => by kernel_rfl) ?_
                intro B73
                refine G_step [1, 2, 3, 5, 6, 7, 8, 11, 12, 13, 15, 16, 17, 18] 4 [] (by kernel_rfl) (allM (all_cons (q_run (.slice na2 qs.length nc2) rfl rfl (wv_n rfl) rfl (fun _ _ hρ _ => r_move (hρ _ _ rfl))) (all_cons (q_run (.int .i64 ((o9 : Nat) : Int)) rfl rfl (wv_n rfl) rfl (fun _ _ hρ _ => r_move (hρ _ _ rfl))) (all_cons (q_run (.slice na2 l59.length nc2) rfl rfl (wv_n rfl) rfl (fun ρ _ hρ _ => r_as (r_sliceO sl43 sz3 (hρ _ _ rfl) (bd_none ρ _) (bd_some (n := o9) (hρ _ _ rfl)) (bd_none ρ _) (by simp) (by omega) (by omega) (by omega)) (by rw [hn59]; exact slo_zero _ _ _ _))) (all_cons (q_run (.slice na2 qs.length nc2) rfl rfl (wv_n rfl) rfl (fun _ _ hρ _ => r_move (hρ _ _ rfl))) (all_cons (q_run (.int .i64 ((o9 : Nat) : Int)) rfl rfl (wv_n rfl) rfl (fun _ _ hρ _ => r_move (hρ _ _ rfl))) (all_cons (q_run (.int .i64 ((o9 + 1 : Nat) : Int)) rfl rfl (wv_n rfl) rfl (fun _ _ hρ _ => r_as (r_add (hρ _ _ rfl) (hρ _ _ rfl)) (int_as ((wrap64 (by omega) (by omega)).trans (by omega))))) (all_cons (q_run (.slice a60 l60.length (nc2 - (o9 + 1))) rfl rfl (wv_n rfl) rfl (fun ρ _ hρ _ => r_as (r_sliceO sl43 sz3 (hρ _ _ rfl) (bd_none ρ _) (bd_none ρ _) (bd_some (n := o9 + 1) (hρ _ _ rfl)) (by simp) (by omega) (by omega) (by omega)) (by rw [hn60, ha60]))) (all_cons (q_run (.slice ia2 qs.length ic2) rfl rfl (wv_n rfl) rfl (fun _ _ hρ _ => r_move (hρ _ _ rfl))) (all_cons (q_run (.int .i64 ((o9 : Nat) : Int)) rfl rfl (wv_n rfl) rfl (fun _ _ hρ _ => r_move (hρ _ _ rfl))) (all_cons (q_run (.slice ia2 l61.length ic2) rfl rfl (wv_n rfl) rfl (fun ρ _ hρ _ => r_as (r_sliceO sl22 sz32 (hρ _ _ rfl) (bd_none ρ _) (bd_some (n := o9) (hρ _ _ rfl)) (bd_none ρ _) (by simp) (by omega) (by omega) (by omega)) (by rw [hn61]; exact slo_zero _ _ _ _))) (all_cons (q_run (.slice ia2 qs.length ic2) rfl rfl (wv_n rfl) rfl (fun _ _ hρ _ => r_move (hρ _ _ rfl))) (all_cons (q_run (.int .i64 ((o9 : Nat) : Int)) rfl rfl (wv_n rfl) rfl (fun _ _ hρ _ => r_move (hρ _ _ rfl))) (all_cons (q_run (.int .i64 ((o9 + 1 : Nat) : Int)) rfl rfl (wv_n rfl) rfl (fun _ _ hρ _ => r_as (r_add (hρ _ _ rfl) (hρ _ _ rfl)) (int_as ((wrap64 (by omega) (by omega)).trans (by omega))))) (all_cons (q_run (.slice a62 l62.length (ic2 - (o9 + 1))) rfl rfl (wv_n rfl) rfl (fun ρ _ hρ _ => r_as (r_sliceO sl22 sz32 (hρ _ _ rfl) (bd_none ρ _) (bd_none ρ _) (bd_some (n := o9 + 1) (hρ _ _ rfl)) (by simp) (by omega) (by omega) (by omega)) (by rw [hn62, ha62]))) all_nil))))))))))))))) (allM (all_cons ?_ all_nil))
                refine LOb_append (n := 0) (m := l59.length) (xs := []) (news := (l59.flatMap numc)) (z := .int .i64 0) 11 (fun a cap => []) rfl (wv_n rfl) rfl rfl rfl sl43 sz3 by3 (by kernel_rfl) rfl rfl (.inl rfl) (fun _ hm => src_of numc_len (by have hs := SliceAt.front (l := qs) (SliceAt.own numc_len (hm.row 950 rfl) rfl rfl) (n := o9) (m := nc2) (by omega) (by omega) (by omega); rw [← hl59] at hs; exact hs)) (by first | (intro u hu; obtain ⟨x, _, hx⟩ := List.mem_flatMap.1 hu; first | exact numc_one x u hx | exact idc_one x u hx) | simp [Value.oneCell']) (by omega) (by omega) (fun a cap => by kernel_rfl) ?_
                intro a74 cap74
                refine G_step [5, 6, 7, 8, 11, 12, 13, 15, 16, 17, 18] 9 [] (by kernel_rfl) (allM (all_cons (q_run (.slice na2 qs.length nc2) rfl rfl (wv_n rfl) rfl (fun _ _ hρ _ => r_move (hρ _ _ rfl))) (all_cons (q_run (.int .i64 ((o9 : Nat) : Int)) rfl rfl (wv_n rfl) rfl (fun _ _ hρ _ => r_move (hρ _ _ rfl))) (all_cons (q_run (.int .i64 ((o9 + 1 : Nat) : Int)) rfl rfl (wv_n rfl) rfl (fun _ _ hρ _ => r_as (r_add (hρ _ _ rfl) (hρ _ _ rfl)) (int_as ((wrap64 (by omega) (by omega)).trans (by omega))))) (all_cons (q_run (.slice a60 l60.length (nc2 - (o9 + 1))) rfl rfl (wv_n rfl) rfl (fun ρ _ hρ _ => r_as (r_sliceO sl43 sz3 (hρ _ _ rfl) (bd_none ρ _) (bd_none ρ _) (bd_some (n := o9 + 1) (hρ _ _ rfl)) (by simp) (by omega) (by omega) (by omega)) (by rw [hn60, ha60]))) (all_cons (q_run (.slice ia2 qs.length ic2) rfl rfl (wv_n rfl) rfl (fun _ _ hρ _ => r_move (hρ _ _ rfl))) (all_cons (q_run (.int .i64 ((o9 : Nat) : Int)) rfl rfl (wv_n rfl) rfl (fun _ _ hρ _ => r_move (hρ _ _ rfl))) (all_cons (q_run (.slice ia2 l61.length ic2) rfl rfl (wv_n rfl) rfl (fun ρ _ hρ _ => r_as (r_sliceO sl22 sz32 (hρ _ _ rfl) (bd_none ρ _) (bd_some (n := o9) (hρ _ _ rfl)) (bd_none ρ _) (by simp) (by omega) (by omega) (by omega)) (by rw [hn61]; exact slo_zero _ _ _ _))) (all_cons (q_run (.slice ia2 qs.length ic2) rfl rfl (wv_n rfl) rfl (fun _ _ hρ _ => r_move (hρ _ _ rfl))) (all_cons (q_run (.int .i64 ((o9 : Nat) : Int)) rfl rfl (wv_n rfl) rfl (fun _ _ hρ _ => r_move (hρ _ _ rfl))) (all_cons (q_run (.int .i64 ((o9 + 1 : Nat) : Int)) rfl rfl (wv_n rfl) rfl (fun _ _ hρ _ => r_as (r_add (hρ _ _ rfl) (hρ _ _ rfl)) (int_as ((wrap64 (by omega) (by omega)).trans (by omega))))) (all_cons (q_run (.slice a62 l62.length (ic2 - (o9 + 1))) rfl rfl (wv_n rfl) rfl (fun ρ _ hρ _ => r_as (r_sliceO sl22 sz32 (hρ _ _ rfl) (bd_none ρ _) (bd_none ρ _) (bd_some (n := o9 + 1) (hρ _ _ rfl)) (by simp) (by omega) (by omega) (by omega)) (by rw [hn62, ha62]))) all_nil)))))))))))) (allM (all_cons ?_ all_nil))
                refine LOb_append (n := (0 + l59.length)) (m := l60.length) (xs := ([] ++ (l59.flatMap numc))) (news := (l60.flatMap numc)) (z := .int .i64 0) 11 (fun a cap => []) rfl (wv_n rfl) rfl rfl rfl sl43 sz3 by3 (by kernel_rfl) rfl rfl (.inl rfl) (fun _ hm => src_of numc_len (by have hs := SliceAt.part (l := qs) (SliceAt.own numc_len (hm.row 950 rfl) rfl rfl) (lo := o9 + 1) (hi := qs.length) (m := nc2) (by omega) (by omega) (by omega) (by omega); rw [← hl60, ← ha60] at hs; exact hs)) (by first | (intro u hu; obtain ⟨x, _, hx⟩ := List.mem_flatMap.1 hu; first | exact numc_one x u hx | exact idc_one x u hx) | simp [Value.oneCell']) (by omega) (by omega) (fun a cap => by kernel_rfl) ?_
                intro a75 cap75
                refine G_mem ([(12, .row (.slice (some ⟨B73, 0, none⟩) 0 0) 32 3 0 []), (11, .row (.slice a75 ((0 + l59.length) + l60.length) cap75) 3 1 ((0 + l59.length) + l60.length) (([] ++ (l59.flatMap numc)) ++ (l60.flatMap numc))), (1, .blk B1 (.cells #[.int .u64 d.t, .int .i64 d.s, .int .u64 d.q] 32)), (950, .row (.slice na2 qs.length nc2) 3 1 qs.length (qs.flatMap numc)), (951, .row (.slice ia2 qs.length ic2) 32 3 qs.length (qs.flatMap idc))]) (fun _ hm => MemOk.sub (hm.toRow (n := 0) (cap := 0) (s := 3) 12 rfl rfl (by omega) rfl _ rfl) (sub_cons rfl (sub_cons rfl (sub_cons rfl (sub_cons rfl (sub_cons rfl sub_nil)))))) ?_
                refine G_step [11, 12, 13, 15, 16, 17, 18] 14 [] (by kernel_rfl) (allM (all_cons (q_run (.slice ia2 qs.length ic2) rfl rfl (wv_n rfl) rfl (fun _ _ hρ _ => r_move (hρ _ _ rfl))) (all_cons (q_run (.int .i64 ((o9 : Nat) : Int)) rfl rfl (wv_n rfl) rfl (fun _ _ hρ _ => r_move (hρ _ _ rfl))) (all_cons (q_run (.slice ia2 l61.length ic2) rfl rfl (wv_n rfl) rfl (fun ρ _ hρ _ => r_as (r_sliceO sl22 sz32 (hρ _ _ rfl) (bd_none ρ _) (bd_some (n := o9) (hρ _ _ rfl)) (bd_none ρ _) (by simp) (by omega) (by omega) (by omega)) (by rw [hn61]; exact slo_zero _ _ _ _))) (all_cons (q_run (.slice ia2 qs.length ic2) rfl rfl (wv_n rfl) rfl (fun _ _ hρ _ => r_move (hρ _ _ rfl))) (all_cons (q_run (.int .i64 ((o9 : Nat) : Int)) rfl rfl (wv_n rfl) rfl (fun _ _ hρ _ => r_move (hρ _ _ rfl))) (all_cons (q_run (.int .i64 ((o9 + 1 : Nat) : Int)) rfl rfl (wv_n rfl) rfl (fun _ _ hρ _ => r_as (r_add (hρ _ _ rfl) (hρ _ _ rfl)) (int_as ((wrap64 (by omega) (by omega)).trans (by omega))))) (all_cons (q_run (.slice a62 l62.length (ic2 - (o9 + 1))) rfl rfl (wv_n rfl) rfl (fun ρ _ hρ _ => r_as (r_sliceO sl22 sz32 (hρ _ _ rfl) (bd_none ρ _) (bd_none ρ _) (bd_some (n := o9 + 1) (hρ _ _ rfl)) (by simp) (by omega) (by omega) (by omega)) (by rw [hn62, ha62]))) all_nil)))))))) (allM (all_cons ?_ all_nil))
                refine LOb_append (n := 0) (m := l61.length) (xs := []) (news := (l61.flatMap idc)) (z := .agg #[.int .u64 0, .int .i64 0, .int .u64 0]) 12 (fun a cap => []) rfl (wv_n rfl) rfl rfl rfl sl22 sz32 by32 (by kernel_rfl) rfl rfl (.inl rfl) (fun _ hm => src_of idc_len (by have hs := SliceAt.front (l := qs) (SliceAt.own idc_len (hm.row 951 rfl) rfl rfl) (n := o9) (m := ic2) (by omega) (by omega) (by omega); rw [← hl61] at hs; exact hs)) (by first | (intro u hu; obtain ⟨x, _, hx⟩ := List.mem_flatMap.1 hu; first | exact numc_one x u hx | exact idc_one x u hx) | simp [Value.oneCell']) (by omega) (by omega) (fun a cap => by kernel_rfl) ?_
                intro a76 cap76
                refine G_step [15, 16, 17, 18] 19 [] (by kernel_rfl) (allM (all_cons (q_run (.slice ia2 qs.length ic2) rfl rfl (wv_n rfl) rfl (fun _ _ hρ _ => r_move (hρ _ _ rfl))) (all_cons (q_run (.int .i64 ((o9 : Nat) : Int)) rfl rfl (wv_n rfl) rfl (fun _ _ hρ _ => r_move (hρ _ _ rfl))) (all_cons (q_run (.int .i64 ((o9 + 1 : Nat) : Int)) rfl rfl (wv_n rfl) rfl (fun _ _ hρ _ => r_as (r_add (hρ _ _ rfl) (hρ _ _ rfl)) (int_as ((wrap64 (by omega) (by omega)).trans (by omega))))) (all_cons (q_run (.slice a62 l62.length (ic2 - (o9 + 1))) rfl rfl (wv_n rfl) rfl (fun ρ _ hρ _ => r_as (r_sliceO sl22 sz32 (hρ _ _ rfl) (bd_none ρ _) (bd_none ρ _) (bd_some (n := o9 + 1) (hρ _ _ rfl)) (by simp) (by omega) (by omega) (by omega)) (by rw [hn62, ha62]))) all_nil))))) (allM (all_cons ?_ all_nil))
                refine LOb_append (n := (0 + l61.length)) (m := l62.length) (xs := ([] ++ (l61.flatMap idc))) (news := (l62.flatMap idc)) (z := .agg #[.int .u64 0, .int .i64 0, .int .u64 0]) 12 (fun a cap => [(20, .slice a75 ((0 + l59.length) + l60.length) cap75), (21, .slice a ((0 + l61.length) + l62.length) cap)]) rfl (wv_n rfl) rfl rfl rfl sl22 sz32 by32 (by kernel_rfl) rfl rfl (.inl rfl) (fun _ hm => src_of idc_len (by have hs := SliceAt.part (l := qs) (SliceAt.own idc_len (hm.row 951 rfl) rfl rfl) (lo := o9 + 1) (hi := qs.length) (m := ic2) (by omega) (by omega) (by omega) (by omega); rw [← hl62, ← ha62] at hs; exact hs)) (by first | (intro u hu; obtain ⟨x, _, hx⟩ := List.mem_flatMap.1 hu; first | exact numc_one x u hx | exact idc_one x u hx) | simp [Value.oneCell']) (by omega) (by omega) (fun a cap => by kernel_rfl) ?_
                intro a77 cap77
                exact G_lastQ [20, 21] [(4, .slice a75 ((0 + l59.length) + l60.length) cap75), (5, .slice a77 ((0 + l61.length) + l62.length) cap77)] (by kernel_rfl) (allM (all_cons (q_run (.slice a75 ((0 + l59.length) + l60.length) cap75) rfl rfl (wv_n rfl) rfl (fun _ _ hρ _ => r_assign (hρ _ _ rfl))) (all_cons (q_run (.slice a77 ((0 + l61.length) + l62.length) cap77) rfl rfl (wv_n rfl) rfl (fun _ _ hρ _ => r_assign (hρ _ _ rfl))) all_nil))) (end_new 20 rfl rfl (end_new 21 rfl rfl end_nil)) (fun a w hf hm => At_intro (a75, cap75, a77, cap77) trivial hf hm (sub_cons rfl (sub_cons rfl sub_nil)) (sub_cons rfl (sub_cons rfl (sub_cons rfl (sub_cons rfl (sub_cons rfl sub_nil))))))
            · skip
              refine LOb_new 12 (.cells #[] 32) (fun B => .slice (some ⟨B, 0, none⟩) 0 0) (fun B => []) rfl (wv_n rfl) rfl rfl (fun _ _ _ _ => r_buildSlice (vs := []) (by kernel_rfl) rfl) (fun B => by kernel_rfl) ?_
              intro B78
              refine G_step [1, 2, 3, 5, 6, 7, 8, 11, 12, 13, 15, 16, 17, 18] 0 [] (by kernel_rfl) (allM (all_cons (q_run (.slice na2 qs.length nc2) rfl rfl (wv_n rfl) rfl (fun _ _ hρ _ => r_move (hρ _ _ rfl))) (all_cons (q_run (.int .i64 ((o9 : Nat) : Int)) rfl rfl (wv_n rfl) rfl (fun _ _ hρ _ => r_move (hρ _ _ rfl))) (all_cons (q_run (.slice na2 l59.length nc2) rfl rfl (wv_n rfl) rfl (fun ρ _ hρ _ => r_as (r_sliceO sl43 sz3 (hρ _ _ rfl) (bd_none ρ _) (bd_some (n := o9) (hρ _ _ rfl)) (bd_none ρ _) (by simp) (by omega) (by omega) (by omega)) (by rw [hn59]; exact slo_zero _ _ _ _))) (all_cons (q_run (.slice na2 qs.length nc2) rfl rfl (wv_n rfl) rfl (fun _ _ hρ _ => r_move (hρ _ _ rfl))) (all_cons (q_run (.int .i64 ((o9 : Nat) : Int)) rfl rfl (wv_n rfl) rfl (fun _ _ hρ _ => r_move (hρ _ _ rfl))) (all_cons (q_run (.int .i64 ((o9 + 1 : Nat) : Int)) rfl rfl (wv_n rfl) rfl (fun _ _ hρ _ => r_as (r_add (hρ _ _ rfl) (hρ _ _ rfl)) (int_as ((wrap64 (by omega) (by omega)).trans (by omega))))) (all_cons (q_run (.slice a60 l60.length (nc2 - (o9 + 1))) rfl rfl (wv_n rfl) rfl (fun ρ _ hρ _ => r_as (r_sliceO sl43 sz3 (hρ _ _ rfl) (bd_none ρ _) (bd_none ρ _) (bd_some (n := o9 + 1) (hρ _ _ rfl)) (by simp) (by omega) (by omega) (by omega)) (by rw [hn60, ha60]))) (all_cons (q_run (.slice ia2 qs.length ic2) rfl rfl (wv_n rfl) rfl (fun _ _ hρ _ => r_move (hρ _ _ rfl))) (all_cons (q_run (.int .i64 ((o9 : Nat) : Int)) rfl rfl (wv_n rfl) rfl (fun _ _ hρ _ => r_move (hρ _ _ rfl))) (all_cons (q_run (.slice ia2 l61.length ic2) rfl rfl (wv_n rfl) rfl (fun ρ _ hρ _ => r_as (r_sliceO sl22 sz32 (hρ _ _ rfl) (bd_none ρ _) (bd_some (n := o9) (hρ _ _ rfl)) (bd_none ρ _) (by simp) (by omega) (by omega) (by omega)) (by rw [hn61]; exact slo_zero _ _ _ _))) (all_cons (q_run (.slice ia2 qs.length ic2) rfl rfl (wv_n rfl) rfl (fun _ _ hρ _ => r_move (hρ _ _ rfl))) (all_cons (q_run (.int .i64 ((o9 : Nat) : Int)) rfl rfl (wv_n rfl) rfl (fun _ _ hρ _ => r_move (hρ _ _ rfl))) (all_cons (q_run (.int .i64 ((o9 + 1 : Nat) : Int)) rfl rfl (wv_n rfl) rfl (fun _ _ hρ _ => r_as (r_add (hρ _ _ rfl) (hρ _ _ rfl)) (int_as ((wrap64 (by omega) (by omega)).trans (by omega))))) (all_cons (q_run (.slice a62 l62.length (ic2 - (o9 + 1))) rfl rfl (wv_n rfl) rfl (fun ρ _ hρ _ => r_as (r_sliceO sl22 sz32 (hρ _ _ rfl) (bd_none ρ _) (bd_none ρ _) (bd_some (n := o9 + 1) (hρ _ _ rfl)) (by simp) (by omega) (by omega) (by omega)) (by rw [hn62, ha62]))) all_nil))))))))))))))) (allM (all_cons ?_ all_nil))
              refine LOb_new 11 (.cells #[] 3) (fun B => .slice (some ⟨B, 0, none⟩) 0 0) (fun B => []) rfl (wv_n rfl) rfl rfl (fun _ _ _ _ => r_buildSlice (vs := []) (by kernel_rfl) rfl) (fun B => by kernel_rfl) ?_
              intro B79
              refine G_mem ([(11, .row (.slice (some ⟨B79, 0, none⟩) 0 0) 3 1 0 []), (1, .blk B1 (.cells #[.int .u64 d.t, .int .i64 d.s, .int .u64 d.q] 32)), (950, .row (.slice na2 qs.length nc2) 3 1 qs.length (qs.flatMap numc)), (951, .row (.slice ia2 qs.length ic2) 32 3 qs.length (qs.flatMap idc)), (12, .blk B78 (.cells #[] 32))]) (fun _ hm => MemOk.sub (hm.toRow (n := 0) (cap := 0) (s := 1) 11 rfl rfl (by omega) rfl _ rfl) (sub_cons rfl (sub_cons rfl (sub_cons rfl (sub_cons rfl (sub_cons rfl sub_nil)))))) ?_
              refine G_step [1, 2, 3, 5, 6, 7, 8, 11, 12, 13, 15, 16, 17, 18] 4 [] (by kernel_rfl) (allM (all_cons (q_run (.slice na2 qs.length nc2) rfl rfl (wv_n rfl) rfl (fun _ _ hρ _ => r_move (hρ _ _ rfl))) (all_cons (q_run (.int .i64 ((o9 : Nat) : Int)) rfl rfl (wv_n rfl) rfl (fun _ _ hρ _ => r_move (hρ _ _ rfl))) (all_cons (q_run (.slice na2 l59.length nc2) rfl rfl (wv_n rfl) rfl (fun ρ _ hρ _ => r_as (r_sliceO sl43 sz3 (hρ _ _ rfl) (bd_none ρ _) (bd_some (n := o9) (hρ _ _ rfl)) (bd_none ρ _) (by simp) (by omega) (by omega) (by omega)) (by rw [hn59]; exact slo_zero _ _ _ _))) (all_cons (q_run (.slice na2 qs.length nc2) rfl rfl (wv_n rfl) rfl (fun _ _ hρ _ => r_move (hρ _ _ rfl))) (all_cons (q_run (.int .i64 ((o9 : Nat) : Int)) rfl rfl (wv_n rfl) rfl (fun _ _ hρ _ => r_move (hρ _ _ rfl))) (all_cons (q_run (.int .i64 ((o9 + 1 : Nat) : Int)) rfl rfl (wv_n rfl) rfl (fun _ _ hρ _ => r_as (r_add (hρ _ _ rfl) (hρ _ _ rfl)) (int_as ((wrap64 (by omega) (by omega)).trans (by omega))))) (all_cons (q_run (.slice a60 l60.length (nc2 - (o9 + 1))) rfl rfl (wv_n rfl) rfl (fun ρ _ hρ _ => r_as (r_sliceO sl43 sz3 (hρ _ _ rfl) (bd_none ρ _) (bd_none ρ _) (bd_some (n := o9 + 1) (hρ _ _ rfl)) (by simp) (by omega) (by omega) (by omega)) (by rw [hn60, ha60]))) (all_cons (q_run (.slice ia2 qs.length ic2) rfl rfl (wv_n rfl) rfl (fun _ _ hρ _ => r_move (hρ _ _ rfl))) (all_cons (q_run (.int .i64 ((o9 : Nat) : Int)) rfl rfl (wv_n rfl) rfl (fun _ _ hρ _ => r_move (hρ _ _ rfl))) (all_cons (q_run (.slice ia2 l61.length ic2) rfl rfl (wv_n rfl) rfl (fun ρ _ hρ _ => r_as (r_sliceO sl22 sz32 (hρ _ _ rfl) (bd_none ρ _) (bd_some (n := o9) (hρ _ _ rfl)) (bd_none ρ _) (by simp) (by omega) (by omega) (by omega)) (by rw [hn61]; exact slo_zero _ _ _ _))) (all_cons (q_run (.slice ia2 qs.length ic2) rfl rfl (wv_n rfl) rfl (fun _ _ hρ _ => r_move (hρ _ _ rfl))) (all_cons (q_run (.int .i64 ((o9 : Nat) : Int)) rfl rfl (wv_n rfl) rfl (fun _ _ hρ _ => r_move (hρ _ _ rfl))) (all_cons (q_run (.int .i64 ((o9 + 1 : Nat) : Int)) rfl rfl (wv_n rfl) rfl (fun _ _ hρ _ => r_as (r_add (hρ _ _ rfl) (hρ _ _ rfl)) (int_as ((wrap64 (by omega) (by omega)).trans (by omega))))) (all_cons (q_run (.slice a62 l62.length (ic2 - (o9 + 1))) rfl rfl (wv_n rfl) rfl (fun ρ _ hρ _ => r_as (r_sliceO sl22 sz32 (hρ _ _ rfl) (bd_none ρ _) (bd_none ρ _) (bd_some (n := o9 + 1) (hρ _ _ rfl)) (by simp) (by omega) (by omega) (by omega)) (by rw [hn62, ha62]))) all_nil))))))))))))))) (allM (all_cons ?_ all_nil))
              refine LOb_append (n := 0) (m := l59.length) (xs := []) (news := (l59.flatMap numc)) (z := .int .i64 0) 11 (fun a cap => []) rfl (wv_n rfl) rfl rfl rfl sl43 sz3 by3 (by kernel_rfl) rfl rfl (.inl rfl) (fun _ hm => src_of numc_len (by have hs := SliceAt.front (l := qs) (SliceAt.own numc_len (hm.row 950 rfl) rfl rfl) (n := o9) (m := nc2) (by omega) (by omega) (by omega); rw [← hl59] at hs; exact hs)) (by first | (intro u hu; obtain ⟨x, _, hx⟩ := List.mem_flatMap.1 hu; first | exact numc_one x u hx | exact idc_one x u hx) | simp [Value.oneCell']) (by omega) (by omega) (fun a cap => by kernel_rfl) ?_
              intro a80 cap80
              refine G_step [5, 6, 7, 8, 11, 12, 13, 15, 16, 17, 18] 9 [] (by kernel_rfl) (allM (all_cons (q_run (.slice na2 qs.length nc2) rfl rfl (wv_n rfl) rfl (fun _ _ hρ _ => r_move (hρ _ _ rfl))) (all_cons (q_run (.int .i64 ((o9 : Nat) : Int)) rfl rfl (wv_n rfl) rfl (fun _ _ hρ _ => r_move (hρ _ _ rfl))) (all_cons (q_run (.int .i64 ((o9 + 1 : Nat) : Int)) rfl rfl (wv_n rfl) rfl (fun _ _ hρ _ => r_as (r_add (hρ _ _ rfl) (hρ _ _ rfl)) (int_as ((wrap64 (by omega) (by omega)).trans (by omega))))) (all_cons (q_run (.slice a60 l60.length (nc2 - (o9 + 1))) rfl rfl (wv_n rfl) rfl (fun ρ _ hρ _ => r_as (r_sliceO sl43 sz3 (hρ _ _ rfl) (bd_none ρ _) (bd_none ρ _) (bd_some (n := o9 + 1) (hρ _ _ rfl)) (by simp) (by omega) (by omega) (by omega)) (by rw [hn60, ha60]))) (all_cons (q_run (.slice ia2 qs.length ic2) rfl rfl (wv_n rfl) rfl (fun _ _ hρ _ => r_move (hρ _ _ rfl))) (all_cons (q_run (.int .i64 ((o9 : Nat) : Int)) rfl rfl (wv_n rfl) rfl (fun _ _ hρ _ => r_move (hρ _ _ rfl))) (all_cons (q_run (.slice ia2 l61.length ic2) rfl rfl (wv_n rfl) rfl (fun ρ _ hρ _ => r_as (r_sliceO sl22 sz32 (hρ _ _ rfl) (bd_none ρ _) (bd_some (n := o9) (hρ _ _ rfl)) (bd_none ρ _) (by simp) (by omega) (by omega) (by omega)) (by rw [hn61]; exact slo_zero _ _ _ _))) (all_cons (q_run (.slice ia2 qs.length ic2) rfl rfl (wv_n rfl) rfl (fun _ _ hρ _ => r_move (hρ _ _ rfl))) (all_cons (q_run (.int .i64 ((o9 : Nat) : Int)) rfl rfl (wv_n rfl) rfl (fun _ _ hρ _ => r_move (hρ _ _ rfl))) (all_cons (q_run (.int .i64 ((o9 + 1 : Nat) : Int)) rfl rfl (wv_n rfl) rfl (fun _ _ hρ _ => r_as (r_add (hρ _ _ rfl) (hρ _ _ rfl)) (int_as ((wrap64 (by omega) (by omega)).trans (by omega))))) (all_cons (q_run (.slice a62 l62.length (ic2 - (o9 + 1))) rfl rfl (wv_n rfl) rfl (fun ρ _ hρ _ => r_as (r_sliceO sl22 sz32 (hρ _ _ rfl) (bd_none ρ _) (bd_none ρ _) (bd_some (n := o9 + 1) (hρ _ _ rfl)) (by simp) (by omega) (by omega) (by omega)) (by rw [hn62, ha62]))) all_nil)))))))))))) (allM (all_cons ?_ all_nil))
              refine LOb_append (n := (0 + l59.length)) (m := l60.length) (xs := ([] ++ (l59.flatMap numc))) (news := (l60.flatMap numc)) (z := .int .i64 0) 11 (fun a cap => []) rfl (wv_n rfl) rfl rfl rfl sl43 sz3 by3 (by kernel_rfl) rfl rfl (.inl rfl) (fun _ hm => src_of numc_len (by have hs := SliceAt.part (l := qs) (SliceAt.own numc_len (hm.row 950 rfl) rfl rfl) (lo := o9 + 1) (hi := qs.length) (m := nc2) (by omega) (by omega) (by omega) (by omega); rw [← hl60, ← ha60] at hs; exact hs)) (by first | (intro u hu; obtain ⟨x, _, hx⟩ := List.mem_flatMap.1 hu; first | exact numc_one x u hx | exact idc_one x u hx) | simp [Value.oneCell']) (by omega) (by omega) (fun a cap => by kernel_rfl) ?_
              intro a81 cap81
              refine G_mem ([(12, .row (.slice (some ⟨B78, 0, none⟩) 0 0) 32 3 0 []), (11, .row (.slice a81 ((0 + l59.length) + l60.length) cap81) 3 1 ((0 + l59.length) + l60.length) (([] ++ (l59.flatMap numc)) ++ (l60.flatMap numc))), (1, .blk B1 (.cells #[.int .u64 d.t, .int .i64 d.s, .int .u64 d.q] 32)), (950, .row (.slice na2 qs.length nc2) 3 1 qs.length (qs.flatMap numc)), (951, .row (.slice ia2 qs.length ic2) 32 3 qs.length (qs.flatMap idc))]) (fun _ hm => MemOk.sub (hm.toRow (n := 0) (cap := 0) (s := 3) 12 rfl rfl (by omega) rfl _ rfl) (sub_cons rfl (sub_cons rfl (sub_cons rfl (sub_cons rfl (sub_cons rfl sub_nil)))))) ?_
              refine G_step [11, 12, 13, 15, 16, 17, 18] 14 [] (by kernel_rfl) (allM (all_cons (q_run (.slice ia2 qs.length ic2) rfl rfl (wv_n rfl) rfl (fun _ _ hρ _ => r_move (hρ _ _ rfl))) (all_cons (q_run (.int .i64 ((o9 : Nat) : Int)) rfl rfl (wv_n rfl) rfl (fun _ _ hρ _ => r_move (hρ _ _ rfl))) (all_cons (q_run (.slice ia2 l61.length ic2) rfl rfl (wv_n rfl) rfl (fun ρ _ hρ _ => r_as (r_sliceO sl22 sz32 (hρ _ _ rfl) (bd_none ρ _) (bd_some (n := o9) (hρ _ _ rfl)) (bd_none ρ _) (by simp) (by omega) (by omega) (by omega)) (by rw [hn61]; exact slo_zero _ _ _ _))) (all_cons (q_run (.slice ia2 qs.length ic2) rfl rfl (wv_n rfl) rfl (fun _ _ hρ _ => r_move (hρ _ _ rfl))) (all_cons (q_run (.int .i64 ((o9 : Nat) : Int)) rfl rfl (wv_n rfl) rfl (fun _ _ hρ _ => r_move (hρ _ _ rfl))) (all_cons (q_run (.int .i64 ((o9 + 1 : Nat) : Int)) rfl rfl (wv_n rfl) rfl (fun _ _ hρ _ => r_as (r_add (hρ _ _ rfl) (hρ _ _ rfl)) (int_as ((wrap64 (by omega) (by omega)).trans (by omega))))) (all_cons (q_run (.slice a62 l62.length (ic2 - (o9 + 1))) rfl rfl (wv_n rfl) rfl (fun ρ _ hρ _ => r_as (r_sliceO sl22 sz32 (hρ _ _ rfl) (bd_none ρ _) (bd_none ρ _) (bd_some (n := o9 + 1) (hρ _ _ rfl)) (by simp) (by omega) (by omega) (by omega)) (by rw [hn62, ha62]))) all_nil)))))))) (allM (all_cons ?_ all_nil))
              refine LOb_append (n := 0) (m := l61.length) (xs := []) (news := (l61.flatMap idc)) (z := .agg #[.int .u64 0, .int .i64 0, .int .u64 0]) 12 (fun a cap => []) rfl (wv_n rfl) rfl rfl rfl sl22 sz32 by32 (by kernel_rfl) rfl rfl (.inl rfl) (fun _ hm => src_of idc_len (by have hs := SliceAt.front (l := qs) (SliceAt.own idc_len (hm.row 951 rfl) rfl rfl) (n := o9) (m := ic2) (by omega) (by omega) (by omega); rw [← hl61] at hs; exact hs)) (by first | (intro u hu; obtain ⟨x, _, hx⟩ := List.mem_flatMap.1 hu; first | exact numc_one x u hx | exact idc_one x u hx) | simp [Value.oneCell']) (by omega) (by omega) (fun a cap => by kernel_rfl) ?_
              intro a82 cap82
              refine G_step [15, 16, 17, 18] 19 [] (by kernel_rfl) (allM (all_cons (q_run (.slice ia2 qs.length ic2) rfl rfl (wv_n rfl) rfl (fun _ _ hρ _ => r_move (hρ _ _ rfl))) (all_cons (q_run (.int .i64 ((o9 : Nat) : Int)) rfl rfl (wv_n rfl) rfl (fun _ _ hρ _ => r_move (hρ _ _ rfl))) (all_cons (q_run (.int .i64 ((o9 + 1 : Nat) : Int)) rfl rfl (wv_n rfl) rfl (fun _ _ hρ _ => r_as (r_add (hρ _ _ rfl) (hρ _ _ rfl)) (int_as ((wrap64 (by omega) (by omega)).trans (by omega))))) (all_cons (q_run (.slice a62 l62.length (ic2 - (o9 + 1))) rfl rfl (wv_n rfl) rfl (fun ρ _ hρ _ => r_as (r_sliceO sl22 sz32 (hρ _ _ rfl) (bd_none ρ _) (bd_none ρ _) (bd_some (n := o9 + 1) (hρ _ _ rfl)) (by simp) (by omega) (by omega) (by omega)) (by rw [hn62, ha62]))) all_nil))))) (allM (all_cons ?_ all_nil))
              refine LOb_append (n := (0 + l61.length)) (m := l62.length) (xs := ([] ++ (l61.flatMap idc))) (news := (l62.flatMap idc)) (z := .agg #[.int .u64 0, .int .i64 0, .int .u64 0]) 12 (fun a cap => [(20, .slice a81 ((0 + l59.length) + l60.length) cap81), (21, .slice a ((0 + l61.length) + l62.length) cap)]) rfl (wv_n rfl) rfl rfl rfl sl22 sz32 by32 (by kernel_rfl) rfl rfl (.inl rfl) (fun _ hm => src_of idc_len (by have hs := SliceAt.part (l := qs) (SliceAt.own idc_len (hm.row 951 rfl) rfl rfl) (lo := o9 + 1) (hi := qs.length) (m := ic2) (by omega) (by omega) (by omega) (by omega); rw [← hl62, ← ha62] at hs; exact hs)) (by first | (intro u hu; obtain ⟨x, _, hx⟩ := List.mem_flatMap.1 hu; first | exact numc_one x u hx | exact idc_one x u hx) | simp [Value.oneCell']) (by omega) (by omega) (fun a cap => by kernel_rfl) ?_
              intro a83 cap83
              exact G_lastQ [20, 21] [(4, .slice a81 ((0 + l59.length) + l60.length) cap81), (5, .slice a83 ((0 + l61.length) + l62.length) cap83)] (by kernel_rfl) (allM (all_cons (q_run (.slice a81 ((0 + l59.length) + l60.length) cap81) rfl rfl (wv_n rfl) rfl (fun _ _ hρ _ => r_assign (hρ _ _ rfl))) (all_cons (q_run (.slice a83 ((0 + l61.length) + l62.length) cap83) rfl rfl (wv_n rfl) rfl (fun _ _ hρ _ => r_assign (hρ _ _ rfl))) all_nil))) (end_new 20 rfl rfl (end_new 21 rfl rfl end_nil)) (fun a w hf hm => At_intro (a81, cap81, a83, cap83) trivial hf hm (sub_cons rfl (sub_cons rfl sub_nil)) (sub_cons rfl (sub_cons rfl (sub_cons rfl (sub_cons rfl (sub_cons rfl sub_nil))))))
          · skip
            obtain ⟨ax9, capx9, ax19, capx19⟩ := z
            show T _ _ _ [(4, .slice ax9 ((0 + l59.length) + l60.length) capx9), (5, .slice ax19 ((0 + l61.length) + l62.length) capx19)] [(1, .blk B1 (.cells #[.int .u64 d.t, .int .i64 d.s, .int .u64 d.q] 32)), (11, .row (.slice ax9 ((0 + l59.length) + l60.length) capx9) 3 1 ((0 + l59.length) + l60.length) (([] ++ (l59.flatMap numc)) ++ (l60.flatMap numc))), (12, .row (.slice ax19 ((0 + l61.length) + l62.length) capx19) 32 3 ((0 + l61.length) + l62.length) (([] ++ (l61.flatMap idc)) ++ (l62.flatMap idc))), (950, .row (.slice na2 qs.length nc2) 3 1 qs.length (qs.flatMap numc)), (951, .row (.slice ia2 qs.length ic2) 32 3 qs.length (qs.flatMap idc))]
            refine T_ret' ?_
            refine ret_of rfl (.tuple #[.slice ax9 ((0 + l59.length) + l60.length) capx9, .slice ax19 ((0 + l61.length) + l62.length) capx19]) (fun tmps w hk hm => res2 rfl (res_tmp (hk 4 _ rfl)) (res_tmp (hk 5 _ rfl))) (fun w hm => ?_)
            have hkm := kept_many hall (by omega) hoe
            have e1 : l59 ++ l60 = keptP l d := by rw [hl59, hl60, List.take_of_length_le (l := qs.drop (o9 + 1)) (by rw [List.length_drop]; exact Nat.le_refl _)]; exact hkm
            have n1 : (0 + l59.length) + l60.length = (keptP l d).length := by rw [← e1, List.length_append, Nat.zero_add]
            have x1 : ([] ++ l59.flatMap numc) ++ l60.flatMap numc = (keptP l d).flatMap numc := by rw [← e1, List.flatMap_append, List.nil_append]
            have e2 : l61 ++ l62 = keptP l d := by rw [hl61, hl62, List.take_of_length_le (l := qs.drop (o9 + 1)) (by rw [List.length_drop]; exact Nat.le_refl _)]; exact hkm
            have n2 : (0 + l61.length) + l62.length = (keptP l d).length := by rw [← e2, List.length_append, Nat.zero_add]
            have x2 : ([] ++ l61.flatMap idc) ++ l62.flatMap idc = (keptP l d).flatMap idc := by rw [← e2, List.flatMap_append, List.nil_append]
            rw [n1, n2, x1, x2] at hm
            exact ⟨_, _, _, _, by rw [n1, n2], hm.ext, newOk2 0 1 (hm.own 11 _ rfl) (hm.own 12 _ rfl) (hm.sep 11 12 _ _ rfl rfl (by decide))⟩
end Go.Proofs.Ytmihoejecpcmjaa
