/- Texts of this seat, merged: part 5. -/
import Derived.Test.YtcidgbjgeegepaaMg4
/- net and journal: First. Printed by a program of this seat's prover. -/
namespace Go.Proofs.Ytcidgbjgeegepaa
open Go Go.RowKit
set_option maxRecDepth 10000
theorem lk_fresh2 {A : Heap} {j : Nat} {b c : Res} (hf : lk A j = none) : ∀ k q, lk A k = some q → lk ((j, b) :: (j, c) :: A) k = some q := fun k q hk => by
  have hne : j ≠ k := fun e => by subst e; rw [hf] at hk; cases hk
  rwa [lk_cons_other _ _ hne, lk_cons_other _ _ hne]
/-- How many of the first k. -/
def cntN (φ : Nat → Bool) (k : Nat) : Nat := ((List.range k).filter φ).length
theorem cnt_t {φ : Nat → Bool} {k : Nat} (h : φ k = true) : cntN φ (k + 1) = cntN φ k + 1 := by
  unfold cntN; rw [List.range_succ, List.filter_append, List.length_append]; simp [h]
theorem cnt_f {φ : Nat → Bool} {k : Nat} (h : φ k = false) : cntN φ (k + 1) = cntN φ k := by
  unfold cntN; rw [List.range_succ, List.filter_append, List.length_append]; simp [h]
theorem cnt_at {φ : Nat → Bool} {n k : Nat} (hk : k < n) (h : φ k = true) : ((List.range n).filter φ)[cntN φ k]? = some k := by
  obtain ⟨j, rfl⟩ : ∃ j, n = k + (j + 1) := ⟨n - k - 1, by omega⟩
  unfold cntN
  rw [List.range_add, List.filter_append, List.getElem?_append_right (Nat.le_refl _), Nat.sub_self, List.range_succ_eq_map]
  simp [h]
/-- Is the i-th parcel to there? -/
def phiT (ps : List Pcl) (to : Int) (i : Nat) : Bool := decide ((ps[i]?).map Pcl.to = some to)
theorem phi_t {ps : List Pcl} {to : Int} {k : Nat} {p : Pcl} (hp : ps[k]? = some p) (h : p.to = to) : phiT ps to k = true := decide_eq_true (by rw [hp, ← h]; rfl)
theorem phi_f {ps : List Pcl} {to : Int} {k : Nat} {p : Pcl} (hp : ps[k]? = some p) (h : ¬ p.to = to) : phiT ps to k = false := decide_eq_false (by rw [hp]; exact fun e => h (Option.some.inj e))
/-- The places of parcels to there. -/
def toV (ps : List Pcl) (to : Int) : List Nat := (List.range ps.length).filter (phiT ps to)
def encI (x : Nat) : List Value := [.int .i64 (x : Int)]

theorem to_iter {ι : Type} (w₀ : World) (p' : Nat → ι → Prop) (LJ : Nat → ι → Heap) (T1 T2 : Nat) (ps : List Pcl) (a : Option Addr) (cap : Nat) (lost to : Int) (hv : SliceAt w₀ a cap 3 Pcl.cells ps) (hcap : cap ≤ Go.maxLen) (hfr : ∀ k i, lk (LJ k i) 1700 = none)
    (hT1 : ∀ k i w, MemOk w₀ (LJ k i) w → hp w T1 = some (.cells #[.slice a ps.length cap, .int .u64 lost] 27)) (hT2 : ∀ k i w, MemOk w₀ (LJ k i) w → hp w T2 = some (.cells #[.int .i64 to] 3)) :
    IterAt Try.prog w₀ 103 #[.pointer (some ⟨T1, 0, none⟩), .pointer (some ⟨T2, 0, none⟩)] encI (toV ps to) p' LJ := by
  intro l κ pX LX hY i₀ W₁ hp0 hm0
  have hvl := hv.1
  unfold Go.maxLen at hcap
  show Calls _ _ #[.func (.yield l) #[] #[], .pointer (some ⟨T1, 0, none⟩), .pointer (some ⟨T2, 0, none⟩)] _ _
  refine ht_of_T (l := [.func (.yield l) #[] #[], .pointer (some ⟨T1, 0, none⟩), .pointer (some ⟨T2, 0, none⟩)]) (L := LJ 0 i₀) 25 Try.func103 rfl rfl rfl ?_ W₁ hm0
  show T _ _ _ [(0, .func (.yield l) #[] #[]), (1, .pointer (some ⟨T1, 0, none⟩)), (2, .pointer (some ⟨T2, 0, none⟩))] (LJ 0 i₀)
  refine T_seq (T_region ?_)
  refine TL_q (.pointer (some ⟨T1, 0, none⟩)) (fun _ _ hρ _ => r_fieldAddr fl27_0 sz22 (hρ _ _ rfl)) rfl rfl rfl (w_n rfl) ?_
  refine TL_q (.slice a ps.length cap) (fun _ _ hρ hm => r_load ag22 (hρ _ _ rfl) (hT1 _ _ _ hm) rfl) rfl rfl rfl (w_n rfl) ?_
  refine TL_q (.int .i64 ((ps.length : Nat) : Int)) (fun _ _ hρ _ => r_len sl22 (hρ _ _ rfl)) rfl rfl rfl (w_n rfl) ?_
  refine TL_q (.int .i64 0) (fun _ _ hρ _ => r_move (hρ _ _ rfl)) rfl rfl rfl (w_n rfl) ?_
  refine TL_seq ?_
  refine T_block ?_
  refine T_loopE (ι := Nat × ι) (fun (z : Nat × ι) => match z with | (k, i) => k ≤ ps.length ∧ p' (cntN (phiT ps to) k) i) (fun (z : Nat × ι) => match z with | (k, i) => [(0, .func (.yield l) #[] #[]), (2, .pointer (some ⟨T2, 0, none⟩)), (7, .slice a ps.length cap), (8, .int .i64 ((ps.length : Nat) : Int)), (9, .int .i64 ((k : Nat) : Int))]) (fun (z : Nat × ι) => match z with | (k, i) => (LJ (cntN (phiT ps to) k) i)) (fun (z : Nat × ι) => match z with | (k, i) => ps.length - k) (0, i₀) ⟨Nat.zero_le _, hp0⟩ (sub_cons rfl (sub_cons rfl (sub_cons rfl (sub_cons rfl (sub_cons rfl sub_nil))))) rfl ?_
  rintro ⟨k, i⟩ hp
  obtain ⟨hk, hpi⟩ := hp
  show T _ _ _ [(0, .func (.yield l) #[] #[]), (2, .pointer (some ⟨T2, 0, none⟩)), (7, .slice a ps.length cap), (8, .int .i64 ((ps.length : Nat) : Int)), (9, .int .i64 ((k : Nat) : Int))] (LJ (cntN (phiT ps to) k) i)
  refine T_seq (T_region ?_)
  refine TL_q (.bool (decide (((k : Nat) : Int) < ((ps.length : Nat) : Int)))) (fun _ _ hρ _ => r_lss (hρ _ _ rfl) (hρ _ _ rfl)) rfl rfl rfl (w_n rfl) ?_
  refine TL_seq ?_
  refine T_seq ?_
  refine T_cond rfl (fun h1 => ?_) (fun h1 => ?_)
  · replace h1 := of_decide_eq_true h1
    refine T_skip' ?_
    refine p_seq ?_
    refine T_seq ?_
    refine T_block ?_
    obtain ⟨p, hp⟩ : ∃ x, ps[k]? = some x := ⟨_, List.getElem?_eq_getElem (by omega)⟩
    obtain ⟨b1, of1, cs1, T1, fz1, ha1, hq1, hr1⟩ := hv.open (i := k) (by omega)
    subst ha1
    refine T_seq (T_region ?_)
    refine TL_q (.int .i64 ((k : Nat) : Int)) (fun _ _ hρ _ => r_move (hρ _ _ rfl)) rfl rfl rfl (w_n rfl) ?_
    refine TL_q (.pointer (some ⟨b1, of1 + k * 3, none⟩)) (fun _ _ hρ _ => r_indexAddrS (i := k) sl22 sz36 (hρ _ _ rfl) (hρ _ _ rfl) (by omega)) rfl rfl rfl (w_n rfl) ?_
    refine TL_q (.agg #[.int .i64 p.to, .slice p.r.a p.r.l.length p.r.cap, .bool p.sp]) (fun _ _ hρ hm => r_loadRow (f := Pcl.cells) (u := p) ag36 sz36 (hρ _ _ rfl) (hm.old hq1) hr1 hp) rfl rfl rfl (w_n rfl) ?_
    refine TL_new 1700 (.cells #[.int .i64 0, .slice none 0 0, .bool false] 36) (fun B => .pointer (some ⟨B, 0, none⟩)) (fun _ _ _ _ => r_alloc (v := .agg #[.int .i64 0, .slice none 0 0, .bool false]) (by kernel_rfl) rfl) rfl rfl rfl (w_n rfl) ?_
    intro B2
    refine TL_q (.int .i64 ((k : Nat) : Int)) (fun _ _ hρ _ => r_assign (hρ _ _ rfl)) rfl rfl rfl (w_n rfl) ?_
    refine TL_store 1700 (.cells #[.int .i64 p.to, .slice p.r.a p.r.l.length p.r.cap, .bool p.sp] 36) rfl (fun _ _ hρ hm => r_store sz36 (hρ _ _ rfl) (hρ _ _ rfl) (hm.at 1700 rfl) rfl rfl rfl rfl) rfl rfl (w_n rfl) ?_
    refine TL_seq ?_
    by_cases hz : p.to = to
    · skip
      refine T_seq (T_region ?_)
      refine TL_q (.pointer (some ⟨B2, 0, none⟩)) (fun _ _ hρ _ => r_fieldAddr fl36_0 sz3 (hρ _ _ rfl)) rfl rfl rfl (w_n rfl) ?_
      refine TL_q (.int .i64 p.to) (fun _ _ hρ hm => r_load ag3 (hρ _ _ rfl) (hm.at 1700 rfl) rfl) rfl rfl rfl (w_n rfl) ?_
      refine TL_q (.int .i64 to) (fun _ _ hρ hm => r_load ag3 (hρ _ _ rfl) (hT2 _ _ _ (hm.of (lk_fresh2 (hfr _ _)))) rfl) rfl rfl rfl (w_n rfl) ?_
      refine TL_q (.bool true) (fun _ _ hρ _ => r_as (r_eql (hρ _ _ rfl) (hρ _ _ rfl)) (bool_as (decide_eq_true hz))) rfl rfl rfl (w_n rfl) ?_
      refine TL_q (.bool true) (fun _ _ hρ _ => r_move (hρ _ _ rfl)) rfl rfl rfl (w_n rfl) ?_
      refine TL_q (.func (.yield l) #[] #[]) (fun _ _ hρ _ => r_move (hρ _ _ rfl)) rfl rfl rfl (want_y 18 rfl rfl rfl) ?_
      refine TL_q (.int .i64 ((k : Nat) : Int)) (fun _ _ hρ _ => r_move (hρ _ _ rfl)) rfl rfl rfl (want_y 18 rfl rfl rfl) ?_
      refine TL_yieldB (fun i => p' (cntN (phiT ps to) k + 1) i) (fun i => LJ (cntN (phiT ps to) k + 1) i) pX LX rfl (fun _ _ hρ _ => r_yield (hρ _ _ rfl) ((cons2 (hρ _ _ rfl) rfl))) (fun W hm => hY (cntN (phiT ps to) k) k i W (cnt_at (by omega) (phi_t hp hz)) hpi (hm.of (lk_fresh2 (hfr _ _)))) rfl rfl rfl (want_y 18 rfl rfl rfl) ?_
      intro yx3 hyx3
      refine TL_q (.bool (!yx3.isLeft)) (fun _ _ hρ _ => r_not (b := yx3.isLeft) (hρ _ _ rfl)) rfl rfl rfl (want_y 18 rfl rfl rfl) ?_
      refine TL_q (.bool (!yx3.isLeft)) (fun _ _ hρ _ => r_pick_t (hρ _ _ rfl) (hρ _ _ rfl)) rfl rfl rfl (w_n rfl) ?_
      refine TL_seq ?_
      refine T_cond rfl (fun h2 => ?_) (fun h2 => ?_)
      · replace h2 := bnot_t h2
        obtain ⟨j, rfl⟩ := isR (by simpa using h2)
        refine T_ret' ?_
        refine p_blk_r ?_
        refine p_then_r ?_
        refine p_then_r ?_
        refine p_blk_r ?_
        refine ret_of rfl (.tuple #[]) (fun tmps w hk hm => results_none rfl _ _ _) (fun w hm => ?_)
        first
          | exact ⟨⟨_, rfl⟩, .inr ⟨j, hyx3, hm⟩⟩
          | (have hk8 : k = ps.length := (by omega); subst hk8; exact ⟨⟨_, rfl⟩, .inl ⟨i, hpi, hm⟩⟩)
      · replace h2 := bnot_f h2
        obtain ⟨i1, rfl⟩ := isL (by simpa using h2)
        refine T_skip' ?_
        refine p_blk_n ?_
        refine p_seq ?_
        refine T_region ?_
        refine TL_q (.int .i64 ((k + 1 : Nat) : Int)) (fun _ _ hρ _ => r_as (r_add (hρ _ _ rfl) (hρ _ _ rfl)) (int_as ((wrap64 (by omega) (by omega)).trans (by omega)))) rfl rfl rfl (w_n rfl) ?_
        refine TL_q (.int .i64 ((k + 1 : Nat) : Int)) (fun _ _ hρ _ => r_move (hρ _ _ rfl)) rfl rfl rfl (w_n rfl) ?_
        refine TL_nil ?_
        exact p_atE (k + 1, i1) ⟨⟨by omega, (cnt_t (phi_t hp hz)).symm ▸ hyx3⟩, by dsimp only; omega⟩ (sub_cons rfl (sub_cons rfl (sub_cons rfl (sub_cons rfl (sub_cons rfl sub_nil))))) (congrArg (fun m => LJ m i1) (cnt_t (phi_t hp hz)).symm)
    · skip
      refine T_seq (T_region ?_)
      refine TL_q (.pointer (some ⟨B2, 0, none⟩)) (fun _ _ hρ _ => r_fieldAddr fl36_0 sz3 (hρ _ _ rfl)) rfl rfl rfl (w_n rfl) ?_
      refine TL_q (.int .i64 p.to) (fun _ _ hρ hm => r_load ag3 (hρ _ _ rfl) (hm.at 1700 rfl) rfl) rfl rfl rfl (w_n rfl) ?_
      refine TL_q (.int .i64 to) (fun _ _ hρ hm => r_load ag3 (hρ _ _ rfl) (hT2 _ _ _ (hm.of (lk_fresh2 (hfr _ _)))) rfl) rfl rfl rfl (w_n rfl) ?_
      refine TL_q (.bool false) (fun _ _ hρ _ => r_as (r_eql (hρ _ _ rfl) (hρ _ _ rfl)) (bool_as (decide_eq_false hz))) rfl rfl rfl (w_n rfl) ?_
      refine TL_q (.bool false) (fun _ _ hρ _ => r_move (hρ _ _ rfl)) rfl rfl rfl (w_n rfl) ?_
      refine TL_no rfl rfl (want_n 18 rfl rfl rfl) ?_
      refine TL_no rfl rfl (want_n 18 rfl rfl rfl) ?_
      refine TL_no rfl rfl (want_n 18 rfl rfl rfl) ?_
      refine TL_no rfl rfl (want_n 18 rfl rfl rfl) ?_
      refine TL_q (.bool false) (fun _ _ hρ _ => r_pick_f (hρ _ _ rfl) (hρ _ _ rfl)) rfl rfl rfl (w_n rfl) ?_
      refine TL_seq ?_
      refine T_cond_f rfl ?_
      refine T_skip' ?_
      refine p_blk_n ?_
      refine p_seq ?_
      refine T_region ?_
      refine TL_q (.int .i64 ((k + 1 : Nat) : Int)) (fun _ _ hρ _ => r_as (r_add (hρ _ _ rfl) (hρ _ _ rfl)) (int_as ((wrap64 (by omega) (by omega)).trans (by omega)))) rfl rfl rfl (w_n rfl) ?_
      refine TL_q (.int .i64 ((k + 1 : Nat) : Int)) (fun _ _ hρ _ => r_move (hρ _ _ rfl)) rfl rfl rfl (w_n rfl) ?_
      refine TL_nil ?_
      refine p_mem (LJ (cntN (phiT ps to) k) i) (fun _ hm => hm.of (lk_fresh2 (hfr _ _))) ?_
      exact p_atE (k + 1, i) ⟨⟨by omega, (cnt_f (phi_f hp hz)).symm ▸ hpi⟩, by dsimp only; omega⟩ (sub_cons rfl (sub_cons rfl (sub_cons rfl (sub_cons rfl (sub_cons rfl sub_nil))))) (congrArg (fun m => LJ m i) (cnt_f (phi_f hp hz)).symm)
  · replace h1 := of_decide_eq_false h1
    refine T_exit' ?_
    refine p_then_x ?_
    refine p_then_x ?_
    refine p_blk_x ?_
    refine p_end ?_
    refine ret_of rfl (.tuple #[]) (fun tmps w hk hm => results_none rfl _ _ _) (fun w hm => ?_)
    first
      | exact ⟨⟨_, rfl⟩, .inr ⟨j, hyx3, hm⟩⟩
      | (have hk8 : k = ps.length := (by omega); subst hk8; exact ⟨⟨_, rfl⟩, .inl ⟨i, hpi, hm⟩⟩)

theorem to_c (a : Option Addr) (n cap : Nat) (lost to : Int) (w : World) : Calls Try.prog 68 #[.agg #[.slice a n cap, .int .u64 lost], .int .i64 to] w fun e w' => ∃ q1 q2, e = .returned (.func (.func 103) #[] #[.pointer (some ⟨q1, 0, none⟩), .pointer (some ⟨q2, 0, none⟩)]) ∧ Below w.heap.size w w' ∧ (Res.blk q1 (.cells #[.slice a n cap, .int .u64 lost] 27)).ok w.heap.size w' ∧ (Res.blk q2 (.cells #[.int .i64 to] 3)).ok w.heap.size w' ∧ ∀ b, (Res.blk q1 (.cells #[.slice a n cap, .int .u64 lost] 27)).foot b → ¬ (Res.blk q2 (.cells #[.int .i64 to] 3)).foot b := by
  refine calls_of_T (l := [.agg #[.slice a n cap, .int .u64 lost], .int .i64 to]) 6 Try.func68 rfl rfl rfl ?_
  show T _ _ _ [(0, .agg #[.slice a n cap, .int .u64 lost]), (1, .int .i64 to)] []
  refine T_seq (T_region ?_)
  refine TL_new 1 (.cells #[.slice a n cap, .int .u64 lost] 27) (fun B => .pointer (some ⟨B, 0, none⟩)) (fun _ _ hρ _ => r_box (hρ _ _ rfl) rfl) rfl rfl rfl (w_n rfl) ?_
  intro B1
  refine TL_new 2 (.cells #[.int .i64 to] 3) (fun B => .pointer (some ⟨B, 0, none⟩)) (fun _ _ hρ _ => r_box (hρ _ _ rfl) rfl) rfl rfl rfl (w_n rfl) ?_
  intro B2
  refine TL_q (.nilFunc) (fun _ _ hρ _ => r_assign (hρ _ _ rfl)) rfl rfl rfl (w_n rfl) ?_
  refine TL_seq ?_
  refine T_seq (T_region ?_)
  refine TL_q (.func (.func 103) #[] #[.pointer (some ⟨B1, 0, none⟩), .pointer (some ⟨B2, 0, none⟩)]) (fun _ _ hρ _ => r_makeFunc (by simp) (map_arr (cons2 (hρ _ _ rfl) (cons2 (hρ _ _ rfl) rfl)))) rfl rfl rfl (w_n rfl) ?_
  refine TL_q (.func (.func 103) #[] #[.pointer (some ⟨B1, 0, none⟩), .pointer (some ⟨B2, 0, none⟩)]) (fun _ _ hρ _ => r_assign (hρ _ _ rfl)) rfl rfl rfl (w_n rfl) ?_
  refine TL_seq ?_
  refine T_ret' ?_
  refine ret_of rfl (.func (.func 103) #[] #[.pointer (some ⟨B1, 0, none⟩), .pointer (some ⟨B2, 0, none⟩)]) (fun tmps w hk hm => res1 rfl (res_tmp (hk 4 _ rfl))) (fun w hm => ?_)
  exact ⟨B1, B2, rfl, hm.ext, hm.own 1 _ rfl, hm.own 2 _ rfl, hm.sep 1 2 _ _ rfl rfl (by decide)⟩

theorem first_none {l : List Nat} (h : l.length = 0) : l[0]? = none := by rw [List.eq_nil_of_length_eq_zero h]; rfl

theorem first_ok (ps : List Pcl) (a : Option Addr) (cap : Nat) (lost to : Int) (w : World) (hv : SliceAt w a cap 3 Pcl.cells ps) (hcap : cap ≤ Go.maxLen) (hb : PcsAt w ps) (hck : checkV (pvs ps) lost = true) : Calls Try.prog 17 #[.agg #[.slice a ps.length cap, .int .u64 lost], .int .i64 to] w fun e w' => e = .returned (.tuple #[.int .i64 (((toV ps to)[0]?.getD 0 : Nat) : Int), .bool ((toV ps to)[0]?).isSome]) ∧ Below w.heap.size w w' := by
  have hvl := hv.1
  unfold Go.maxLen at hcap
  refine calls_of_T (l := [.agg #[.slice a ps.length cap, .int .u64 lost], .int .i64 to]) 19 Try.func17 rfl rfl rfl ?_
  show T _ _ _ [(0, .agg #[.slice a ps.length cap, .int .u64 lost]), (1, .int .i64 to)] []
  refine T_seq (T_region ?_)
  refine TL_new 904 (.cells #[.slice a ps.length cap, .int .u64 lost] 27) (fun B => .pointer (some ⟨B, 0, none⟩)) (fun _ _ hρ _ => r_box (hρ _ _ rfl) rfl) rfl rfl rfl (w_n rfl) ?_
  intro B1
  refine TL_q (.int .i64 0) (fun _ _ hρ _ => r_assign (hρ _ _ rfl)) rfl rfl rfl (w_n rfl) ?_
  refine TL_q (.bool false) (fun _ _ hρ _ => r_assign (hρ _ _ rfl)) rfl rfl rfl (w_n rfl) ?_
  refine TL_seq ?_
  refine T_scope ?_
  refine T_seq ?_
  refine T_seq (T_region ?_)
  refine TL_q (.agg #[.slice a ps.length cap, .int .u64 lost]) (fun _ _ hρ hm => r_loadA ag27 sz27 (hρ _ _ rfl) (hm.at 904 rfl) rfl rfl) rfl rfl rfl (w_n rfl) ?_
  refine TL_call (.int .i64 0) (fun _ _ hρ _ => r_call (args := [.agg #[.slice a ps.length cap, .int .u64 lost]]) (enters_of Try.func31 (by kernel_rfl) rfl) (hρ _ _ rfl) ((cons2 (hρ _ _ rfl) rfl)) rfl) (fun w hm => (ncheck_c ps a cap lost w (hv.keep hm.ext) hcap (hb.keep hm.ext)).mono fun _ _ h => ⟨h.1.trans (congrArg Ending.returned (int_as (if_pos hck))), h.2⟩) rfl rfl rfl (w_n rfl) ?_
  refine TL_q (.bool false) (fun _ _ hρ _ => r_as (r_neq (hρ _ _ rfl) (hρ _ _ rfl)) (by rfl)) rfl rfl rfl (w_n rfl) ?_
  refine TL_seq ?_
  refine T_cond_f rfl ?_
  refine T_skip' ?_
  refine p_seq ?_
  refine T_seq (T_region ?_)
  refine TL_new 905 (.cells #[.int .i64 0] 3) (fun B => .pointer (some ⟨B, 0, none⟩)) (fun _ _ _ _ => r_alloc (v := .int .i64 0) (by kernel_rfl) rfl) rfl rfl rfl (w_n rfl) ?_
  intro B2
  refine TL_new 906 (.cells #[.bool false] 4) (fun B => .pointer (some ⟨B, 0, none⟩)) (fun _ _ _ _ => r_alloc (v := .bool false) (by kernel_rfl) rfl) rfl rfl rfl (w_n rfl) ?_
  intro B3
  refine TL_store 905 (.cells #[.int .i64 0] 3) rfl (fun _ _ hρ hm => r_store sz3 (hρ _ _ rfl) (hρ _ _ rfl) (hm.at 905 rfl) rfl rfl rfl rfl) rfl rfl (w_n rfl) ?_
  refine TL_store 906 (.cells #[.bool false] 4) rfl (fun _ _ hρ hm => r_store sz4 (hρ _ _ rfl) (hρ _ _ rfl) (hm.at 906 rfl) rfl rfl rfl rfl) rfl rfl (w_n rfl) ?_
  refine TL_seq ?_
  refine T_label ?_
  refine T_seq ?_
  refine T_seq (T_region ?_)
  refine TL_q (.agg #[.slice a ps.length cap, .int .u64 lost]) (fun _ _ hρ hm => r_loadA ag27 sz27 (hρ _ _ rfl) (hm.at 904 rfl) rfl rfl) rfl rfl rfl (w_n rfl) ?_
  refine TL_q (.int .i64 to) (fun _ _ hρ _ => r_move (hρ _ _ rfl)) rfl rfl rfl (w_n rfl) ?_
  refine TL_callN (fun (_ : Nat × Nat) => True) (fun (qa4, qb4) => .func (.func 103) #[] #[.pointer (some ⟨qa4, 0, none⟩), .pointer (some ⟨qb4, 0, none⟩)]) (fun (qa4, qb4) => [(907, .blk qa4 (.cells #[.slice a ps.length cap, .int .u64 lost] 27)), (908, .blk qb4 (.cells #[.int .i64 to] 3))]) (fun _ _ hρ _ => r_call (args := [.agg #[.slice a ps.length cap, .int .u64 lost], .int .i64 to]) (enters_of Try.func68 (by kernel_rfl) rfl) (hρ _ _ rfl) ((cons2 (hρ _ _ rfl) (cons2 (hρ _ _ rfl) rfl))) rfl) (fun w _ => (to_c a ps.length cap lost to w).mono fun e w' ⟨q1, q2, he, hb, r1, r2, hs⟩ => ⟨(q1, q2), trivial, he, hb, newOk2 907 908 r1 r2 hs⟩) rfl rfl rfl (w_n rfl) ?_
  rintro ⟨qa4, qb4⟩ -
  refine TL_seq ?_
  refine T_block ?_
  refine T_sub [(4, .int .i64 0), (5, .bool false), (6, .pointer (some ⟨B2, 0, none⟩)), (7, .pointer (some ⟨B3, 0, none⟩)), (14, .func (.func 103) #[] #[.pointer (some ⟨qa4, 0, none⟩), .pointer (some ⟨qb4, 0, none⟩)])] [(907, .blk qa4 (.cells #[.slice a ps.length cap, .int .u64 lost] 27)), (908, .blk qb4 (.cells #[.int .i64 to] 3)), (904, .blk B1 (.cells #[.slice a ps.length cap, .int .u64 lost] 27)), (905, .blk B2 (.cells #[.int .i64 0] 3)), (906, .blk B3 (.cells #[.bool false] 4))] (sub_cons rfl (sub_cons rfl (sub_cons rfl (sub_cons rfl (sub_cons rfl sub_nil))))) (sub_cons rfl (sub_cons rfl (sub_cons rfl (sub_cons rfl (sub_cons rfl sub_nil))))) ?_
  refine T_range (ι := Nat) (encs := encI) (xs := toV ps to) rfl rfl (enters_of Try.func103 (by kernel_rfl) rfl) (fun _ => rfl) rfl 801 802 rfl (fun (k : Nat) (i : Nat) => k = 0) (fun (k : Nat) (i : Nat) => [(907, .blk qa4 (.cells #[.slice a ps.length cap, .int .u64 lost] 27)), (908, .blk qb4 (.cells #[.int .i64 to] 3)), (904, .blk B1 (.cells #[.slice a ps.length cap, .int .u64 lost] 27)), (905, .blk B2 (.cells #[.int .i64 0] 3)), (906, .blk B3 (.cells #[.bool false] 4))]) (fun c (i : Nat) => c = .exit 0 ∧ (toV ps to)[0]? = some i) (fun (i : Nat) => [(907, .blk qa4 (.cells #[.slice a ps.length cap, .int .u64 lost] 27)), (908, .blk qb4 (.cells #[.int .i64 to] 3)), (904, .blk B1 (.cells #[.slice a ps.length cap, .int .u64 lost] 27)), (905, .blk B2 (.cells #[.int .i64 ((i : Nat) : Int)] 3)), (906, .blk B3 (.cells #[.bool true] 4))]) (fun x => [(4, .int .i64 0), (5, .bool false), (6, .pointer (some ⟨B2, 0, none⟩)), (7, .pointer (some ⟨B3, 0, none⟩)), (14, .func (.func 103) #[] #[.pointer (some ⟨qa4, 0, none⟩), .pointer (some ⟨qb4, 0, none⟩)]), (8, .int .i64 ((x : Nat) : Int))]) (fun D l rec => to_iter w (fun k (_ : Nat) => k = 0) _ qa4 qb4 ps a cap lost to hv hcap (fun _ _ => rfl) (fun _ _ w hm => hm.at 907 rfl) (fun _ _ w hm => hm.at 908 rfl)) (fun _ _ => ⟨rfl, rfl⟩) (fun _ => ⟨rfl, rfl⟩) 0 rfl (sub_cons rfl (sub_cons rfl (sub_cons rfl (sub_cons rfl (sub_cons rfl sub_nil))))) ?_ ?_ ?_ ?_
  · intro D1 l1 rec1 k x i hx1 hp1
    refine T_sub [(4, .int .i64 0), (5, .bool false), (6, .pointer (some ⟨B2, 0, none⟩)), (7, .pointer (some ⟨B3, 0, none⟩)), (14, .func (.func 103) #[] #[.pointer (some ⟨qa4, 0, none⟩), .pointer (some ⟨qb4, 0, none⟩)]), (15, .int .i64 ((x : Nat) : Int))] [(801, .blk D1 (.deferred (some []))), (802, .blk l1 (.loop rec1)), (907, .blk qa4 (.cells #[.slice a ps.length cap, .int .u64 lost] 27)), (908, .blk qb4 (.cells #[.int .i64 to] 3)), (904, .blk B1 (.cells #[.slice a ps.length cap, .int .u64 lost] 27)), (905, .blk B2 (.cells #[.int .i64 0] 3)), (906, .blk B3 (.cells #[.bool false] 4))] (sub_cons rfl (sub_cons rfl (sub_cons rfl (sub_cons rfl (sub_cons rfl (sub_cons rfl sub_nil)))))) (sub_cons rfl (sub_cons rfl (sub_cons rfl (sub_cons rfl (sub_cons rfl (sub_cons rfl (sub_cons rfl sub_nil))))))) ?_
    refine T_region ?_
    refine TL_q (.int .i64 ((x : Nat) : Int)) (fun _ _ hρ _ => r_assign (hρ _ _ rfl)) rfl rfl rfl (w_n rfl) ?_
    refine TL_nil ?_
    exact p_at () trivial (sub_cons rfl (sub_cons rfl (sub_cons rfl (sub_cons rfl (sub_cons rfl (sub_cons rfl sub_nil)))))) (sub_cons rfl (sub_cons rfl (sub_cons rfl (sub_cons rfl (sub_cons rfl (sub_cons rfl (sub_cons rfl sub_nil)))))))
  · intro D1 l1 rec1 k x i hx1 hp1
    show T _ _ _ [(4, .int .i64 0), (5, .bool false), (6, .pointer (some ⟨B2, 0, none⟩)), (7, .pointer (some ⟨B3, 0, none⟩)), (14, .func (.func 103) #[] #[.pointer (some ⟨qa4, 0, none⟩), .pointer (some ⟨qb4, 0, none⟩)]), (8, .int .i64 ((x : Nat) : Int))] [(801, .blk D1 (.deferred (some []))), (802, .blk l1 (.loop { rec1 with state := .busy })), (907, .blk qa4 (.cells #[.slice a ps.length cap, .int .u64 lost] 27)), (908, .blk qb4 (.cells #[.int .i64 to] 3)), (904, .blk B1 (.cells #[.slice a ps.length cap, .int .u64 lost] 27)), (905, .blk B2 (.cells #[.int .i64 0] 3)), (906, .blk B3 (.cells #[.bool false] 4))]
    subst hp1
    refine T_block ?_
    refine T_seq (T_region ?_)
    refine TL_q (.int .i64 ((x : Nat) : Int)) (fun _ _ hρ _ => r_move (hρ _ _ rfl)) rfl rfl rfl (w_n rfl) ?_
    refine TL_store 905 (.cells #[.int .i64 ((x : Nat) : Int)] 3) rfl (fun _ _ hρ hm => r_store sz3 (hρ _ _ rfl) (hρ _ _ rfl) (hm.at 905 rfl) rfl rfl rfl rfl) rfl rfl (w_n rfl) ?_
    refine TL_store 906 (.cells #[.bool true] 4) rfl (fun _ _ hρ hm => r_store sz4 (hρ _ _ rfl) (hρ _ _ rfl) (hm.at 906 rfl) rfl rfl rfl rfl) rfl rfl (w_n rfl) ?_
    refine TL_seq ?_
    refine T_exit' ?_
    refine p_blk_o rfl ?_
    exact p_round_x x ⟨rfl, hx1⟩ (sub_cons rfl (sub_cons rfl (sub_cons rfl (sub_cons rfl (sub_cons rfl (sub_cons rfl (sub_cons rfl sub_nil)))))))
  · intro D1 i hp1
    refine p_sub [(4, .int .i64 0), (5, .bool false), (6, .pointer (some ⟨B2, 0, none⟩)), (7, .pointer (some ⟨B3, 0, none⟩)), (14, .func (.func 103) #[] #[.pointer (some ⟨qa4, 0, none⟩), .pointer (some ⟨qb4, 0, none⟩)])] [(801, .blk D1 (.deferred (some []))), (907, .blk qa4 (.cells #[.slice a ps.length cap, .int .u64 lost] 27)), (908, .blk qb4 (.cells #[.int .i64 to] 3)), (904, .blk B1 (.cells #[.slice a ps.length cap, .int .u64 lost] 27)), (905, .blk B2 (.cells #[.int .i64 0] 3)), (906, .blk B3 (.cells #[.bool false] 4))] (sub_cons rfl (sub_cons rfl (sub_cons rfl (sub_cons rfl (sub_cons rfl sub_nil))))) (sub_cons rfl (sub_cons rfl (sub_cons rfl (sub_cons rfl (sub_cons rfl (sub_cons rfl sub_nil)))))) ?_
    refine p_blk_n ?_
    refine p_seq ?_
    refine T_seq (T_draw (V := [(0, .int .i64 0), (1, .bool false), (2, .int .i64 0), (3, .bool false)]) [0, 0, 1, 7] [[(6, none)], [(7, none)], [(17, some 0)], [(18, some 1)]] 0 mixed (by kernel_rfl) ?_)
    refine G_last [0, 1, 2, 3] [(4, .int .i64 0), (5, .bool false)] (by kernel_rfl) (allM (all_cons (q_run (.int .i64 0) rfl rfl (wv_n rfl) rfl (fun _ _ hρ hm => r_load ag3 (hρ _ _ rfl) (hm.at 905 rfl) rfl)) (all_cons (q_run (.bool false) rfl rfl (wv_n rfl) rfl (fun _ _ hρ hm => r_load ag4 (hρ _ _ rfl) (hm.at 906 rfl) rfl)) (all_cons (q_run (.int .i64 0) rfl rfl (wv_n rfl) rfl (fun _ _ hρ _ => r_assign (hρ _ _ rfl))) (all_cons (q_run (.bool false) rfl rfl (wv_n rfl) rfl (fun _ _ hρ _ => r_assign (hρ _ _ rfl))) all_nil))))) (end_new 2 rfl rfl (end_new 3 rfl rfl end_nil)) ?_
    refine T_ret' ?_
    refine p_ng_r ?_
    refine ret_of1 801 D1 rfl rfl (.tuple #[.int .i64 0, .bool false]) (fun tmps w hk hm => res2 rfl (res_tmp (hk 4 _ rfl)) (res_tmp (hk 5 _ rfl))) (fun w hm => ?_)
    exact ⟨by rw [first_none hp1]; rfl, hm.ext⟩
  · intro D1 c i hc
    obtain ⟨rfl, hi⟩ := hc
    show T _ _ _ [(4, .int .i64 0), (5, .bool false), (6, .pointer (some ⟨B2, 0, none⟩)), (7, .pointer (some ⟨B3, 0, none⟩)), (14, .func (.func 103) #[] #[.pointer (some ⟨qa4, 0, none⟩), .pointer (some ⟨qb4, 0, none⟩)])] [(801, .blk D1 (.deferred (some []))), (907, .blk qa4 (.cells #[.slice a ps.length cap, .int .u64 lost] 27)), (908, .blk qb4 (.cells #[.int .i64 to] 3)), (904, .blk B1 (.cells #[.slice a ps.length cap, .int .u64 lost] 27)), (905, .blk B2 (.cells #[.int .i64 ((i : Nat) : Int)] 3)), (906, .blk B3 (.cells #[.bool true] 4))]
    refine T_exit' ?_
    refine p_blk_x ?_
    refine p_seq ?_
    refine T_seq (T_draw (V := [(0, .int .i64 ((i : Nat) : Int)), (1, .bool true), (2, .int .i64 ((i : Nat) : Int)), (3, .bool true)]) [0, 0, 1, 7] [[(6, none)], [(7, none)], [(17, some 0)], [(18, some 1)]] 0 mixed (by kernel_rfl) ?_)
    refine G_last [0, 1, 2, 3] [(4, .int .i64 ((i : Nat) : Int)), (5, .bool true)] (by kernel_rfl) (allM (all_cons (q_run (.int .i64 ((i : Nat) : Int)) rfl rfl (wv_n rfl) rfl (fun _ _ hρ hm => r_load ag3 (hρ _ _ rfl) (hm.at 905 rfl) rfl)) (all_cons (q_run (.bool true) rfl rfl (wv_n rfl) rfl (fun _ _ hρ hm => r_load ag4 (hρ _ _ rfl) (hm.at 906 rfl) rfl)) (all_cons (q_run (.int .i64 ((i : Nat) : Int)) rfl rfl (wv_n rfl) rfl (fun _ _ hρ _ => r_assign (hρ _ _ rfl))) (all_cons (q_run (.bool true) rfl rfl (wv_n rfl) rfl (fun _ _ hρ _ => r_assign (hρ _ _ rfl))) all_nil))))) (end_new 2 rfl rfl (end_new 3 rfl rfl end_nil)) ?_
    refine T_ret' ?_
    refine p_ng_r ?_
    refine ret_of1 801 D1 rfl rfl (.tuple #[.int .i64 ((i : Nat) : Int), .bool true]) (fun tmps w hk hm => res2 rfl (res_tmp (hk 4 _ rfl)) (res_tmp (hk 5 _ rfl))) (fun w hm => ?_)
    exact ⟨by rw [hi]; rfl, hm.ext⟩

end Go.Proofs.Ytcidgbjgeegepaa
/- net and journal: wakes. Printed by a program of this seat's prover. -/
namespace Go.Proofs.Ytcidgbjgeegepaa
open Go Go.RowKit
set_option maxRecDepth 10000
/-- The nets of wakes. -/
def wk0 : NV := ([⟨0, [1#8, 2#8], false⟩, ⟨4, [3#8], false⟩], 0)
def wk1 : NV := (doV wk0 ⟨4, 0, 0, 1#32⟩).2.1
def wk2 : NV := (doV wk1 ⟨3, 0, 0, 0#32⟩).2.1
def wk3 : NV := (doV wk2 ⟨1, 2, 0, 0#32⟩).2.1
theorem chk_of {x : Hd × List (RowG By)} {n : NV} (h : x.1.nv = n) (hc : checkV n.1 n.2 = true) : checkV (pvs x.1.n.l) x.1.lost = true := by subst h; exact hc
theorem doe_of {x : Hd × List (RowG By)} {n : NV} {t : Trk} {e : Int} (h : x.1.nv = n) (hc : (doV n t).1 = e) : (doV (pvs x.1.n.l, x.1.lost) t).1 = e := by subst h; exact hc
theorem netis_of {x y : Hd × List (RowG By)} {n : NV} {t : Trk} (h : x.1.nv = n) (hk : NetIs (doV (pvs x.1.n.l, x.1.lost) t).2.1 y) : NetIs (doV n t).2.1 y := by subst h; exact hk
theorem told_of {x : Hd × List (RowG By)} {n : NV} {t : Trk} {q : Pcl} (h : x.1.nv = n) (hk : q.pv = toldV (doV (pvs x.1.n.l, x.1.lost) t).2.2) : q.pv = toldV (doV n t).2.2 := by subst h; exact hk
theorem net_len {x : Hd × List (RowG By)} {n : NV} {k : Nat} (h : x.1.nv = n) (hc : n.1.length = k) : x.1.n.l.length = k := by subst h; rw [← hc]; exact (pvs_len _).symm
theorem told_at {w : World} {bs : List (RowG By)} {q : Pcl} (h : poolH 5 1 byc bs w) (hq : q.r ∈ bs ∧ q.r.l.length ≤ 10000 ∨ q.r = ⟨none, 0, []⟩) : SliceAt w q.r.a q.r.cap 1 byc q.r.l :=
  hq.elim (fun h1 => poolAt byc_len h h1.1) fun e => by rw [e]; exact sliceNil w
theorem told_cap {w : World} {bs : List (RowG By)} {q : Pcl} (h : poolH 5 1 byc bs w) (hq : q.r ∈ bs ∧ q.r.l.length ≤ 10000 ∨ q.r = ⟨none, 0, []⟩) : q.r.cap ≤ Go.maxLen :=
  hq.elim (fun h1 => poolCap h h1.1) fun e => by rw [e]; decide
theorem toV_eq (ps : List Pcl) (to : Int) : toV ps to = (List.range (pvs ps).length).filter fun i => decide (((pvs ps)[i]?).map PV.to = some to) := by
  unfold toV phiT
  rw [pvs_len]
  congr 1
  funext i
  unfold pvs
  rw [List.getElem?_map]
  cases ps[i]? <;> rfl
theorem toV_of {x : Hd × List (RowG By)} {n : NV} {to : Int} {k : Nat} (h : x.1.nv = n) (hc : ((List.range n.1.length).filter fun i => decide ((n.1[i]?).map PV.to = some to))[0]? = some k) : (toV x.1.n.l to)[0]? = some k := by
  subst h; rw [toV_eq]; exact hc
theorem first_of {l : List Nat} {k : Nat} (h : l[0]? = some k) : Value.tuple #[.int .i64 ((l[0]?.getD 0 : Nat) : Int), .bool (l[0]?).isSome] = .tuple #[.int .i64 (k : Int), .bool true] := by rw [h]; rfl

set_option maxHeartbeats 1000000 in
theorem nwakes_c (w : World) : Calls Try.prog 11 #[] w fun e w' => e = .returned (.bool true) ∧ Below w.heap.size w w' := by
  refine calls_of_T (l := []) 137 Try.func11 rfl rfl rfl ?_
  show T _ _ _ [] []
  refine T_seq (T_region ?_)
  refine TL_q (.bool false) (fun _ _ hρ _ => r_assign (hρ _ _ rfl)) rfl rfl rfl (w_n rfl) ?_
  refine TL_seq ?_
  refine T_seq (T_region ?_)
  refine TL_call (.agg #[.slice none 0 0, .int .u64 0]) (fun _ _ hρ _ => r_call (args := []) (enters_of Try.func14 (by kernel_rfl) rfl) (hρ _ _ rfl) (by rfl) rfl) (fun w _ => nnew_c w) rfl rfl rfl (w_n rfl) ?_
  refine TL_new 1 (.cells #[.int .u8 1, .int .u8 2] 5) (fun B => .slice (some ⟨B, 0, none⟩) 2 2) (fun _ _ hρ _ => r_buildSlice (vs := [(0, .int .u8 1), (1, .int .u8 2)]) (by kernel_rfl) (cons2 (pair2 (hρ _ _ rfl)) (cons2 (pair2 (hρ _ _ rfl)) rfl))) rfl rfl rfl (w_n rfl) ?_
  intro B1
  refine TL_q (.agg #[.int .i64 0, .slice (some ⟨B1, 0, none⟩) 2 2, .bool false]) (fun _ _ hρ _ => r_build (vs := [(1, .slice (some ⟨B1, 0, none⟩) 2 2)]) (by kernel_rfl) (cons2 (pair2 (hρ _ _ rfl)) rfl)) rfl rfl rfl (w_n rfl) ?_
  refine TL_new 2 (.cells #[.int .u8 3] 5) (fun B => .slice (some ⟨B, 0, none⟩) 1 1) (fun _ _ hρ _ => r_buildSlice (vs := [(0, .int .u8 3)]) (by kernel_rfl) (cons2 (pair2 (hρ _ _ rfl)) rfl)) rfl rfl rfl (w_n rfl) ?_
  intro B2
  refine TL_q (.agg #[.int .i64 4, .slice (some ⟨B2, 0, none⟩) 1 1, .bool false]) (fun _ _ hρ _ => r_build (vs := [(0, .int .i64 4), (1, .slice (some ⟨B2, 0, none⟩) 1 1)]) (by kernel_rfl) (cons2 (pair2 (hρ _ _ rfl)) (cons2 (pair2 (hρ _ _ rfl)) rfl))) rfl rfl rfl (w_n rfl) ?_
  refine TL_new 3 (.cells #[.int .i64 0, .slice (some ⟨B1, 0, none⟩) 2 2, .bool false, .int .i64 4, .slice (some ⟨B2, 0, none⟩) 1 1, .bool false] 36) (fun B => .slice (some ⟨B, 0, none⟩) 2 2) (fun _ _ hρ _ => r_buildSlice (vs := [(0, .agg #[.int .i64 0, .slice (some ⟨B1, 0, none⟩) 2 2, .bool false]), (1, .agg #[.int .i64 4, .slice (some ⟨B2, 0, none⟩) 1 1, .bool false])]) (by kernel_rfl) (cons2 (pair2 (hρ _ _ rfl)) (cons2 (pair2 (hρ _ _ rfl)) rfl))) rfl rfl rfl (w_n rfl) ?_
  intro B3
  refine TL_callN (fun x : Hd × List (RowG By) => NetIs wk0 x) (fun (h4, bs4) => .tuple #[.agg #[.slice h4.n.a h4.n.l.length h4.n.cap, .int .u64 h4.lost], .int .i64 0]) (fun (h4, bs4) => [(4, .row (.slice h4.n.a h4.n.l.length h4.n.cap) 36 3 h4.n.l.length (h4.n.l.flatMap Pcl.cells)), (5, .pool 5 1 byc bs4)]) (fun _ _ hρ _ => r_call (args := [.agg #[.slice none 0 0, .int .u64 0], .slice (some ⟨B3, 0, none⟩) 2 2]) (enters_of Try.func13 (by kernel_rfl) rfl) (hρ _ _ rfl) ((cons2 (hρ _ _ rfl) (cons2 (hρ _ _ rfl) rfl))) rfl) (fun w hm => (send_ok [] none 0 0 ([⟨0, ⟨(some ⟨B1, 0, none⟩), 2, [1#8, 2#8]⟩, false⟩, ⟨4, ⟨(some ⟨B2, 0, none⟩), 1, [3#8]⟩, false⟩] : List Pcl) (some ⟨B3, 0, none⟩) 2 w (sliceNil w) (by decide) (pcsNil w) ⟨Nat.le_of_ble_eq_true rfl, (fun e => by cases e), .inr ⟨_, 0, _, _, _, rfl, (hm.at 3 rfl), row_of_take (fun _ => rfl) rfl⟩⟩ (Nat.le_of_ble_eq_true rfl) (List.forall_mem_cons.2 ⟨⟨⟨Nat.le_of_ble_eq_true rfl, (fun e => by cases e), .inr ⟨_, 0, _, _, _, rfl, (hm.at 1 rfl), row_of_take (fun _ => rfl) rfl⟩⟩, (Nat.le_of_ble_eq_true rfl), Nat.le_of_ble_eq_true rfl⟩, (List.forall_mem_cons.2 ⟨⟨⟨Nat.le_of_ble_eq_true rfl, (fun e => by cases e), .inr ⟨_, 0, _, _, _, rfl, (hm.at 2 rfl), row_of_take (fun _ => rfl) rfl⟩⟩, (Nat.le_of_ble_eq_true rfl), Nat.le_of_ble_eq_true rfl⟩, (fun _ h => nomatch h)⟩)⟩) (Int.le_refl _) rfl rfl).mono fun e w' ⟨⟨h, bs⟩, hk, he, hb, hn⟩ => ⟨(h, bs), hk, he, hb, newOk2 4 5 hn.row hn.pool hn.sep⟩) rfl rfl rfl (w_n rfl) ?_
  rintro ⟨h4, bs4⟩ hk4
  refine TL_q (.tuple #[.agg #[.slice h4.n.a h4.n.l.length h4.n.cap, .int .u64 h4.lost], .int .i64 0]) (fun _ _ hρ _ => r_move (hρ _ _ rfl)) rfl rfl rfl (w_n rfl) ?_
  refine TL_q (.agg #[.slice h4.n.a h4.n.l.length h4.n.cap, .int .u64 h4.lost]) (fun _ _ hρ _ => r_extract (hρ _ _ rfl) rfl) rfl rfl rfl (w_n rfl) ?_
  refine TL_q (.int .i64 0) (fun _ _ hρ _ => r_extract (hρ _ _ rfl) rfl) rfl rfl rfl (w_n rfl) ?_
  refine TL_new 6 (.cells #[.slice none 0 0, .int .u64 0] 27) (fun B => .pointer (some ⟨B, 0, none⟩)) (fun _ _ _ _ => r_alloc (v := .agg #[.slice none 0 0, .int .u64 0]) (by kernel_rfl) rfl) rfl rfl rfl (w_n rfl) ?_
  intro B5
  refine TL_store 6 (.cells #[.slice h4.n.a h4.n.l.length h4.n.cap, .int .u64 h4.lost] 27) rfl (fun _ _ hρ hm => r_store sz27 (hρ _ _ rfl) (hρ _ _ rfl) (hm.at 6 rfl) rfl rfl rfl rfl) rfl rfl (w_n rfl) ?_
  refine TL_q (.int .i64 0) (fun _ _ hρ _ => r_assign (hρ _ _ rfl)) rfl rfl rfl (w_n rfl) ?_
  refine TL_seq ?_
  refine T_seq (T_region ?_)
  refine TL_q (.agg #[.slice h4.n.a h4.n.l.length h4.n.cap, .int .u64 h4.lost]) (fun _ _ hρ hm => r_loadA ag27 sz27 (hρ _ _ rfl) (hm.at 6 rfl) rfl rfl) rfl rfl rfl (w_n rfl) ?_
  refine TL_call (.tuple #[.int .i64 1, .bool true]) (fun _ _ hρ _ => r_call (args := [.agg #[.slice h4.n.a h4.n.l.length h4.n.cap, .int .u64 h4.lost], .int .i64 4]) (enters_of Try.func17 (by kernel_rfl) rfl) (hρ _ _ rfl) ((cons2 (hρ _ _ rfl) (cons2 (hρ _ _ rfl) rfl))) rfl) (fun w hm => (first_ok h4.n.l h4.n.a h4.n.cap h4.lost 4 w (SliceAt.own Pcl.cells_len (hm.row 4 rfl) rfl rfl) (row_cap (hm.row 4 rfl)) (pcs_pool (hm.pool 5 rfl) hk4.ok.inN) (chk_of hk4.nv (by decide +kernel))).mono fun _ _ h => ⟨h.1.trans (congrArg Ending.returned (first_of (toV_of hk4.nv (by decide +kernel)))), h.2⟩) rfl rfl rfl (w_n rfl) ?_
  refine TL_q (.tuple #[.int .i64 1, .bool true]) (fun _ _ hρ _ => r_move (hρ _ _ rfl)) rfl rfl rfl (w_n rfl) ?_
  refine TL_q (.int .i64 1) (fun _ _ hρ _ => r_extract (hρ _ _ rfl) rfl) rfl rfl rfl (w_n rfl) ?_
  refine TL_q (.bool true) (fun _ _ hρ _ => r_extract (hρ _ _ rfl) rfl) rfl rfl rfl (w_n rfl) ?_
  refine TL_q (.int .i64 1) (fun _ _ hρ _ => r_assign (hρ _ _ rfl)) rfl rfl rfl (w_n rfl) ?_
  refine TL_q (.bool true) (fun _ _ hρ _ => r_assign (hρ _ _ rfl)) rfl rfl rfl (w_n rfl) ?_
  refine TL_seq ?_
  refine T_seq (T_region ?_)
  refine TL_q (.agg #[.slice h4.n.a h4.n.l.length h4.n.cap, .int .u64 h4.lost]) (fun _ _ hρ hm => r_loadA ag27 sz27 (hρ _ _ rfl) (hm.at 6 rfl) rfl rfl) rfl rfl rfl (w_n rfl) ?_
  refine TL_q (.agg #[.int .i64 4, .int .i64 0, .int .i64 0, .int .u32 1]) (fun _ _ hρ _ => r_build (vs := [(0, .int .i64 4), (3, .int .u32 1)]) (by kernel_rfl) (cons2 (pair2 (hρ _ _ rfl)) (cons2 (pair2 (hρ _ _ rfl)) rfl))) rfl rfl rfl (w_n rfl) ?_
  refine TL_callN (fun x : Hd × List (RowG By) × Pcl => NetIs wk1 (x.1, x.2.1) ∧ x.2.2.pv = toldV (doV wk0 ⟨4, 0, 0, 1#32⟩).2.2 ∧ (x.2.2.r ∈ x.2.1 ∧ x.2.2.r.l.length ≤ 10000 ∨ x.2.2.r = ⟨none, 0, []⟩)) (fun (h6, bs6, q6) => .tuple #[.agg #[.slice h6.n.a h6.n.l.length h6.n.cap, .int .u64 h6.lost], .agg #[.int .i64 q6.to, .slice q6.r.a q6.r.l.length q6.r.cap, .bool q6.sp], .int .i64 0]) (fun (h6, bs6, q6) => [(7, .row (.slice h6.n.a h6.n.l.length h6.n.cap) 36 3 h6.n.l.length (h6.n.l.flatMap Pcl.cells)), (8, .pool 5 1 byc bs6)]) (fun _ _ hρ _ => r_call (args := [.agg #[.slice h4.n.a h4.n.l.length h4.n.cap, .int .u64 h4.lost], .agg #[.int .i64 4, .int .i64 0, .int .i64 0, .int .u32 1]]) (enters_of Try.func23 (by kernel_rfl) rfl) (hρ _ _ rfl) ((cons2 (hρ _ _ rfl) (cons2 (hρ _ _ rfl) rfl))) rfl) (fun w hm => (do_ok h4.n.l h4.n.a h4.n.cap h4.lost 4 0 0 (1#32) w (SliceAt.own Pcl.cells_len (hm.row 4 rfl) rfl rfl) (row_cap (hm.row 4 rfl)) (pcs_pool (hm.pool 5 rfl) hk4.ok.inN) hk4.ok.lost0 (chk_of hk4.nv (by decide +kernel)) (doe_of hk4.nv (by decide +kernel))).mono fun e w' ⟨⟨h, bs⟩, q, hk, ht, hi, he, hb, hn⟩ => ⟨(h, bs, q), ⟨netis_of hk4.nv hk, told_of hk4.nv ht, hi⟩, he, hb, newOk2 7 8 hn.row hn.pool hn.sep⟩) rfl rfl rfl (w_n rfl) ?_
  rintro ⟨h6, bs6, q6⟩ ⟨hk6, hq6, hi6⟩
  refine TL_q (.tuple #[.agg #[.slice h6.n.a h6.n.l.length h6.n.cap, .int .u64 h6.lost], .agg #[.int .i64 q6.to, .slice q6.r.a q6.r.l.length q6.r.cap, .bool q6.sp], .int .i64 0]) (fun _ _ hρ _ => r_move (hρ _ _ rfl)) rfl rfl rfl (w_n rfl) ?_
  refine TL_q (.agg #[.slice h6.n.a h6.n.l.length h6.n.cap, .int .u64 h6.lost]) (fun _ _ hρ _ => r_extract (hρ _ _ rfl) rfl) rfl rfl rfl (w_n rfl) ?_
  refine TL_q (.agg #[.int .i64 q6.to, .slice q6.r.a q6.r.l.length q6.r.cap, .bool q6.sp]) (fun _ _ hρ _ => r_extract (hρ _ _ rfl) rfl) rfl rfl rfl (w_n rfl) ?_
  refine TL_q (.int .i64 0) (fun _ _ hρ _ => r_extract (hρ _ _ rfl) rfl) rfl rfl rfl (w_n rfl) ?_
  refine TL_new 9 (.cells #[.int .i64 0, .slice none 0 0, .bool false] 36) (fun B => .pointer (some ⟨B, 0, none⟩)) (fun _ _ _ _ => r_alloc (v := .agg #[.int .i64 0, .slice none 0 0, .bool false]) (by kernel_rfl) rfl) rfl rfl rfl (w_n rfl) ?_
  intro B7
  refine TL_store 6 (.cells #[.slice h6.n.a h6.n.l.length h6.n.cap, .int .u64 h6.lost] 27) rfl (fun _ _ hρ hm => r_store sz27 (hρ _ _ rfl) (hρ _ _ rfl) (hm.at 6 rfl) rfl rfl rfl rfl) rfl rfl (w_n rfl) ?_
  refine TL_store 9 (.cells #[.int .i64 q6.to, .slice q6.r.a q6.r.l.length q6.r.cap, .bool q6.sp] 36) rfl (fun _ _ hρ hm => r_store sz36 (hρ _ _ rfl) (hρ _ _ rfl) (hm.at 9 rfl) rfl rfl rfl rfl) rfl rfl (w_n rfl) ?_
  refine TL_q (.int .i64 0) (fun _ _ hρ _ => r_assign (hρ _ _ rfl)) rfl rfl rfl (w_n rfl) ?_
  refine TL_seq ?_
  refine T_seq (T_region ?_)
  refine TL_q (.agg #[.slice h6.n.a h6.n.l.length h6.n.cap, .int .u64 h6.lost]) (fun _ _ hρ hm => r_loadA ag27 sz27 (hρ _ _ rfl) (hm.at 6 rfl) rfl rfl) rfl rfl rfl (w_n rfl) ?_
  refine TL_q (.agg #[.int .i64 4, .int .i64 0, .int .i64 0, .int .u32 1]) (fun _ _ hρ _ => r_build (vs := [(0, .int .i64 4), (3, .int .u32 1)]) (by kernel_rfl) (cons2 (pair2 (hρ _ _ rfl)) (cons2 (pair2 (hρ _ _ rfl)) rfl))) rfl rfl rfl (w_n rfl) ?_
  refine TL_call (.tuple #[.agg #[.slice none 0 0, .int .u64 0], .agg #[.int .i64 0, .slice none 0 0, .bool false], .int .i64 5]) (fun _ _ hρ _ => r_call (args := [.agg #[.slice h6.n.a h6.n.l.length h6.n.cap, .int .u64 h6.lost], .agg #[.int .i64 4, .int .i64 0, .int .i64 0, .int .u32 1]]) (enters_of Try.func23 (by kernel_rfl) rfl) (hρ _ _ rfl) ((cons2 (hρ _ _ rfl) (cons2 (hρ _ _ rfl) rfl))) rfl) (fun w hm => do_err h6.n.l h6.n.a h6.n.cap h6.lost 4 0 0 (1#32) w (SliceAt.own Pcl.cells_len (hm.row 7 rfl) rfl rfl) (row_cap (hm.row 7 rfl)) (pcs_pool (hm.pool 8 rfl) hk6.ok.inN) 5 hk6.ok.lost0 (chk_of hk6.nv (by decide +kernel)) (doe_of hk6.nv (by decide +kernel)) (by decide)) rfl rfl rfl (w_n rfl) ?_
  refine TL_q (.tuple #[.agg #[.slice none 0 0, .int .u64 0], .agg #[.int .i64 0, .slice none 0 0, .bool false], .int .i64 5]) (fun _ _ hρ _ => r_move (hρ _ _ rfl)) rfl rfl rfl (w_n rfl) ?_
  refine TL_q (.agg #[.slice none 0 0, .int .u64 0]) (fun _ _ hρ _ => r_extract (hρ _ _ rfl) rfl) rfl rfl rfl (w_n rfl) ?_
  refine TL_q (.agg #[.int .i64 0, .slice none 0 0, .bool false]) (fun _ _ hρ _ => r_extract (hρ _ _ rfl) rfl) rfl rfl rfl (w_n rfl) ?_
  refine TL_q (.int .i64 5) (fun _ _ hρ _ => r_extract (hρ _ _ rfl) rfl) rfl rfl rfl (w_n rfl) ?_
  refine TL_new 10 (.cells #[.slice none 0 0, .int .u64 0] 27) (fun B => .pointer (some ⟨B, 0, none⟩)) (fun _ _ _ _ => r_alloc (v := .agg #[.slice none 0 0, .int .u64 0]) (by kernel_rfl) rfl) rfl rfl rfl (w_n rfl) ?_
  intro B8
  refine TL_new 11 (.cells #[.int .i64 0, .slice none 0 0, .bool false] 36) (fun B => .pointer (some ⟨B, 0, none⟩)) (fun _ _ _ _ => r_alloc (v := .agg #[.int .i64 0, .slice none 0 0, .bool false]) (by kernel_rfl) rfl) rfl rfl rfl (w_n rfl) ?_
  intro B9
  refine TL_store 10 (.cells #[.slice none 0 0, .int .u64 0] 27) rfl (fun _ _ hρ hm => r_store sz27 (hρ _ _ rfl) (hρ _ _ rfl) (hm.at 10 rfl) rfl rfl rfl rfl) rfl rfl (w_n rfl) ?_
  refine TL_store 11 (.cells #[.int .i64 0, .slice none 0 0, .bool false] 36) rfl (fun _ _ hρ hm => r_store sz36 (hρ _ _ rfl) (hρ _ _ rfl) (hm.at 11 rfl) rfl rfl rfl rfl) rfl rfl (w_n rfl) ?_
  refine TL_q (.int .i64 5) (fun _ _ hρ _ => r_assign (hρ _ _ rfl)) rfl rfl rfl (w_n rfl) ?_
  refine TL_seq ?_
  refine T_sub [(0, .bool false), (1, .pointer (some ⟨B5, 0, none⟩)), (2, .int .i64 0), (3, .int .i64 1), (4, .bool true), (6, .int .i64 0), (9, .int .i64 5)] [(7, .row (.slice h6.n.a h6.n.l.length h6.n.cap) 36 3 h6.n.l.length (h6.n.l.flatMap Pcl.cells)), (8, .pool 5 1 byc bs6), (4, .row (.slice h4.n.a h4.n.l.length h4.n.cap) 36 3 h4.n.l.length (h4.n.l.flatMap Pcl.cells)), (5, .pool 5 1 byc bs4), (1, .blk B1 (.cells #[.int .u8 1, .int .u8 2] 5)), (2, .blk B2 (.cells #[.int .u8 3] 5)), (3, .blk B3 (.cells #[.int .i64 0, .slice (some ⟨B1, 0, none⟩) 2 2, .bool false, .int .i64 4, .slice (some ⟨B2, 0, none⟩) 1 1, .bool false] 36)), (6, .blk B5 (.cells #[.slice h6.n.a h6.n.l.length h6.n.cap, .int .u64 h6.lost] 27)), (9, .blk B7 (.cells #[.int .i64 q6.to, .slice q6.r.a q6.r.l.length q6.r.cap, .bool q6.sp] 36)), (10, .blk B8 (.cells #[.slice none 0 0, .int .u64 0] 27)), (11, .blk B9 (.cells #[.int .i64 0, .slice none 0 0, .bool false] 36))] (sub_cons rfl (sub_cons rfl (sub_cons rfl (sub_cons rfl (sub_cons rfl (sub_cons rfl (sub_cons rfl sub_nil))))))) (sub_cons rfl (sub_cons rfl (sub_cons rfl (sub_cons rfl (sub_cons rfl (sub_cons rfl (sub_cons rfl (sub_cons rfl (sub_cons rfl (sub_cons rfl (sub_cons rfl sub_nil))))))))))) ?_
  refine T_seq (T_region ?_)
  refine TL_q (.agg #[.slice h6.n.a h6.n.l.length h6.n.cap, .int .u64 h6.lost]) (fun _ _ hρ hm => r_loadA ag27 sz27 (hρ _ _ rfl) (hm.at 6 rfl) rfl rfl) rfl rfl rfl (w_n rfl) ?_
  refine TL_q (.agg #[.int .i64 3, .int .i64 0, .int .i64 0, .int .u32 0]) (fun _ _ hρ _ => r_build (vs := [(0, .int .i64 3)]) (by kernel_rfl) (cons2 (pair2 (hρ _ _ rfl)) rfl)) rfl rfl rfl (w_n rfl) ?_
  refine TL_callN (fun x : Hd × List (RowG By) × Pcl => NetIs wk2 (x.1, x.2.1) ∧ x.2.2.pv = toldV (doV wk1 ⟨3, 0, 0, 0#32⟩).2.2 ∧ (x.2.2.r ∈ x.2.1 ∧ x.2.2.r.l.length ≤ 10000 ∨ x.2.2.r = ⟨none, 0, []⟩)) (fun (h10, bs10, q10) => .tuple #[.agg #[.slice h10.n.a h10.n.l.length h10.n.cap, .int .u64 h10.lost], .agg #[.int .i64 q10.to, .slice q10.r.a q10.r.l.length q10.r.cap, .bool q10.sp], .int .i64 0]) (fun (h10, bs10, q10) => [(12, .row (.slice h10.n.a h10.n.l.length h10.n.cap) 36 3 h10.n.l.length (h10.n.l.flatMap Pcl.cells)), (13, .pool 5 1 byc bs10)]) (fun _ _ hρ _ => r_call (args := [.agg #[.slice h6.n.a h6.n.l.length h6.n.cap, .int .u64 h6.lost], .agg #[.int .i64 3, .int .i64 0, .int .i64 0, .int .u32 0]]) (enters_of Try.func23 (by kernel_rfl) rfl) (hρ _ _ rfl) ((cons2 (hρ _ _ rfl) (cons2 (hρ _ _ rfl) rfl))) rfl) (fun w hm => (do_ok h6.n.l h6.n.a h6.n.cap h6.lost 3 0 0 (0#32) w (SliceAt.own Pcl.cells_len (hm.row 7 rfl) rfl rfl) (row_cap (hm.row 7 rfl)) (pcs_pool (hm.pool 8 rfl) hk6.ok.inN) hk6.ok.lost0 (chk_of hk6.nv (by decide +kernel)) (doe_of hk6.nv (by decide +kernel))).mono fun e w' ⟨⟨h, bs⟩, q, hk, ht, hi, he, hb, hn⟩ => ⟨(h, bs, q), ⟨netis_of hk6.nv hk, told_of hk6.nv ht, hi⟩, he, hb, newOk2 12 13 hn.row hn.pool hn.sep⟩) rfl rfl rfl (w_n rfl) ?_
  rintro ⟨h10, bs10, q10⟩ ⟨hk10, hq10, hi10⟩
  refine TL_q (.tuple #[.agg #[.slice h10.n.a h10.n.l.length h10.n.cap, .int .u64 h10.lost], .agg #[.int .i64 q10.to, .slice q10.r.a q10.r.l.length q10.r.cap, .bool q10.sp], .int .i64 0]) (fun _ _ hρ _ => r_move (hρ _ _ rfl)) rfl rfl rfl (w_n rfl) ?_
  refine TL_q (.agg #[.slice h10.n.a h10.n.l.length h10.n.cap, .int .u64 h10.lost]) (fun _ _ hρ _ => r_extract (hρ _ _ rfl) rfl) rfl rfl rfl (w_n rfl) ?_
  refine TL_q (.agg #[.int .i64 q10.to, .slice q10.r.a q10.r.l.length q10.r.cap, .bool q10.sp]) (fun _ _ hρ _ => r_extract (hρ _ _ rfl) rfl) rfl rfl rfl (w_n rfl) ?_
  refine TL_q (.int .i64 0) (fun _ _ hρ _ => r_extract (hρ _ _ rfl) rfl) rfl rfl rfl (w_n rfl) ?_
  refine TL_new 14 (.cells #[.int .i64 0, .slice none 0 0, .bool false] 36) (fun B => .pointer (some ⟨B, 0, none⟩)) (fun _ _ _ _ => r_alloc (v := .agg #[.int .i64 0, .slice none 0 0, .bool false]) (by kernel_rfl) rfl) rfl rfl rfl (w_n rfl) ?_
  intro B11
  refine TL_store 6 (.cells #[.slice h10.n.a h10.n.l.length h10.n.cap, .int .u64 h10.lost] 27) rfl (fun _ _ hρ hm => r_store sz27 (hρ _ _ rfl) (hρ _ _ rfl) (hm.at 6 rfl) rfl rfl rfl rfl) rfl rfl (w_n rfl) ?_
  refine TL_store 14 (.cells #[.int .i64 q10.to, .slice q10.r.a q10.r.l.length q10.r.cap, .bool q10.sp] 36) rfl (fun _ _ hρ hm => r_store sz36 (hρ _ _ rfl) (hρ _ _ rfl) (hm.at 14 rfl) rfl rfl rfl rfl) rfl rfl (w_n rfl) ?_
  refine TL_q (.int .i64 0) (fun _ _ hρ _ => r_assign (hρ _ _ rfl)) rfl rfl rfl (w_n rfl) ?_
  refine TL_seq ?_
  refine T_seq (T_region ?_)
  refine TL_q (.agg #[.slice h10.n.a h10.n.l.length h10.n.cap, .int .u64 h10.lost]) (fun _ _ hρ hm => r_loadA ag27 sz27 (hρ _ _ rfl) (hm.at 6 rfl) rfl rfl) rfl rfl rfl (w_n rfl) ?_
  refine TL_q (.agg #[.int .i64 1, .int .i64 2, .int .i64 0, .int .u32 0]) (fun _ _ hρ _ => r_build (vs := [(0, .int .i64 1), (1, .int .i64 2)]) (by kernel_rfl) (cons2 (pair2 (hρ _ _ rfl)) (cons2 (pair2 (hρ _ _ rfl)) rfl))) rfl rfl rfl (w_n rfl) ?_
  refine TL_callN (fun x : Hd × List (RowG By) × Pcl => NetIs wk3 (x.1, x.2.1) ∧ x.2.2.pv = toldV (doV wk2 ⟨1, 2, 0, 0#32⟩).2.2 ∧ (x.2.2.r ∈ x.2.1 ∧ x.2.2.r.l.length ≤ 10000 ∨ x.2.2.r = ⟨none, 0, []⟩)) (fun (h12, bs12, q12) => .tuple #[.agg #[.slice h12.n.a h12.n.l.length h12.n.cap, .int .u64 h12.lost], .agg #[.int .i64 q12.to, .slice q12.r.a q12.r.l.length q12.r.cap, .bool q12.sp], .int .i64 0]) (fun (h12, bs12, q12) => [(15, .row (.slice h12.n.a h12.n.l.length h12.n.cap) 36 3 h12.n.l.length (h12.n.l.flatMap Pcl.cells)), (16, .pool 5 1 byc bs12)]) (fun _ _ hρ _ => r_call (args := [.agg #[.slice h10.n.a h10.n.l.length h10.n.cap, .int .u64 h10.lost], .agg #[.int .i64 1, .int .i64 2, .int .i64 0, .int .u32 0]]) (enters_of Try.func23 (by kernel_rfl) rfl) (hρ _ _ rfl) ((cons2 (hρ _ _ rfl) (cons2 (hρ _ _ rfl) rfl))) rfl) (fun w hm => (do_ok h10.n.l h10.n.a h10.n.cap h10.lost 1 2 0 (0#32) w (SliceAt.own Pcl.cells_len (hm.row 12 rfl) rfl rfl) (row_cap (hm.row 12 rfl)) (pcs_pool (hm.pool 13 rfl) hk10.ok.inN) hk10.ok.lost0 (chk_of hk10.nv (by decide +kernel)) (doe_of hk10.nv (by decide +kernel))).mono fun e w' ⟨⟨h, bs⟩, q, hk, ht, hi, he, hb, hn⟩ => ⟨(h, bs, q), ⟨netis_of hk10.nv hk, told_of hk10.nv ht, hi⟩, he, hb, newOk2 15 16 hn.row hn.pool hn.sep⟩) rfl rfl rfl (w_n rfl) ?_
  rintro ⟨h12, bs12, q12⟩ ⟨hk12, hq12, hi12⟩
  refine TL_q (.tuple #[.agg #[.slice h12.n.a h12.n.l.length h12.n.cap, .int .u64 h12.lost], .agg #[.int .i64 q12.to, .slice q12.r.a q12.r.l.length q12.r.cap, .bool q12.sp], .int .i64 0]) (fun _ _ hρ _ => r_move (hρ _ _ rfl)) rfl rfl rfl (w_n rfl) ?_
  refine TL_q (.agg #[.slice h12.n.a h12.n.l.length h12.n.cap, .int .u64 h12.lost]) (fun _ _ hρ _ => r_extract (hρ _ _ rfl) rfl) rfl rfl rfl (w_n rfl) ?_
  refine TL_q (.agg #[.int .i64 q12.to, .slice q12.r.a q12.r.l.length q12.r.cap, .bool q12.sp]) (fun _ _ hρ _ => r_extract (hρ _ _ rfl) rfl) rfl rfl rfl (w_n rfl) ?_
  refine TL_q (.int .i64 0) (fun _ _ hρ _ => r_extract (hρ _ _ rfl) rfl) rfl rfl rfl (w_n rfl) ?_
  refine TL_new 17 (.cells #[.slice none 0 0, .int .u64 0] 27) (fun B => .pointer (some ⟨B, 0, none⟩)) (fun _ _ _ _ => r_alloc (v := .agg #[.slice none 0 0, .int .u64 0]) (by kernel_rfl) rfl) rfl rfl rfl (w_n rfl) ?_
  intro B13
  refine TL_new 18 (.cells #[.int .i64 0, .slice none 0 0, .bool false] 36) (fun B => .pointer (some ⟨B, 0, none⟩)) (fun _ _ _ _ => r_alloc (v := .agg #[.int .i64 0, .slice none 0 0, .bool false]) (by kernel_rfl) rfl) rfl rfl rfl (w_n rfl) ?_
  intro B14
  refine TL_store 17 (.cells #[.slice h12.n.a h12.n.l.length h12.n.cap, .int .u64 h12.lost] 27) rfl (fun _ _ hρ hm => r_store sz27 (hρ _ _ rfl) (hρ _ _ rfl) (hm.at 17 rfl) rfl rfl rfl rfl) rfl rfl (w_n rfl) ?_
  refine TL_store 18 (.cells #[.int .i64 q12.to, .slice q12.r.a q12.r.l.length q12.r.cap, .bool q12.sp] 36) rfl (fun _ _ hρ hm => r_store sz36 (hρ _ _ rfl) (hρ _ _ rfl) (hm.at 18 rfl) rfl rfl rfl rfl) rfl rfl (w_n rfl) ?_
  refine TL_q (.int .i64 0) (fun _ _ hρ _ => r_assign (hρ _ _ rfl)) rfl rfl rfl (w_n rfl) ?_
  refine TL_seq ?_
  refine T_seq (T_region ?_)
  refine TL_q (.agg #[.slice h10.n.a h10.n.l.length h10.n.cap, .int .u64 h10.lost]) (fun _ _ hρ hm => r_loadA ag27 sz27 (hρ _ _ rfl) (hm.at 6 rfl) rfl rfl) rfl rfl rfl (w_n rfl) ?_
  refine TL_q (.agg #[.int .i64 2, .int .i64 9, .int .i64 0, .int .u32 0]) (fun _ _ hρ _ => r_build (vs := [(0, .int .i64 2), (1, .int .i64 9)]) (by kernel_rfl) (cons2 (pair2 (hρ _ _ rfl)) (cons2 (pair2 (hρ _ _ rfl)) rfl))) rfl rfl rfl (w_n rfl) ?_
  refine TL_call (.tuple #[.agg #[.slice none 0 0, .int .u64 0], .agg #[.int .i64 0, .slice none 0 0, .bool false], .int .i64 4]) (fun _ _ hρ _ => r_call (args := [.agg #[.slice h10.n.a h10.n.l.length h10.n.cap, .int .u64 h10.lost], .agg #[.int .i64 2, .int .i64 9, .int .i64 0, .int .u32 0]]) (enters_of Try.func23 (by kernel_rfl) rfl) (hρ _ _ rfl) ((cons2 (hρ _ _ rfl) (cons2 (hρ _ _ rfl) rfl))) rfl) (fun w hm => do_err h10.n.l h10.n.a h10.n.cap h10.lost 2 9 0 (0#32) w (SliceAt.own Pcl.cells_len (hm.row 12 rfl) rfl rfl) (row_cap (hm.row 12 rfl)) (pcs_pool (hm.pool 13 rfl) hk10.ok.inN) 4 hk10.ok.lost0 (chk_of hk10.nv (by decide +kernel)) (doe_of hk10.nv (by decide +kernel)) (by decide)) rfl rfl rfl (w_n rfl) ?_
  refine TL_q (.tuple #[.agg #[.slice none 0 0, .int .u64 0], .agg #[.int .i64 0, .slice none 0 0, .bool false], .int .i64 4]) (fun _ _ hρ _ => r_move (hρ _ _ rfl)) rfl rfl rfl (w_n rfl) ?_
  refine TL_q (.agg #[.slice none 0 0, .int .u64 0]) (fun _ _ hρ _ => r_extract (hρ _ _ rfl) rfl) rfl rfl rfl (w_n rfl) ?_
  refine TL_q (.agg #[.int .i64 0, .slice none 0 0, .bool false]) (fun _ _ hρ _ => r_extract (hρ _ _ rfl) rfl) rfl rfl rfl (w_n rfl) ?_
  refine TL_q (.int .i64 4) (fun _ _ hρ _ => r_extract (hρ _ _ rfl) rfl) rfl rfl rfl (w_n rfl) ?_
  refine TL_new 19 (.cells #[.slice none 0 0, .int .u64 0] 27) (fun B => .pointer (some ⟨B, 0, none⟩)) (fun _ _ _ _ => r_alloc (v := .agg #[.slice none 0 0, .int .u64 0]) (by kernel_rfl) rfl) rfl rfl rfl (w_n rfl) ?_
  intro B15
  refine TL_new 20 (.cells #[.int .i64 0, .slice none 0 0, .bool false] 36) (fun B => .pointer (some ⟨B, 0, none⟩)) (fun _ _ _ _ => r_alloc (v := .agg #[.int .i64 0, .slice none 0 0, .bool false]) (by kernel_rfl) rfl) rfl rfl rfl (w_n rfl) ?_
  intro B16
  refine TL_store 19 (.cells #[.slice none 0 0, .int .u64 0] 27) rfl (fun _ _ hρ hm => r_store sz27 (hρ _ _ rfl) (hρ _ _ rfl) (hm.at 19 rfl) rfl rfl rfl rfl) rfl rfl (w_n rfl) ?_
  refine TL_store 20 (.cells #[.int .i64 0, .slice none 0 0, .bool false] 36) rfl (fun _ _ hρ hm => r_store sz36 (hρ _ _ rfl) (hρ _ _ rfl) (hm.at 20 rfl) rfl rfl rfl rfl) rfl rfl (w_n rfl) ?_
  refine TL_q (.int .i64 4) (fun _ _ hρ _ => r_assign (hρ _ _ rfl)) rfl rfl rfl (w_n rfl) ?_
  refine TL_seq ?_
  refine T_seq (T_region ?_)
  refine TL_q (.agg #[.slice h10.n.a h10.n.l.length h10.n.cap, .int .u64 h10.lost]) (fun _ _ hρ hm => r_loadA ag27 sz27 (hρ _ _ rfl) (hm.at 6 rfl) rfl rfl) rfl rfl rfl (w_n rfl) ?_
  refine TL_callN (fun x : Hd × List (RowG By) => Emptied h10.n.l h10.lost x) (fun (h17, bs17) => .tuple #[.agg #[.slice h17.n.a h17.n.l.length h17.n.cap, .int .u64 h17.lost], .slice h17.t.a h17.t.l.length h17.t.cap, .int .i64 0]) (fun (h17, bs17) => [(21, .row (.slice h17.n.a h17.n.l.length h17.n.cap) 36 3 h17.n.l.length (h17.n.l.flatMap Pcl.cells)), (22, .row (.slice h17.t.a h17.t.l.length h17.t.cap) 36 3 h17.t.l.length (h17.t.l.flatMap Pcl.cells)), (23, .pool 5 1 byc bs17)]) (fun _ _ hρ _ => r_call (args := [.agg #[.slice h10.n.a h10.n.l.length h10.n.cap, .int .u64 h10.lost]]) (enters_of Try.func15 (by kernel_rfl) rfl) (hρ _ _ rfl) ((cons2 (hρ _ _ rfl) rfl)) rfl) (fun w hm => (empty_ok h10.n.l h10.n.a h10.n.cap h10.lost w (SliceAt.own Pcl.cells_len (hm.row 12 rfl) rfl rfl) (row_cap (hm.row 12 rfl)) (pcs_pool (hm.pool 13 rfl) hk10.ok.inN) hk10.ok.lost0 (chk_of hk10.nv (by decide +kernel))).mono fun e w' ⟨x, hx, he, hb, r1, r2, r3, s1, s2, s3⟩ => ⟨x, hx, he, hb, newOk3 21 22 23 r1 r2 r3 s1 s2 s3⟩) rfl rfl rfl (w_n rfl) ?_
  rintro ⟨h17, bs17⟩ hem17
  refine TL_q (.tuple #[.agg #[.slice h17.n.a h17.n.l.length h17.n.cap, .int .u64 h17.lost], .slice h17.t.a h17.t.l.length h17.t.cap, .int .i64 0]) (fun _ _ hρ _ => r_move (hρ _ _ rfl)) rfl rfl rfl (w_n rfl) ?_
  refine TL_q (.agg #[.slice h17.n.a h17.n.l.length h17.n.cap, .int .u64 h17.lost]) (fun _ _ hρ _ => r_extract (hρ _ _ rfl) rfl) rfl rfl rfl (w_n rfl) ?_
  refine TL_q (.slice h17.t.a h17.t.l.length h17.t.cap) (fun _ _ hρ _ => r_extract (hρ _ _ rfl) rfl) rfl rfl rfl (w_n rfl) ?_
  refine TL_q (.int .i64 0) (fun _ _ hρ _ => r_extract (hρ _ _ rfl) rfl) rfl rfl rfl (w_n rfl) ?_
  refine TL_new 24 (.cells #[.slice none 0 0, .int .u64 0] 27) (fun B => .pointer (some ⟨B, 0, none⟩)) (fun _ _ _ _ => r_alloc (v := .agg #[.slice none 0 0, .int .u64 0]) (by kernel_rfl) rfl) rfl rfl rfl (w_n rfl) ?_
  intro B18
  refine TL_store 24 (.cells #[.slice h17.n.a h17.n.l.length h17.n.cap, .int .u64 h17.lost] 27) rfl (fun _ _ hρ hm => r_store sz27 (hρ _ _ rfl) (hρ _ _ rfl) (hm.at 24 rfl) rfl rfl rfl rfl) rfl rfl (w_n rfl) ?_
  refine TL_q (.slice h17.t.a h17.t.l.length h17.t.cap) (fun _ _ hρ _ => r_assign (hρ _ _ rfl)) rfl rfl rfl (w_n rfl) ?_
  refine TL_q (.int .i64 0) (fun _ _ hρ _ => r_assign (hρ _ _ rfl)) rfl rfl rfl (w_n rfl) ?_
  refine TL_seq ?_
  refine T_sub [(0, .bool false), (1, .pointer (some ⟨B5, 0, none⟩)), (2, .int .i64 0), (3, .int .i64 1), (4, .bool true), (6, .int .i64 0), (9, .int .i64 5), (11, .int .i64 0), (12, .pointer (some ⟨B13, 0, none⟩)), (13, .pointer (some ⟨B14, 0, none⟩)), (14, .int .i64 0), (17, .int .i64 4), (19, .slice h17.t.a h17.t.l.length h17.t.cap), (20, .int .i64 0)] [(21, .row (.slice h17.n.a h17.n.l.length h17.n.cap) 36 3 h17.n.l.length (h17.n.l.flatMap Pcl.cells)), (22, .row (.slice h17.t.a h17.t.l.length h17.t.cap) 36 3 h17.t.l.length (h17.t.l.flatMap Pcl.cells)), (23, .pool 5 1 byc bs17), (15, .row (.slice h12.n.a h12.n.l.length h12.n.cap) 36 3 h12.n.l.length (h12.n.l.flatMap Pcl.cells)), (16, .pool 5 1 byc bs12), (12, .row (.slice h10.n.a h10.n.l.length h10.n.cap) 36 3 h10.n.l.length (h10.n.l.flatMap Pcl.cells)), (13, .pool 5 1 byc bs10), (7, .row (.slice h6.n.a h6.n.l.length h6.n.cap) 36 3 h6.n.l.length (h6.n.l.flatMap Pcl.cells)), (8, .pool 5 1 byc bs6), (4, .row (.slice h4.n.a h4.n.l.length h4.n.cap) 36 3 h4.n.l.length (h4.n.l.flatMap Pcl.cells)), (5, .pool 5 1 byc bs4), (1, .blk B1 (.cells #[.int .u8 1, .int .u8 2] 5)), (2, .blk B2 (.cells #[.int .u8 3] 5)), (3, .blk B3 (.cells #[.int .i64 0, .slice (some ⟨B1, 0, none⟩) 2 2, .bool false, .int .i64 4, .slice (some ⟨B2, 0, none⟩) 1 1, .bool false] 36)), (9, .blk B7 (.cells #[.int .i64 q6.to, .slice q6.r.a q6.r.l.length q6.r.cap, .bool q6.sp] 36)), (10, .blk B8 (.cells #[.slice none 0 0, .int .u64 0] 27)), (11, .blk B9 (.cells #[.int .i64 0, .slice none 0 0, .bool false] 36)), (6, .blk B5 (.cells #[.slice h10.n.a h10.n.l.length h10.n.cap, .int .u64 h10.lost] 27)), (14, .blk B11 (.cells #[.int .i64 q10.to, .slice q10.r.a q10.r.l.length q10.r.cap, .bool q10.sp] 36)), (17, .blk B13 (.cells #[.slice h12.n.a h12.n.l.length h12.n.cap, .int .u64 h12.lost] 27)), (18, .blk B14 (.cells #[.int .i64 q12.to, .slice q12.r.a q12.r.l.length q12.r.cap, .bool q12.sp] 36)), (19, .blk B15 (.cells #[.slice none 0 0, .int .u64 0] 27)), (20, .blk B16 (.cells #[.int .i64 0, .slice none 0 0, .bool false] 36)), (24, .blk B18 (.cells #[.slice h17.n.a h17.n.l.length h17.n.cap, .int .u64 h17.lost] 27))] (sub_cons rfl (sub_cons rfl (sub_cons rfl (sub_cons rfl (sub_cons rfl (sub_cons rfl (sub_cons rfl (sub_cons rfl (sub_cons rfl (sub_cons rfl (sub_cons rfl (sub_cons rfl (sub_cons rfl (sub_cons rfl sub_nil)))))))))))))) (sub_cons rfl (sub_cons rfl (sub_cons rfl (sub_cons rfl (sub_cons rfl (sub_cons rfl (sub_cons rfl (sub_cons rfl (sub_cons rfl (sub_cons rfl (sub_cons rfl (sub_cons rfl (sub_cons rfl (sub_cons rfl (sub_cons rfl (sub_cons rfl (sub_cons rfl (sub_cons rfl (sub_cons rfl (sub_cons rfl (sub_cons rfl (sub_cons rfl (sub_cons rfl (sub_cons rfl sub_nil)))))))))))))))))))))))) ?_
  have hl3 : h10.n.l.length = 3 := net_len hk10.nv (show wk2.1.length = 3 from by decide +kernel)
  have hl2 : h12.n.l.length = 2 := net_len hk12.nv (show wk3.1.length = 2 from by decide +kernel)
  have hle : h17.t.l.length = 3 := by rw [← pvs_len, hem17.told, pvs_len]; exact hl3
  have hqv : q12.pv = ⟨0, [0#8, 2#8], true⟩ := hq12.trans (by decide +kernel)
  have hqs : q12.sp = true := congrArg PV.sp hqv
  have hqb : q12.r.l = [0#8, 2#8] := congrArg PV.l hqv
  have hqn : q12.r.l.length = 2 := by rw [hqb]; rfl
  refine T_seq (T_region ?_)
  refine TL_q (.int .i64 0) (fun _ _ hρ _ => r_move (hρ _ _ rfl)) rfl rfl rfl (w_n rfl) ?_
  refine TL_q (.bool true) (fun _ _ hρ _ => r_as (r_eql (hρ _ _ rfl) (hρ _ _ rfl)) (by rfl)) rfl rfl rfl (w_n rfl) ?_
  refine TL_q (.bool true) (fun _ _ hρ _ => r_move (hρ _ _ rfl)) rfl rfl rfl (w_n rfl) ?_
  refine TL_q (.int .i64 0) (fun _ _ hρ _ => r_move (hρ _ _ rfl)) rfl rfl rfl (want_y 79 rfl rfl rfl) ?_
  refine TL_q (.bool true) (fun _ _ hρ _ => r_as (r_eql (hρ _ _ rfl) (hρ _ _ rfl)) (by rfl)) rfl rfl rfl (want_y 79 rfl rfl rfl) ?_
  refine TL_q (.bool true) (fun _ _ hρ _ => r_pick_t (hρ _ _ rfl) (hρ _ _ rfl)) rfl rfl rfl (w_n rfl) ?_
  refine TL_q (.bool true) (fun _ _ hρ _ => r_move (hρ _ _ rfl)) rfl rfl rfl (w_n rfl) ?_
  refine TL_q (.int .i64 0) (fun _ _ hρ _ => r_move (hρ _ _ rfl)) rfl rfl rfl (want_y 83 rfl rfl rfl) ?_
  refine TL_q (.bool true) (fun _ _ hρ _ => r_as (r_eql (hρ _ _ rfl) (hρ _ _ rfl)) (by rfl)) rfl rfl rfl (want_y 83 rfl rfl rfl) ?_
  refine TL_q (.bool true) (fun _ _ hρ _ => r_pick_t (hρ _ _ rfl) (hρ _ _ rfl)) rfl rfl rfl (w_n rfl) ?_
  refine TL_q (.bool true) (fun _ _ hρ _ => r_move (hρ _ _ rfl)) rfl rfl rfl (w_n rfl) ?_
  refine TL_q (.int .i64 0) (fun _ _ hρ _ => r_move (hρ _ _ rfl)) rfl rfl rfl (want_y 87 rfl rfl rfl) ?_
  refine TL_q (.bool true) (fun _ _ hρ _ => r_as (r_eql (hρ _ _ rfl) (hρ _ _ rfl)) (by rfl)) rfl rfl rfl (want_y 87 rfl rfl rfl) ?_
  refine TL_q (.bool true) (fun _ _ hρ _ => r_pick_t (hρ _ _ rfl) (hρ _ _ rfl)) rfl rfl rfl (w_n rfl) ?_
  refine TL_q (.bool true) (fun _ _ hρ _ => r_move (hρ _ _ rfl)) rfl rfl rfl (w_n rfl) ?_
  refine TL_q (.int .i64 0) (fun _ _ hρ _ => r_move (hρ _ _ rfl)) rfl rfl rfl (want_y 91 rfl rfl rfl) ?_
  refine TL_q (.bool true) (fun _ _ hρ _ => r_as (r_eql (hρ _ _ rfl) (hρ _ _ rfl)) (by rfl)) rfl rfl rfl (want_y 91 rfl rfl rfl) ?_
  refine TL_q (.bool true) (fun _ _ hρ _ => r_pick_t (hρ _ _ rfl) (hρ _ _ rfl)) rfl rfl rfl (w_n rfl) ?_
  refine TL_q (.bool true) (fun _ _ hρ _ => r_move (hρ _ _ rfl)) rfl rfl rfl (w_n rfl) ?_
  refine TL_q (.int .i64 5) (fun _ _ hρ _ => r_move (hρ _ _ rfl)) rfl rfl rfl (want_y 95 rfl rfl rfl) ?_
  refine TL_q (.bool true) (fun _ _ hρ _ => r_as (r_eql (hρ _ _ rfl) (hρ _ _ rfl)) (by rfl)) rfl rfl rfl (want_y 95 rfl rfl rfl) ?_
  refine TL_q (.bool true) (fun _ _ hρ _ => r_pick_t (hρ _ _ rfl) (hρ _ _ rfl)) rfl rfl rfl (w_n rfl) ?_
  refine TL_q (.bool true) (fun _ _ hρ _ => r_move (hρ _ _ rfl)) rfl rfl rfl (w_n rfl) ?_
  refine TL_q (.int .i64 4) (fun _ _ hρ _ => r_move (hρ _ _ rfl)) rfl rfl rfl (want_y 99 rfl rfl rfl) ?_
  refine TL_q (.bool true) (fun _ _ hρ _ => r_as (r_eql (hρ _ _ rfl) (hρ _ _ rfl)) (by rfl)) rfl rfl rfl (want_y 99 rfl rfl rfl) ?_
  refine TL_q (.bool true) (fun _ _ hρ _ => r_pick_t (hρ _ _ rfl) (hρ _ _ rfl)) rfl rfl rfl (w_n rfl) ?_
  refine TL_q (.bool true) (fun _ _ hρ _ => r_move (hρ _ _ rfl)) rfl rfl rfl (w_n rfl) ?_
  refine TL_q (.int .i64 1) (fun _ _ hρ _ => r_move (hρ _ _ rfl)) rfl rfl rfl (want_y 103 rfl rfl rfl) ?_
  refine TL_q (.bool true) (fun _ _ hρ _ => r_as (r_eql (hρ _ _ rfl) (hρ _ _ rfl)) (by rfl)) rfl rfl rfl (want_y 103 rfl rfl rfl) ?_
  refine TL_q (.bool true) (fun _ _ hρ _ => r_pick_t (hρ _ _ rfl) (hρ _ _ rfl)) rfl rfl rfl (w_n rfl) ?_
  refine TL_q (.bool true) (fun _ _ hρ _ => r_move (hρ _ _ rfl)) rfl rfl rfl (w_n rfl) ?_
  refine TL_q (.bool true) (fun _ _ hρ _ => r_move (hρ _ _ rfl)) rfl rfl rfl (want_y 107 rfl rfl rfl) ?_
  refine TL_q (.bool true) (fun _ _ hρ _ => r_pick_t (hρ _ _ rfl) (hρ _ _ rfl)) rfl rfl rfl (w_n rfl) ?_
  refine TL_q (.bool true) (fun _ _ hρ _ => r_move (hρ _ _ rfl)) rfl rfl rfl (w_n rfl) ?_
  refine TL_q (.pointer (some ⟨B5, 0, none⟩)) (fun _ _ hρ _ => r_fieldAddr fl27_0 sz22 (hρ _ _ rfl)) rfl rfl rfl (want_y 110 rfl rfl rfl) ?_
  refine TL_q (.slice h10.n.a h10.n.l.length h10.n.cap) (fun _ _ hρ hm => r_load ag22 (hρ _ _ rfl) (hm.at 6 rfl) rfl) rfl rfl rfl (want_y 110 rfl rfl rfl) ?_
  refine TL_q (.int .i64 ((h10.n.l.length : Nat) : Int)) (fun _ _ hρ _ => r_len sl22 (hρ _ _ rfl)) rfl rfl rfl (want_y 110 rfl rfl rfl) ?_
  refine TL_q (.bool true) (fun _ _ hρ _ => r_as (r_eql (hρ _ _ rfl) (hρ _ _ rfl)) (bool_as (decide_eq_true (by omega)))) rfl rfl rfl (want_y 110 rfl rfl rfl) ?_
  refine TL_q (.bool true) (fun _ _ hρ _ => r_pick_t (hρ _ _ rfl) (hρ _ _ rfl)) rfl rfl rfl (w_n rfl) ?_
  refine TL_q (.bool true) (fun _ _ hρ _ => r_move (hρ _ _ rfl)) rfl rfl rfl (w_n rfl) ?_
  refine TL_q (.pointer (some ⟨B13, 0, none⟩)) (fun _ _ hρ _ => r_fieldAddr fl27_0 sz22 (hρ _ _ rfl)) rfl rfl rfl (want_y 116 rfl rfl rfl) ?_
  refine TL_q (.slice h12.n.a h12.n.l.length h12.n.cap) (fun _ _ hρ hm => r_load ag22 (hρ _ _ rfl) (hm.at 17 rfl) rfl) rfl rfl rfl (want_y 116 rfl rfl rfl) ?_
  refine TL_q (.int .i64 ((h12.n.l.length : Nat) : Int)) (fun _ _ hρ _ => r_len sl22 (hρ _ _ rfl)) rfl rfl rfl (want_y 116 rfl rfl rfl) ?_
  refine TL_q (.bool true) (fun _ _ hρ _ => r_as (r_eql (hρ _ _ rfl) (hρ _ _ rfl)) (bool_as (decide_eq_true (by omega)))) rfl rfl rfl (want_y 116 rfl rfl rfl) ?_
  refine TL_q (.bool true) (fun _ _ hρ _ => r_pick_t (hρ _ _ rfl) (hρ _ _ rfl)) rfl rfl rfl (w_n rfl) ?_
  refine TL_q (.bool true) (fun _ _ hρ _ => r_move (hρ _ _ rfl)) rfl rfl rfl (w_n rfl) ?_
  refine TL_q (.pointer (some ⟨B14, 2, none⟩)) (fun _ _ hρ _ => r_fieldAddr fl36_2 sz4 (hρ _ _ rfl)) rfl rfl rfl (want_y 122 rfl rfl rfl) ?_
  refine TL_q (.bool true) (fun _ _ hρ hm => r_as (r_load ag4 (hρ _ _ rfl) (hm.at 18 rfl) rfl) (bool_as hqs)) rfl rfl rfl (want_y 122 rfl rfl rfl) ?_
  refine TL_q (.bool true) (fun _ _ hρ _ => r_pick_t (hρ _ _ rfl) (hρ _ _ rfl)) rfl rfl rfl (w_n rfl) ?_
  refine TL_q (.bool true) (fun _ _ hρ _ => r_move (hρ _ _ rfl)) rfl rfl rfl (w_n rfl) ?_
  refine TL_q (.pointer (some ⟨B14, 1, none⟩)) (fun _ _ hρ _ => r_fieldAddr fl36_1 sz34 (hρ _ _ rfl)) rfl rfl rfl (want_y 126 rfl rfl rfl) ?_
  refine TL_q (.slice q12.r.a q12.r.l.length q12.r.cap) (fun _ _ hρ hm => r_load ag34 (hρ _ _ rfl) (hm.at 18 rfl) rfl) rfl rfl rfl (want_y 126 rfl rfl rfl) ?_
  refine TL_new 25 (.cells #[.int .u8 0, .int .u8 2] 5) (fun B => .slice (some ⟨B, 0, none⟩) 2 2) (fun _ _ hρ _ => r_buildSlice (vs := [(0, .int .u8 0), (1, .int .u8 2)]) (by kernel_rfl) (cons2 (pair2 (hρ _ _ rfl)) (cons2 (pair2 (hρ _ _ rfl)) rfl))) rfl rfl rfl (want_y 126 rfl rfl rfl) ?_
  intro B19
  refine TL_call (.bool true) (fun _ _ hρ _ => r_call (args := [.slice q12.r.a q12.r.l.length q12.r.cap, .slice (some ⟨B19, 0, none⟩) 2 2]) (enters_of Try.func16 (by kernel_rfl) rfl) (hρ _ _ rfl) ((cons2 (hρ _ _ rfl) (cons2 (hρ _ _ rfl) rfl))) rfl) (fun w hm => (equal_b q12.r.l [0#8, 2#8] q12.r.a (some ⟨B19, 0, none⟩) q12.r.cap 2 w (told_at (hm.pool 16 rfl) hi12) ⟨Nat.le_of_ble_eq_true rfl, (fun e => by cases e), .inr ⟨_, 0, _, _, _, rfl, (hm.at 25 rfl), row_of_take (fun _ => rfl) rfl⟩⟩ (by omega) (Nat.le_of_ble_eq_true rfl)).mono fun _ _ h => ⟨h.1.trans (congrArg Ending.returned (bool_as (decide_eq_true hqb))), h.2⟩) rfl rfl rfl (want_y 126 rfl rfl rfl) ?_
  refine TL_q (.bool true) (fun _ _ hρ _ => r_pick_t (hρ _ _ rfl) (hρ _ _ rfl)) rfl rfl rfl (w_n rfl) ?_
  refine TL_q (.bool true) (fun _ _ hρ _ => r_move (hρ _ _ rfl)) rfl rfl rfl (w_n rfl) ?_
  refine TL_q (.slice h17.t.a h17.t.l.length h17.t.cap) (fun _ _ hρ _ => r_move (hρ _ _ rfl)) rfl rfl rfl (want_y 132 rfl rfl rfl) ?_
  refine TL_q (.int .i64 ((h17.t.l.length : Nat) : Int)) (fun _ _ hρ _ => r_len sl22 (hρ _ _ rfl)) rfl rfl rfl (want_y 132 rfl rfl rfl) ?_
  refine TL_q (.bool true) (fun _ _ hρ _ => r_as (r_eql (hρ _ _ rfl) (hρ _ _ rfl)) (bool_as (decide_eq_true (by omega)))) rfl rfl rfl (want_y 132 rfl rfl rfl) ?_
  refine TL_q (.bool true) (fun _ _ hρ _ => r_pick_t (hρ _ _ rfl) (hρ _ _ rfl)) rfl rfl rfl (w_n rfl) ?_
  refine TL_q (.bool true) (fun _ _ hρ _ => r_assign (hρ _ _ rfl)) rfl rfl rfl (w_n rfl) ?_
  refine TL_seq ?_
  refine T_sub [(0, .bool true)] [(21, .row (.slice h17.n.a h17.n.l.length h17.n.cap) 36 3 h17.n.l.length (h17.n.l.flatMap Pcl.cells)), (22, .row (.slice h17.t.a h17.t.l.length h17.t.cap) 36 3 h17.t.l.length (h17.t.l.flatMap Pcl.cells)), (23, .pool 5 1 byc bs17), (15, .row (.slice h12.n.a h12.n.l.length h12.n.cap) 36 3 h12.n.l.length (h12.n.l.flatMap Pcl.cells)), (16, .pool 5 1 byc bs12), (12, .row (.slice h10.n.a h10.n.l.length h10.n.cap) 36 3 h10.n.l.length (h10.n.l.flatMap Pcl.cells)), (13, .pool 5 1 byc bs10), (7, .row (.slice h6.n.a h6.n.l.length h6.n.cap) 36 3 h6.n.l.length (h6.n.l.flatMap Pcl.cells)), (8, .pool 5 1 byc bs6), (4, .row (.slice h4.n.a h4.n.l.length h4.n.cap) 36 3 h4.n.l.length (h4.n.l.flatMap Pcl.cells)), (5, .pool 5 1 byc bs4), (1, .blk B1 (.cells #[.int .u8 1, .int .u8 2] 5)), (2, .blk B2 (.cells #[.int .u8 3] 5)), (3, .blk B3 (.cells #[.int .i64 0, .slice (some ⟨B1, 0, none⟩) 2 2, .bool false, .int .i64 4, .slice (some ⟨B2, 0, none⟩) 1 1, .bool false] 36)), (9, .blk B7 (.cells #[.int .i64 q6.to, .slice q6.r.a q6.r.l.length q6.r.cap, .bool q6.sp] 36)), (10, .blk B8 (.cells #[.slice none 0 0, .int .u64 0] 27)), (11, .blk B9 (.cells #[.int .i64 0, .slice none 0 0, .bool false] 36)), (6, .blk B5 (.cells #[.slice h10.n.a h10.n.l.length h10.n.cap, .int .u64 h10.lost] 27)), (14, .blk B11 (.cells #[.int .i64 q10.to, .slice q10.r.a q10.r.l.length q10.r.cap, .bool q10.sp] 36)), (17, .blk B13 (.cells #[.slice h12.n.a h12.n.l.length h12.n.cap, .int .u64 h12.lost] 27)), (18, .blk B14 (.cells #[.int .i64 q12.to, .slice q12.r.a q12.r.l.length q12.r.cap, .bool q12.sp] 36)), (19, .blk B15 (.cells #[.slice none 0 0, .int .u64 0] 27)), (20, .blk B16 (.cells #[.int .i64 0, .slice none 0 0, .bool false] 36)), (24, .blk B18 (.cells #[.slice h17.n.a h17.n.l.length h17.n.cap, .int .u64 h17.lost] 27)), (25, .blk B19 (.cells #[.int .u8 0, .int .u8 2] 5))] (sub_cons rfl sub_nil) (sub_cons rfl (sub_cons rfl (sub_cons rfl (sub_cons rfl (sub_cons rfl (sub_cons rfl (sub_cons rfl (sub_cons rfl (sub_cons rfl (sub_cons rfl (sub_cons rfl (sub_cons rfl (sub_cons rfl (sub_cons rfl (sub_cons rfl (sub_cons rfl (sub_cons rfl (sub_cons rfl (sub_cons rfl (sub_cons rfl (sub_cons rfl (sub_cons rfl (sub_cons rfl (sub_cons rfl (sub_cons rfl sub_nil))))))))))))))))))))))))) ?_
  refine T_ret' ?_
  refine ret_of rfl (.bool true) (fun tmps w hk hm => res1 rfl (res_tmp (hk 0 _ rfl))) (fun w hm => ?_)
  exact ⟨rfl, hm.ext⟩
end Go.Proofs.Ytcidgbjgeegepaa
/- Things of one's own taken together. Over any program. -/
namespace Go.Proofs.Ytcidgbjgeegepaa
open Go Go.RowKit
section
variable {α : Type} (K : ShK α)
end
section
variable {α : Type} {K : ShK α} {w₀ w w' : World} {L : Heap} {l : List α} {d : α}
end
/-- What is new in memory, told of two things. -/
theorem ShNew.same {α : Type} {K : ShK α} {w w' : World} {l : List α} {d : α} (hb : Below w.heap.size w w') (hd : K.At w d) (hl : d ∈ l) : ShNew K w w' l d := ⟨hb, K.below hd hb, fun b h => .inr ⟨d, hl, h⟩⟩
end Go.Proofs.Ytcidgbjgeegepaa
/- net and journal: NetTricks. Printed by a program of this seat's prover. -/
namespace Go.Proofs.Ytcidgbjgeegepaa
open Go Go.RowKit
set_option maxRecDepth 10000
instance trkDec : DecidableEq Trk := fun x y =>
  if h : x.kind = y.kind ∧ x.at' = y.at' ∧ x.bit = y.bit ∧ x.mask = y.mask then .isTrue (by cases x; cases y; obtain ⟨h1, h2, h3, h4⟩ := h; cases h1; cases h2; cases h3; cases h4; rfl) else .isFalse fun e => h (by subst e; exact ⟨rfl, rfl, rfl, rfl⟩)
theorem putV_check {n : NV} {p : PV} (h : checkV n.1 n.2 = true) (hp : mayV p = true) : checkV (putV n p).1 (putV n p).2 = true := by
  have hc := checkV_len h
  unfold putV
  split
  · rename_i h1
    unfold checkV
    rw [Bool.and_eq_true]
    refine ⟨decide_eq_true ⟨by rw [List.length_append, List.length_singleton]; omega, hc.2.1⟩, List.all_eq_true.2 fun q hq => ?_⟩
    rcases List.mem_append.1 hq with h2 | h2
    · exact hc.2.2 q h2
    · rw [List.mem_singleton.1 h2]; exact hp
  · split
    · rename_i h2
      unfold checkV
      rw [Bool.and_eq_true]
      exact ⟨decide_eq_true ⟨hc.1, by dsimp only; omega⟩, List.all_eq_true.2 hc.2.2⟩
    · exact h
end Go.Proofs.Ytcidgbjgeegepaa
/- net: what arrives (NetBrings, plainly). -/
namespace Go.Proofs.Ytcidgbjgeegepaa
open Go Go.RowKit
/-- That something is sent, or befalls a parcel. -/
structure Act where
  sends : Bool
  to : Int
  r : RowG By
  t : Trk
abbrev Act.cells (a : Act) : List Value := [.bool a.sends, .int .i64 a.to, .slice a.r.a a.r.l.length a.r.cap, .int .i64 a.t.kind, .int .i64 a.t.at', .int .i64 a.t.bit, .int .u32 (a.t.mask.toNat : Int)]
theorem Act.cells_len (a : Act) : a.cells.length = 7 := rfl
theorem u9_of (n : Int) : ∃ m : Int, 0 ≤ m ∧ m ≤ 8 ∧ (IntKind.wrap .u64 n).tmod 9 = m := by
  have h : 0 ≤ IntKind.wrap .u64 n := by
    have e : IntKind.u64.wrap n = n % 18446744073709551616 := by simp [IntKind.wrap, IntKind.signed, IntKind.bits]
    rw [e]; exact Int.emod_nonneg _ (by decide)
  refine ⟨_, ?_, ?_, rfl⟩
  · rw [Int.tmod_eq_emod_of_nonneg h]; omega
  · rw [Int.tmod_eq_emod_of_nonneg h]; omega
theorem sealP_len (l : List By) : (sealP l).length = l.length + 4 := by unfold sealP; rw [List.length_append, four_len]
/-- A parcel is what it says: it has bytes that were sent, or is spoilt. -/
def Fine (ss : List (List By)) (p : PV) : Prop := (p.sp = true → openP p.l = none) ∧ (¬ p.sp = true → p.l ∈ ss ∧ ∃ x, p.l = sealP x)
structure Brings (ss : List (List By)) (n : NV) (mo le : Int) : Prop where
  fine : ∀ p ∈ n.1, Fine ss p
  chk : checkV n.1 n.2 = true
  lost : 0 ≤ n.2
  num : (n.1.length : Int) + le + n.2 = mo
theorem brings_nil : Brings [] ([], 0) 0 0 := ⟨(fun _ h => nomatch h), rfl, Int.le_refl _, rfl⟩
theorem brings_eq {ss : List (List By)} {m n : NV} {mo le : Int} (h : m = n) (hb : Brings ss n mo le) : Brings ss m mo le := h ▸ hb
theorem Fine.more {ss : List (List By)} {p : PV} (h : Fine ss p) (x : List By) : Fine (ss ++ [x]) p := ⟨h.1, fun hs => ⟨List.mem_append_left _ (h.2 hs).1, (h.2 hs).2⟩⟩
theorem brings_put {ss : List (List By)} {n : NV} {mo le : Int} {p : PV} (hb : Brings ss n mo le) (hle : 0 ≤ le) (hmo : mo ≤ 1000) (hf : Fine ss p) (hm : mayV p = true) : Brings ss (putV n p) (mo + 1) le := by
  have hn := hb.num
  have hl := hb.lost
  refine ⟨fun q hq => ?_, putV_check hb.chk hm, ?_, ?_⟩
  · unfold putV at hq
    split at hq
    · rcases List.mem_append.1 hq with h1 | h1
      · exact hb.fine q h1
      · rw [List.mem_singleton.1 h1]; exact hf
    · split at hq
      · exact hb.fine q hq
      · exact hb.fine q hq
  · unfold putV
    split
    · exact hl
    · split
      · show 0 ≤ n.2 + 1; omega
      · exact hl
  · unfold putV
    split
    · show ((n.1 ++ [p]).length : Int) + le + n.2 = mo + 1
      rw [List.length_append, List.length_singleton]; omega
    · rw [if_pos (by unfold MT; omega)]
      show (n.1.length : Int) + le + (n.2 + 1) = mo + 1
      omega
theorem brings_send {ss : List (RowG By)} {n : NV} {mo le m : Int} {x : List By} {a : Option Addr} {c : Nat} (hb : Brings (ss.map RowG.l) n mo le) (hle : 0 ≤ le) (hmo : mo ≤ 1000) (h0 : 0 ≤ m) (h8 : m ≤ 8) (hx : x.length ≤ 40) : Brings ((ss ++ [(⟨a, c, sealP x⟩ : RowG By)]).map RowG.l) (putsV n [⟨m, sealP x, false⟩]) (mo + 1) le := by
  rw [List.map_append]
  refine brings_put (p := ⟨m, sealP x, false⟩) ⟨fun p hp => (hb.fine p hp).more _, hb.chk, hb.lost, hb.num⟩ hle hmo ⟨(fun h => by cases h), fun _ => ⟨List.mem_append_right _ (List.mem_singleton.2 rfl), x, rfl⟩⟩ (decide_eq_true ⟨h0, h8, ?_⟩)
  dsimp only
  rw [sealP_len]; omega
theorem doV_inv {n : NV} {t : Trk} (h : (doV n t).1 = 0) : ∃ p, n.1[t.at'.toNat]? = some p ∧ (t.kind = 1 ∧ (doV n t).2 = ((n.1.eraseIdx t.at'.toNat, n.2), [p]) ∨ t.kind = 2 ∧ (doV n t).2 = ((n.1.eraseIdx t.at'.toNat, n.2), []) ∨ t.kind = 3 ∧ (doV n t).2 = (putV n p, []) ∨ t.kind = 4 ∧ ¬ p.sp = true ∧ ∃ b, spoilI p.l t.bit t.mask = some b ∧ (doV n t).2 = ((n.1.set t.at'.toNat ⟨p.to, b, true⟩, n.2), [])) := by
  revert h
  unfold doV
  split
  · exact fun h => nomatch h
  · rename_i h1
    split
    · split
      · exact fun h => nomatch h
      · rename_i p hp
        split
        · rename_i e; exact fun _ => ⟨p, hp, .inl ⟨e, rfl⟩⟩
        · split
          · rename_i e; exact fun _ => ⟨p, hp, .inr (.inl ⟨e, rfl⟩)⟩
          · split
            · rename_i e; exact fun _ => ⟨p, hp, .inr (.inr (.inl ⟨e, rfl⟩))⟩
            · split
              · exact fun h => nomatch h
              · rename_i e
                split
                · exact fun h => nomatch h
                · rename_i b hb; exact fun _ => ⟨p, hp, .inr (.inr (.inr ⟨by omega, e, b, hb, rfl⟩))⟩
    · exact fun h => nomatch h
theorem erase_num {n : NV} {i : Nat} {p : PV} (h : n.1[i]? = some p) : ((n.1.eraseIdx i).length : Int) = n.1.length - 1 := by
  have hi := (List.getElem?_eq_some_iff.1 h).1
  rw [List.length_eraseIdx_of_lt hi]; omega
theorem brings_erase {ss : List (List By)} {n : NV} {mo le : Int} {i : Nat} {p : PV} (hb : Brings ss n mo le) (h : n.1[i]? = some p) : Brings ss (n.1.eraseIdx i, n.2) mo (le + 1) := by
  have hn := hb.num
  have hc := checkV_len hb.chk
  refine ⟨fun q hq => hb.fine q (List.mem_of_mem_eraseIdx hq), ?_, hb.lost, ?_⟩
  · unfold checkV
    rw [Bool.and_eq_true]
    exact ⟨decide_eq_true ⟨Nat.le_trans (List.length_eraseIdx_le _ _) hc.1, hc.2.1⟩, List.all_eq_true.2 fun q hq => hc.2.2 q (List.mem_of_mem_eraseIdx hq)⟩
  · dsimp only
    rw [erase_num h]; omega
theorem brings_take {ss : List (List By)} {n : NV} {mo le : Int} {t : Trk} (hb : Brings ss n mo le) (hz : (doV n t).1 = 0) (hk : t.kind = 1 ∨ t.kind = 2) : Brings ss (doV n t).2.1 mo (le + 1) := by
  obtain ⟨p, hp, h⟩ := doV_inv hz
  rcases h with ⟨_, e⟩ | ⟨_, e⟩ | ⟨e, _⟩ | ⟨e, _⟩
  · rw [e]; exact brings_erase hb hp
  · rw [e]; exact brings_erase hb hp
  · omega
  · omega
theorem brings_told {ss : List (List By)} {n : NV} {mo le : Int} {t : Trk} (hb : Brings ss n mo le) (hz : (doV n t).1 = 0) (hk : t.kind = 1) : Fine ss (toldV (doV n t).2.2) := by
  obtain ⟨p, hp, h⟩ := doV_inv hz
  rcases h with ⟨_, e⟩ | ⟨e, _⟩ | ⟨e, _⟩ | ⟨e, _⟩
  · rw [e]; exact hb.fine p (List.mem_of_getElem? hp)
  · omega
  · omega
  · omega
theorem brings_twice {ss : List (List By)} {n : NV} {mo le : Int} {t : Trk} (hb : Brings ss n mo le) (hle : 0 ≤ le) (hmo : mo ≤ 1000) (hz : (doV n t).1 = 0) (hk : t.kind = 3) : Brings ss (doV n t).2.1 (mo + 1) le := by
  obtain ⟨p, hp, h⟩ := doV_inv hz
  have hm := List.mem_of_getElem? hp
  rcases h with ⟨e, _⟩ | ⟨e, _⟩ | ⟨_, e⟩ | ⟨e, _⟩
  · omega
  · omega
  · rw [e]; exact brings_put hb hle hmo (hb.fine p hm) ((checkV_len hb.chk).2.2 p hm)
  · omega
theorem brings_spoil {ss : List (List By)} {n : NV} {mo le : Int} {t : Trk} (hb : Brings ss n mo le) (hz : (doV n t).1 = 0) (h1 : ¬ t.kind = 1) (h2 : ¬ t.kind = 2) (h3 : ¬ t.kind = 3) : Brings ss (doV n t).2.1 mo le := by
  obtain ⟨p, hp, h⟩ := doV_inv hz
  have hm := List.mem_of_getElem? hp
  have hc := checkV_len hb.chk
  rcases h with ⟨e, _⟩ | ⟨e, _⟩ | ⟨e, _⟩ | ⟨_, hs, b, hsp, e⟩
  · exact absurd e h1
  · exact absurd e h2
  · exact absurd e h3
  · rw [e]
    obtain ⟨x, hx⟩ := ((hb.fine p hm).2 hs).2
    have hbl := spoilI_len hsp
    have ho : openP b = none := by
      unfold spoilI at hsp
      split at hsp
      · rw [hx] at hsp; exact (burst_law x hsp).1
      · cases hsp
    refine ⟨fun q hq => ?_, ?_, hb.lost, ?_⟩
    · rcases List.mem_or_eq_of_mem_set hq with h1 | rfl
      · exact hb.fine q h1
      · exact ⟨fun _ => ho, fun h => absurd rfl h⟩
    · unfold checkV
      rw [Bool.and_eq_true]
      refine ⟨decide_eq_true ⟨by dsimp only; rw [List.length_set]; exact hc.1, hc.2.1⟩, List.all_eq_true.2 fun q hq => ?_⟩
      rcases List.mem_or_eq_of_mem_set hq with h1 | rfl
      · exact hc.2.2 q h1
      · have := of_decide_eq_true (hc.2.2 p hm)
        exact decide_eq_true ⟨this.1, this.2.1, by dsimp only; rw [hbl]; exact this.2.2⟩
    · show (((n.1.set t.at'.toNat ⟨p.to, b, true⟩).length : Nat) : Int) + le + n.2 = mo
      rw [List.length_set]; exact hb.num
theorem fine_open {ss : List (List By)} {q : Pcl} {p : PV} (h : Fine ss p) (hq : q.pv = p) (hs : ¬ q.sp = true) : openE q.r.l = 0 := by
  subst hq
  obtain ⟨x, hx⟩ := (h.2 hs).2
  have e : q.r.l = sealP x := hx
  unfold openE
  rw [e, open_seal]
theorem fine_known {ss : List (RowG By)} {q : Pcl} {p : PV} (h : Fine (ss.map RowG.l) p) (hq : q.pv = p) (hs : ¬ q.sp = true) : ss.any (fun r => decide (r.l = q.r.l)) = true := by
  subst hq
  obtain ⟨r, hr, e⟩ := List.mem_map.1 (h.2 hs).1
  exact List.any_eq_true.2 ⟨r, hr, decide_eq_true e⟩
theorem fine_spoilt {ss : List (List By)} {q : Pcl} {p : PV} (h : Fine ss p) (hq : q.pv = p) (hs : q.sp = true) : openE q.r.l = 120 := by
  subst hq
  have e : openP q.r.l = none := h.1 hs
  unfold openE
  rw [e]
theorem may1 {m : Int} {r : RowG By} (h0 : 0 ≤ m) (h8 : m ≤ 8) (hl : r.l.length ≤ 8192) : ([⟨m, r, false⟩] : List Pcl).all (fun p => mayV p.pv && !p.sp) = true := by
  rw [List.all_cons, List.all_nil, Bool.and_true]
  show (mayV ⟨m, r.l, false⟩ && true) = true
  rw [Bool.and_true]
  exact decide_eq_true ⟨h0, h8, hl⟩
end Go.Proofs.Ytcidgbjgeegepaa
/- net and journal: NetBrings. Printed by a program of this seat's prover. -/
namespace Go.Proofs.Ytcidgbjgeegepaa
open Go Go.RowKit
set_option maxRecDepth 10000
theorem ridx_c (rs : List (RowG By)) (a : Option Addr) (cap : Nat) (w : World) (hv : SliceAt w a cap 1 RowG.cells rs) (hcap : cap ≤ Go.maxLen) (g : Nat) (cp : Array Value) (hE : Enters Try.prog g) (φ : RowG By → Bool) (hto : ∀ w2, Below w.heap.size w w2 → ∀ x ∈ rs, Calls Try.prog g (#[x.v] ++ cp) w2 fun e w3 => e = .returned (.bool (φ x)) ∧ Below w2.heap.size w2 w3) : Calls Try.prog 97 #[.slice a rs.length cap, .func (.func g) #[] cp] w fun e w' => e = .returned (.int .i64 (idxI φ rs)) ∧ Below w.heap.size w w' := by
  have hvl := hv.1
  unfold Go.maxLen at hcap
  refine calls_of_T (l := [.slice a rs.length cap, .func (.func g) #[] cp]) 19 Try.func97 rfl rfl rfl ?_
  show T _ _ _ [(0, .slice a rs.length cap), (1, .func (.func g) #[] cp)] []
  refine T_seq (T_region ?_)
  refine TL_q (.int .i64 0) (fun _ _ hρ _ => r_assign (hρ _ _ rfl)) rfl rfl rfl (w_n rfl) ?_
  refine TL_seq ?_
  refine T_seq ?_
  refine T_seq (T_region ?_)
  refine TL_q (.slice a rs.length cap) (fun _ _ hρ _ => r_move (hρ _ _ rfl)) rfl rfl rfl (w_n rfl) ?_
  refine TL_q (.int .i64 ((rs.length : Nat) : Int)) (fun _ _ hρ _ => r_len sl63 (hρ _ _ rfl)) rfl rfl rfl (w_n rfl) ?_
  refine TL_q (.int .i64 0) (fun _ _ hρ _ => r_move (hρ _ _ rfl)) rfl rfl rfl (w_n rfl) ?_
  refine TL_seq ?_
  refine T_block ?_
  refine T_loop (ι := Nat) (fun (k : Nat) => k ≤ rs.length ∧ ∀ x ∈ rs.take k, φ x = false) (fun (k : Nat) => [(0, .slice a rs.length cap), (1, .func (.func g) #[] cp), (7, .int .i64 ((rs.length : Nat) : Int)), (8, .int .i64 ((k : Nat) : Int))]) (fun (k : Nat) => []) (fun (k : Nat) => rs.length - k) 0 ⟨Nat.zero_le _, fun _ h => nomatch h⟩ (sub_cons rfl (sub_cons rfl (sub_cons rfl (sub_cons rfl sub_nil)))) sub_nil ?_
  rintro k hp
  obtain ⟨hk, hno⟩ := hp
  show T _ _ _ [(0, .slice a rs.length cap), (1, .func (.func g) #[] cp), (7, .int .i64 ((rs.length : Nat) : Int)), (8, .int .i64 ((k : Nat) : Int))] []
  refine T_seq (T_region ?_)
  refine TL_q (.bool (decide (((k : Nat) : Int) < ((rs.length : Nat) : Int)))) (fun _ _ hρ _ => r_lss (hρ _ _ rfl) (hρ _ _ rfl)) rfl rfl rfl (w_n rfl) ?_
  refine TL_seq ?_
  refine T_seq ?_
  refine T_cond rfl (fun h1 => ?_) (fun h1 => ?_)
  · replace h1 := of_decide_eq_true h1
    refine T_skip' ?_
    refine p_seq ?_
    refine T_seq ?_
    refine T_block ?_
    refine T_seq (T_region ?_)
    refine TL_q (.int .i64 ((k : Nat) : Int)) (fun _ _ hρ _ => r_move (hρ _ _ rfl)) rfl rfl rfl (w_n rfl) ?_
    refine TL_q (.int .i64 ((k : Nat) : Int)) (fun _ _ hρ _ => r_assign (hρ _ _ rfl)) rfl rfl rfl (w_n rfl) ?_
    refine TL_seq ?_
    obtain ⟨p, hp⟩ : ∃ x, rs[k]? = some x := ⟨_, List.getElem?_eq_getElem (by omega)⟩
    obtain ⟨b1, of1, cs1, T1, fz1, ha1, hq1, hr1⟩ := hv.open (i := k) (by omega)
    subst ha1
    refine T_seq (T_region ?_)
    refine TL_q (.func (.func g) #[] cp) (fun _ _ hρ _ => r_move (hρ _ _ rfl)) rfl rfl rfl (w_n rfl) ?_
    refine TL_q (.slice (some ⟨b1, of1, none⟩) rs.length cap) (fun _ _ hρ _ => r_move (hρ _ _ rfl)) rfl rfl rfl (w_n rfl) ?_
    refine TL_q (.int .i64 ((k : Nat) : Int)) (fun _ _ hρ _ => r_move (hρ _ _ rfl)) rfl rfl rfl (w_n rfl) ?_
    refine TL_q (.pointer (some ⟨b1, of1 + k * 1, none⟩)) (fun _ _ hρ _ => r_indexAddrS (i := k) sl63 sz34 (hρ _ _ rfl) (hρ _ _ rfl) (by omega)) rfl rfl rfl (w_n rfl) ?_
    refine TL_q (.slice p.a p.l.length p.cap) (fun _ _ hρ hm => r_loadRow1 (f := RowG.cells) (u := p) ag34 (hρ _ _ rfl) (hm.old hq1) hr1 hp rfl) rfl rfl rfl (w_n rfl) ?_
    refine TL_call (.bool (φ p)) (fun _ _ hρ _ => r_call (args := [.slice p.a p.l.length p.cap]) hE (hρ _ _ rfl) ((cons2 (hρ _ _ rfl) rfl)) (by simp)) (fun w hm => hto w hm.ext p (List.mem_of_getElem? hp)) rfl rfl rfl (w_n rfl) ?_
    refine TL_seq ?_
    refine T_cond rfl (fun h2 => ?_) (fun h2 => ?_)
    · skip
      refine T_seq (T_region ?_)
      refine TL_q (.int .i64 ((k : Nat) : Int)) (fun _ _ hρ _ => r_move (hρ _ _ rfl)) rfl rfl rfl (w_n rfl) ?_
      refine TL_q (.int .i64 ((k : Nat) : Int)) (fun _ _ hρ _ => r_assign (hρ _ _ rfl)) rfl rfl rfl (w_n rfl) ?_
      refine TL_seq ?_
      refine T_ret' ?_
      refine p_blk_r ?_
      refine p_then_r ?_
      refine p_then_r ?_
      refine p_blk_r ?_
      refine p_then_r ?_
      refine ret_of rfl (.int .i64 ((k : Nat) : Int)) (fun tmps w hk hm => res1 rfl (res_tmp (hk 4 _ rfl))) (fun w hm => ?_)
      exact ⟨by rw [idx_some hp hno h2], hm.ext⟩
    · skip
      refine T_skip' ?_
      refine p_blk_n ?_
      refine p_seq ?_
      refine T_region ?_
      refine TL_q (.int .i64 ((k + 1 : Nat) : Int)) (fun _ _ hρ _ => r_as (r_add (hρ _ _ rfl) (hρ _ _ rfl)) (int_as ((wrap64 (by omega) (by omega)).trans (by omega)))) rfl rfl rfl (w_n rfl) ?_
      refine TL_q (.int .i64 ((k + 1 : Nat) : Int)) (fun _ _ hρ _ => r_move (hρ _ _ rfl)) rfl rfl rfl (w_n rfl) ?_
      refine TL_nil ?_
      exact p_at (k + 1) ⟨⟨by omega, no_step hno hp h2⟩, by omega⟩ (sub_cons rfl (sub_cons rfl (sub_cons rfl (sub_cons rfl sub_nil)))) sub_nil
  · replace h1 := of_decide_eq_false h1
    refine T_exit' ?_
    refine p_then_x ?_
    refine p_then_x ?_
    refine p_blk_x ?_
    refine p_seq ?_
    refine T_seq (T_region ?_)
    refine TL_q (.int .i64 (-1)) (fun _ _ hρ _ => r_assign (hρ _ _ rfl)) rfl rfl rfl (w_n rfl) ?_
    refine TL_seq ?_
    refine T_ret' ?_
    refine ret_of rfl (.int .i64 (-1)) (fun tmps w hk hm => res1 rfl (res_tmp (hk 4 _ rfl))) (fun w hm => ?_)
    have hke : k = rs.length := by omega
    subst hke
    rw [List.take_length] at hno
    exact ⟨by rw [idx_none hno], hm.ext⟩

theorem rcon_c (rs : List (RowG By)) (a : Option Addr) (cap : Nat) (w : World) (hv : SliceAt w a cap 1 RowG.cells rs) (hcap : cap ≤ Go.maxLen) (g : Nat) (cp : Array Value) (hE : Enters Try.prog g) (φ : RowG By → Bool) (hto : ∀ w2, Below w.heap.size w w2 → ∀ x ∈ rs, Calls Try.prog g (#[x.v] ++ cp) w2 fun e w3 => e = .returned (.bool (φ x)) ∧ Below w2.heap.size w2 w3) : Calls Try.prog 57 #[.slice a rs.length cap, .func (.func g) #[] cp] w fun e w' => e = .returned (.bool (rs.any φ)) ∧ Below w.heap.size w w' := by
  have hvl := hv.1
  unfold Go.maxLen at hcap
  have hix := idx_lt φ rs
  have hiy := idx_ge φ rs
  refine calls_of_T (l := [.slice a rs.length cap, .func (.func g) #[] cp]) 9 Try.func57 rfl rfl rfl ?_
  show T _ _ _ [(0, .slice a rs.length cap), (1, .func (.func g) #[] cp)] []
  refine T_seq (T_region ?_)
  refine TL_q (.bool false) (fun _ _ hρ _ => r_assign (hρ _ _ rfl)) rfl rfl rfl (w_n rfl) ?_
  refine TL_seq ?_
  refine T_seq (T_region ?_)
  refine TL_q (.slice a rs.length cap) (fun _ _ hρ _ => r_move (hρ _ _ rfl)) rfl rfl rfl (w_n rfl) ?_
  refine TL_q (.func (.func g) #[] cp) (fun _ _ hρ _ => r_move (hρ _ _ rfl)) rfl rfl rfl (w_n rfl) ?_
  refine TL_call (.int .i64 (idxI φ rs)) (fun _ _ hρ _ => r_call (args := [.slice a rs.length cap, .func (.func g) #[] cp]) (enters_of Try.func97 (by kernel_rfl) rfl) (hρ _ _ rfl) ((cons2 (hρ _ _ rfl) (cons2 (hρ _ _ rfl) rfl))) rfl) (fun w hm => ridx_c rs a cap w (hv.keep hm.ext) hcap g cp hE φ (fun w2 hb2 x hx => hto w2 (hm.ext.trans (hb2.mono hm.ext.size)) x hx)) rfl rfl rfl (w_n rfl) ?_
  refine TL_q (.bool (decide ((0 : Int) ≤ (idxI φ rs)))) (fun _ _ hρ _ => r_geq (hρ _ _ rfl) (hρ _ _ rfl)) rfl rfl rfl (w_n rfl) ?_
  refine TL_q (.bool (decide ((0 : Int) ≤ (idxI φ rs)))) (fun _ _ hρ _ => r_assign (hρ _ _ rfl)) rfl rfl rfl (w_n rfl) ?_
  refine TL_seq ?_
  refine T_ret' ?_
  refine ret_of rfl (.bool (decide ((0 : Int) ≤ (idxI φ rs)))) (fun tmps w hk hm => res1 rfl (res_tmp (hk 4 _ rfl))) (fun w hm => ?_)
  exact ⟨congrArg Ending.returned (bool_as (idx_any φ rs)), hm.ext⟩

theorem brif_c (r : RowG By) (p : Pcl) (C : Nat) (w : World) (hr : r.ok 1 byc w) (hrc : r.cap ≤ Go.maxLen) (hlr : r.l.length ≤ 10000) (hlp : p.r.l.length ≤ 10000) (hp : SliceAt w p.r.a p.r.cap 1 byc p.r.l ∧ p.r.cap ≤ Go.maxLen) (hC : Go.Proofs.Ytcidgbjgeegepaa.hp w C = some (.cells #[.int .i64 p.to, .slice p.r.a p.r.l.length p.r.cap, .bool p.sp] 36)) : Calls Try.prog 58 #[.slice r.a r.l.length r.cap, .pointer (some ⟨C, 0, none⟩)] w fun e w' => e = .returned (.bool (decide (r.l = p.r.l))) ∧ Below w.heap.size w w' := by
  have hrl := hr.1
  have hrc2 := hrc
  have hpl := hp.1.1
  have hpc := hp.2
  unfold Go.maxLen at hrc2 hpc
  refine calls_of_T (l := [.slice r.a r.l.length r.cap, .pointer (some ⟨C, 0, none⟩)]) 8 Try.func58 rfl rfl rfl ?_
  show T _ _ _ [(0, .slice r.a r.l.length r.cap), (1, .pointer (some ⟨C, 0, none⟩))] []
  refine T_seq (T_region ?_)
  refine TL_q (.bool false) (fun _ _ hρ _ => r_assign (hρ _ _ rfl)) rfl rfl rfl (w_n rfl) ?_
  refine TL_seq ?_
  refine T_seq (T_region ?_)
  refine TL_q (.slice r.a r.l.length r.cap) (fun _ _ hρ _ => r_move (hρ _ _ rfl)) rfl rfl rfl (w_n rfl) ?_
  refine TL_q (.pointer (some ⟨C, 1, none⟩)) (fun _ _ hρ _ => r_fieldAddr fl36_1 sz34 (hρ _ _ rfl)) rfl rfl rfl (w_n rfl) ?_
  refine TL_q (.slice p.r.a p.r.l.length p.r.cap) (fun _ _ hρ hm => r_load ag34 (hρ _ _ rfl) (hm.old hC) rfl) rfl rfl rfl (w_n rfl) ?_
  refine TL_call (.bool (decide (r.l = p.r.l))) (fun _ _ hρ _ => r_call (args := [.slice r.a r.l.length r.cap, .slice p.r.a p.r.l.length p.r.cap]) (enters_of Try.func16 (by kernel_rfl) rfl) (hρ _ _ rfl) ((cons2 (hρ _ _ rfl) (cons2 (hρ _ _ rfl) rfl))) rfl) (fun w hm => equal_b r.l p.r.l r.a p.r.a r.cap p.r.cap w (hr.keep hm.ext) (hp.1.keep hm.ext) (by omega) (by omega)) rfl rfl rfl (w_n rfl) ?_
  refine TL_q (.bool (decide (r.l = p.r.l))) (fun _ _ hρ _ => r_assign (hρ _ _ rfl)) rfl rfl rfl (w_n rfl) ?_
  refine TL_seq ?_
  refine T_ret' ?_
  refine ret_of rfl (.bool (decide (r.l = p.r.l))) (fun tmps w hk hm => res1 rfl (res_tmp (hk 3 _ rfl))) (fun w hm => ?_)
  exact ⟨rfl, hm.ext⟩

set_option maxHeartbeats 2000000 in
theorem nbrings_c (xs : List Act) (a : Option Addr) (cap : Nat) (w : World) (hv : SliceAt w a cap 7 Act.cells xs) (hcap : cap ≤ Go.maxLen) (hx : ∀ x ∈ xs, SliceAt w x.r.a x.r.cap 1 byc x.r.l ∧ x.r.cap ≤ Go.maxLen) : Calls Try.prog 10 #[.slice a xs.length cap] w fun e w' => e = .returned (.bool true) ∧ Below w.heap.size w w' := by
  have hvl := hv.1
  have hcp1 := hcap
  unfold Go.maxLen at hcp1
  refine calls_of_T (l := [.slice a xs.length cap]) 131 Try.func10 rfl rfl rfl ?_
  show T _ _ _ [(0, .slice a xs.length cap)] []
  refine T_seq (T_region ?_)
  refine TL_q (.bool false) (fun _ _ hρ _ => r_assign (hρ _ _ rfl)) rfl rfl rfl (w_n rfl) ?_
  refine TL_seq ?_
  refine T_seq ?_
  refine T_seq (T_region ?_)
  refine TL_call (.bool true) (fun _ _ hρ _ => r_call (args := []) (enters_of Try.func11 (by kernel_rfl) rfl) (hρ _ _ rfl) (by rfl) rfl) (fun w _ => nwakes_c w) rfl rfl rfl (w_n rfl) ?_
  refine TL_q (.bool false) (fun _ _ hρ _ => r_not (b := true) (hρ _ _ rfl)) rfl rfl rfl (w_n rfl) ?_
  refine TL_seq ?_
  refine T_cond_f rfl ?_
  refine T_skip' ?_
  refine p_seq ?_
  refine T_seq (T_region ?_)
  refine TL_call (.agg #[.slice none 0 0, .int .u64 0]) (fun _ _ hρ _ => r_call (args := []) (enters_of Try.func14 (by kernel_rfl) rfl) (hρ _ _ rfl) (by rfl) rfl) (fun w _ => nnew_c w) rfl rfl rfl (w_n rfl) ?_
  refine TL_new 1 (.cells #[.slice none 0 0, .int .u64 0] 27) (fun B => .pointer (some ⟨B, 0, none⟩)) (fun _ _ _ _ => r_alloc (v := .agg #[.slice none 0 0, .int .u64 0]) (by kernel_rfl) rfl) rfl rfl rfl (w_n rfl) ?_
  intro B1
  refine TL_store 1 (.cells #[.slice none 0 0, .int .u64 0] 27) rfl (fun _ _ hρ hm => r_store sz27 (hρ _ _ rfl) (hρ _ _ rfl) (hm.at 1 rfl) rfl rfl rfl rfl) rfl rfl (w_n rfl) ?_
  refine TL_seq ?_
  refine T_seq (T_region ?_)
  refine TL_q (.slice none 0 0) (fun _ _ hρ _ => r_assign (hρ _ _ rfl)) rfl rfl rfl (w_n rfl) ?_
  refine TL_seq ?_
  refine T_seq (T_region ?_)
  refine TL_q (.int .i64 0) (fun _ _ hρ _ => r_assign (hρ _ _ rfl)) rfl rfl rfl (w_n rfl) ?_
  refine TL_q (.int .i64 0) (fun _ _ hρ _ => r_assign (hρ _ _ rfl)) rfl rfl rfl (w_n rfl) ?_
  refine TL_seq ?_
  refine T_seq ?_
  refine T_mem (_ :: _ :: _) (fun _ hm => (hm.nilRow 901 36 3).pool0 903 5 1 byc) ?_
  refine T_mem (_ :: _ :: _) (fun _ hm => (hm.nilRow 963 34 1).pool0 964 5 1 byc) ?_
  refine T_seq (T_region ?_)
  refine TL_q (.slice a xs.length cap) (fun _ _ hρ _ => r_move (hρ _ _ rfl)) rfl rfl rfl (w_n rfl) ?_
  refine TL_q (.int .i64 ((xs.length : Nat) : Int)) (fun _ _ hρ _ => r_len sl92 (hρ _ _ rfl)) rfl rfl rfl (w_n rfl) ?_
  refine TL_q (.int .i64 0) (fun _ _ hρ _ => r_move (hρ _ _ rfl)) rfl rfl rfl (w_n rfl) ?_
  refine TL_seq ?_
  refine T_block ?_
  refine T_loop (ι := Nat × Hd × List (RowG By) × List (RowG By) × Option Addr × Nat × Int × Int) (fun (z : Nat × Hd × List (RowG By) × List (RowG By) × Option Addr × Nat × Int × Int) => match z with | (k, h7, b7, ss, sa, sc, mo, le) => k ≤ xs.length ∧ k ≤ 60 ∧ Brings (ss.map RowG.l) h7.nv mo le ∧ HdOk h7 b7 ∧ 0 ≤ le ∧ le ≤ k ∧ mo ≤ k ∧ ss.length ≤ k ∧ (∀ r ∈ ss, r.l.length ≤ 10000)) (fun (z : Nat × Hd × List (RowG By) × List (RowG By) × Option Addr × Nat × Int × Int) => match z with | (k, h7, b7, ss, sa, sc, mo, le) => [(3, .pointer (some ⟨B1, 0, none⟩)), (21, .slice a xs.length cap), (22, .int .i64 ((xs.length : Nat) : Int)), (23, .int .i64 ((k : Nat) : Int)), (4, .slice sa ss.length sc), (5, .int .i64 mo), (6, .int .i64 le)]) (fun (z : Nat × Hd × List (RowG By) × List (RowG By) × Option Addr × Nat × Int × Int) => match z with | (k, h7, b7, ss, sa, sc, mo, le) => [(1, .blk B1 (.cells #[.slice h7.n.a h7.n.l.length h7.n.cap, .int .u64 h7.lost] 27)), (901, .row (.slice h7.n.a h7.n.l.length h7.n.cap) 36 3 h7.n.l.length (h7.n.l.flatMap Pcl.cells)), (903, .pool 5 1 byc b7), (963, .row (.slice sa ss.length sc) 34 1 ss.length (ss.flatMap RowG.cells)), (964, .pool 5 1 byc ss)]) (fun (z : Nat × Hd × List (RowG By) × List (RowG By) × Option Addr × Nat × Int × Int) => match z with | (k, h7, b7, ss, sa, sc, mo, le) => xs.length - k) (0, ⟨⟨none, 0, []⟩, 0, ⟨none, 0, []⟩⟩, [], [], none, 0, 0, 0) ⟨Nat.zero_le _, Nat.zero_le _, brings_nil, ⟨Nat.zero_le _, Int.le_refl _, by decide, InB.nil _, InB.nil _⟩, Int.le_refl _, Int.le_refl _, Int.le_refl _, Nat.le_refl _, fun _ h => nomatch h⟩ (sub_cons rfl (sub_cons rfl (sub_cons rfl (sub_cons rfl (sub_cons rfl (sub_cons rfl (sub_cons rfl sub_nil))))))) (sub_cons rfl (sub_cons rfl (sub_cons rfl (sub_cons rfl (sub_cons rfl sub_nil))))) ?_
  rintro ⟨k, h7, b7, ss, sa, sc, mo, le⟩ hp
  obtain ⟨hk, hk60, hbr, hh7, hle0, hle1, hmo1, hsl, hsb⟩ := hp
  have hnum := hbr.num
  have hlo0 := hbr.lost
  have hlo1 : h7.lost ≤ 4611686018427387904 := hh7.lost1
  have hnl7 := hh7.len
  have hnp : (h7.nv.1.length : Int) = h7.n.l.length := by rw [show h7.nv.1.length = h7.n.l.length from pvs_len _]
  have hmo0 : 0 ≤ mo := by omega
  replace hlo0 : 0 ≤ h7.lost := hlo0
  replace hnum : (h7.n.l.length : Int) + le + h7.lost = mo := by rw [← hnp]; exact hnum
  show T _ _ _ [(3, .pointer (some ⟨B1, 0, none⟩)), (21, .slice a xs.length cap), (22, .int .i64 ((xs.length : Nat) : Int)), (23, .int .i64 ((k : Nat) : Int)), (4, .slice sa ss.length sc), (5, .int .i64 mo), (6, .int .i64 le)] [(1, .blk B1 (.cells #[.slice h7.n.a h7.n.l.length h7.n.cap, .int .u64 h7.lost] 27)), (901, .row (.slice h7.n.a h7.n.l.length h7.n.cap) 36 3 h7.n.l.length (h7.n.l.flatMap Pcl.cells)), (903, .pool 5 1 byc b7), (963, .row (.slice sa ss.length sc) 34 1 ss.length (ss.flatMap RowG.cells)), (964, .pool 5 1 byc ss)]
  refine T_seq (T_region ?_)
  refine TL_q (.bool (decide (((k : Nat) : Int) < ((xs.length : Nat) : Int)))) (fun _ _ hρ _ => r_lss (hρ _ _ rfl) (hρ _ _ rfl)) rfl rfl rfl (w_n rfl) ?_
  refine TL_seq ?_
  refine T_seq ?_
  refine T_cond rfl (fun h1 => ?_) (fun h1 => ?_)
  · replace h1 := of_decide_eq_true h1
    refine T_skip' ?_
    refine p_seq ?_
    refine T_seq ?_
    refine T_block ?_
    obtain ⟨x, hxk⟩ : ∃ x, xs[k]? = some x := ⟨_, List.getElem?_eq_getElem (by omega)⟩
    have hokx := hx x (List.mem_of_getElem? hxk)
    have hxl := hokx.1.1
    have hxc := hokx.2
    unfold Go.maxLen at hxc
    obtain ⟨b2, of2, cs2, T2, fz2, ha2, hq2, hr2⟩ := hv.open (i := k) (by omega)
    subst ha2
    refine T_seq (T_region ?_)
    refine TL_q (.int .i64 ((k : Nat) : Int)) (fun _ _ hρ _ => r_move (hρ _ _ rfl)) rfl rfl rfl (w_n rfl) ?_
    refine TL_q (.pointer (some ⟨b2, of2 + k * 7, none⟩)) (fun _ _ hρ _ => r_indexAddrS (i := k) sl92 sz94 (hρ _ _ rfl) (hρ _ _ rfl) (by omega)) rfl rfl rfl (w_n rfl) ?_
    refine TL_q (.agg #[.bool x.sends, .int .i64 x.to, .slice x.r.a x.r.l.length x.r.cap, .int .i64 x.t.kind, .int .i64 x.t.at', .int .i64 x.t.bit, .int .u32 ((x.t.mask).toNat : Int)]) (fun _ _ hρ hm => r_loadRow (f := Act.cells) (u := x) ag94 sz94 (hρ _ _ rfl) (hm.old hq2) hr2 hxk) rfl rfl rfl (w_n rfl) ?_
    refine TL_new 2 (.cells #[.bool false, .int .i64 0, .slice none 0 0, .int .i64 0, .int .i64 0, .int .i64 0, .int .u32 0] 94) (fun B => .pointer (some ⟨B, 0, none⟩)) (fun _ _ _ _ => r_alloc (v := .agg #[.bool false, .int .i64 0, .slice none 0 0, .int .i64 0, .int .i64 0, .int .i64 0, .int .u32 0]) (by kernel_rfl) rfl) rfl rfl rfl (w_n rfl) ?_
    intro B3
    refine TL_q (.int .i64 ((k : Nat) : Int)) (fun _ _ hρ _ => r_assign (hρ _ _ rfl)) rfl rfl rfl (w_n rfl) ?_
    refine TL_store 2 (.cells #[.bool x.sends, .int .i64 x.to, .slice x.r.a x.r.l.length x.r.cap, .int .i64 x.t.kind, .int .i64 x.t.at', .int .i64 x.t.bit, .int .u32 ((x.t.mask).toNat : Int)] 94) rfl (fun _ _ hρ hm => r_store sz94 (hρ _ _ rfl) (hρ _ _ rfl) (hm.at 2 rfl) rfl rfl rfl rfl) rfl rfl (w_n rfl) ?_
    refine TL_seq ?_
    refine T_seq ?_
    refine T_seq (T_region ?_)
    refine TL_q (.int .i64 ((k : Nat) : Int)) (fun _ _ hρ _ => r_move (hρ _ _ rfl)) rfl rfl rfl (w_n rfl) ?_
    refine TL_q (.bool (decide (((k : Nat) : Int) = 60))) (fun _ _ hρ _ => r_eql (hρ _ _ rfl) (hρ _ _ rfl)) rfl rfl rfl (w_n rfl) ?_
    refine TL_seq ?_
    refine T_cond rfl (fun h2 => ?_) (fun h2 => ?_)
    · replace h2 := of_decide_eq_true h2
      refine T_exit' ?_
      refine p_then_x ?_
      refine p_blk_o rfl ?_
      refine p_then_x ?_
      refine p_then_x ?_
      refine p_blk_x ?_
      refine p_seq ?_
      refine T_seq (T_region ?_)
      refine TL_q (.pointer (some ⟨B1, 0, none⟩)) (fun _ _ hρ _ => r_fieldAddr fl27_0 sz22 (hρ _ _ rfl)) rfl rfl rfl (w_n rfl) ?_
      refine TL_q (.slice h7.n.a h7.n.l.length h7.n.cap) (fun _ _ hρ hm => r_load ag22 (hρ _ _ rfl) (hm.at 1 rfl) rfl) rfl rfl rfl (w_n rfl) ?_
      refine TL_q (.int .i64 ((h7.n.l.length : Nat) : Int)) (fun _ _ hρ _ => r_len sl22 (hρ _ _ rfl)) rfl rfl rfl (w_n rfl) ?_
      refine TL_q (.int .i64 le) (fun _ _ hρ _ => r_move (hρ _ _ rfl)) rfl rfl rfl (w_n rfl) ?_
      refine TL_q (.int .i64 (((h7.n.l.length : Nat) : Int) + le)) (fun _ _ hρ _ => r_as (r_add (hρ _ _ rfl) (hρ _ _ rfl)) (int_as (wrap64 (by omega) (by omega)))) rfl rfl rfl (w_n rfl) ?_
      refine TL_q (.pointer (some ⟨B1, 1, none⟩)) (fun _ _ hρ _ => r_fieldAddr fl27_1 sz25 (hρ _ _ rfl)) rfl rfl rfl (w_n rfl) ?_
      refine TL_q (.int .u64 h7.lost) (fun _ _ hρ hm => r_load ag25 (hρ _ _ rfl) (hm.at 1 rfl) rfl) rfl rfl rfl (w_n rfl) ?_
      refine TL_q (.int .i64 h7.lost) (fun _ _ hρ _ => r_as (r_conv un25 io3 (hρ _ _ rfl)) (int_as (wrap64 (by omega) (by omega)))) rfl rfl rfl (w_n rfl) ?_
      refine TL_q (.int .i64 (((h7.n.l.length : Nat) : Int) + le + h7.lost)) (fun _ _ hρ _ => r_as (r_add (hρ _ _ rfl) (hρ _ _ rfl)) (int_as (wrap64 (by omega) (by omega)))) rfl rfl rfl (w_n rfl) ?_
      refine TL_q (.int .i64 mo) (fun _ _ hρ _ => r_move (hρ _ _ rfl)) rfl rfl rfl (w_n rfl) ?_
      refine TL_q (.bool (decide (((h7.n.l.length : Nat) : Int) + le + h7.lost = mo))) (fun _ _ hρ _ => r_eql (hρ _ _ rfl) (hρ _ _ rfl)) rfl rfl rfl (w_n rfl) ?_
      refine TL_q (.bool (decide (((h7.n.l.length : Nat) : Int) + le + h7.lost = mo))) (fun _ _ hρ _ => r_assign (hρ _ _ rfl)) rfl rfl rfl (w_n rfl) ?_
      refine TL_seq ?_
      refine T_ret' ?_
      refine ret_of rfl (.bool (decide (((h7.n.l.length : Nat) : Int) + le + h7.lost = mo))) (fun tmps w hk hm => res1 rfl (res_tmp (hk 2 _ rfl))) (fun w hm => ?_)
      exact ⟨congrArg Ending.returned (bool_as (decide_eq_true (by omega))), hm.ext⟩
    · replace h2 := of_decide_eq_false h2
      refine T_skip' ?_
      refine p_seq ?_
      refine T_seq ?_
      refine T_seq (T_region ?_)
      refine TL_q (.pointer (some ⟨B3, 0, none⟩)) (fun _ _ hρ _ => r_fieldAddr fl94_0 sz4 (hρ _ _ rfl)) rfl rfl rfl (w_n rfl) ?_
      refine TL_q (.bool x.sends) (fun _ _ hρ hm => r_load ag4 (hρ _ _ rfl) (hm.at 2 rfl) rfl) rfl rfl rfl (w_n rfl) ?_
      refine TL_seq ?_
      refine T_cond rfl (fun h3 => ?_) (fun h3 => ?_)
      · skip
        refine T_seq (T_region ?_)
        refine TL_q (.pointer (some ⟨B3, 2, none⟩)) (fun _ _ hρ _ => r_fieldAddr fl94_2 sz34 (hρ _ _ rfl)) rfl rfl rfl (w_n rfl) ?_
        refine TL_q (.slice x.r.a x.r.l.length x.r.cap) (fun _ _ hρ hm => r_load ag34 (hρ _ _ rfl) (hm.at 2 rfl) rfl) rfl rfl rfl (w_n rfl) ?_
        refine TL_q (.pointer (some ⟨B3, 2, none⟩)) (fun _ _ hρ _ => r_fieldAddr fl94_2 sz34 (hρ _ _ rfl)) rfl rfl rfl (w_n rfl) ?_
        refine TL_q (.slice x.r.a x.r.l.length x.r.cap) (fun _ _ hρ hm => r_load ag34 (hρ _ _ rfl) (hm.at 2 rfl) rfl) rfl rfl rfl (w_n rfl) ?_
        refine TL_q (.int .i64 ((x.r.l.length : Nat) : Int)) (fun _ _ hρ _ => r_len sl34 (hρ _ _ rfl)) rfl rfl rfl (w_n rfl) ?_
        refine TL_q (.int .i64 ((min x.r.l.length 40 : Nat) : Int)) (fun _ _ hρ _ => r_as (r_min (hρ _ _ rfl) (hρ _ _ rfl)) (int_as (minI _ 40))) rfl rfl rfl (w_n rfl) ?_
        obtain ⟨l4, hl4, hn4⟩ : ∃ lz, lz = x.r.l.take (min x.r.l.length 40) ∧ lz.length = min x.r.l.length 40 := ⟨_, rfl, by rw [List.length_take]; omega⟩
        have hs4 := SliceAt.front hokx.1 (n := min x.r.l.length 40) (m := x.r.cap) (by omega) (by omega) (by omega)
        rw [← hl4] at hs4
        refine TL_q (.slice x.r.a l4.length x.r.cap) (fun ρ _ hρ _ => r_as (r_sliceO sl34 sz5 (hρ _ _ rfl) (bd_none ρ _) (bd_some (n := min x.r.l.length 40) (hρ _ _ rfl)) (bd_none ρ _) (by simp) (by omega) (by omega) (by omega)) (by rw [hn4]; exact slo_zero _ _ _ _)) rfl rfl rfl (w_n rfl) ?_
        refine TL_callN (fun (_ : Option Addr × Nat) => True) (fun (ar5, cr5) => .slice ar5 ((sealP l4).length) cr5) (fun (ar5, cr5) => [(3, .row (.slice ar5 ((sealP l4).length) cr5) 5 1 ((sealP l4).length) ((sealP l4).flatMap byc))]) (fun _ _ hρ _ => r_call (args := [.slice x.r.a l4.length x.r.cap]) (enters_of Try.func55 (by kernel_rfl) rfl) (hρ _ _ rfl) ((cons2 (hρ _ _ rfl) rfl)) rfl) (fun w hm => (seal_c l4 x.r.a x.r.cap w (hs4.keep hm.ext) (by omega) (by omega)).mono fun e w' ⟨a', cap', he, hb, hr⟩ => ⟨(a', cap'), trivial, he, hb, newOk1 3 hr⟩) rfl rfl rfl (w_n rfl) ?_
        rintro ⟨ar5, cr5⟩ -
        refine TL_q (.slice ar5 ((sealP l4).length) cr5) (fun _ _ hρ _ => r_assign (hρ _ _ rfl)) rfl rfl rfl (w_n rfl) ?_
        refine TL_seq ?_
        refine T_seq (T_region ?_)
        refine TL_q (.agg #[.slice h7.n.a h7.n.l.length h7.n.cap, .int .u64 h7.lost]) (fun _ _ hρ hm => r_loadA ag27 sz27 (hρ _ _ rfl) (hm.at 1 rfl) rfl rfl) rfl rfl rfl (w_n rfl) ?_
        refine TL_q (.pointer (some ⟨B3, 1, none⟩)) (fun _ _ hρ _ => r_fieldAddr fl94_1 sz3 (hρ _ _ rfl)) rfl rfl rfl (w_n rfl) ?_
        refine TL_q (.int .i64 x.to) (fun _ _ hρ hm => r_load ag3 (hρ _ _ rfl) (hm.at 2 rfl) rfl) rfl rfl rfl (w_n rfl) ?_
        refine TL_q (.int .u64 (IntKind.wrap .u64 x.to)) (fun _ _ hρ _ => r_conv un3 io80 (hρ _ _ rfl)) rfl rfl rfl (w_n rfl) ?_
        obtain ⟨m9, hm0, hm8, hm9⟩ := u9_of x.to
        refine TL_q (.int .u64 m9) (fun _ _ hρ _ => r_as (r_rem (hρ _ _ rfl) (hρ _ _ rfl) (by decide)) (int_as hm9)) rfl rfl rfl (w_n rfl) ?_
        refine TL_q (.int .i64 m9) (fun _ _ hρ _ => r_as (r_conv un80 io3 (hρ _ _ rfl)) (int_as (wrap64 (by omega) (by omega)))) rfl rfl rfl (w_n rfl) ?_
        refine TL_q (.slice ar5 ((sealP l4).length) cr5) (fun _ _ hρ _ => r_move (hρ _ _ rfl)) rfl rfl rfl (w_n rfl) ?_
        refine TL_q (.agg #[.int .i64 m9, .slice ar5 ((sealP l4).length) cr5, .bool false]) (fun _ _ hρ _ => r_build (vs := [(0, .int .i64 m9), (1, .slice ar5 ((sealP l4).length) cr5)]) (by kernel_rfl) (cons2 (pair2 (hρ _ _ rfl)) (cons2 (pair2 (hρ _ _ rfl)) rfl))) rfl rfl rfl (w_n rfl) ?_
        refine TL_new 4 (.cells #[.int .i64 m9, .slice ar5 ((sealP l4).length) cr5, .bool false] 36) (fun B => .slice (some ⟨B, 0, none⟩) 1 1) (fun _ _ hρ _ => r_buildSlice (vs := [(0, .agg #[.int .i64 m9, .slice ar5 ((sealP l4).length) cr5, .bool false])]) (by kernel_rfl) (cons2 (pair2 (hρ _ _ rfl)) rfl)) rfl rfl rfl (w_n rfl) ?_
        intro B6
        refine TL_callN (fun x : Hd × List (RowG By) => NetIs (putsV (pvs h7.n.l, h7.lost) [⟨m9, sealP l4, false⟩]) x) (fun (h8, b8) => .tuple #[.agg #[.slice h8.n.a h8.n.l.length h8.n.cap, .int .u64 h8.lost], .int .i64 0]) (fun (h8, b8) => [(901, .row (.slice h8.n.a h8.n.l.length h8.n.cap) 36 3 h8.n.l.length (h8.n.l.flatMap Pcl.cells)), (903, .pool 5 1 byc b8)]) (fun _ _ hρ _ => r_call (args := [.agg #[.slice h7.n.a h7.n.l.length h7.n.cap, .int .u64 h7.lost], .slice (some ⟨B6, 0, none⟩) 1 1]) (enters_of Try.func13 (by kernel_rfl) rfl) (hρ _ _ rfl) ((cons2 (hρ _ _ rfl) (cons2 (hρ _ _ rfl) rfl))) rfl) (fun w hm => (send_ok h7.n.l h7.n.a h7.n.cap h7.lost ([⟨m9, ⟨ar5, cr5, sealP l4⟩, false⟩] : List Pcl) (some ⟨B6, 0, none⟩) 1 w (SliceAt.own Pcl.cells_len (hm.row 901 rfl) rfl rfl) (row_cap (hm.row 901 rfl)) (pcs_pool (hm.pool 903 rfl) hh7.inN) ⟨Nat.le_of_ble_eq_true rfl, (fun e => by cases e), .inr ⟨_, 0, _, _, _, rfl, (hm.at 4 rfl), row_of_take (fun _ => rfl) rfl⟩⟩ (Nat.le_of_ble_eq_true rfl) (List.forall_mem_cons.2 ⟨⟨(SliceAt.own byc_len (hm.row 3 rfl) rfl rfl), (row_cap (hm.row 3 rfl)), by show (sealP l4).length ≤ 10000; rw [sealP_len]; omega⟩, (fun _ h => nomatch h)⟩) hlo0 hbr.chk (may1 hm0 hm8 (by show (sealP l4).length ≤ 8192; rw [sealP_len]; omega))).mono fun e w' ⟨⟨h, bs⟩, hk, he, hb, hn⟩ => ⟨(h, bs), hk, he, hb, newOk2 901 903 hn.row hn.pool hn.sep⟩) rfl rfl rfl (w_n rfl) ?_
        rintro ⟨h8, b8⟩ hk8
        refine TL_q (.tuple #[.agg #[.slice h8.n.a h8.n.l.length h8.n.cap, .int .u64 h8.lost], .int .i64 0]) (fun _ _ hρ _ => r_move (hρ _ _ rfl)) rfl rfl rfl (w_n rfl) ?_
        refine TL_q (.agg #[.slice h8.n.a h8.n.l.length h8.n.cap, .int .u64 h8.lost]) (fun _ _ hρ _ => r_extract (hρ _ _ rfl) rfl) rfl rfl rfl (w_n rfl) ?_
        refine TL_q (.int .i64 0) (fun _ _ hρ _ => r_extract (hρ _ _ rfl) rfl) rfl rfl rfl (w_n rfl) ?_
        refine TL_new 5 (.cells #[.slice none 0 0, .int .u64 0] 27) (fun B => .pointer (some ⟨B, 0, none⟩)) (fun _ _ _ _ => r_alloc (v := .agg #[.slice none 0 0, .int .u64 0]) (by kernel_rfl) rfl) rfl rfl rfl (w_n rfl) ?_
        intro B7
        refine TL_store 5 (.cells #[.slice h8.n.a h8.n.l.length h8.n.cap, .int .u64 h8.lost] 27) rfl (fun _ _ hρ hm => r_store sz27 (hρ _ _ rfl) (hρ _ _ rfl) (hm.at 5 rfl) rfl rfl rfl rfl) rfl rfl (w_n rfl) ?_
        refine TL_q (.int .i64 0) (fun _ _ hρ _ => r_assign (hρ _ _ rfl)) rfl rfl rfl (w_n rfl) ?_
        refine TL_seq ?_
        refine T_sub [(3, .pointer (some ⟨B1, 0, none⟩)), (21, .slice (some ⟨b2, of2, none⟩) xs.length cap), (22, .int .i64 ((xs.length : Nat) : Int)), (23, .int .i64 ((k : Nat) : Int)), (4, .slice sa ss.length sc), (5, .int .i64 mo), (6, .int .i64 le), (24, .bool (decide (((k : Nat) : Int) < ((xs.length : Nat) : Int)))), (25, .int .i64 ((k : Nat) : Int)), (26, .pointer (some ⟨b2, of2 + k * 7, none⟩)), (27, .agg #[.bool x.sends, .int .i64 x.to, .slice x.r.a x.r.l.length x.r.cap, .int .i64 x.t.kind, .int .i64 x.t.at', .int .i64 x.t.bit, .int .u32 ((x.t.mask).toNat : Int)]), (8, .pointer (some ⟨B3, 0, none⟩)), (7, .int .i64 ((k : Nat) : Int)), (28, .int .i64 ((k : Nat) : Int)), (29, .bool (decide (((k : Nat) : Int) = 60))), (30, .pointer (some ⟨B3, 0, none⟩)), (31, .bool x.sends), (32, .pointer (some ⟨B3, 2, none⟩)), (33, .slice x.r.a x.r.l.length x.r.cap), (34, .pointer (some ⟨B3, 2, none⟩)), (35, .slice x.r.a x.r.l.length x.r.cap), (36, .int .i64 ((x.r.l.length : Nat) : Int)), (37, .int .i64 ((min x.r.l.length 40 : Nat) : Int)), (38, .slice x.r.a l4.length x.r.cap), (39, .slice ar5 ((sealP l4).length) cr5), (9, .slice ar5 ((sealP l4).length) cr5), (41, .agg #[.slice h7.n.a h7.n.l.length h7.n.cap, .int .u64 h7.lost]), (42, .pointer (some ⟨B3, 1, none⟩)), (43, .int .i64 x.to), (44, .int .u64 (IntKind.wrap .u64 x.to)), (45, .int .u64 m9), (46, .int .i64 m9), (47, .slice ar5 ((sealP l4).length) cr5), (48, .agg #[.int .i64 m9, .slice ar5 ((sealP l4).length) cr5, .bool false]), (49, .slice (some ⟨B6, 0, none⟩) 1 1), (50, .tuple #[.agg #[.slice h8.n.a h8.n.l.length h8.n.cap, .int .u64 h8.lost], .int .i64 0]), (40, .tuple #[.agg #[.slice h8.n.a h8.n.l.length h8.n.cap, .int .u64 h8.lost], .int .i64 0]), (51, .agg #[.slice h8.n.a h8.n.l.length h8.n.cap, .int .u64 h8.lost]), (52, .int .i64 0), (10, .pointer (some ⟨B7, 0, none⟩)), (11, .int .i64 0)] [(901, .row (.slice h8.n.a h8.n.l.length h8.n.cap) 36 3 h8.n.l.length (h8.n.l.flatMap Pcl.cells)), (903, .pool 5 1 byc b8), (3, .row (.slice ar5 ((sealP l4).length) cr5) 5 1 ((sealP l4).length) ((sealP l4).flatMap byc)), (1, .blk B1 (.cells #[.slice h7.n.a h7.n.l.length h7.n.cap, .int .u64 h7.lost] 27)), (963, .row (.slice sa ss.length sc) 34 1 ss.length (ss.flatMap RowG.cells)), (964, .pool 5 1 byc ss), (2, .blk B3 (.cells #[.bool x.sends, .int .i64 x.to, .slice x.r.a x.r.l.length x.r.cap, .int .i64 x.t.kind, .int .i64 x.t.at', .int .i64 x.t.bit, .int .u32 ((x.t.mask).toNat : Int)] 94)), (4, .blk B6 (.cells #[.int .i64 m9, .slice ar5 ((sealP l4).length) cr5, .bool false] 36)), (5, .blk B7 (.cells #[.slice h8.n.a h8.n.l.length h8.n.cap, .int .u64 h8.lost] 27))] (sub_cons rfl (sub_cons rfl (sub_cons rfl (sub_cons rfl (sub_cons rfl (sub_cons rfl (sub_cons rfl (sub_cons rfl (sub_cons rfl (sub_cons rfl (sub_cons rfl (sub_cons rfl (sub_cons rfl (sub_cons rfl (sub_cons rfl (sub_cons rfl (sub_cons rfl (sub_cons rfl (sub_cons rfl (sub_cons rfl (sub_cons rfl (sub_cons rfl (sub_cons rfl (sub_cons rfl (sub_cons rfl (sub_cons rfl (sub_cons rfl (sub_cons rfl (sub_cons rfl (sub_cons rfl (sub_cons rfl (sub_cons rfl (sub_cons rfl (sub_cons rfl (sub_cons rfl (sub_cons rfl (sub_cons rfl (sub_cons rfl (sub_cons rfl (sub_cons rfl (sub_cons rfl sub_nil))))))))))))))))))))))))))))))))))))))))) (sub_cons rfl (sub_cons rfl (sub_cons rfl (sub_cons rfl (sub_cons rfl (sub_cons rfl (sub_cons rfl (sub_cons rfl (sub_cons rfl sub_nil))))))))) ?_
        refine T_seq ?_
        refine T_seq (T_region ?_)
        refine TL_q (.int .i64 0) (fun _ _ hρ _ => r_move (hρ _ _ rfl)) rfl rfl rfl (w_n rfl) ?_
        refine TL_q (.bool false) (fun _ _ hρ _ => r_as (r_neq (hρ _ _ rfl) (hρ _ _ rfl)) (by rfl)) rfl rfl rfl (w_n rfl) ?_
        refine TL_seq ?_
        refine T_cond_f rfl ?_
        refine T_skip' ?_
        refine p_seq ?_
        refine T_seq (T_draw (V := [(0, .agg #[.slice h8.n.a h8.n.l.length h8.n.cap, .int .u64 h8.lost]), (1, .slice sa ss.length sc), (2, .slice ar5 ((sealP l4).length) cr5), (5, .int .i64 mo), (6, .int .i64 (mo + 1))]) [0, 0, 0, 4, 14, 0, 32, 31, 159, 511] [[(10, none)], [(4, none)], [(9, none)], [(57, some 2)], [(56, some 1), (58, some 3)], [(5, none)], [(60, some 5)], [(3, none), (55, some 0)], [(59, some 4)], [(61, some 6)]] 152 mixed (by kernel_rfl) ?_)
        refine G_step [0, 1, 2, 5, 6] 3 [] (by kernel_rfl) (allM (all_cons (q_run (.agg #[.slice h8.n.a h8.n.l.length h8.n.cap, .int .u64 h8.lost]) rfl rfl (wv_n rfl) rfl (fun _ _ hρ hm => r_loadA ag27 sz27 (hρ _ _ rfl) (hm.at 5 rfl) rfl rfl)) (all_cons (q_run (.slice sa ss.length sc) rfl rfl (wv_n rfl) rfl (fun _ _ hρ _ => r_move (hρ _ _ rfl))) (all_cons (q_run (.slice ar5 ((sealP l4).length) cr5) rfl rfl (wv_n rfl) rfl (fun _ _ hρ _ => r_move (hρ _ _ rfl))) (all_cons (q_run (.int .i64 mo) rfl rfl (wv_n rfl) rfl (fun _ _ hρ _ => r_move (hρ _ _ rfl))) (all_cons (q_run (.int .i64 (mo + 1)) rfl rfl (wv_n rfl) rfl (fun _ _ hρ _ => r_as (r_add (hρ _ _ rfl) (hρ _ _ rfl)) (int_as (wrap64 (by omega) (by omega))))) all_nil)))))) (allM (all_cons ?_ all_nil))
        refine LOb_new 6 (.cells #[.slice ar5 ((sealP l4).length) cr5] 34) (fun B => .slice (some ⟨B, 0, none⟩) 1 1) (fun B => []) rfl (wv_n rfl) rfl rfl (fun _ _ hρ _ => r_buildSlice (vs := [(0, .slice ar5 ((sealP l4).length) cr5)]) (by kernel_rfl) (cons2 (pair2 (hρ _ _ rfl)) rfl)) (fun B => by kernel_rfl) ?_
        intro B8
        refine G_step [0, 1, 5, 6] 4 [] (by kernel_rfl) (allM (all_cons (q_run (.agg #[.slice h8.n.a h8.n.l.length h8.n.cap, .int .u64 h8.lost]) rfl rfl (wv_n rfl) rfl (fun _ _ hρ hm => r_loadA ag27 sz27 (hρ _ _ rfl) (hm.at 5 rfl) rfl rfl)) (all_cons (q_run (.slice sa ss.length sc) rfl rfl (wv_n rfl) rfl (fun _ _ hρ _ => r_move (hρ _ _ rfl))) (all_cons (q_run (.int .i64 mo) rfl rfl (wv_n rfl) rfl (fun _ _ hρ _ => r_move (hρ _ _ rfl))) (all_cons (q_run (.int .i64 (mo + 1)) rfl rfl (wv_n rfl) rfl (fun _ _ hρ _ => r_as (r_add (hρ _ _ rfl) (hρ _ _ rfl)) (int_as (wrap64 (by omega) (by omega))))) all_nil))))) (allM (all_cons ?_ all_nil))
        refine LOb_append (n := ss.length) (m := 1) (xs := (ss.flatMap RowG.cells)) (news := [.slice ar5 ((sealP l4).length) cr5]) (z := .slice none 0 0) 963 (fun a cap => []) rfl (wv_n rfl) rfl rfl rfl sl63 sz34 by34 (by kernel_rfl) rfl rfl (.inl rfl) (fun _ hm => src_blk (news := [.slice ar5 ((sealP l4).length) cr5]) (hm.at 6 rfl) rfl) (by simp [Value.oneCell']) (by omega) (by omega) (fun a cap => by kernel_rfl) ?_
        intro a9 cap9
        refine G_step [0, 5, 6] 7 [] (by kernel_rfl) (allM (all_cons (q_run (.agg #[.slice h8.n.a h8.n.l.length h8.n.cap, .int .u64 h8.lost]) rfl rfl (wv_n rfl) rfl (fun _ _ hρ hm => r_loadA ag27 sz27 (hρ _ _ rfl) (hm.at 5 rfl) rfl rfl)) (all_cons (q_run (.int .i64 mo) rfl rfl (wv_n rfl) rfl (fun _ _ hρ _ => r_move (hρ _ _ rfl))) (all_cons (q_run (.int .i64 (mo + 1)) rfl rfl (wv_n rfl) rfl (fun _ _ hρ _ => r_as (r_add (hρ _ _ rfl) (hρ _ _ rfl)) (int_as (wrap64 (by omega) (by omega))))) all_nil)))) (allM (all_cons ?_ all_nil))
        refine LOb_store 1 (.cells #[.slice h8.n.a h8.n.l.length h8.n.cap, .int .u64 h8.lost] 27) [(8, .slice a9 (ss.length + 1) cap9), (9, .int .i64 (mo + 1))] rfl (wv_n rfl) rfl rfl rfl (fun _ _ hρ hm => r_store sz27 (hρ _ _ rfl) (hρ _ _ rfl) (hm.at 1 rfl) rfl rfl rfl rfl) (by kernel_rfl) ?_
        refine G_last [5, 6, 8, 9] [(3, .pointer (some ⟨B1, 0, none⟩)), (21, .slice (some ⟨b2, of2, none⟩) xs.length cap), (22, .int .i64 ((xs.length : Nat) : Int)), (23, .int .i64 ((k : Nat) : Int)), (6, .int .i64 le), (24, .bool (decide (((k : Nat) : Int) < ((xs.length : Nat) : Int)))), (25, .int .i64 ((k : Nat) : Int)), (26, .pointer (some ⟨b2, of2 + k * 7, none⟩)), (27, .agg #[.bool x.sends, .int .i64 x.to, .slice x.r.a x.r.l.length x.r.cap, .int .i64 x.t.kind, .int .i64 x.t.at', .int .i64 x.t.bit, .int .u32 ((x.t.mask).toNat : Int)]), (8, .pointer (some ⟨B3, 0, none⟩)), (7, .int .i64 ((k : Nat) : Int)), (28, .int .i64 ((k : Nat) : Int)), (29, .bool (decide (((k : Nat) : Int) = 60))), (30, .pointer (some ⟨B3, 0, none⟩)), (31, .bool x.sends), (32, .pointer (some ⟨B3, 2, none⟩)), (33, .slice x.r.a x.r.l.length x.r.cap), (34, .pointer (some ⟨B3, 2, none⟩)), (35, .slice x.r.a x.r.l.length x.r.cap), (36, .int .i64 ((x.r.l.length : Nat) : Int)), (37, .int .i64 ((min x.r.l.length 40 : Nat) : Int)), (38, .slice x.r.a l4.length x.r.cap), (39, .slice ar5 ((sealP l4).length) cr5), (9, .slice ar5 ((sealP l4).length) cr5), (41, .agg #[.slice h7.n.a h7.n.l.length h7.n.cap, .int .u64 h7.lost]), (42, .pointer (some ⟨B3, 1, none⟩)), (43, .int .i64 x.to), (44, .int .u64 (IntKind.wrap .u64 x.to)), (45, .int .u64 m9), (46, .int .i64 m9), (47, .slice ar5 ((sealP l4).length) cr5), (48, .agg #[.int .i64 m9, .slice ar5 ((sealP l4).length) cr5, .bool false]), (49, .slice (some ⟨B6, 0, none⟩) 1 1), (50, .tuple #[.agg #[.slice h8.n.a h8.n.l.length h8.n.cap, .int .u64 h8.lost], .int .i64 0]), (40, .tuple #[.agg #[.slice h8.n.a h8.n.l.length h8.n.cap, .int .u64 h8.lost], .int .i64 0]), (51, .agg #[.slice h8.n.a h8.n.l.length h8.n.cap, .int .u64 h8.lost]), (52, .int .i64 0), (10, .pointer (some ⟨B7, 0, none⟩)), (11, .int .i64 0), (53, .int .i64 0), (54, .bool false), (55, .agg #[.slice h8.n.a h8.n.l.length h8.n.cap, .int .u64 h8.lost]), (56, .slice sa ss.length sc), (57, .slice ar5 ((sealP l4).length) cr5), (58, .slice (some ⟨B8, 0, none⟩) 1 1), (59, .slice a9 (ss.length + 1) cap9), (60, .int .i64 mo), (61, .int .i64 (mo + 1)), (4, .slice a9 (ss.length + 1) cap9), (5, .int .i64 (mo + 1))] (by kernel_rfl) (allM (all_cons (q_run (.int .i64 mo) rfl rfl (wv_n rfl) rfl (fun _ _ hρ _ => r_move (hρ _ _ rfl))) (all_cons (q_run (.int .i64 (mo + 1)) rfl rfl (wv_n rfl) rfl (fun _ _ hρ _ => r_as (r_add (hρ _ _ rfl) (hρ _ _ rfl)) (int_as (wrap64 (by omega) (by omega))))) (all_cons (q_run (.slice a9 (ss.length + 1) cap9) rfl rfl (wv_n rfl) rfl (fun _ _ hρ _ => r_assign (hρ _ _ rfl))) (all_cons (q_run (.int .i64 (mo + 1)) rfl rfl (wv_n rfl) rfl (fun _ _ hρ _ => r_assign (hρ _ _ rfl))) all_nil))))) (end_old rfl rfl (end_old rfl rfl (end_old rfl rfl (end_old rfl rfl (end_old rfl rfl (end_old rfl rfl (end_old rfl rfl (end_old rfl rfl (end_old rfl rfl (end_old rfl rfl (end_old rfl rfl (end_old rfl rfl (end_old rfl rfl (end_old rfl rfl (end_old rfl rfl (end_old rfl rfl (end_old rfl rfl (end_old rfl rfl (end_old rfl rfl (end_old rfl rfl (end_old rfl rfl (end_old rfl rfl (end_old rfl rfl (end_old rfl rfl (end_old rfl rfl (end_old rfl rfl (end_old rfl rfl (end_old rfl rfl (end_old rfl rfl (end_old rfl rfl (end_old rfl rfl (end_old rfl rfl (end_old rfl rfl (end_old rfl rfl (end_old rfl rfl (end_old rfl rfl (end_old rfl rfl (end_old rfl rfl (end_old rfl rfl (end_old rfl rfl (end_old rfl rfl (end_new 0 rfl rfl (end_new 1 rfl rfl (end_new 2 rfl rfl (end_new 3 rfl rfl (end_new 4 rfl rfl (end_new 5 rfl rfl (end_new 6 rfl rfl (end_new 8 rfl rfl (end_new 9 rfl rfl end_nil)))))))))))))))))))))))))))))))))))))))))))))))))) ?_
        refine T_exit' ?_
        refine p_then_x ?_
        refine p_blk_x ?_
        refine p_seq ?_
        refine T_region ?_
        refine TL_q (.int .i64 ((k + 1 : Nat) : Int)) (fun _ _ hρ _ => r_as (r_add (hρ _ _ rfl) (hρ _ _ rfl)) (int_as ((wrap64 (by omega) (by omega)).trans (by omega)))) rfl rfl rfl (w_n rfl) ?_
        refine TL_q (.int .i64 ((k + 1 : Nat) : Int)) (fun _ _ hρ _ => r_move (hρ _ _ rfl)) rfl rfl rfl (w_n rfl) ?_
        refine TL_nil ?_
        have hn10 : (ss.length + 1) = (ss ++ [(⟨ar5, cr5, sealP l4⟩ : RowG By)]).length := by simp
        have hx10 : ((ss.flatMap RowG.cells) ++ [.slice ar5 ((sealP l4).length) cr5]) = (ss ++ [(⟨ar5, cr5, sealP l4⟩ : RowG By)]).flatMap RowG.cells := by simp [RowG.cells]
        rw [hx10, hn10]
        refine p_mem (_ :: _ :: _) (fun _ hm => hm.poolPush 964 3 rfl rfl rfl rfl) ?_
        exact p_at (k + 1, h8, b8, ss ++ [(⟨ar5, cr5, sealP l4⟩ : RowG By)], a9, cap9, mo + 1, le) ⟨⟨by omega, by omega, brings_eq hk8.nv (brings_send hbr hle0 (by omega) hm0 hm8 (by omega)), hk8.ok, by omega, by omega, by omega, by rw [List.length_append, List.length_singleton]; omega, fun r hr => (List.mem_append.1 hr).elim (hsb r) fun h => by rw [List.mem_singleton.1 h]; show (sealP l4).length ≤ 10000; rw [sealP_len]; omega⟩, by dsimp only; omega⟩ (sub_cons rfl (sub_cons rfl (sub_cons rfl (sub_cons rfl (sub_cons rfl (sub_cons rfl (sub_cons rfl sub_nil))))))) (sub_cons rfl (sub_cons rfl (sub_cons rfl (sub_cons rfl (sub_cons rfl sub_nil)))))
      · skip
        refine T_skip' ?_
        refine p_seq ?_
        by_cases hz : (doV (pvs h7.n.l, h7.lost) x.t).1 = 0
        · skip
          refine T_seq (T_region ?_)
          refine TL_q (.agg #[.slice h7.n.a h7.n.l.length h7.n.cap, .int .u64 h7.lost]) (fun _ _ hρ hm => r_loadA ag27 sz27 (hρ _ _ rfl) (hm.at 1 rfl) rfl rfl) rfl rfl rfl (w_n rfl) ?_
          refine TL_q (.pointer (some ⟨B3, 3, none⟩)) (fun _ _ hρ _ => r_fieldAddr fl94_3 sz48 (hρ _ _ rfl)) rfl rfl rfl (w_n rfl) ?_
          refine TL_q (.agg #[.int .i64 x.t.kind, .int .i64 x.t.at', .int .i64 x.t.bit, .int .u32 ((x.t.mask).toNat : Int)]) (fun _ _ hρ hm => r_loadA ag48 sz48 (hρ _ _ rfl) (hm.at 2 rfl) rfl rfl) rfl rfl rfl (w_n rfl) ?_
          refine TL_callN (fun y : Hd × List (RowG By) × Pcl => NetIs (doV (pvs h7.n.l, h7.lost) x.t).2.1 (y.1, y.2.1) ∧ y.2.2.pv = toldV (doV (pvs h7.n.l, h7.lost) x.t).2.2 ∧ (y.2.2.r ∈ y.2.1 ∧ y.2.2.r.l.length ≤ 10000 ∨ y.2.2.r = ⟨none, 0, []⟩)) (fun (h8, b8, q8) => .tuple #[.agg #[.slice h8.n.a h8.n.l.length h8.n.cap, .int .u64 h8.lost], .agg #[.int .i64 q8.to, .slice q8.r.a q8.r.l.length q8.r.cap, .bool q8.sp], .int .i64 0]) (fun (h8, b8, q8) => [(901, .row (.slice h8.n.a h8.n.l.length h8.n.cap) 36 3 h8.n.l.length (h8.n.l.flatMap Pcl.cells)), (903, .pool 5 1 byc b8)]) (fun _ _ hρ _ => r_call (args := [.agg #[.slice h7.n.a h7.n.l.length h7.n.cap, .int .u64 h7.lost], .agg #[.int .i64 x.t.kind, .int .i64 x.t.at', .int .i64 x.t.bit, .int .u32 ((x.t.mask).toNat : Int)]]) (enters_of Try.func23 (by kernel_rfl) rfl) (hρ _ _ rfl) ((cons2 (hρ _ _ rfl) (cons2 (hρ _ _ rfl) rfl))) rfl) (fun w hm => (do_ok h7.n.l h7.n.a h7.n.cap h7.lost x.t.kind x.t.at' x.t.bit x.t.mask w (SliceAt.own Pcl.cells_len (hm.row 901 rfl) rfl rfl) (row_cap (hm.row 901 rfl)) (pcs_pool (hm.pool 903 rfl) hh7.inN) hlo0 hbr.chk hz).mono fun e w' ⟨⟨h, bs⟩, q, hk, ht, hi, he, hb, hn⟩ => ⟨(h, bs, q), ⟨hk, ht, hi⟩, he, hb, newOk2 901 903 hn.row hn.pool hn.sep⟩) rfl rfl rfl (w_n rfl) ?_
          rintro ⟨h8, b8, q8⟩ ⟨hk8, hq8, hi8⟩
          refine TL_q (.tuple #[.agg #[.slice h8.n.a h8.n.l.length h8.n.cap, .int .u64 h8.lost], .agg #[.int .i64 q8.to, .slice q8.r.a q8.r.l.length q8.r.cap, .bool q8.sp], .int .i64 0]) (fun _ _ hρ _ => r_move (hρ _ _ rfl)) rfl rfl rfl (w_n rfl) ?_
          refine TL_q (.agg #[.slice h8.n.a h8.n.l.length h8.n.cap, .int .u64 h8.lost]) (fun _ _ hρ _ => r_extract (hρ _ _ rfl) rfl) rfl rfl rfl (w_n rfl) ?_
          refine TL_q (.agg #[.int .i64 q8.to, .slice q8.r.a q8.r.l.length q8.r.cap, .bool q8.sp]) (fun _ _ hρ _ => r_extract (hρ _ _ rfl) rfl) rfl rfl rfl (w_n rfl) ?_
          refine TL_q (.int .i64 0) (fun _ _ hρ _ => r_extract (hρ _ _ rfl) rfl) rfl rfl rfl (w_n rfl) ?_
          refine TL_new 7 (.cells #[.slice none 0 0, .int .u64 0] 27) (fun B => .pointer (some ⟨B, 0, none⟩)) (fun _ _ _ _ => r_alloc (v := .agg #[.slice none 0 0, .int .u64 0]) (by kernel_rfl) rfl) rfl rfl rfl (w_n rfl) ?_
          intro B11
          refine TL_new 8 (.cells #[.int .i64 0, .slice none 0 0, .bool false] 36) (fun B => .pointer (some ⟨B, 0, none⟩)) (fun _ _ _ _ => r_alloc (v := .agg #[.int .i64 0, .slice none 0 0, .bool false]) (by kernel_rfl) rfl) rfl rfl rfl (w_n rfl) ?_
          intro B12
          refine TL_store 7 (.cells #[.slice h8.n.a h8.n.l.length h8.n.cap, .int .u64 h8.lost] 27) rfl (fun _ _ hρ hm => r_store sz27 (hρ _ _ rfl) (hρ _ _ rfl) (hm.at 7 rfl) rfl rfl rfl rfl) rfl rfl (w_n rfl) ?_
          refine TL_store 8 (.cells #[.int .i64 q8.to, .slice q8.r.a q8.r.l.length q8.r.cap, .bool q8.sp] 36) rfl (fun _ _ hρ hm => r_store sz36 (hρ _ _ rfl) (hρ _ _ rfl) (hm.at 8 rfl) rfl rfl rfl rfl) rfl rfl (w_n rfl) ?_
          refine TL_q (.int .i64 0) (fun _ _ hρ _ => r_assign (hρ _ _ rfl)) rfl rfl rfl (w_n rfl) ?_
          refine TL_seq ?_
          refine T_seq ?_
          refine T_seq (T_region ?_)
          refine TL_q (.int .i64 0) (fun _ _ hρ _ => r_move (hρ _ _ rfl)) rfl rfl rfl (w_n rfl) ?_
          refine TL_q (.bool false) (fun _ _ hρ _ => r_as (r_neq (hρ _ _ rfl) (hρ _ _ rfl)) (by rfl)) rfl rfl rfl (w_n rfl) ?_
          refine TL_seq ?_
          refine T_cond_f rfl ?_
          refine T_skip' ?_
          refine p_seq ?_
          refine T_seq (T_region ?_)
          refine TL_q (.agg #[.slice h8.n.a h8.n.l.length h8.n.cap, .int .u64 h8.lost]) (fun _ _ hρ hm => r_loadA ag27 sz27 (hρ _ _ rfl) (hm.at 7 rfl) rfl rfl) rfl rfl rfl (w_n rfl) ?_
          refine TL_store 1 (.cells #[.slice h8.n.a h8.n.l.length h8.n.cap, .int .u64 h8.lost] 27) rfl (fun _ _ hρ hm => r_store sz27 (hρ _ _ rfl) (hρ _ _ rfl) (hm.at 1 rfl) rfl rfl rfl rfl) rfl rfl (w_n rfl) ?_
          refine TL_seq ?_
          refine T_seq ?_
          refine T_seq (T_region ?_)
          refine TL_q (.pointer (some ⟨B3, 3, none⟩)) (fun _ _ hρ _ => r_fieldAddr fl94_3 sz48 (hρ _ _ rfl)) rfl rfl rfl (w_n rfl) ?_
          refine TL_q (.pointer (some ⟨B3, 3, none⟩)) (fun _ _ hρ _ => r_fieldAddr fl48_0 sz3 (hρ _ _ rfl)) rfl rfl rfl (w_n rfl) ?_
          refine TL_q (.int .i64 x.t.kind) (fun _ _ hρ hm => r_load ag3 (hρ _ _ rfl) (hm.at 2 rfl) rfl) rfl rfl rfl (w_n rfl) ?_
          refine TL_seq ?_
          refine T_block ?_
          refine T_seq (T_region ?_)
          refine TL_q (.bool (decide (x.t.kind = 1))) (fun _ _ hρ _ => r_eql (hρ _ _ rfl) (hρ _ _ rfl)) rfl rfl rfl (w_n rfl) ?_
          refine TL_q (.bool (decide (x.t.kind = 1))) (fun _ _ hρ _ => r_assign (hρ _ _ rfl)) rfl rfl rfl (w_n rfl) ?_
          refine TL_seq ?_
          refine T_cond rfl (fun h4 => ?_) (fun h4 => ?_)
          · replace h4 := of_decide_eq_true h4
            have hkd : x.t.kind = 1 := h4
            refine T_seq (T_region ?_)
            refine TL_q (.int .i64 le) (fun _ _ hρ _ => r_move (hρ _ _ rfl)) rfl rfl rfl (w_n rfl) ?_
            refine TL_q (.int .i64 (le + 1)) (fun _ _ hρ _ => r_as (r_add (hρ _ _ rfl) (hρ _ _ rfl)) (int_as (wrap64 (by omega) (by omega)))) rfl rfl rfl (w_n rfl) ?_
            refine TL_q (.int .i64 (le + 1)) (fun _ _ hρ _ => r_assign (hρ _ _ rfl)) rfl rfl rfl (w_n rfl) ?_
            refine TL_seq ?_
            refine T_sub [(3, .pointer (some ⟨B1, 0, none⟩)), (21, .slice (some ⟨b2, of2, none⟩) xs.length cap), (22, .int .i64 ((xs.length : Nat) : Int)), (23, .int .i64 ((k : Nat) : Int)), (4, .slice sa ss.length sc), (5, .int .i64 mo), (24, .bool (decide (((k : Nat) : Int) < ((xs.length : Nat) : Int)))), (25, .int .i64 ((k : Nat) : Int)), (26, .pointer (some ⟨b2, of2 + k * 7, none⟩)), (27, .agg #[.bool x.sends, .int .i64 x.to, .slice x.r.a x.r.l.length x.r.cap, .int .i64 x.t.kind, .int .i64 x.t.at', .int .i64 x.t.bit, .int .u32 ((x.t.mask).toNat : Int)]), (8, .pointer (some ⟨B3, 0, none⟩)), (7, .int .i64 ((k : Nat) : Int)), (28, .int .i64 ((k : Nat) : Int)), (29, .bool (decide (((k : Nat) : Int) = 60))), (30, .pointer (some ⟨B3, 0, none⟩)), (31, .bool x.sends), (63, .agg #[.slice h7.n.a h7.n.l.length h7.n.cap, .int .u64 h7.lost]), (64, .pointer (some ⟨B3, 3, none⟩)), (65, .agg #[.int .i64 x.t.kind, .int .i64 x.t.at', .int .i64 x.t.bit, .int .u32 ((x.t.mask).toNat : Int)]), (66, .tuple #[.agg #[.slice h8.n.a h8.n.l.length h8.n.cap, .int .u64 h8.lost], .agg #[.int .i64 q8.to, .slice q8.r.a q8.r.l.length q8.r.cap, .bool q8.sp], .int .i64 0]), (62, .tuple #[.agg #[.slice h8.n.a h8.n.l.length h8.n.cap, .int .u64 h8.lost], .agg #[.int .i64 q8.to, .slice q8.r.a q8.r.l.length q8.r.cap, .bool q8.sp], .int .i64 0]), (67, .agg #[.slice h8.n.a h8.n.l.length h8.n.cap, .int .u64 h8.lost]), (68, .agg #[.int .i64 q8.to, .slice q8.r.a q8.r.l.length q8.r.cap, .bool q8.sp]), (69, .int .i64 0), (12, .pointer (some ⟨B11, 0, none⟩)), (13, .pointer (some ⟨B12, 0, none⟩)), (14, .int .i64 0), (70, .int .i64 0), (71, .bool false), (72, .agg #[.slice h8.n.a h8.n.l.length h8.n.cap, .int .u64 h8.lost]), (73, .pointer (some ⟨B3, 3, none⟩)), (74, .pointer (some ⟨B3, 3, none⟩)), (75, .int .i64 x.t.kind), (77, .bool (decide (x.t.kind = 1))), (76, .bool (decide (x.t.kind = 1))), (78, .int .i64 le), (79, .int .i64 (le + 1)), (6, .int .i64 (le + 1))] [(901, .row (.slice h8.n.a h8.n.l.length h8.n.cap) 36 3 h8.n.l.length (h8.n.l.flatMap Pcl.cells)), (903, .pool 5 1 byc b8), (963, .row (.slice sa ss.length sc) 34 1 ss.length (ss.flatMap RowG.cells)), (964, .pool 5 1 byc ss), (2, .blk B3 (.cells #[.bool x.sends, .int .i64 x.to, .slice x.r.a x.r.l.length x.r.cap, .int .i64 x.t.kind, .int .i64 x.t.at', .int .i64 x.t.bit, .int .u32 ((x.t.mask).toNat : Int)] 94)), (7, .blk B11 (.cells #[.slice h8.n.a h8.n.l.length h8.n.cap, .int .u64 h8.lost] 27)), (8, .blk B12 (.cells #[.int .i64 q8.to, .slice q8.r.a q8.r.l.length q8.r.cap, .bool q8.sp] 36)), (1, .blk B1 (.cells #[.slice h8.n.a h8.n.l.length h8.n.cap, .int .u64 h8.lost] 27))] (sub_cons rfl (sub_cons rfl (sub_cons rfl (sub_cons rfl (sub_cons rfl (sub_cons rfl (sub_cons rfl (sub_cons rfl (sub_cons rfl (sub_cons rfl (sub_cons rfl (sub_cons rfl (sub_cons rfl (sub_cons rfl (sub_cons rfl (sub_cons rfl (sub_cons rfl (sub_cons rfl (sub_cons rfl (sub_cons rfl (sub_cons rfl (sub_cons rfl (sub_cons rfl (sub_cons rfl (sub_cons rfl (sub_cons rfl (sub_cons rfl (sub_cons rfl (sub_cons rfl (sub_cons rfl (sub_cons rfl (sub_cons rfl (sub_cons rfl (sub_cons rfl (sub_cons rfl (sub_cons rfl (sub_cons rfl (sub_cons rfl sub_nil)))))))))))))))))))))))))))))))))))))) (sub_cons rfl (sub_cons rfl (sub_cons rfl (sub_cons rfl (sub_cons rfl (sub_cons rfl (sub_cons rfl (sub_cons rfl sub_nil)))))))) ?_
            have hfin := brings_told hbr hz hkd
            have hql : q8.r.l.length ≤ 10000 := hi8.elim (fun h => h.2) fun h => by rw [h]; exact Nat.zero_le _
            by_cases hsp : q8.sp = true
            · skip
              refine T_seq (T_region ?_)
              refine TL_q (.pointer (some ⟨B12, 1, none⟩)) (fun _ _ hρ _ => r_fieldAddr fl36_1 sz34 (hρ _ _ rfl)) rfl rfl rfl (w_n rfl) ?_
              refine TL_q (.slice q8.r.a q8.r.l.length q8.r.cap) (fun _ _ hρ hm => r_load ag34 (hρ _ _ rfl) (hm.at 8 rfl) rfl) rfl rfl rfl (w_n rfl) ?_
              refine TL_callN (fun (_ : Option Addr × Nat) => True) (fun (ao13, co13) => .tuple #[.slice ao13 ((openL q8.r.l).length) co13, .int .i64 120]) (fun (ao13, co13) => [(9, .row (.slice ao13 ((openL q8.r.l).length) co13) 5 1 ((openL q8.r.l).length) ((openL q8.r.l).flatMap byc))]) (fun _ _ hρ _ => r_call (args := [.slice q8.r.a q8.r.l.length q8.r.cap]) (enters_of Try.func56 (by kernel_rfl) rfl) (hρ _ _ rfl) ((cons2 (hρ _ _ rfl) rfl)) rfl) (fun w hm => (open_c q8.r.l q8.r.a q8.r.cap w (told_at (hm.pool 903 rfl) hi8) (by omega) (told_cap (hm.pool 903 rfl) hi8)).mono fun e w' ⟨a', cap', he, hb, hr⟩ => ⟨(a', cap'), trivial, he.trans (by rw [fine_spoilt hfin hq8 hsp]), hb, newOk1 9 hr⟩) rfl rfl rfl (w_n rfl) ?_
              rintro ⟨ao13, co13⟩ -
              refine TL_q (.tuple #[.slice ao13 ((openL q8.r.l).length) co13, .int .i64 120]) (fun _ _ hρ _ => r_move (hρ _ _ rfl)) rfl rfl rfl (w_n rfl) ?_
              refine TL_q (.slice ao13 ((openL q8.r.l).length) co13) (fun _ _ hρ _ => r_extract (hρ _ _ rfl) rfl) rfl rfl rfl (w_n rfl) ?_
              refine TL_q (.int .i64 120) (fun _ _ hρ _ => r_extract (hρ _ _ rfl) rfl) rfl rfl rfl (w_n rfl) ?_
              refine TL_q (.slice ao13 ((openL q8.r.l).length) co13) (fun _ _ hρ _ => r_assign (hρ _ _ rfl)) rfl rfl rfl (w_n rfl) ?_
              refine TL_q (.int .i64 120) (fun _ _ hρ _ => r_assign (hρ _ _ rfl)) rfl rfl rfl (w_n rfl) ?_
              refine TL_seq ?_
              refine T_seq (T_region ?_)
              refine TL_q (.slice sa ss.length sc) (fun _ _ hρ _ => r_move (hρ _ _ rfl)) rfl rfl rfl (w_n rfl) ?_
              refine TL_q (.func (.func 58) #[] #[.pointer (some ⟨B12, 0, none⟩)]) (fun _ _ hρ _ => r_makeFunc (by simp) (map_arr (cons2 (hρ _ _ rfl) rfl))) rfl rfl rfl (w_n rfl) ?_
              refine TL_call (.bool (ss.any (fun r => decide (r.l = q8.r.l)))) (fun _ _ hρ _ => r_call (args := [.slice sa ss.length sc, .func (.func 58) #[] #[.pointer (some ⟨B12, 0, none⟩)]]) (enters_of Try.func57 (by kernel_rfl) rfl) (hρ _ _ rfl) ((cons2 (hρ _ _ rfl) (cons2 (hρ _ _ rfl) rfl))) rfl) (fun w hm => rcon_c ss sa sc w (SliceAt.own RowG.cells_len (hm.row 963 rfl) rfl rfl) (row_cap (hm.row 963 rfl)) 58 #[.pointer (some ⟨B12, 0, none⟩)] (enters_of Try.func58 (by kernel_rfl) rfl) (fun r => decide (r.l = q8.r.l)) (fun w2 hb2 r hr => brif_c r q8 B12 w2 ((poolAt byc_len (hm.pool 964 rfl) hr).keep hb2) (poolCap (hm.pool 964 rfl) hr) (hsb r hr) hql ⟨(told_at (hm.pool 903 rfl) hi8).keep hb2, told_cap (hm.pool 903 rfl) hi8⟩ (kept hb2 (hm.at 8 rfl)))) rfl rfl rfl (w_n rfl) ?_
              refine TL_q (.bool (ss.any (fun r => decide (r.l = q8.r.l)))) (fun _ _ hρ _ => r_assign (hρ _ _ rfl)) rfl rfl rfl (w_n rfl) ?_
              refine TL_seq ?_
              refine T_seq (T_region ?_)
              refine TL_q (.pointer (some ⟨B12, 2, none⟩)) (fun _ _ hρ _ => r_fieldAddr fl36_2 sz4 (hρ _ _ rfl)) rfl rfl rfl (w_n rfl) ?_
              refine TL_q (.bool true) (fun _ _ hρ hm => r_as (r_load ag4 (hρ _ _ rfl) (hm.at 8 rfl) rfl) (bool_as hsp)) rfl rfl rfl (w_n rfl) ?_
              refine TL_q (.bool false) (fun _ _ hρ _ => r_not (b := true) (hρ _ _ rfl)) rfl rfl rfl (w_n rfl) ?_
              refine TL_q (.bool false) (fun _ _ hρ _ => r_move (hρ _ _ rfl)) rfl rfl rfl (w_n rfl) ?_
              refine TL_no rfl rfl (want_n 92 rfl rfl rfl) ?_
              refine TL_no rfl rfl (want_n 92 rfl rfl rfl) ?_
              refine TL_no rfl rfl (want_n 92 rfl rfl rfl) ?_
              refine TL_no rfl rfl (want_u 95 rfl rfl rfl) ?_
              refine TL_no rfl rfl (want_u 95 rfl rfl rfl) ?_
              refine TL_no rfl rfl (want_n 92 rfl rfl rfl) ?_
              refine TL_q (.bool false) (fun _ _ hρ _ => r_pick_f (hρ _ _ rfl) (hρ _ _ rfl)) rfl rfl rfl (w_n rfl) ?_
              refine TL_q (.bool false) (fun _ _ hρ _ => r_move (hρ _ _ rfl)) rfl rfl rfl (w_n rfl) ?_
              refine TL_q (.pointer (some ⟨B12, 2, none⟩)) (fun _ _ hρ _ => r_fieldAddr fl36_2 sz4 (hρ _ _ rfl)) rfl rfl rfl (want_y 100 rfl rfl rfl) ?_
              refine TL_q (.bool true) (fun _ _ hρ hm => r_as (r_load ag4 (hρ _ _ rfl) (hm.at 8 rfl) rfl) (bool_as hsp)) rfl rfl rfl (want_y 100 rfl rfl rfl) ?_
              refine TL_q (.bool true) (fun _ _ hρ _ => r_move (hρ _ _ rfl)) rfl rfl rfl (want_y 100 rfl rfl rfl) ?_
              refine TL_q (.int .i64 120) (fun _ _ hρ _ => r_move (hρ _ _ rfl)) rfl rfl rfl (want_y 103 rfl rfl rfl) ?_
              refine TL_q (.bool false) (fun _ _ hρ _ => r_as (r_neq (hρ _ _ rfl) (hρ _ _ rfl)) (by rfl)) rfl rfl rfl (want_y 103 rfl rfl rfl) ?_
              refine TL_q (.bool false) (fun _ _ hρ _ => r_pick_t (hρ _ _ rfl) (hρ _ _ rfl)) rfl rfl rfl (want_y 100 rfl rfl rfl) ?_
              refine TL_q (.bool false) (fun _ _ hρ _ => r_pick_f (hρ _ _ rfl) (hρ _ _ rfl)) rfl rfl rfl (w_n rfl) ?_
              refine TL_seq ?_
              refine T_sub [(3, .pointer (some ⟨B1, 0, none⟩)), (21, .slice (some ⟨b2, of2, none⟩) xs.length cap), (22, .int .i64 ((xs.length : Nat) : Int)), (23, .int .i64 ((k : Nat) : Int)), (4, .slice sa ss.length sc), (5, .int .i64 mo), (24, .bool (decide (((k : Nat) : Int) < ((xs.length : Nat) : Int)))), (25, .int .i64 ((k : Nat) : Int)), (26, .pointer (some ⟨b2, of2 + k * 7, none⟩)), (27, .agg #[.bool x.sends, .int .i64 x.to, .slice x.r.a x.r.l.length x.r.cap, .int .i64 x.t.kind, .int .i64 x.t.at', .int .i64 x.t.bit, .int .u32 ((x.t.mask).toNat : Int)]), (8, .pointer (some ⟨B3, 0, none⟩)), (7, .int .i64 ((k : Nat) : Int)), (28, .int .i64 ((k : Nat) : Int)), (29, .bool (decide (((k : Nat) : Int) = 60))), (30, .pointer (some ⟨B3, 0, none⟩)), (31, .bool x.sends), (63, .agg #[.slice h7.n.a h7.n.l.length h7.n.cap, .int .u64 h7.lost]), (64, .pointer (some ⟨B3, 3, none⟩)), (65, .agg #[.int .i64 x.t.kind, .int .i64 x.t.at', .int .i64 x.t.bit, .int .u32 ((x.t.mask).toNat : Int)]), (66, .tuple #[.agg #[.slice h8.n.a h8.n.l.length h8.n.cap, .int .u64 h8.lost], .agg #[.int .i64 q8.to, .slice q8.r.a q8.r.l.length q8.r.cap, .bool q8.sp], .int .i64 0]), (62, .tuple #[.agg #[.slice h8.n.a h8.n.l.length h8.n.cap, .int .u64 h8.lost], .agg #[.int .i64 q8.to, .slice q8.r.a q8.r.l.length q8.r.cap, .bool q8.sp], .int .i64 0]), (67, .agg #[.slice h8.n.a h8.n.l.length h8.n.cap, .int .u64 h8.lost]), (68, .agg #[.int .i64 q8.to, .slice q8.r.a q8.r.l.length q8.r.cap, .bool q8.sp]), (69, .int .i64 0), (12, .pointer (some ⟨B11, 0, none⟩)), (13, .pointer (some ⟨B12, 0, none⟩)), (14, .int .i64 0), (70, .int .i64 0), (71, .bool false), (72, .agg #[.slice h8.n.a h8.n.l.length h8.n.cap, .int .u64 h8.lost]), (73, .pointer (some ⟨B3, 3, none⟩)), (74, .pointer (some ⟨B3, 3, none⟩)), (75, .int .i64 x.t.kind), (77, .bool (decide (x.t.kind = 1))), (76, .bool (decide (x.t.kind = 1))), (78, .int .i64 le), (79, .int .i64 (le + 1)), (6, .int .i64 (le + 1)), (81, .pointer (some ⟨B12, 1, none⟩)), (82, .slice q8.r.a q8.r.l.length q8.r.cap), (83, .tuple #[.slice ao13 ((openL q8.r.l).length) co13, .int .i64 120]), (80, .tuple #[.slice ao13 ((openL q8.r.l).length) co13, .int .i64 120]), (84, .slice ao13 ((openL q8.r.l).length) co13), (85, .int .i64 120), (16, .int .i64 120), (86, .slice sa ss.length sc), (87, .func (.func 58) #[] #[.pointer (some ⟨B12, 0, none⟩)]), (88, .bool (ss.any (fun r => decide (r.l = q8.r.l)))), (17, .bool (ss.any (fun r => decide (r.l = q8.r.l)))), (89, .pointer (some ⟨B12, 2, none⟩)), (90, .bool true), (91, .bool false), (92, .bool false), (93, undef), (94, undef), (95, undef), (96, undef), (97, undef), (98, undef), (99, .bool false), (100, .bool false), (101, .pointer (some ⟨B12, 2, none⟩)), (102, .bool true), (103, .bool true), (104, .int .i64 120), (105, .bool false), (106, .bool false), (107, .bool false)] [(9, .row (.slice ao13 ((openL q8.r.l).length) co13) 5 1 ((openL q8.r.l).length) ((openL q8.r.l).flatMap byc)), (901, .row (.slice h8.n.a h8.n.l.length h8.n.cap) 36 3 h8.n.l.length (h8.n.l.flatMap Pcl.cells)), (903, .pool 5 1 byc b8), (963, .row (.slice sa ss.length sc) 34 1 ss.length (ss.flatMap RowG.cells)), (964, .pool 5 1 byc ss), (2, .blk B3 (.cells #[.bool x.sends, .int .i64 x.to, .slice x.r.a x.r.l.length x.r.cap, .int .i64 x.t.kind, .int .i64 x.t.at', .int .i64 x.t.bit, .int .u32 ((x.t.mask).toNat : Int)] 94)), (7, .blk B11 (.cells #[.slice h8.n.a h8.n.l.length h8.n.cap, .int .u64 h8.lost] 27)), (8, .blk B12 (.cells #[.int .i64 q8.to, .slice q8.r.a q8.r.l.length q8.r.cap, .bool q8.sp] 36)), (1, .blk B1 (.cells #[.slice h8.n.a h8.n.l.length h8.n.cap, .int .u64 h8.lost] 27))] (sub_cons rfl (sub_cons rfl (sub_cons rfl (sub_cons rfl (sub_cons rfl (sub_cons rfl (sub_cons rfl (sub_cons rfl (sub_cons rfl (sub_cons rfl (sub_cons rfl (sub_cons rfl (sub_cons rfl (sub_cons rfl (sub_cons rfl (sub_cons rfl (sub_cons rfl (sub_cons rfl (sub_cons rfl (sub_cons rfl (sub_cons rfl (sub_cons rfl (sub_cons rfl (sub_cons rfl (sub_cons rfl (sub_cons rfl (sub_cons rfl (sub_cons rfl (sub_cons rfl (sub_cons rfl (sub_cons rfl (sub_cons rfl (sub_cons rfl (sub_cons rfl (sub_cons rfl (sub_cons rfl (sub_cons rfl (sub_cons rfl (sub_cons rfl (sub_cons rfl (sub_cons rfl (sub_cons rfl (sub_cons rfl (sub_cons rfl (sub_cons rfl (sub_cons rfl (sub_cons rfl (sub_cons rfl (sub_cons rfl (sub_cons rfl (sub_cons rfl (sub_cons rfl (sub_cons rfl (sub_cons rfl (sub_cons rfl (sub_cons rfl (sub_cons rfl (sub_cons rfl (sub_cons rfl (sub_cons rfl (sub_cons rfl (sub_cons rfl (sub_cons rfl (sub_cons rfl (sub_cons rfl (sub_cons rfl (sub_cons rfl (sub_cons rfl sub_nil)))))))))))))))))))))))))))))))))))))))))))))))))))))))))))))))))))) (sub_cons rfl (sub_cons rfl (sub_cons rfl (sub_cons rfl (sub_cons rfl (sub_cons rfl (sub_cons rfl (sub_cons rfl (sub_cons rfl sub_nil))))))))) ?_
              refine T_cond_f rfl ?_
              refine T_skip' ?_
              refine p_blk_n ?_
              refine p_seq ?_
              have hbr8 : Brings (ss.map RowG.l) h8.nv (mo) (le + 1) := brings_eq hk8.nv (brings_take hbr hz (.inl hkd))
              refine T_seq (T_region ?_)
              refine TL_q (.agg #[.slice h8.n.a h8.n.l.length h8.n.cap, .int .u64 h8.lost]) (fun _ _ hρ hm => r_loadA ag27 sz27 (hρ _ _ rfl) (hm.at 1 rfl) rfl rfl) rfl rfl rfl (w_n rfl) ?_
              refine TL_call (.int .i64 0) (fun _ _ hρ _ => r_call (args := [.agg #[.slice h8.n.a h8.n.l.length h8.n.cap, .int .u64 h8.lost]]) (enters_of Try.func31 (by kernel_rfl) rfl) (hρ _ _ rfl) ((cons2 (hρ _ _ rfl) rfl)) rfl) (fun w hm => (ncheck_c h8.n.l h8.n.a h8.n.cap h8.lost w (SliceAt.own Pcl.cells_len (hm.row 901 rfl) rfl rfl) (row_cap (hm.row 901 rfl)) (pcs_pool (hm.pool 903 rfl) hk8.ok.inN)).mono fun _ _ h => ⟨h.1.trans (congrArg Ending.returned (int_as (if_pos hbr8.chk))), h.2⟩) rfl rfl rfl (w_n rfl) ?_
              refine TL_q (.bool false) (fun _ _ hρ _ => r_as (r_neq (hρ _ _ rfl) (hρ _ _ rfl)) (by rfl)) rfl rfl rfl (w_n rfl) ?_
              refine TL_seq ?_
              refine T_cond_f rfl ?_
              refine T_skip' ?_
              refine p_blk_n ?_
              refine p_seq ?_
              refine T_region ?_
              refine TL_q (.int .i64 ((k + 1 : Nat) : Int)) (fun _ _ hρ _ => r_as (r_add (hρ _ _ rfl) (hρ _ _ rfl)) (int_as ((wrap64 (by omega) (by omega)).trans (by omega)))) rfl rfl rfl (w_n rfl) ?_
              refine TL_q (.int .i64 ((k + 1 : Nat) : Int)) (fun _ _ hρ _ => r_move (hρ _ _ rfl)) rfl rfl rfl (w_n rfl) ?_
              refine TL_nil ?_
              exact p_at (k + 1, h8, b8, ss, sa, sc, mo, le + 1) ⟨⟨by omega, by omega, hbr8, hk8.ok, by omega, by omega, by omega, by omega, hsb⟩, by dsimp only; omega⟩ (sub_cons rfl (sub_cons rfl (sub_cons rfl (sub_cons rfl (sub_cons rfl (sub_cons rfl (sub_cons rfl sub_nil))))))) (sub_cons rfl (sub_cons rfl (sub_cons rfl (sub_cons rfl (sub_cons rfl sub_nil)))))
            · skip
              refine T_seq (T_region ?_)
              refine TL_q (.pointer (some ⟨B12, 1, none⟩)) (fun _ _ hρ _ => r_fieldAddr fl36_1 sz34 (hρ _ _ rfl)) rfl rfl rfl (w_n rfl) ?_
              refine TL_q (.slice q8.r.a q8.r.l.length q8.r.cap) (fun _ _ hρ hm => r_load ag34 (hρ _ _ rfl) (hm.at 8 rfl) rfl) rfl rfl rfl (w_n rfl) ?_
              refine TL_callN (fun (_ : Option Addr × Nat) => True) (fun (ao14, co14) => .tuple #[.slice ao14 ((openL q8.r.l).length) co14, .int .i64 0]) (fun (ao14, co14) => [(10, .row (.slice ao14 ((openL q8.r.l).length) co14) 5 1 ((openL q8.r.l).length) ((openL q8.r.l).flatMap byc))]) (fun _ _ hρ _ => r_call (args := [.slice q8.r.a q8.r.l.length q8.r.cap]) (enters_of Try.func56 (by kernel_rfl) rfl) (hρ _ _ rfl) ((cons2 (hρ _ _ rfl) rfl)) rfl) (fun w hm => (open_c q8.r.l q8.r.a q8.r.cap w (told_at (hm.pool 903 rfl) hi8) (by omega) (told_cap (hm.pool 903 rfl) hi8)).mono fun e w' ⟨a', cap', he, hb, hr⟩ => ⟨(a', cap'), trivial, he.trans (by rw [fine_open hfin hq8 hsp]), hb, newOk1 10 hr⟩) rfl rfl rfl (w_n rfl) ?_
              rintro ⟨ao14, co14⟩ -
              refine TL_q (.tuple #[.slice ao14 ((openL q8.r.l).length) co14, .int .i64 0]) (fun _ _ hρ _ => r_move (hρ _ _ rfl)) rfl rfl rfl (w_n rfl) ?_
              refine TL_q (.slice ao14 ((openL q8.r.l).length) co14) (fun _ _ hρ _ => r_extract (hρ _ _ rfl) rfl) rfl rfl rfl (w_n rfl) ?_
              refine TL_q (.int .i64 0) (fun _ _ hρ _ => r_extract (hρ _ _ rfl) rfl) rfl rfl rfl (w_n rfl) ?_
              refine TL_q (.slice ao14 ((openL q8.r.l).length) co14) (fun _ _ hρ _ => r_assign (hρ _ _ rfl)) rfl rfl rfl (w_n rfl) ?_
              refine TL_q (.int .i64 0) (fun _ _ hρ _ => r_assign (hρ _ _ rfl)) rfl rfl rfl (w_n rfl) ?_
              refine TL_seq ?_
              refine T_seq (T_region ?_)
              refine TL_q (.slice sa ss.length sc) (fun _ _ hρ _ => r_move (hρ _ _ rfl)) rfl rfl rfl (w_n rfl) ?_
              refine TL_q (.func (.func 58) #[] #[.pointer (some ⟨B12, 0, none⟩)]) (fun _ _ hρ _ => r_makeFunc (by simp) (map_arr (cons2 (hρ _ _ rfl) rfl))) rfl rfl rfl (w_n rfl) ?_
              refine TL_call (.bool true) (fun _ _ hρ _ => r_call (args := [.slice sa ss.length sc, .func (.func 58) #[] #[.pointer (some ⟨B12, 0, none⟩)]]) (enters_of Try.func57 (by kernel_rfl) rfl) (hρ _ _ rfl) ((cons2 (hρ _ _ rfl) (cons2 (hρ _ _ rfl) rfl))) rfl) (fun w hm => (rcon_c ss sa sc w (SliceAt.own RowG.cells_len (hm.row 963 rfl) rfl rfl) (row_cap (hm.row 963 rfl)) 58 #[.pointer (some ⟨B12, 0, none⟩)] (enters_of Try.func58 (by kernel_rfl) rfl) (fun r => decide (r.l = q8.r.l)) (fun w2 hb2 r hr => brif_c r q8 B12 w2 ((poolAt byc_len (hm.pool 964 rfl) hr).keep hb2) (poolCap (hm.pool 964 rfl) hr) (hsb r hr) hql ⟨(told_at (hm.pool 903 rfl) hi8).keep hb2, told_cap (hm.pool 903 rfl) hi8⟩ (kept hb2 (hm.at 8 rfl)))).mono fun _ _ h => ⟨h.1.trans (congrArg Ending.returned (bool_as (fine_known hfin hq8 hsp))), h.2⟩) rfl rfl rfl (w_n rfl) ?_
              refine TL_q (.bool true) (fun _ _ hρ _ => r_assign (hρ _ _ rfl)) rfl rfl rfl (w_n rfl) ?_
              refine TL_seq ?_
              refine T_seq (T_region ?_)
              refine TL_q (.pointer (some ⟨B12, 2, none⟩)) (fun _ _ hρ _ => r_fieldAddr fl36_2 sz4 (hρ _ _ rfl)) rfl rfl rfl (w_n rfl) ?_
              refine TL_q (.bool false) (fun _ _ hρ hm => r_as (r_load ag4 (hρ _ _ rfl) (hm.at 8 rfl) rfl) (bool_as (eq_false_of_ne_true hsp))) rfl rfl rfl (w_n rfl) ?_
              refine TL_q (.bool true) (fun _ _ hρ _ => r_not (b := false) (hρ _ _ rfl)) rfl rfl rfl (w_n rfl) ?_
              refine TL_q (.bool true) (fun _ _ hρ _ => r_move (hρ _ _ rfl)) rfl rfl rfl (w_n rfl) ?_
              refine TL_q (.bool true) (fun _ _ hρ _ => r_move (hρ _ _ rfl)) rfl rfl rfl (want_y 92 rfl rfl rfl) ?_
              refine TL_q (.bool false) (fun _ _ hρ _ => r_not (b := true) (hρ _ _ rfl)) rfl rfl rfl (want_y 92 rfl rfl rfl) ?_
              refine TL_q (.bool false) (fun _ _ hρ _ => r_move (hρ _ _ rfl)) rfl rfl rfl (want_y 92 rfl rfl rfl) ?_
              refine TL_q (.int .i64 0) (fun _ _ hρ _ => r_move (hρ _ _ rfl)) rfl rfl rfl (want_y 95 rfl rfl rfl) ?_
              refine TL_q (.bool false) (fun _ _ hρ _ => r_as (r_neq (hρ _ _ rfl) (hρ _ _ rfl)) (by rfl)) rfl rfl rfl (want_y 95 rfl rfl rfl) ?_
              refine TL_q (.bool false) (fun _ _ hρ _ => r_pick_f (hρ _ _ rfl) (hρ _ _ rfl)) rfl rfl rfl (want_y 92 rfl rfl rfl) ?_
              refine TL_q (.bool false) (fun _ _ hρ _ => r_pick_t (hρ _ _ rfl) (hρ _ _ rfl)) rfl rfl rfl (w_n rfl) ?_
              refine TL_q (.bool false) (fun _ _ hρ _ => r_move (hρ _ _ rfl)) rfl rfl rfl (w_n rfl) ?_
              refine TL_q (.pointer (some ⟨B12, 2, none⟩)) (fun _ _ hρ _ => r_fieldAddr fl36_2 sz4 (hρ _ _ rfl)) rfl rfl rfl (want_y 100 rfl rfl rfl) ?_
              refine TL_q (.bool false) (fun _ _ hρ hm => r_as (r_load ag4 (hρ _ _ rfl) (hm.at 8 rfl) rfl) (bool_as (eq_false_of_ne_true hsp))) rfl rfl rfl (want_y 100 rfl rfl rfl) ?_
              refine TL_q (.bool false) (fun _ _ hρ _ => r_move (hρ _ _ rfl)) rfl rfl rfl (want_y 100 rfl rfl rfl) ?_
              refine TL_no rfl rfl (want_n 103 rfl rfl rfl) ?_
              refine TL_no rfl rfl (want_n 103 rfl rfl rfl) ?_
              refine TL_q (.bool false) (fun _ _ hρ _ => r_pick_f (hρ _ _ rfl) (hρ _ _ rfl)) rfl rfl rfl (want_y 100 rfl rfl rfl) ?_
              refine TL_q (.bool false) (fun _ _ hρ _ => r_pick_f (hρ _ _ rfl) (hρ _ _ rfl)) rfl rfl rfl (w_n rfl) ?_
              refine TL_seq ?_
              refine T_sub [(3, .pointer (some ⟨B1, 0, none⟩)), (21, .slice (some ⟨b2, of2, none⟩) xs.length cap), (22, .int .i64 ((xs.length : Nat) : Int)), (23, .int .i64 ((k : Nat) : Int)), (4, .slice sa ss.length sc), (5, .int .i64 mo), (24, .bool (decide (((k : Nat) : Int) < ((xs.length : Nat) : Int)))), (25, .int .i64 ((k : Nat) : Int)), (26, .pointer (some ⟨b2, of2 + k * 7, none⟩)), (27, .agg #[.bool x.sends, .int .i64 x.to, .slice x.r.a x.r.l.length x.r.cap, .int .i64 x.t.kind, .int .i64 x.t.at', .int .i64 x.t.bit, .int .u32 ((x.t.mask).toNat : Int)]), (8, .pointer (some ⟨B3, 0, none⟩)), (7, .int .i64 ((k : Nat) : Int)), (28, .int .i64 ((k : Nat) : Int)), (29, .bool (decide (((k : Nat) : Int) = 60))), (30, .pointer (some ⟨B3, 0, none⟩)), (31, .bool x.sends), (63, .agg #[.slice h7.n.a h7.n.l.length h7.n.cap, .int .u64 h7.lost]), (64, .pointer (some ⟨B3, 3, none⟩)), (65, .agg #[.int .i64 x.t.kind, .int .i64 x.t.at', .int .i64 x.t.bit, .int .u32 ((x.t.mask).toNat : Int)]), (66, .tuple #[.agg #[.slice h8.n.a h8.n.l.length h8.n.cap, .int .u64 h8.lost], .agg #[.int .i64 q8.to, .slice q8.r.a q8.r.l.length q8.r.cap, .bool q8.sp], .int .i64 0]), (62, .tuple #[.agg #[.slice h8.n.a h8.n.l.length h8.n.cap, .int .u64 h8.lost], .agg #[.int .i64 q8.to, .slice q8.r.a q8.r.l.length q8.r.cap, .bool q8.sp], .int .i64 0]), (67, .agg #[.slice h8.n.a h8.n.l.length h8.n.cap, .int .u64 h8.lost]), (68, .agg #[.int .i64 q8.to, .slice q8.r.a q8.r.l.length q8.r.cap, .bool q8.sp]), (69, .int .i64 0), (12, .pointer (some ⟨B11, 0, none⟩)), (13, .pointer (some ⟨B12, 0, none⟩)), (14, .int .i64 0), (70, .int .i64 0), (71, .bool false), (72, .agg #[.slice h8.n.a h8.n.l.length h8.n.cap, .int .u64 h8.lost]), (73, .pointer (some ⟨B3, 3, none⟩)), (74, .pointer (some ⟨B3, 3, none⟩)), (75, .int .i64 x.t.kind), (77, .bool (decide (x.t.kind = 1))), (76, .bool (decide (x.t.kind = 1))), (78, .int .i64 le), (79, .int .i64 (le + 1)), (6, .int .i64 (le + 1)), (81, .pointer (some ⟨B12, 1, none⟩)), (82, .slice q8.r.a q8.r.l.length q8.r.cap), (83, .tuple #[.slice ao14 ((openL q8.r.l).length) co14, .int .i64 0]), (80, .tuple #[.slice ao14 ((openL q8.r.l).length) co14, .int .i64 0]), (84, .slice ao14 ((openL q8.r.l).length) co14), (85, .int .i64 0), (16, .int .i64 0), (86, .slice sa ss.length sc), (87, .func (.func 58) #[] #[.pointer (some ⟨B12, 0, none⟩)]), (88, .bool true), (17, .bool true), (89, .pointer (some ⟨B12, 2, none⟩)), (90, .bool false), (91, .bool true), (92, .bool true), (93, .bool true), (94, .bool false), (95, .bool false), (96, .int .i64 0), (97, .bool false), (98, .bool false), (99, .bool false), (100, .bool false), (101, .pointer (some ⟨B12, 2, none⟩)), (102, .bool false), (103, .bool false), (104, undef), (105, undef), (106, .bool false), (107, .bool false)] [(10, .row (.slice ao14 ((openL q8.r.l).length) co14) 5 1 ((openL q8.r.l).length) ((openL q8.r.l).flatMap byc)), (901, .row (.slice h8.n.a h8.n.l.length h8.n.cap) 36 3 h8.n.l.length (h8.n.l.flatMap Pcl.cells)), (903, .pool 5 1 byc b8), (963, .row (.slice sa ss.length sc) 34 1 ss.length (ss.flatMap RowG.cells)), (964, .pool 5 1 byc ss), (2, .blk B3 (.cells #[.bool x.sends, .int .i64 x.to, .slice x.r.a x.r.l.length x.r.cap, .int .i64 x.t.kind, .int .i64 x.t.at', .int .i64 x.t.bit, .int .u32 ((x.t.mask).toNat : Int)] 94)), (7, .blk B11 (.cells #[.slice h8.n.a h8.n.l.length h8.n.cap, .int .u64 h8.lost] 27)), (8, .blk B12 (.cells #[.int .i64 q8.to, .slice q8.r.a q8.r.l.length q8.r.cap, .bool q8.sp] 36)), (1, .blk B1 (.cells #[.slice h8.n.a h8.n.l.length h8.n.cap, .int .u64 h8.lost] 27))] (sub_cons rfl (sub_cons rfl (sub_cons rfl (sub_cons rfl (sub_cons rfl (sub_cons rfl (sub_cons rfl (sub_cons rfl (sub_cons rfl (sub_cons rfl (sub_cons rfl (sub_cons rfl (sub_cons rfl (sub_cons rfl (sub_cons rfl (sub_cons rfl (sub_cons rfl (sub_cons rfl (sub_cons rfl (sub_cons rfl (sub_cons rfl (sub_cons rfl (sub_cons rfl (sub_cons rfl (sub_cons rfl (sub_cons rfl (sub_cons rfl (sub_cons rfl (sub_cons rfl (sub_cons rfl (sub_cons rfl (sub_cons rfl (sub_cons rfl (sub_cons rfl (sub_cons rfl (sub_cons rfl (sub_cons rfl (sub_cons rfl (sub_cons rfl (sub_cons rfl (sub_cons rfl (sub_cons rfl (sub_cons rfl (sub_cons rfl (sub_cons rfl (sub_cons rfl (sub_cons rfl (sub_cons rfl (sub_cons rfl (sub_cons rfl (sub_cons rfl (sub_cons rfl (sub_cons rfl (sub_cons rfl (sub_cons rfl (sub_cons rfl (sub_cons rfl (sub_cons rfl (sub_cons rfl (sub_cons rfl (sub_cons rfl (sub_cons rfl (sub_cons rfl (sub_cons rfl (sub_cons rfl (sub_cons rfl (sub_cons rfl (sub_cons rfl sub_nil)))))))))))))))))))))))))))))))))))))))))))))))))))))))))))))))))))) (sub_cons rfl (sub_cons rfl (sub_cons rfl (sub_cons rfl (sub_cons rfl (sub_cons rfl (sub_cons rfl (sub_cons rfl (sub_cons rfl sub_nil))))))))) ?_
              refine T_cond_f rfl ?_
              refine T_skip' ?_
              refine p_blk_n ?_
              refine p_seq ?_
              have hbr8 : Brings (ss.map RowG.l) h8.nv (mo) (le + 1) := brings_eq hk8.nv (brings_take hbr hz (.inl hkd))
              refine T_seq (T_region ?_)
              refine TL_q (.agg #[.slice h8.n.a h8.n.l.length h8.n.cap, .int .u64 h8.lost]) (fun _ _ hρ hm => r_loadA ag27 sz27 (hρ _ _ rfl) (hm.at 1 rfl) rfl rfl) rfl rfl rfl (w_n rfl) ?_
              refine TL_call (.int .i64 0) (fun _ _ hρ _ => r_call (args := [.agg #[.slice h8.n.a h8.n.l.length h8.n.cap, .int .u64 h8.lost]]) (enters_of Try.func31 (by kernel_rfl) rfl) (hρ _ _ rfl) ((cons2 (hρ _ _ rfl) rfl)) rfl) (fun w hm => (ncheck_c h8.n.l h8.n.a h8.n.cap h8.lost w (SliceAt.own Pcl.cells_len (hm.row 901 rfl) rfl rfl) (row_cap (hm.row 901 rfl)) (pcs_pool (hm.pool 903 rfl) hk8.ok.inN)).mono fun _ _ h => ⟨h.1.trans (congrArg Ending.returned (int_as (if_pos hbr8.chk))), h.2⟩) rfl rfl rfl (w_n rfl) ?_
              refine TL_q (.bool false) (fun _ _ hρ _ => r_as (r_neq (hρ _ _ rfl) (hρ _ _ rfl)) (by rfl)) rfl rfl rfl (w_n rfl) ?_
              refine TL_seq ?_
              refine T_cond_f rfl ?_
              refine T_skip' ?_
              refine p_blk_n ?_
              refine p_seq ?_
              refine T_region ?_
              refine TL_q (.int .i64 ((k + 1 : Nat) : Int)) (fun _ _ hρ _ => r_as (r_add (hρ _ _ rfl) (hρ _ _ rfl)) (int_as ((wrap64 (by omega) (by omega)).trans (by omega)))) rfl rfl rfl (w_n rfl) ?_
              refine TL_q (.int .i64 ((k + 1 : Nat) : Int)) (fun _ _ hρ _ => r_move (hρ _ _ rfl)) rfl rfl rfl (w_n rfl) ?_
              refine TL_nil ?_
              exact p_at (k + 1, h8, b8, ss, sa, sc, mo, le + 1) ⟨⟨by omega, by omega, hbr8, hk8.ok, by omega, by omega, by omega, by omega, hsb⟩, by dsimp only; omega⟩ (sub_cons rfl (sub_cons rfl (sub_cons rfl (sub_cons rfl (sub_cons rfl (sub_cons rfl (sub_cons rfl sub_nil))))))) (sub_cons rfl (sub_cons rfl (sub_cons rfl (sub_cons rfl (sub_cons rfl sub_nil)))))
          · replace h4 := of_decide_eq_false h4
            have hkd1 : ¬ x.t.kind = 1 := h4
            refine T_seq (T_region ?_)
            refine TL_q (.bool (decide (x.t.kind = 2))) (fun _ _ hρ _ => r_eql (hρ _ _ rfl) (hρ _ _ rfl)) rfl rfl rfl (w_n rfl) ?_
            refine TL_q (.bool (decide (x.t.kind = 2))) (fun _ _ hρ _ => r_assign (hρ _ _ rfl)) rfl rfl rfl (w_n rfl) ?_
            refine TL_seq ?_
            refine T_sub [(3, .pointer (some ⟨B1, 0, none⟩)), (21, .slice (some ⟨b2, of2, none⟩) xs.length cap), (22, .int .i64 ((xs.length : Nat) : Int)), (23, .int .i64 ((k : Nat) : Int)), (4, .slice sa ss.length sc), (5, .int .i64 mo), (6, .int .i64 le), (24, .bool (decide (((k : Nat) : Int) < ((xs.length : Nat) : Int)))), (25, .int .i64 ((k : Nat) : Int)), (26, .pointer (some ⟨b2, of2 + k * 7, none⟩)), (27, .agg #[.bool x.sends, .int .i64 x.to, .slice x.r.a x.r.l.length x.r.cap, .int .i64 x.t.kind, .int .i64 x.t.at', .int .i64 x.t.bit, .int .u32 ((x.t.mask).toNat : Int)]), (8, .pointer (some ⟨B3, 0, none⟩)), (7, .int .i64 ((k : Nat) : Int)), (28, .int .i64 ((k : Nat) : Int)), (29, .bool (decide (((k : Nat) : Int) = 60))), (30, .pointer (some ⟨B3, 0, none⟩)), (31, .bool x.sends), (63, .agg #[.slice h7.n.a h7.n.l.length h7.n.cap, .int .u64 h7.lost]), (64, .pointer (some ⟨B3, 3, none⟩)), (65, .agg #[.int .i64 x.t.kind, .int .i64 x.t.at', .int .i64 x.t.bit, .int .u32 ((x.t.mask).toNat : Int)]), (66, .tuple #[.agg #[.slice h8.n.a h8.n.l.length h8.n.cap, .int .u64 h8.lost], .agg #[.int .i64 q8.to, .slice q8.r.a q8.r.l.length q8.r.cap, .bool q8.sp], .int .i64 0]), (62, .tuple #[.agg #[.slice h8.n.a h8.n.l.length h8.n.cap, .int .u64 h8.lost], .agg #[.int .i64 q8.to, .slice q8.r.a q8.r.l.length q8.r.cap, .bool q8.sp], .int .i64 0]), (67, .agg #[.slice h8.n.a h8.n.l.length h8.n.cap, .int .u64 h8.lost]), (68, .agg #[.int .i64 q8.to, .slice q8.r.a q8.r.l.length q8.r.cap, .bool q8.sp]), (69, .int .i64 0), (12, .pointer (some ⟨B11, 0, none⟩)), (13, .pointer (some ⟨B12, 0, none⟩)), (14, .int .i64 0), (70, .int .i64 0), (71, .bool false), (72, .agg #[.slice h8.n.a h8.n.l.length h8.n.cap, .int .u64 h8.lost]), (73, .pointer (some ⟨B3, 3, none⟩)), (74, .pointer (some ⟨B3, 3, none⟩)), (75, .int .i64 x.t.kind), (77, .bool (decide (x.t.kind = 1))), (76, .bool (decide (x.t.kind = 1))), (109, .bool (decide (x.t.kind = 2))), (108, .bool (decide (x.t.kind = 2)))] [(901, .row (.slice h8.n.a h8.n.l.length h8.n.cap) 36 3 h8.n.l.length (h8.n.l.flatMap Pcl.cells)), (903, .pool 5 1 byc b8), (963, .row (.slice sa ss.length sc) 34 1 ss.length (ss.flatMap RowG.cells)), (964, .pool 5 1 byc ss), (2, .blk B3 (.cells #[.bool x.sends, .int .i64 x.to, .slice x.r.a x.r.l.length x.r.cap, .int .i64 x.t.kind, .int .i64 x.t.at', .int .i64 x.t.bit, .int .u32 ((x.t.mask).toNat : Int)] 94)), (7, .blk B11 (.cells #[.slice h8.n.a h8.n.l.length h8.n.cap, .int .u64 h8.lost] 27)), (8, .blk B12 (.cells #[.int .i64 q8.to, .slice q8.r.a q8.r.l.length q8.r.cap, .bool q8.sp] 36)), (1, .blk B1 (.cells #[.slice h8.n.a h8.n.l.length h8.n.cap, .int .u64 h8.lost] 27))] (sub_cons rfl (sub_cons rfl (sub_cons rfl (sub_cons rfl (sub_cons rfl (sub_cons rfl (sub_cons rfl (sub_cons rfl (sub_cons rfl (sub_cons rfl (sub_cons rfl (sub_cons rfl (sub_cons rfl (sub_cons rfl (sub_cons rfl (sub_cons rfl (sub_cons rfl (sub_cons rfl (sub_cons rfl (sub_cons rfl (sub_cons rfl (sub_cons rfl (sub_cons rfl (sub_cons rfl (sub_cons rfl (sub_cons rfl (sub_cons rfl (sub_cons rfl (sub_cons rfl (sub_cons rfl (sub_cons rfl (sub_cons rfl (sub_cons rfl (sub_cons rfl (sub_cons rfl (sub_cons rfl (sub_cons rfl (sub_cons rfl sub_nil)))))))))))))))))))))))))))))))))))))) (sub_cons rfl (sub_cons rfl (sub_cons rfl (sub_cons rfl (sub_cons rfl (sub_cons rfl (sub_cons rfl (sub_cons rfl sub_nil)))))))) ?_
            refine T_cond rfl (fun h5 => ?_) (fun h5 => ?_)
            · replace h5 := of_decide_eq_true h5
              have hkd2 : x.t.kind = 2 := h5
              refine T_region ?_
              refine TL_q (.int .i64 le) (fun _ _ hρ _ => r_move (hρ _ _ rfl)) rfl rfl rfl (w_n rfl) ?_
              refine TL_q (.int .i64 (le + 1)) (fun _ _ hρ _ => r_as (r_add (hρ _ _ rfl) (hρ _ _ rfl)) (int_as (wrap64 (by omega) (by omega)))) rfl rfl rfl (w_n rfl) ?_
              refine TL_q (.int .i64 (le + 1)) (fun _ _ hρ _ => r_assign (hρ _ _ rfl)) rfl rfl rfl (w_n rfl) ?_
              refine TL_nil ?_
              refine p_blk_n ?_
              refine p_seq ?_
              have hbr8 : Brings (ss.map RowG.l) h8.nv (mo) (le + 1) := brings_eq hk8.nv (brings_take hbr hz (.inr hkd2))
              refine T_seq (T_region ?_)
              refine TL_q (.agg #[.slice h8.n.a h8.n.l.length h8.n.cap, .int .u64 h8.lost]) (fun _ _ hρ hm => r_loadA ag27 sz27 (hρ _ _ rfl) (hm.at 1 rfl) rfl rfl) rfl rfl rfl (w_n rfl) ?_
              refine TL_call (.int .i64 0) (fun _ _ hρ _ => r_call (args := [.agg #[.slice h8.n.a h8.n.l.length h8.n.cap, .int .u64 h8.lost]]) (enters_of Try.func31 (by kernel_rfl) rfl) (hρ _ _ rfl) ((cons2 (hρ _ _ rfl) rfl)) rfl) (fun w hm => (ncheck_c h8.n.l h8.n.a h8.n.cap h8.lost w (SliceAt.own Pcl.cells_len (hm.row 901 rfl) rfl rfl) (row_cap (hm.row 901 rfl)) (pcs_pool (hm.pool 903 rfl) hk8.ok.inN)).mono fun _ _ h => ⟨h.1.trans (congrArg Ending.returned (int_as (if_pos hbr8.chk))), h.2⟩) rfl rfl rfl (w_n rfl) ?_
              refine TL_q (.bool false) (fun _ _ hρ _ => r_as (r_neq (hρ _ _ rfl) (hρ _ _ rfl)) (by rfl)) rfl rfl rfl (w_n rfl) ?_
              refine TL_seq ?_
              refine T_cond_f rfl ?_
              refine T_skip' ?_
              refine p_blk_n ?_
              refine p_seq ?_
              refine T_region ?_
              refine TL_q (.int .i64 ((k + 1 : Nat) : Int)) (fun _ _ hρ _ => r_as (r_add (hρ _ _ rfl) (hρ _ _ rfl)) (int_as ((wrap64 (by omega) (by omega)).trans (by omega)))) rfl rfl rfl (w_n rfl) ?_
              refine TL_q (.int .i64 ((k + 1 : Nat) : Int)) (fun _ _ hρ _ => r_move (hρ _ _ rfl)) rfl rfl rfl (w_n rfl) ?_
              refine TL_nil ?_
              exact p_at (k + 1, h8, b8, ss, sa, sc, mo, le + 1) ⟨⟨by omega, by omega, hbr8, hk8.ok, by omega, by omega, by omega, by omega, hsb⟩, by dsimp only; omega⟩ (sub_cons rfl (sub_cons rfl (sub_cons rfl (sub_cons rfl (sub_cons rfl (sub_cons rfl (sub_cons rfl sub_nil))))))) (sub_cons rfl (sub_cons rfl (sub_cons rfl (sub_cons rfl (sub_cons rfl sub_nil)))))
            · replace h5 := of_decide_eq_false h5
              have hkd2 : ¬ x.t.kind = 2 := h5
              refine T_seq (T_region ?_)
              refine TL_q (.bool (decide (x.t.kind = 3))) (fun _ _ hρ _ => r_eql (hρ _ _ rfl) (hρ _ _ rfl)) rfl rfl rfl (w_n rfl) ?_
              refine TL_q (.bool (decide (x.t.kind = 3))) (fun _ _ hρ _ => r_assign (hρ _ _ rfl)) rfl rfl rfl (w_n rfl) ?_
              refine TL_seq ?_
              refine T_cond rfl (fun h6 => ?_) (fun h6 => ?_)
              · replace h6 := of_decide_eq_true h6
                have hkd3 : x.t.kind = 3 := h6
                refine T_region ?_
                refine TL_q (.int .i64 mo) (fun _ _ hρ _ => r_move (hρ _ _ rfl)) rfl rfl rfl (w_n rfl) ?_
                refine TL_q (.int .i64 (mo + 1)) (fun _ _ hρ _ => r_as (r_add (hρ _ _ rfl) (hρ _ _ rfl)) (int_as (wrap64 (by omega) (by omega)))) rfl rfl rfl (w_n rfl) ?_
                refine TL_q (.int .i64 (mo + 1)) (fun _ _ hρ _ => r_assign (hρ _ _ rfl)) rfl rfl rfl (w_n rfl) ?_
                refine TL_nil ?_
                refine p_blk_n ?_
                refine p_seq ?_
                have hbr8 : Brings (ss.map RowG.l) h8.nv (mo + 1) (le) := brings_eq hk8.nv (brings_twice hbr hle0 (by omega) hz hkd3)
                refine T_seq (T_region ?_)
                refine TL_q (.agg #[.slice h8.n.a h8.n.l.length h8.n.cap, .int .u64 h8.lost]) (fun _ _ hρ hm => r_loadA ag27 sz27 (hρ _ _ rfl) (hm.at 1 rfl) rfl rfl) rfl rfl rfl (w_n rfl) ?_
                refine TL_call (.int .i64 0) (fun _ _ hρ _ => r_call (args := [.agg #[.slice h8.n.a h8.n.l.length h8.n.cap, .int .u64 h8.lost]]) (enters_of Try.func31 (by kernel_rfl) rfl) (hρ _ _ rfl) ((cons2 (hρ _ _ rfl) rfl)) rfl) (fun w hm => (ncheck_c h8.n.l h8.n.a h8.n.cap h8.lost w (SliceAt.own Pcl.cells_len (hm.row 901 rfl) rfl rfl) (row_cap (hm.row 901 rfl)) (pcs_pool (hm.pool 903 rfl) hk8.ok.inN)).mono fun _ _ h => ⟨h.1.trans (congrArg Ending.returned (int_as (if_pos hbr8.chk))), h.2⟩) rfl rfl rfl (w_n rfl) ?_
                refine TL_q (.bool false) (fun _ _ hρ _ => r_as (r_neq (hρ _ _ rfl) (hρ _ _ rfl)) (by rfl)) rfl rfl rfl (w_n rfl) ?_
                refine TL_seq ?_
                refine T_cond_f rfl ?_
                refine T_skip' ?_
                refine p_blk_n ?_
                refine p_seq ?_
                refine T_region ?_
                refine TL_q (.int .i64 ((k + 1 : Nat) : Int)) (fun _ _ hρ _ => r_as (r_add (hρ _ _ rfl) (hρ _ _ rfl)) (int_as ((wrap64 (by omega) (by omega)).trans (by omega)))) rfl rfl rfl (w_n rfl) ?_
                refine TL_q (.int .i64 ((k + 1 : Nat) : Int)) (fun _ _ hρ _ => r_move (hρ _ _ rfl)) rfl rfl rfl (w_n rfl) ?_
                refine TL_nil ?_
                exact p_at (k + 1, h8, b8, ss, sa, sc, mo + 1, le) ⟨⟨by omega, by omega, hbr8, hk8.ok, by omega, by omega, by omega, by omega, hsb⟩, by dsimp only; omega⟩ (sub_cons rfl (sub_cons rfl (sub_cons rfl (sub_cons rfl (sub_cons rfl (sub_cons rfl (sub_cons rfl sub_nil))))))) (sub_cons rfl (sub_cons rfl (sub_cons rfl (sub_cons rfl (sub_cons rfl sub_nil)))))
              · replace h6 := of_decide_eq_false h6
                have hkd3 : ¬ x.t.kind = 3 := h6
                refine T_skip' ?_
                refine p_blk_n ?_
                refine p_seq ?_
                have hbr8 : Brings (ss.map RowG.l) h8.nv (mo) (le) := brings_eq hk8.nv (brings_spoil hbr hz hkd1 hkd2 hkd3)
                refine T_seq (T_region ?_)
                refine TL_q (.agg #[.slice h8.n.a h8.n.l.length h8.n.cap, .int .u64 h8.lost]) (fun _ _ hρ hm => r_loadA ag27 sz27 (hρ _ _ rfl) (hm.at 1 rfl) rfl rfl) rfl rfl rfl (w_n rfl) ?_
                refine TL_call (.int .i64 0) (fun _ _ hρ _ => r_call (args := [.agg #[.slice h8.n.a h8.n.l.length h8.n.cap, .int .u64 h8.lost]]) (enters_of Try.func31 (by kernel_rfl) rfl) (hρ _ _ rfl) ((cons2 (hρ _ _ rfl) rfl)) rfl) (fun w hm => (ncheck_c h8.n.l h8.n.a h8.n.cap h8.lost w (SliceAt.own Pcl.cells_len (hm.row 901 rfl) rfl rfl) (row_cap (hm.row 901 rfl)) (pcs_pool (hm.pool 903 rfl) hk8.ok.inN)).mono fun _ _ h => ⟨h.1.trans (congrArg Ending.returned (int_as (if_pos hbr8.chk))), h.2⟩) rfl rfl rfl (w_n rfl) ?_
                refine TL_q (.bool false) (fun _ _ hρ _ => r_as (r_neq (hρ _ _ rfl) (hρ _ _ rfl)) (by rfl)) rfl rfl rfl (w_n rfl) ?_
                refine TL_seq ?_
                refine T_cond_f rfl ?_
                refine T_skip' ?_
                refine p_blk_n ?_
                refine p_seq ?_
                refine T_region ?_
                refine TL_q (.int .i64 ((k + 1 : Nat) : Int)) (fun _ _ hρ _ => r_as (r_add (hρ _ _ rfl) (hρ _ _ rfl)) (int_as ((wrap64 (by omega) (by omega)).trans (by omega)))) rfl rfl rfl (w_n rfl) ?_
                refine TL_q (.int .i64 ((k + 1 : Nat) : Int)) (fun _ _ hρ _ => r_move (hρ _ _ rfl)) rfl rfl rfl (w_n rfl) ?_
                refine TL_nil ?_
                exact p_at (k + 1, h8, b8, ss, sa, sc, mo, le) ⟨⟨by omega, by omega, hbr8, hk8.ok, by omega, by omega, by omega, by omega, hsb⟩, by dsimp only; omega⟩ (sub_cons rfl (sub_cons rfl (sub_cons rfl (sub_cons rfl (sub_cons rfl (sub_cons rfl (sub_cons rfl sub_nil))))))) (sub_cons rfl (sub_cons rfl (sub_cons rfl (sub_cons rfl (sub_cons rfl sub_nil)))))
        · skip
          refine T_seq (T_region ?_)
          refine TL_q (.agg #[.slice h7.n.a h7.n.l.length h7.n.cap, .int .u64 h7.lost]) (fun _ _ hρ hm => r_loadA ag27 sz27 (hρ _ _ rfl) (hm.at 1 rfl) rfl rfl) rfl rfl rfl (w_n rfl) ?_
          refine TL_q (.pointer (some ⟨B3, 3, none⟩)) (fun _ _ hρ _ => r_fieldAddr fl94_3 sz48 (hρ _ _ rfl)) rfl rfl rfl (w_n rfl) ?_
          refine TL_q (.agg #[.int .i64 x.t.kind, .int .i64 x.t.at', .int .i64 x.t.bit, .int .u32 ((x.t.mask).toNat : Int)]) (fun _ _ hρ hm => r_loadA ag48 sz48 (hρ _ _ rfl) (hm.at 2 rfl) rfl rfl) rfl rfl rfl (w_n rfl) ?_
          refine TL_call (.tuple #[.agg #[.slice none 0 0, .int .u64 0], .agg #[.int .i64 0, .slice none 0 0, .bool false], .int .i64 ((doV (pvs h7.n.l, h7.lost) x.t).1)]) (fun _ _ hρ _ => r_call (args := [.agg #[.slice h7.n.a h7.n.l.length h7.n.cap, .int .u64 h7.lost], .agg #[.int .i64 x.t.kind, .int .i64 x.t.at', .int .i64 x.t.bit, .int .u32 ((x.t.mask).toNat : Int)]]) (enters_of Try.func23 (by kernel_rfl) rfl) (hρ _ _ rfl) ((cons2 (hρ _ _ rfl) (cons2 (hρ _ _ rfl) rfl))) rfl) (fun w hm => do_err h7.n.l h7.n.a h7.n.cap h7.lost x.t.kind x.t.at' x.t.bit x.t.mask w (SliceAt.own Pcl.cells_len (hm.row 901 rfl) rfl rfl) (row_cap (hm.row 901 rfl)) (pcs_pool (hm.pool 903 rfl) hh7.inN) (doV (pvs h7.n.l, h7.lost) x.t).1 hlo0 hbr.chk rfl hz) rfl rfl rfl (w_n rfl) ?_
          refine TL_q (.tuple #[.agg #[.slice none 0 0, .int .u64 0], .agg #[.int .i64 0, .slice none 0 0, .bool false], .int .i64 ((doV (pvs h7.n.l, h7.lost) x.t).1)]) (fun _ _ hρ _ => r_move (hρ _ _ rfl)) rfl rfl rfl (w_n rfl) ?_
          refine TL_q (.agg #[.slice none 0 0, .int .u64 0]) (fun _ _ hρ _ => r_extract (hρ _ _ rfl) rfl) rfl rfl rfl (w_n rfl) ?_
          refine TL_q (.agg #[.int .i64 0, .slice none 0 0, .bool false]) (fun _ _ hρ _ => r_extract (hρ _ _ rfl) rfl) rfl rfl rfl (w_n rfl) ?_
          refine TL_q (.int .i64 ((doV (pvs h7.n.l, h7.lost) x.t).1)) (fun _ _ hρ _ => r_extract (hρ _ _ rfl) rfl) rfl rfl rfl (w_n rfl) ?_
          refine TL_new 11 (.cells #[.slice none 0 0, .int .u64 0] 27) (fun B => .pointer (some ⟨B, 0, none⟩)) (fun _ _ _ _ => r_alloc (v := .agg #[.slice none 0 0, .int .u64 0]) (by kernel_rfl) rfl) rfl rfl rfl (w_n rfl) ?_
          intro B15
          refine TL_new 12 (.cells #[.int .i64 0, .slice none 0 0, .bool false] 36) (fun B => .pointer (some ⟨B, 0, none⟩)) (fun _ _ _ _ => r_alloc (v := .agg #[.int .i64 0, .slice none 0 0, .bool false]) (by kernel_rfl) rfl) rfl rfl rfl (w_n rfl) ?_
          intro B16
          refine TL_store 11 (.cells #[.slice none 0 0, .int .u64 0] 27) rfl (fun _ _ hρ hm => r_store sz27 (hρ _ _ rfl) (hρ _ _ rfl) (hm.at 11 rfl) rfl rfl rfl rfl) rfl rfl (w_n rfl) ?_
          refine TL_store 12 (.cells #[.int .i64 0, .slice none 0 0, .bool false] 36) rfl (fun _ _ hρ hm => r_store sz36 (hρ _ _ rfl) (hρ _ _ rfl) (hm.at 12 rfl) rfl rfl rfl rfl) rfl rfl (w_n rfl) ?_
          refine TL_q (.int .i64 ((doV (pvs h7.n.l, h7.lost) x.t).1)) (fun _ _ hρ _ => r_assign (hρ _ _ rfl)) rfl rfl rfl (w_n rfl) ?_
          refine TL_seq ?_
          refine T_seq ?_
          refine T_seq (T_region ?_)
          refine TL_q (.int .i64 ((doV (pvs h7.n.l, h7.lost) x.t).1)) (fun _ _ hρ _ => r_move (hρ _ _ rfl)) rfl rfl rfl (w_n rfl) ?_
          refine TL_q (.bool true) (fun _ _ hρ _ => r_as (r_neq (hρ _ _ rfl) (hρ _ _ rfl)) (bool_as (by rw [decide_eq_false hz]; rfl))) rfl rfl rfl (w_n rfl) ?_
          refine TL_seq ?_
          refine T_cond_t rfl ?_
          refine T_exit' ?_
          refine p_then_x ?_
          refine p_blk_x ?_
          refine p_seq ?_
          refine T_region ?_
          refine TL_q (.int .i64 ((k + 1 : Nat) : Int)) (fun _ _ hρ _ => r_as (r_add (hρ _ _ rfl) (hρ _ _ rfl)) (int_as ((wrap64 (by omega) (by omega)).trans (by omega)))) rfl rfl rfl (w_n rfl) ?_
          refine TL_q (.int .i64 ((k + 1 : Nat) : Int)) (fun _ _ hρ _ => r_move (hρ _ _ rfl)) rfl rfl rfl (w_n rfl) ?_
          refine TL_nil ?_
          exact p_at (k + 1, h7, b7, ss, sa, sc, mo, le) ⟨⟨by omega, by omega, hbr, hh7, by omega, by omega, by omega, by omega, hsb⟩, by dsimp only; omega⟩ (sub_cons rfl (sub_cons rfl (sub_cons rfl (sub_cons rfl (sub_cons rfl (sub_cons rfl (sub_cons rfl sub_nil))))))) (sub_cons rfl (sub_cons rfl (sub_cons rfl (sub_cons rfl (sub_cons rfl sub_nil)))))
  · replace h1 := of_decide_eq_false h1
    refine T_exit' ?_
    refine p_then_x ?_
    refine p_then_x ?_
    refine p_blk_x ?_
    refine p_seq ?_
    refine T_seq (T_region ?_)
    refine TL_q (.pointer (some ⟨B1, 0, none⟩)) (fun _ _ hρ _ => r_fieldAddr fl27_0 sz22 (hρ _ _ rfl)) rfl rfl rfl (w_n rfl) ?_
    refine TL_q (.slice h7.n.a h7.n.l.length h7.n.cap) (fun _ _ hρ hm => r_load ag22 (hρ _ _ rfl) (hm.at 1 rfl) rfl) rfl rfl rfl (w_n rfl) ?_
    refine TL_q (.int .i64 ((h7.n.l.length : Nat) : Int)) (fun _ _ hρ _ => r_len sl22 (hρ _ _ rfl)) rfl rfl rfl (w_n rfl) ?_
    refine TL_q (.int .i64 le) (fun _ _ hρ _ => r_move (hρ _ _ rfl)) rfl rfl rfl (w_n rfl) ?_
    refine TL_q (.int .i64 (((h7.n.l.length : Nat) : Int) + le)) (fun _ _ hρ _ => r_as (r_add (hρ _ _ rfl) (hρ _ _ rfl)) (int_as (wrap64 (by omega) (by omega)))) rfl rfl rfl (w_n rfl) ?_
    refine TL_q (.pointer (some ⟨B1, 1, none⟩)) (fun _ _ hρ _ => r_fieldAddr fl27_1 sz25 (hρ _ _ rfl)) rfl rfl rfl (w_n rfl) ?_
    refine TL_q (.int .u64 h7.lost) (fun _ _ hρ hm => r_load ag25 (hρ _ _ rfl) (hm.at 1 rfl) rfl) rfl rfl rfl (w_n rfl) ?_
    refine TL_q (.int .i64 h7.lost) (fun _ _ hρ _ => r_as (r_conv un25 io3 (hρ _ _ rfl)) (int_as (wrap64 (by omega) (by omega)))) rfl rfl rfl (w_n rfl) ?_
    refine TL_q (.int .i64 (((h7.n.l.length : Nat) : Int) + le + h7.lost)) (fun _ _ hρ _ => r_as (r_add (hρ _ _ rfl) (hρ _ _ rfl)) (int_as (wrap64 (by omega) (by omega)))) rfl rfl rfl (w_n rfl) ?_
    refine TL_q (.int .i64 mo) (fun _ _ hρ _ => r_move (hρ _ _ rfl)) rfl rfl rfl (w_n rfl) ?_
    refine TL_q (.bool (decide (((h7.n.l.length : Nat) : Int) + le + h7.lost = mo))) (fun _ _ hρ _ => r_eql (hρ _ _ rfl) (hρ _ _ rfl)) rfl rfl rfl (w_n rfl) ?_
    refine TL_q (.bool (decide (((h7.n.l.length : Nat) : Int) + le + h7.lost = mo))) (fun _ _ hρ _ => r_assign (hρ _ _ rfl)) rfl rfl rfl (w_n rfl) ?_
    refine TL_seq ?_
    refine T_ret' ?_
    refine ret_of rfl (.bool (decide (((h7.n.l.length : Nat) : Int) + le + h7.lost = mo))) (fun tmps w hk hm => res1 rfl (res_tmp (hk 2 _ rfl))) (fun w hm => ?_)
    exact ⟨congrArg Ending.returned (bool_as (decide_eq_true (by omega))), hm.ext⟩
end Go.Proofs.Ytcidgbjgeegepaa
/- Arguments that are slices of what lies in memory (slices of slices ..), read. Over any program. -/
namespace Go.Proofs.Ytcidgbjgeegepaa
open Go Go.RowKit Go.ChangeShapes Go.WideShapes Go.Deep
/-- Cells that are read at this type, in this memory, are those of some x. -/
def RdsAt (P : Program) (w : World) (t : TypeId) {α : Type} (f : α → List Value) (ok : α → Prop) : Prop :=
  ∀ (H : Type) (enc : TypeId × Value → H) (base : Nat) (spare : Nat → Bool) (held : Bool) (fuel : Nat) (cs : List Value) (x : DataW H × List MemPlace), DataW.trod enc P w base spare held fuel t cs = some x → ∃ a, cs = f a ∧ ok a
theorem Rds.at {P : Program} {t : TypeId} {α : Type} {f : α → List Value} {ok : α → Prop} (h : Rds P t f ok) (w : World) : RdsAt P w t f ok := fun H enc base spare held fuel cs x hx => h H enc w base spare held fuel cs x hx
theorem RdsAt.mapIf {P : Program} {w : World} {t : TypeId} {α β : Type} {f : α → List Value} {ok : α → Prop} (h : RdsAt P w t f ok) (g : α → β) {f' : β → List Value} {ok' : β → Prop} (hf : ∀ a, ok a → f a = f' (g a)) (ho : ∀ a, ok a → ok' (g a)) : RdsAt P w t f' ok' := by
  intro H enc base spare held fuel cs x hx
  obtain ⟨a, h1, h2⟩ := h H enc base spare held fuel cs x hx
  exact ⟨g a, by rw [h1, hf a h2], ho a h2⟩
/-- A slice that came in. -/
theorem read_sliceW {P : Program} {t e : TypeId} {s : Nat} {α : Type} {f : α → List Value} {ok : α → Prop} (ht : sliOf P t = some e) (hs : szOf P e = some s) (hf : ∀ x, (f x).length = s) (hsp : 0 < s) {w : World} (h : RdsAt P w e f ok)
    {H : Type} {enc : TypeId × Value → H} {base : Nat} {spare : Nat → Bool} {held : Bool} {fuel : Nat} {cs : List Value} {x : DataW H × List MemPlace} (hx : DataW.trod enc P w base spare held fuel t cs = some x) :
    ∃ (l : List α) (a : Option Addr) (cap : Nat), cs = [.slice a l.length cap] ∧ SliceAt w a cap s f l ∧ (∀ x ∈ l, ok x) ∧ cap ≤ Go.maxLen := by
  rcases open_slice (und_sli ht) hx with ⟨rfl, _⟩ | ⟨a, len, cap, m, n, D, Pl, rfl, hb, hl, hm, hmm, _, hi⟩
  · exact ⟨[], none, 0, rfl, sliceNil w, (fun x hx => by cases hx), by unfold Go.maxLen; omega⟩
  · have hlm : len ≤ m := by rw [hmm]; split <;> omega
    rw [cellsOf_sz hs] at hi
    by_cases h0 : len = 0
    · subst h0
      exact ⟨[], some a, cap, rfl, ⟨by simp, (fun e => by cases e), .inl rfl⟩, (fun x hx => by cases hx), hm⟩
    · obtain ⟨l, h1, h2⟩ := list_of (p := fun i y => (∀ j, j < s → w.cell? ((a.add (i * s)).add j) = (f y)[j]?) ∧ ok y) len (fun i hil => by
        obtain ⟨cs', hc, ht'⟩ := hi i (by omega)
        obtain ⟨y, hy, oy⟩ := h _ enc base spare held n _ _ ht'
        obtain ⟨_, _, hcell⟩ := World.cells?_some hc
        exact ⟨y, fun j hj => by rw [hcell j hj, hy], oy⟩)
      have hl0 : l[0]? = some (l[0]'(by omega)) := List.getElem?_eq_getElem (by omega)
      have hc0 := (h2 0 _ hl0).1 0 hsp
      rw [List.getElem?_eq_getElem (by rw [hf]; exact hsp)] at hc0
      simp only [Nat.zero_mul, Addr.add, if_true] at hc0
      obtain ⟨b, off, sp⟩ := a
      unfold World.cell? at hc0
      split at hc0
      · rename_i c T fz hheap
        split at hc0
        · cases hc0
        · rename_i hspot
          have hsp0 : sp = none := by simpa using hspot
          subst hsp0
          subst h1
          refine ⟨l, some ⟨b, off, none⟩, cap, rfl, ⟨hl, (fun e => by cases e), .inr ⟨b, off, c, T, fz, rfl, hheap, ?_⟩⟩, fun x hx => by obtain ⟨i, hi⟩ := List.getElem?_of_mem hx; exact (h2 i x hi).2, hm⟩
          intro i y hy
          have hcells : ∀ j, j < s → c[off + i * s + j]? = (f y)[j]? := fun j hj => by
            have := (h2 i y hy).1 j hj
            rw [addr_add, addr_add] at this
            simpa [World.cell?, hheap] using this
          have hsz : off + i * s + s ≤ c.size := by
            have := hcells (s - 1) (by omega)
            rw [List.getElem?_eq_getElem (by rw [hf]; omega)] at this
            have := (Array.getElem?_eq_some_iff.1 this).1
            omega
          refine ⟨hsz, ?_⟩
          apply Array.ext_getElem?
          intro j
          rw [Array.getElem?_extract]
          by_cases hj : j < s
          · rw [if_pos (by omega), hcells j hj]; simp
          · rw [if_neg (by omega)]
            rw [Array.getElem?_eq_none]
            simp [hf]; omega
      · cases hc0
theorem rds_slice {P : Program} {w : World} {t e : TypeId} {s : Nat} {α : Type} {f : α → List Value} {ok : α → Prop} (ht : sliOf P t = some e) (hs : szOf P e = some s) (hf : ∀ x, (f x).length = s) (hsp : 0 < s) (h : RdsAt P w e f ok) :
    RdsAt P w t (RowG.cells (α := α)) (fun r => r.ok s f w ∧ (∀ x ∈ r.l, ok x) ∧ r.cap ≤ Go.maxLen) := by
  intro H enc base spare held fuel cs x hx
  obtain ⟨l, a, cap, h1, h2, h3, h4⟩ := read_sliceW ht hs hf hsp h hx
  exact ⟨⟨a, cap, l⟩, h1, h2, h3, h4⟩
section
variable {P : Program} {w : World} {r : Reach} {b0 : Nat} {t : TypeId} {v : Value} {H : Type} {enc : TypeId × Value → H} {base : Nat} {spare : Nat → Bool} {held : Bool} {d : DataW H} {ps : List MemPlace}
theorem param_sliceW {e : TypeId} {s : Nat} {α : Type} {f : α → List Value} {ok : α → Prop} (ht : sliOf P t = some e) (hs : szOf P e = some s) (hf : ∀ x, (f x).length = s) (hsp : 0 < s) (hr : RdsAt P w e f ok) (hv : Value.okWide P w r b0 t v) (h : DataW.Trod enc P w base spare held t v d ps) :
    ∃ (l : List α) (a : Option Addr) (cap : Nat), v = .slice a l.length cap ∧ SliceAt w a cap s f l ∧ (∀ x ∈ l, ok x) ∧ cap ≤ Go.maxLen := by
  obtain ⟨fuel, hf'⟩ := h
  obtain ⟨l, a, cap, h1, h2, h3, h4⟩ := read_sliceW ht hs hf hsp hr hf'
  refine ⟨l, a, cap, ?_, h2, h3, h4⟩
  unfold Value.okWide at hv
  rw [und_sli ht] at hv
  cases v with
  | agg cs => simp [Cell.okWide, und_sli ht, Cell.ok] at hv
  | _ => simp [Value.cells] at h1 <;> simp [h1]
end
end Go.Proofs.Ytcidgbjgeegepaa
/- Arguments that are structs whose parts lie in memory, read. Over any program. -/
namespace Go.Proofs.Ytcidgbjgeegepaa
open Go Go.RowKit Go.ChangeShapes Go.WideShapes Go.Deep
section
variable {P : Program} {w : World} {t : TypeId}
theorem rdsA_field {i off n : Nat} {ft : TypeId} {α : Type} {f : α → List Value} {ok : α → Prop} (hfl : fldOf P t i = some (ft, off)) (hs : szOf P ft = some n) (h : RdsAt P w ft f ok)
    {H : Type} {enc : TypeId × Value → H} {base : Nat} {spare : Nat → Bool} {held : Bool} {fuel : Nat} {cs : List Value} {x : DataW H × List MemPlace} (hx : DataW.trod enc P w base spare held fuel t cs = some x) :
    ∃ a, (cs.drop off).take n = f a ∧ ok a := by
  obtain ⟨fs, hu, fl, hfi, rfl, rfl⟩ := und_fld hfl
  obtain ⟨xs, m, _, _, _, hlen, hg⟩ := DataW.trod_struct hu hx
  have hi := hg i fl hfi
  have hil : i < fs.size := (Array.getElem?_eq_some_iff.1 hfi).1
  rw [cellsOf_sz hs, List.getElem?_eq_getElem (by omega)] at hi
  exact h _ enc base spare held m _ _ hi
theorem cut1 {α : Type} {cs : List α} {a b : Nat} (h : cs.length = a + b) : cs = cs.take a ++ (cs.drop a).take b := by
  rw [List.take_of_length_le (l := cs.drop a) (by rw [List.length_drop]; omega), List.take_append_drop]
theorem rdsA4 {t0 t1 t2 t3 : TypeId} {s0 s1 s2 s3 : Nat} {α β γ δ : Type} {f0 : α → List Value} {f1 : β → List Value} {f2 : γ → List Value} {f3 : δ → List Value} {o0 : α → Prop} {o1 : β → Prop} {o2 : γ → Prop} {o3 : δ → Prop} (h0 : fldOf P t 0 = some (t0, 0)) (h1 : fldOf P t 1 = some (t1, s0)) (h2 : fldOf P t 2 = some (t2, s0 + s1)) (h3 : fldOf P t 3 = some (t3, s0 + s1 + s2))
    (z0 : szOf P t0 = some s0) (z1 : szOf P t1 = some s1) (z2 : szOf P t2 = some s2) (z3 : szOf P t3 = some s3)
    (z : szOf P t = some (s0 + s1 + s2 + s3)) (r0 : RdsAt P w t0 f0 o0) (r1 : RdsAt P w t1 f1 o1) (r2 : RdsAt P w t2 f2 o2) (r3 : RdsAt P w t3 f3 o3) : RdsAt P w t (fun p : α × β × γ × δ => f0 p.1 ++ (f1 p.2.1 ++ (f2 p.2.2.1 ++ f3 p.2.2.2))) (fun p => o0 p.1 ∧ o1 p.2.1 ∧ o2 p.2.2.1 ∧ o3 p.2.2.2) := by
  intro H enc base spare held fuel cs x hx
  obtain ⟨a, ha, oa⟩ := rdsA_field h0 z0 r0 hx
  obtain ⟨b, hb, ob⟩ := rdsA_field h1 z1 r1 hx
  obtain ⟨c, hc, oc⟩ := rdsA_field h2 z2 r2 hx
  obtain ⟨d, hd, od⟩ := rdsA_field h3 z3 r3 hx
  have hl := rds_len h0 z hx
  refine ⟨(a, b, c, d), ?_, oa, ob, oc, od⟩
  show cs = f0 a ++ (f1 b ++ (f2 c ++ f3 d))
  have e1 : cs.drop (s0 + s1) = (cs.drop s0).drop s1 := by rw [List.drop_drop]
  have e2 : cs.drop (s0 + s1 + s2) = ((cs.drop s0).drop s1).drop s2 := by rw [List.drop_drop, List.drop_drop]; congr 1; omega
  rw [← ha, ← hb, ← hc, ← hd, List.drop_zero, e1, e2]
  rw [← cut1 (cs := (cs.drop s0).drop s1) (by rw [List.length_drop, List.length_drop]; omega), List.take_append_drop, List.take_append_drop]
end
end Go.Proofs.Ytcidgbjgeegepaa
/- net: arguments of the laws, read. -/
namespace Go.Proofs.Ytcidgbjgeegepaa
open Go Go.RowKit Go.ChangeShapes Go.WideShapes
set_option maxRecDepth 10000
theorem Rds.mapIf {P : Program} {t : TypeId} {α β : Type} {f : α → List Value} {ok : α → Prop} (h : Rds P t f ok) (g : α → β) {f' : β → List Value} (hf : ∀ a, ok a → f a = f' (g a)) : Rds P t f' (fun _ => True) := by
  intro H enc w base spare held fuel cs x hx
  obtain ⟨a, h1, h2⟩ := h H enc w base spare held fuel cs x hx
  exact ⟨g a, by rw [h1, hf a h2], trivial⟩
theorem byte_back {n : Int} (h : (Lit.int .u8 n).wf = true) : ((BitVec.ofNat 8 n.toNat).toNat : Int) = n := by
  have := wf_u8 h
  rw [BitVec.toNat_ofNat]; omega
theorem word_back {n : Int} (h : (Lit.int .u32 n).wf = true) : ((BitVec.ofNat 32 n.toNat).toNat : Int) = n := by
  have := wf_u32 h
  rw [BitVec.toNat_ofNat]; omega
theorem rds_byte : Rds Try.prog 5 byc (fun _ => True) := (rds_int io5).mapIf (fun n => BitVec.ofNat 8 n.toNat) (fun n h => by show [Value.int .u8 n] = [Value.int .u8 _]; rw [byte_back h])
end Go.Proofs.Ytcidgbjgeegepaa
/- net: arguments of the laws, read: nets. -/
namespace Go.Proofs.Ytcidgbjgeegepaa
open Go Go.RowKit Go.ChangeShapes Go.WideShapes
set_option maxRecDepth 10000
/-- A net that is handed in. -/
structure Nt where
  r : RowG Pcl
  lost : Int
abbrev Nt.cells (n : Nt) : List Value := [.slice n.r.a n.r.l.length n.r.cap, .int .u64 n.lost]
def Nt.ok (w : World) (n : Nt) : Prop := n.r.ok 3 Pcl.cells w ∧ n.r.cap ≤ Go.maxLen ∧ (∀ p ∈ n.r.l, p.r.ok 1 byc w ∧ p.r.cap ≤ Go.maxLen) ∧ 0 ≤ n.lost
end Go.Proofs.Ytcidgbjgeegepaa
/- net: arguments of the laws, read: tricks. -/
namespace Go.Proofs.Ytcidgbjgeegepaa
open Go Go.RowKit Go.ChangeShapes Go.WideShapes
set_option maxRecDepth 10000
theorem rds_trk : Rds Try.prog 48 Trk.cells (fun _ => True) :=
  (rds4 fl48_0 fl48_1 fl48_2 fl48_3 sz3 sz3 sz3 sz46 sz48 (rds_int io3) (rds_int io3) (rds_int io3) (rds_int io46)).mapIf (fun p => ⟨p.1, p.2.1, p.2.2.1, BitVec.ofNat 32 p.2.2.2.toNat⟩)
    (fun p h => by show [Value.int .i64 p.1, .int .i64 p.2.1, .int .i64 p.2.2.1, .int .u32 p.2.2.2] = [Value.int .i64 p.1, .int .i64 p.2.1, .int .i64 p.2.2.1, .int .u32 _]; rw [word_back h.2.2.2])
end Go.Proofs.Ytcidgbjgeegepaa
/- net: arguments of the laws, read: acts. -/
namespace Go.Proofs.Ytcidgbjgeegepaa
open Go Go.RowKit Go.ChangeShapes Go.WideShapes
set_option maxRecDepth 10000
theorem rds_act (w : World) : RdsAt Try.prog w 94 Act.cells (fun x => x.r.ok 1 byc w ∧ x.r.cap ≤ Go.maxLen) :=
  RdsAt.mapIf (rdsA4 fl94_0 fl94_1 fl94_2 fl94_3 sz4 sz3 sz34 sz48 sz94 ((rds_bool (by kernel_rfl)).at w) ((rds_int io3).at w) (rds_slice sl34 sz5 byc_len (by decide) (rds_byte.at w)) (rds_trk.at w)) (fun p => ⟨p.1, p.2.1, p.2.2.1, p.2.2.2⟩) (fun _ _ => rfl)
    (fun _ h => ⟨h.2.2.1.1, h.2.2.1.2.2⟩)
theorem nbrings_any (xs : List Act) (a : Option Addr) (cap : Nat) (w : World) (hv : SliceAt w a cap 7 Act.cells xs) (hcap : cap ≤ Go.maxLen) (hx : ∀ x ∈ xs, x.r.ok 1 byc w ∧ x.r.cap ≤ Go.maxLen) : Calls Try.prog 10 #[.slice a xs.length cap] w fun e w' => e = .returned (.bool true) ∧ Below w.heap.size w w' := nbrings_c xs a cap w hv hcap hx
end Go.Proofs.Ytcidgbjgeegepaa
