/- Texts of this seat, merged: part 4. -/
import Derived.Test.YtcidgbjgeegepaaMg3
/- net and journal: the references First, Scan; few, same. Printed by a program of this seat's prover. -/
namespace Go.Proofs.Ytcidgbjgeegepaa
open Go Go.RowKit
set_option maxRecDepth 10000
/-- What can be gone through of rows. -/
def fewR (l : List (List By)) : List (List By) := (l.take 6).map (·.take 65537)
theorem fewr_step {ls l1 : List (RowG By)} {k : Nat} {p : RowG By} {a : Option Addr} {c : Nat} {l : List By} (h : rls ls = (rls (l1.take k)).map (·.take 65537)) (hp : l1[k]? = some p) (e : l = p.l.take (min p.l.length 65537)) : rls (ls ++ [⟨a, c, l⟩]) = (rls (l1.take (k + 1))).map (·.take 65537) := by
  have e2 : l = p.l.take 65537 := by rw [e]; exact take_min _ _
  unfold rls at h ⊢
  rw [List.map_append, h, List.take_add_one, hp, List.map_append, List.map_append, e2]; rfl
theorem fewr_len {ls l1 : List (RowG By)} {k : Nat} (h : rls ls = (rls (l1.take k)).map (·.take 65537)) (hk : k ≤ l1.length) : ls.length = k := by
  have := congrArg List.length h
  unfold rls at this
  rw [List.length_map, List.length_map, List.length_map, List.length_take] at this
  omega
theorem fewr_all {ls l1 xs : List (RowG By)} (h : rls ls = (rls l1).map (·.take 65537)) (hl : l1 = xs.take (min xs.length 6)) : rls ls = fewR (rls xs) := by
  rw [h, hl]
  unfold fewR rls
  rw [List.map_take]
  congr 1
  rcases Nat.le_total xs.length 6 with e | e
  · rw [Nat.min_eq_left e, List.take_of_length_le (by simp), List.take_of_length_le (by simpa using e)]
  · rw [Nat.min_eq_right e]
theorem fewR_len (l : List (List By)) : (fewR l).length ≤ 6 := by unfold fewR; rw [List.length_map, List.length_take]; omega
theorem fewR_le (l : List (List By)) : ∀ r ∈ fewR l, r.length ≤ 65537 := fun r hr => by
  unfold fewR at hr
  obtain ⟨x, _, rfl⟩ := List.mem_map.1 hr
  rw [List.length_take]; omega
theorem rls_le {n : List (RowG By)} {m : Nat} {l : List (List By)} (h : rls n = l) (hl : ∀ r ∈ l, r.length ≤ m) : ∀ r ∈ n, r.l.length ≤ m := fun r hr => hl _ (by rw [← h]; exact List.mem_map.2 ⟨r, hr, rfl⟩)
theorem held_le (l : List By) : ∀ r ∈ heldsV l, r.length ≤ 65536 := fun r hr => by
  obtain ⟨x, hx, rfl⟩ := List.mem_map.1 hr
  have key : ∀ (n at' : Nat) (l : List By), l.length ≤ n → ∀ x ∈ scanA at' l, x.2.length ≤ 65536 := by
    intro n
    induction n with
    | zero =>
      intro at' l h x hx
      have e : l = [] := List.eq_nil_of_length_eq_zero (by omega)
      subst e; cases hx
    | succ n ih =>
      intro at' l h x hx
      by_cases e : firstE l = 0
      · obtain ⟨h1, h2, h3, _⟩ := first_ok e
        have hl := heldP_len e
        rw [scanA_t at' e] at hx
        rcases List.mem_cons.1 hx with rfl | hx
        · dsimp only; omega
        · exact ih _ _ (by rw [List.length_drop]; omega) x hx
      · rw [scanA_f at' e] at hx; cases hx
  exact key l.length 0 l (Nat.le_refl _) x hx
theorem fewr_c (xs : List (RowG By)) (a : Option Addr) (cap : Nat) (w : World) (hv : SliceAt w a cap 1 RowG.cells xs) (hcap : cap ≤ Go.maxLen) (hx : RowsIn w xs) : Calls Try.prog 36 #[.slice a xs.length cap] w fun e w' => ∃ n : RowG (RowG By), rls n.l = fewR (rls xs) ∧ e = .returned (.slice n.a n.l.length n.cap) ∧ Below w.heap.size w w' ∧ (rowR n).ok w.heap.size w' ∧ (Res.pool 5 1 byc n.l).ok w.heap.size w' ∧ ∀ b, (rowR n).foot b → ¬ (Res.pool 5 1 byc n.l).foot b := by
  have hvl := hv.1
  unfold Go.maxLen at hcap
  refine calls_of_T (l := [.slice a xs.length cap]) 27 Try.func36 rfl rfl rfl ?_
  show T _ _ _ [(0, .slice a xs.length cap)] []
  refine T_seq (T_region ?_)
  refine TL_q (.slice none 0 0) (fun _ _ hρ _ => r_assign (hρ _ _ rfl)) rfl rfl rfl (w_n rfl) ?_
  refine TL_seq ?_
  refine T_seq (T_region ?_)
  refine TL_q (.slice none 0 0) (fun _ _ hρ _ => r_assign (hρ _ _ rfl)) rfl rfl rfl (w_n rfl) ?_
  refine TL_seq ?_
  refine T_seq ?_
  refine T_seq (T_region ?_)
  refine TL_q (.slice a xs.length cap) (fun _ _ hρ _ => r_move (hρ _ _ rfl)) rfl rfl rfl (w_n rfl) ?_
  refine TL_q (.slice a xs.length cap) (fun _ _ hρ _ => r_move (hρ _ _ rfl)) rfl rfl rfl (w_n rfl) ?_
  refine TL_q (.int .i64 ((xs.length : Nat) : Int)) (fun _ _ hρ _ => r_len sl63 (hρ _ _ rfl)) rfl rfl rfl (w_n rfl) ?_
  refine TL_q (.int .i64 ((min xs.length 6 : Nat) : Int)) (fun _ _ hρ _ => r_as (r_min (hρ _ _ rfl) (hρ _ _ rfl)) (int_as (minI _ 6))) rfl rfl rfl (w_n rfl) ?_
  obtain ⟨l1, hl1, hn1⟩ : ∃ lz, lz = xs.take (min xs.length 6) ∧ lz.length = min xs.length 6 := ⟨_, rfl, by rw [List.length_take]; omega⟩
  have hs1 := SliceAt.front hv (n := min xs.length 6) (m := cap) (by omega) (by omega) (by omega)
  rw [← hl1] at hs1
  refine TL_q (.slice a l1.length cap) (fun ρ _ hρ _ => r_as (r_sliceO sl63 sz34 (hρ _ _ rfl) (bd_none ρ _) (bd_some (n := min xs.length 6) (hρ _ _ rfl)) (bd_none ρ _) (by simp) (by omega) (by omega) (by omega)) (by rw [hn1]; exact slo_zero _ _ _ _)) rfl rfl rfl (w_n rfl) ?_
  refine TL_q (.int .i64 ((l1.length : Nat) : Int)) (fun _ _ hρ _ => r_len sl63 (hρ _ _ rfl)) rfl rfl rfl (w_n rfl) ?_
  refine TL_q (.int .i64 0) (fun _ _ hρ _ => r_move (hρ _ _ rfl)) rfl rfl rfl (w_n rfl) ?_
  refine TL_seq ?_
  refine T_block ?_
  refine T_mem (_ :: _ :: _) (fun _ hm => (hm.nilRow 963 34 1).pool0 964 5 1 byc) ?_
  refine T_loop (ι := Nat × List (RowG By) × Option Addr × Nat) (fun (z : Nat × List (RowG By) × Option Addr × Nat) => match z with | (k, ls, a2, cap2) => k ≤ l1.length ∧ rls ls = (rls (l1.take k)).map (·.take 65537)) (fun (z : Nat × List (RowG By) × Option Addr × Nat) => match z with | (k, ls, a2, cap2) => [(2, .slice none 0 0), (10, .slice a l1.length cap), (11, .int .i64 ((l1.length : Nat) : Int)), (12, .int .i64 ((k : Nat) : Int)), (3, .slice a2 ls.length cap2)]) (fun (z : Nat × List (RowG By) × Option Addr × Nat) => match z with | (k, ls, a2, cap2) => [(963, .row (.slice a2 ls.length cap2) 34 1 ls.length (ls.flatMap RowG.cells)), (964, .pool 5 1 byc ls)]) (fun (z : Nat × List (RowG By) × Option Addr × Nat) => match z with | (k, ls, a2, cap2) => l1.length - k) (0, [], none, 0) ⟨Nat.zero_le _, rfl⟩ (sub_cons rfl (sub_cons rfl (sub_cons rfl (sub_cons rfl (sub_cons rfl sub_nil))))) (sub_cons rfl (sub_cons rfl sub_nil)) ?_
  rintro ⟨k, ls, a2, cap2⟩ hp
  obtain ⟨hk, hl⟩ := hp
  have hlk := fewr_len hl hk
  show T _ _ _ [(2, .slice none 0 0), (10, .slice a l1.length cap), (11, .int .i64 ((l1.length : Nat) : Int)), (12, .int .i64 ((k : Nat) : Int)), (3, .slice a2 ls.length cap2)] [(963, .row (.slice a2 ls.length cap2) 34 1 ls.length (ls.flatMap RowG.cells)), (964, .pool 5 1 byc ls)]
  refine T_seq (T_region ?_)
  refine TL_q (.bool (decide (((k : Nat) : Int) < ((l1.length : Nat) : Int)))) (fun _ _ hρ _ => r_lss (hρ _ _ rfl) (hρ _ _ rfl)) rfl rfl rfl (w_n rfl) ?_
  refine TL_seq ?_
  refine T_seq ?_
  refine T_cond rfl (fun h1 => ?_) (fun h1 => ?_)
  · replace h1 := of_decide_eq_true h1
    refine T_skip' ?_
    refine p_seq ?_
    refine T_seq ?_
    refine T_block ?_
    obtain ⟨p, hp⟩ : ∃ x, l1[k]? = some x := ⟨_, List.getElem?_eq_getElem (by omega)⟩
    have hokp := hx p (by have h9 := List.mem_of_getElem? hp; rw [hl1] at h9; exact List.mem_of_mem_take h9)
    have hpl := hokp.1.1
    have hpc := hokp.2
    unfold Go.maxLen at hpc
    obtain ⟨b2, of2, cs2, T2, fz2, ha2, hq2, hr2⟩ := hs1.open (i := k) (by omega)
    subst ha2
    refine T_seq (T_region ?_)
    refine TL_q (.pointer (some ⟨b2, of2 + k * 1, none⟩)) (fun _ _ hρ _ => r_indexAddrS (i := k) sl63 sz34 (hρ _ _ rfl) (hρ _ _ rfl) (by omega)) rfl rfl rfl (w_n rfl) ?_
    refine TL_q (.slice p.a p.l.length p.cap) (fun _ _ hρ hm => r_loadRow1 (f := RowG.cells) (u := p) ag34 (hρ _ _ rfl) (hm.old hq2) hr2 hp rfl) rfl rfl rfl (w_n rfl) ?_
    refine TL_q (.slice p.a p.l.length p.cap) (fun _ _ hρ _ => r_assign (hρ _ _ rfl)) rfl rfl rfl (w_n rfl) ?_
    refine TL_seq ?_
    refine T_region ?_
    refine TL_q (.slice a2 ls.length cap2) (fun _ _ hρ _ => r_move (hρ _ _ rfl)) rfl rfl rfl (w_n rfl) ?_
    refine TL_q (.slice p.a p.l.length p.cap) (fun _ _ hρ _ => r_move (hρ _ _ rfl)) rfl rfl rfl (w_n rfl) ?_
    refine TL_q (.slice p.a p.l.length p.cap) (fun _ _ hρ _ => r_move (hρ _ _ rfl)) rfl rfl rfl (w_n rfl) ?_
    refine TL_q (.int .i64 ((p.l.length : Nat) : Int)) (fun _ _ hρ _ => r_len sl34 (hρ _ _ rfl)) rfl rfl rfl (w_n rfl) ?_
    refine TL_q (.int .i64 ((min p.l.length 65537 : Nat) : Int)) (fun _ _ hρ _ => r_as (r_min (hρ _ _ rfl) (hρ _ _ rfl)) (int_as (minI _ 65537))) rfl rfl rfl (w_n rfl) ?_
    obtain ⟨l3, hl3, hn3⟩ : ∃ lz, lz = p.l.take (min p.l.length 65537) ∧ lz.length = min p.l.length 65537 := ⟨_, rfl, by rw [List.length_take]; omega⟩
    have hs3 := SliceAt.front hokp.1 (n := min p.l.length 65537) (m := p.cap) (by omega) (by omega) (by omega)
    rw [← hl3] at hs3
    refine TL_q (.slice p.a l3.length p.cap) (fun ρ _ hρ _ => r_as (r_sliceO sl34 sz5 (hρ _ _ rfl) (bd_none ρ _) (bd_some (n := min p.l.length 65537) (hρ _ _ rfl)) (bd_none ρ _) (by simp) (by omega) (by omega) (by omega)) (by rw [hn3]; exact slo_zero _ _ _ _)) rfl rfl rfl (w_n rfl) ?_
    refine TL_callN (fun (_ : Option Addr × Nat) => True) (fun (ar4, cr4) => .slice ar4 ((l3).length) cr4) (fun (ar4, cr4) => [(1, .row (.slice ar4 ((l3).length) cr4) 5 1 ((l3).length) ((l3).flatMap byc))]) (fun _ _ hρ _ => r_call (args := [.slice p.a l3.length p.cap]) (enters_of Try.func37 (by kernel_rfl) rfl) (hρ _ _ rfl) ((cons2 (hρ _ _ rfl) rfl)) rfl) (fun w hm => (clone_b byc byc_len byc_one l3 p.a p.cap w (hs3.keep hm.ext) (by omega)).mono fun e w' ⟨a', cap', he, hb, hr⟩ => ⟨(a', cap'), trivial, he, hb, newOk1 1 hr⟩) rfl rfl rfl (w_n rfl) ?_
    rintro ⟨ar4, cr4⟩ -
    refine TL_new 2 (.cells #[.slice ar4 ((l3).length) cr4] 34) (fun B => .slice (some ⟨B, 0, none⟩) 1 1) (fun _ _ hρ _ => r_buildSlice (vs := [(0, .slice ar4 ((l3).length) cr4)]) (by kernel_rfl) (cons2 (pair2 (hρ _ _ rfl)) rfl)) rfl rfl rfl (w_n rfl) ?_
    intro B5
    refine TL_append (n := ls.length) (m := 1) (xs := (ls.flatMap RowG.cells)) (news := [.slice ar4 ((l3).length) cr4]) (z := .slice none 0 0) 963 rfl rfl rfl sl63 sz34 by34 (by kernel_rfl) rfl rfl (.inl rfl) (fun _ hm => src_blk (news := [.slice ar4 ((l3).length) cr4]) (hm.at 2 rfl) rfl) (by simp [Value.oneCell']) (by omega) (by omega) rfl (w_n rfl) ?_
    intro a6 cap6
    refine TL_q (.slice a6 (ls.length + 1) cap6) (fun _ _ hρ _ => r_assign (hρ _ _ rfl)) rfl rfl rfl (w_n rfl) ?_
    refine TL_nil ?_
    refine p_blk_n ?_
    refine p_seq ?_
    refine T_region ?_
    refine TL_q (.int .i64 ((k + 1 : Nat) : Int)) (fun _ _ hρ _ => r_as (r_add (hρ _ _ rfl) (hρ _ _ rfl)) (int_as ((wrap64 (by omega) (by omega)).trans (by omega)))) rfl rfl rfl (w_n rfl) ?_
    refine TL_q (.int .i64 ((k + 1 : Nat) : Int)) (fun _ _ hρ _ => r_move (hρ _ _ rfl)) rfl rfl rfl (w_n rfl) ?_
    refine TL_nil ?_
    have hn7 : (ls.length + 1) = (ls ++ [(⟨ar4, cr4, l3⟩ : RowG By)]).length := by simp
    have hx7 : ((ls.flatMap RowG.cells) ++ [.slice ar4 ((l3).length) cr4]) = (ls ++ [(⟨ar4, cr4, l3⟩ : RowG By)]).flatMap RowG.cells := by simp [RowG.cells]
    rw [hx7, hn7]
    refine p_mem (_ :: _ :: _) (fun _ hm => hm.poolPush 964 1 rfl rfl rfl rfl) ?_
    exact p_at (k + 1, ls ++ [(⟨ar4, cr4, l3⟩ : RowG By)], a6, cap6) ⟨⟨by omega, fewr_step hl hp hl3⟩, by dsimp only; omega⟩ (sub_cons rfl (sub_cons rfl (sub_cons rfl (sub_cons rfl (sub_cons rfl sub_nil))))) (sub_cons rfl (sub_cons rfl sub_nil))
  · replace h1 := of_decide_eq_false h1
    refine T_exit' ?_
    refine p_then_x ?_
    refine p_then_x ?_
    refine p_blk_x ?_
    refine p_seq ?_
    refine T_seq (T_region ?_)
    refine TL_q (.slice a2 ls.length cap2) (fun _ _ hρ _ => r_move (hρ _ _ rfl)) rfl rfl rfl (w_n rfl) ?_
    refine TL_q (.slice a2 ls.length cap2) (fun _ _ hρ _ => r_assign (hρ _ _ rfl)) rfl rfl rfl (w_n rfl) ?_
    refine TL_seq ?_
    refine T_ret' ?_
    refine ret_of rfl (.slice a2 ls.length cap2) (fun tmps w hk hm => res1 rfl (res_tmp (hk 2 _ rfl))) (fun w hm => ?_)
    have hke : k = l1.length := by omega
    subst hke
    rw [List.take_length] at hl
    exact ⟨⟨a2, cap2, ls⟩, fewr_all hl hl1, rfl, hm.ext, hm.own 963 _ rfl, hm.own 964 _ rfl, hm.sep 963 964 _ _ rfl rfl (by decide)⟩

theorem rls_step {ps qs : List (RowG By)} {k : Nat} {p q : RowG By} (h : rls (ps.take k) = rls (qs.take k)) (hp : ps[k]? = some p) (hq : qs[k]? = some q) (e : p.l = q.l) : rls (ps.take (k + 1)) = rls (qs.take (k + 1)) := by
  unfold rls at h ⊢
  rw [List.take_add_one, List.take_add_one, hp, hq, List.map_append, List.map_append, h]
  simp only [Option.toList_some, List.map_cons, List.map_nil, e]
theorem rls_at {ps qs : List (RowG By)} {k : Nat} {p q : RowG By} (h : rls ps = rls qs) (hp : ps[k]? = some p) (hq : qs[k]? = some q) : p.l = q.l := by
  have := congrArg (fun l => l[k]?) h
  simp only [List.getElem?_map, hp, hq, Option.map_some] at this
  exact Option.some.inj this

theorem same1_c (l m : List By) (a b : Option Addr) (cap capb : Nat) (w : World) (hv : SliceAt w a cap 1 byc l) (hu : SliceAt w b capb 1 byc m) (hl : l.length ≤ 1000000) (hl2 : m.length ≤ 1000000) : Calls Try.prog 86 #[.slice a l.length cap, .slice b m.length capb] w fun e w' => e = .returned (.bool (decide (l = m))) ∧ Below w.heap.size w w' := by
  refine calls_of_T (l := [.slice a l.length cap, .slice b m.length capb]) 8 Try.func86 rfl rfl rfl ?_
  show T _ _ _ [(0, .slice a l.length cap), (1, .slice b m.length capb)] []
  refine T_seq (T_region ?_)
  refine TL_q (.bool false) (fun _ _ hρ _ => r_assign (hρ _ _ rfl)) rfl rfl rfl (w_n rfl) ?_
  refine TL_seq ?_
  refine T_seq (T_region ?_)
  refine TL_q (.slice a l.length cap) (fun _ _ hρ _ => r_move (hρ _ _ rfl)) rfl rfl rfl (w_n rfl) ?_
  refine TL_q (.slice b m.length capb) (fun _ _ hρ _ => r_move (hρ _ _ rfl)) rfl rfl rfl (w_n rfl) ?_
  refine TL_call (.bool (decide (l = m))) (fun _ _ hρ _ => r_call (args := [.slice a l.length cap, .slice b m.length capb]) (enters_of Try.func16 (by kernel_rfl) rfl) (hρ _ _ rfl) ((cons2 (hρ _ _ rfl) (cons2 (hρ _ _ rfl) rfl))) rfl) (fun w hm => equal_b l m a b cap capb w (hv.keep hm.ext) (hu.keep hm.ext) (by omega) (by omega)) rfl rfl rfl (w_n rfl) ?_
  refine TL_q (.bool (decide (l = m))) (fun _ _ hρ _ => r_assign (hρ _ _ rfl)) rfl rfl rfl (w_n rfl) ?_
  refine TL_seq ?_
  refine T_ret' ?_
  refine ret_of rfl (.bool (decide (l = m))) (fun tmps w hk hm => res1 rfl (res_tmp (hk 4 _ rfl))) (fun w hm => ?_)
  exact ⟨rfl, hm.ext⟩

theorem eqf_c (ps : List (RowG By)) (a : Option Addr) (cap : Nat) (qs : List (RowG By)) (b : Option Addr) (capb : Nat) (w : World) (hv : SliceAt w a cap 1 RowG.cells ps) (hcap : cap ≤ Go.maxLen) (hx : RowsIn w ps) (hxb : ∀ r ∈ ps, r.l.length ≤ 1000000) (hu : SliceAt w b capb 1 RowG.cells qs) (hcapb : capb ≤ Go.maxLen) (hy : RowsIn w qs) (hyb : ∀ r ∈ qs, r.l.length ≤ 1000000) : Calls Try.prog 85 #[.slice a ps.length cap, .slice b qs.length capb, .func (.func 86) #[] #[]] w fun e w' => e = .returned (.bool (decide (rls ps = rls qs))) ∧ Below w.heap.size w w' := by
  have hvl := hv.1
  have hul := hu.1
  unfold Go.maxLen at hcap hcapb
  refine calls_of_T (l := [.slice a ps.length cap, .slice b qs.length capb, .func (.func 86) #[] #[]]) 32 Try.func85 rfl rfl rfl ?_
  show T _ _ _ [(0, .slice a ps.length cap), (1, .slice b qs.length capb), (2, .func (.func 86) #[] #[])] []
  refine T_seq (T_region ?_)
  refine TL_q (.bool false) (fun _ _ hρ _ => r_assign (hρ _ _ rfl)) rfl rfl rfl (w_n rfl) ?_
  refine TL_seq ?_
  refine T_seq ?_
  by_cases c1 : ((ps.length : Nat) : Int) = ((qs.length : Nat) : Int)
  · skip
    refine T_seq (T_region ?_)
    refine TL_q (.slice a ps.length cap) (fun _ _ hρ _ => r_move (hρ _ _ rfl)) rfl rfl rfl (w_n rfl) ?_
    refine TL_q (.int .i64 ((ps.length : Nat) : Int)) (fun _ _ hρ _ => r_len sl63 (hρ _ _ rfl)) rfl rfl rfl (w_n rfl) ?_
    refine TL_q (.slice b qs.length capb) (fun _ _ hρ _ => r_move (hρ _ _ rfl)) rfl rfl rfl (w_n rfl) ?_
    refine TL_q (.int .i64 ((qs.length : Nat) : Int)) (fun _ _ hρ _ => r_len sl63 (hρ _ _ rfl)) rfl rfl rfl (w_n rfl) ?_
    refine TL_q (.bool false) (fun _ _ hρ _ => r_as (r_neq (hρ _ _ rfl) (hρ _ _ rfl)) (bool_as (by rw [decide_eq_true c1]; rfl))) rfl rfl rfl (w_n rfl) ?_
    refine TL_seq ?_
    refine T_cond_f rfl ?_
    refine T_skip' ?_
    refine p_seq ?_
    refine T_seq ?_
    refine T_seq (T_region ?_)
    refine TL_q (.slice a ps.length cap) (fun _ _ hρ _ => r_move (hρ _ _ rfl)) rfl rfl rfl (w_n rfl) ?_
    refine TL_q (.int .i64 ((ps.length : Nat) : Int)) (fun _ _ hρ _ => r_len sl63 (hρ _ _ rfl)) rfl rfl rfl (w_n rfl) ?_
    refine TL_q (.int .i64 0) (fun _ _ hρ _ => r_move (hρ _ _ rfl)) rfl rfl rfl (w_n rfl) ?_
    refine TL_seq ?_
    refine T_block ?_
    refine T_loop (ι := Nat) (fun (k : Nat) => k ≤ ps.length ∧ rls (ps.take k) = rls (qs.take k)) (fun (k : Nat) => [(1, .slice b qs.length capb), (2, .func (.func 86) #[] #[]), (15, .slice a ps.length cap), (16, .int .i64 ((ps.length : Nat) : Int)), (17, .int .i64 ((k : Nat) : Int))]) (fun (k : Nat) => []) (fun (k : Nat) => ps.length - k) 0 ⟨Nat.zero_le _, by simp⟩ (sub_cons rfl (sub_cons rfl (sub_cons rfl (sub_cons rfl (sub_cons rfl sub_nil))))) sub_nil ?_
    rintro k hp
    obtain ⟨hk1, hk2⟩ := hp
    show T _ _ _ [(1, .slice b qs.length capb), (2, .func (.func 86) #[] #[]), (15, .slice a ps.length cap), (16, .int .i64 ((ps.length : Nat) : Int)), (17, .int .i64 ((k : Nat) : Int))] []
    refine T_seq (T_region ?_)
    refine TL_q (.bool (decide (((k : Nat) : Int) < ((ps.length : Nat) : Int)))) (fun _ _ hρ _ => r_lss (hρ _ _ rfl) (hρ _ _ rfl)) rfl rfl rfl (w_n rfl) ?_
    refine TL_seq ?_
    refine T_seq ?_
    refine T_cond rfl (fun h1 => ?_) (fun h1 => ?_)
    · replace h1 := of_decide_eq_true h1
      refine T_skip' ?_
      refine p_seq ?_
      refine T_seq ?_
      refine T_block ?_
      obtain ⟨p, hp⟩ : ∃ x, ps[k]? = some x := ⟨_, List.getElem?_eq_getElem (by omega)⟩
      have hokp := hx p (List.mem_of_getElem? hp)
      have hbdp := hxb p (List.mem_of_getElem? hp)
      obtain ⟨b1, of1, cs1, T1, fz1, ha1, hq1, hr1⟩ := hv.open (i := k) (by omega)
      subst ha1
      refine T_seq (T_region ?_)
      refine TL_q (.int .i64 ((k : Nat) : Int)) (fun _ _ hρ _ => r_move (hρ _ _ rfl)) rfl rfl rfl (w_n rfl) ?_
      refine TL_q (.pointer (some ⟨b1, of1 + k * 1, none⟩)) (fun _ _ hρ _ => r_indexAddrS (i := k) sl63 sz34 (hρ _ _ rfl) (hρ _ _ rfl) (by omega)) rfl rfl rfl (w_n rfl) ?_
      refine TL_q (.slice p.a p.l.length p.cap) (fun _ _ hρ hm => r_loadRow1 (f := RowG.cells) (u := p) ag34 (hρ _ _ rfl) (hm.old hq1) hr1 hp rfl) rfl rfl rfl (w_n rfl) ?_
      refine TL_q (.int .i64 ((k : Nat) : Int)) (fun _ _ hρ _ => r_assign (hρ _ _ rfl)) rfl rfl rfl (w_n rfl) ?_
      refine TL_q (.slice p.a p.l.length p.cap) (fun _ _ hρ _ => r_assign (hρ _ _ rfl)) rfl rfl rfl (w_n rfl) ?_
      refine TL_seq ?_
      obtain ⟨q, hq⟩ : ∃ x, qs[k]? = some x := ⟨_, List.getElem?_eq_getElem (by omega)⟩
      have hokq := hy q (List.mem_of_getElem? hq)
      have hbdq := hyb q (List.mem_of_getElem? hq)
      obtain ⟨b2, of2, cs2, T2, fz2, ha2, hq2, hr2⟩ := hu.open (i := k) (by omega)
      subst ha2
      refine T_seq (T_region ?_)
      refine TL_q (.slice (some ⟨b2, of2, none⟩) qs.length capb) (fun _ _ hρ _ => r_move (hρ _ _ rfl)) rfl rfl rfl (w_n rfl) ?_
      refine TL_q (.int .i64 ((k : Nat) : Int)) (fun _ _ hρ _ => r_move (hρ _ _ rfl)) rfl rfl rfl (w_n rfl) ?_
      refine TL_q (.pointer (some ⟨b2, of2 + k * 1, none⟩)) (fun _ _ hρ _ => r_indexAddrS (i := k) sl63 sz34 (hρ _ _ rfl) (hρ _ _ rfl) (by omega)) rfl rfl rfl (w_n rfl) ?_
      refine TL_q (.slice q.a q.l.length q.cap) (fun _ _ hρ hm => r_loadRow1 (f := RowG.cells) (u := q) ag34 (hρ _ _ rfl) (hm.old hq2) hr2 hq rfl) rfl rfl rfl (w_n rfl) ?_
      refine TL_q (.slice q.a q.l.length q.cap) (fun _ _ hρ _ => r_assign (hρ _ _ rfl)) rfl rfl rfl (w_n rfl) ?_
      refine TL_seq ?_
      by_cases he : p.l = q.l
      · skip
        refine T_seq (T_region ?_)
        refine TL_q (.func (.func 86) #[] #[]) (fun _ _ hρ _ => r_move (hρ _ _ rfl)) rfl rfl rfl (w_n rfl) ?_
        refine TL_q (.slice p.a p.l.length p.cap) (fun _ _ hρ _ => r_move (hρ _ _ rfl)) rfl rfl rfl (w_n rfl) ?_
        refine TL_q (.slice q.a q.l.length q.cap) (fun _ _ hρ _ => r_move (hρ _ _ rfl)) rfl rfl rfl (w_n rfl) ?_
        refine TL_call (.bool true) (fun _ _ hρ _ => r_call (args := [.slice p.a p.l.length p.cap, .slice q.a q.l.length q.cap]) (enters_of Try.func86 (by kernel_rfl) rfl) (hρ _ _ rfl) ((cons2 (hρ _ _ rfl) (cons2 (hρ _ _ rfl) rfl))) rfl) (fun w hm => (same1_c p.l q.l p.a q.a p.cap q.cap w (hokp.1.keep hm.ext) (hokq.1.keep hm.ext) hbdp hbdq).mono fun _ _ h => ⟨h.1.trans (congrArg Ending.returned (bool_as (decide_eq_true he))), h.2⟩) rfl rfl rfl (w_n rfl) ?_
        refine TL_q (.bool false) (fun _ _ hρ _ => r_not (b := true) (hρ _ _ rfl)) rfl rfl rfl (w_n rfl) ?_
        refine TL_seq ?_
        refine T_cond_f rfl ?_
        refine T_skip' ?_
        refine p_blk_n ?_
        refine p_seq ?_
        refine T_region ?_
        refine TL_q (.int .i64 ((k + 1 : Nat) : Int)) (fun _ _ hρ _ => r_as (r_add (hρ _ _ rfl) (hρ _ _ rfl)) (int_as ((wrap64 (by omega) (by omega)).trans (by omega)))) rfl rfl rfl (w_n rfl) ?_
        refine TL_q (.int .i64 ((k + 1 : Nat) : Int)) (fun _ _ hρ _ => r_move (hρ _ _ rfl)) rfl rfl rfl (w_n rfl) ?_
        refine TL_nil ?_
        exact p_at (k + 1) ⟨⟨by omega, rls_step hk2 hp hq he⟩, by omega⟩ (sub_cons rfl (sub_cons rfl (sub_cons rfl (sub_cons rfl (sub_cons rfl sub_nil))))) sub_nil
      · skip
        refine T_seq (T_region ?_)
        refine TL_q (.func (.func 86) #[] #[]) (fun _ _ hρ _ => r_move (hρ _ _ rfl)) rfl rfl rfl (w_n rfl) ?_
        refine TL_q (.slice p.a p.l.length p.cap) (fun _ _ hρ _ => r_move (hρ _ _ rfl)) rfl rfl rfl (w_n rfl) ?_
        refine TL_q (.slice q.a q.l.length q.cap) (fun _ _ hρ _ => r_move (hρ _ _ rfl)) rfl rfl rfl (w_n rfl) ?_
        refine TL_call (.bool false) (fun _ _ hρ _ => r_call (args := [.slice p.a p.l.length p.cap, .slice q.a q.l.length q.cap]) (enters_of Try.func86 (by kernel_rfl) rfl) (hρ _ _ rfl) ((cons2 (hρ _ _ rfl) (cons2 (hρ _ _ rfl) rfl))) rfl) (fun w hm => (same1_c p.l q.l p.a q.a p.cap q.cap w (hokp.1.keep hm.ext) (hokq.1.keep hm.ext) hbdp hbdq).mono fun _ _ h => ⟨h.1.trans (congrArg Ending.returned (bool_as (decide_eq_false he))), h.2⟩) rfl rfl rfl (w_n rfl) ?_
        refine TL_q (.bool true) (fun _ _ hρ _ => r_not (b := false) (hρ _ _ rfl)) rfl rfl rfl (w_n rfl) ?_
        refine TL_seq ?_
        refine T_cond_t rfl ?_
        refine T_seq (T_region ?_)
        refine TL_q (.bool false) (fun _ _ hρ _ => r_assign (hρ _ _ rfl)) rfl rfl rfl (w_n rfl) ?_
        refine TL_seq ?_
        refine T_ret' ?_
        refine p_blk_r ?_
        refine p_then_r ?_
        refine p_then_r ?_
        refine p_blk_r ?_
        refine p_then_r ?_
        refine ret_of rfl (.bool false) (fun tmps w hk hm => res1 rfl (res_tmp (hk 6 _ rfl))) (fun w hm => ?_)
        exact ⟨congrArg Ending.returned (bool_as (decide_eq_false (fun e => he (rls_at e hp hq))).symm), hm.ext⟩
    · replace h1 := of_decide_eq_false h1
      refine T_exit' ?_
      refine p_then_x ?_
      refine p_then_x ?_
      refine p_blk_x ?_
      refine p_seq ?_
      refine T_seq (T_region ?_)
      refine TL_q (.bool true) (fun _ _ hρ _ => r_assign (hρ _ _ rfl)) rfl rfl rfl (w_n rfl) ?_
      refine TL_seq ?_
      refine T_ret' ?_
      refine ret_of rfl (.bool true) (fun tmps w hk hm => res1 rfl (res_tmp (hk 6 _ rfl))) (fun w hm => ?_)
      have hke : k = ps.length := by omega
      subst hke
      rw [List.take_length, show ps.length = qs.length by omega, List.take_length] at hk2
      exact ⟨congrArg Ending.returned (bool_as (decide_eq_true hk2).symm), hm.ext⟩
  · skip
    refine T_seq (T_region ?_)
    refine TL_q (.slice a ps.length cap) (fun _ _ hρ _ => r_move (hρ _ _ rfl)) rfl rfl rfl (w_n rfl) ?_
    refine TL_q (.int .i64 ((ps.length : Nat) : Int)) (fun _ _ hρ _ => r_len sl63 (hρ _ _ rfl)) rfl rfl rfl (w_n rfl) ?_
    refine TL_q (.slice b qs.length capb) (fun _ _ hρ _ => r_move (hρ _ _ rfl)) rfl rfl rfl (w_n rfl) ?_
    refine TL_q (.int .i64 ((qs.length : Nat) : Int)) (fun _ _ hρ _ => r_len sl63 (hρ _ _ rfl)) rfl rfl rfl (w_n rfl) ?_
    refine TL_q (.bool true) (fun _ _ hρ _ => r_as (r_neq (hρ _ _ rfl) (hρ _ _ rfl)) (bool_as (by rw [decide_eq_false c1]; rfl))) rfl rfl rfl (w_n rfl) ?_
    refine TL_seq ?_
    refine T_cond_t rfl ?_
    refine T_seq (T_region ?_)
    refine TL_q (.bool false) (fun _ _ hρ _ => r_assign (hρ _ _ rfl)) rfl rfl rfl (w_n rfl) ?_
    refine TL_seq ?_
    refine T_ret' ?_
    refine p_then_r ?_
    refine ret_of rfl (.bool false) (fun tmps w hk hm => res1 rfl (res_tmp (hk 6 _ rfl))) (fun w hm => ?_)
    exact ⟨congrArg Ending.returned (bool_as (decide_eq_false (fun e => c1 (by have := congrArg List.length e; rw [rls_len, rls_len] at this; omega))).symm), hm.ext⟩

theorem same_c (ps : List (RowG By)) (a : Option Addr) (cap : Nat) (qs : List (RowG By)) (b : Option Addr) (capb : Nat) (w : World) (hv : SliceAt w a cap 1 RowG.cells ps) (hcap : cap ≤ Go.maxLen) (hx : RowsIn w ps) (hxb : ∀ r ∈ ps, r.l.length ≤ 1000000) (hu : SliceAt w b capb 1 RowG.cells qs) (hcapb : capb ≤ Go.maxLen) (hy : RowsIn w qs) (hyb : ∀ r ∈ qs, r.l.length ≤ 1000000) : Calls Try.prog 45 #[.slice a ps.length cap, .slice b qs.length capb] w fun e w' => e = .returned (.bool (decide (rls ps = rls qs))) ∧ Below w.heap.size w w' := by
  refine calls_of_T (l := [.slice a ps.length cap, .slice b qs.length capb]) 8 Try.func45 rfl rfl rfl ?_
  show T _ _ _ [(0, .slice a ps.length cap), (1, .slice b qs.length capb)] []
  refine T_seq (T_region ?_)
  refine TL_q (.bool false) (fun _ _ hρ _ => r_assign (hρ _ _ rfl)) rfl rfl rfl (w_n rfl) ?_
  refine TL_seq ?_
  refine T_seq (T_region ?_)
  refine TL_q (.slice a ps.length cap) (fun _ _ hρ _ => r_move (hρ _ _ rfl)) rfl rfl rfl (w_n rfl) ?_
  refine TL_q (.slice b qs.length capb) (fun _ _ hρ _ => r_move (hρ _ _ rfl)) rfl rfl rfl (w_n rfl) ?_
  refine TL_call (.bool (decide (rls ps = rls qs))) (fun _ _ hρ _ => r_call (args := [.slice a ps.length cap, .slice b qs.length capb, .func (.func 86) #[] #[]]) (enters_of Try.func85 (by kernel_rfl) rfl) (hρ _ _ rfl) ((cons2 (hρ _ _ rfl) (cons2 (hρ _ _ rfl) (cons2 (hρ _ _ rfl) rfl)))) rfl) (fun w hm => eqf_c ps a cap qs b capb w (hv.keep hm.ext) hcap (hx.keep hm.ext) hxb (hu.keep hm.ext) hcapb (hy.keep hm.ext) hyb) rfl rfl rfl (w_n rfl) ?_
  refine TL_q (.bool (decide (rls ps = rls qs))) (fun _ _ hρ _ => r_assign (hρ _ _ rfl)) rfl rfl rfl (w_n rfl) ?_
  refine TL_seq ?_
  refine T_ret' ?_
  refine ret_of rfl (.bool (decide (rls ps = rls qs))) (fun tmps w hk hm => res1 rfl (res_tmp (hk 4 _ rfl))) (fun w hm => ?_)
  exact ⟨rfl, hm.ext⟩
end Go.Proofs.Ytcidgbjgeegepaa
/- net and journal: wakes. Printed by a program of this seat's prover. -/
namespace Go.Proofs.Ytcidgbjgeegepaa
open Go Go.RowKit
set_option maxRecDepth 10000
abbrev WJ : List (List By) := [[5#8], [6#8, 7#8]]
theorem wk_h : ∀ r ∈ WJ, r.length ≤ 65536 := by decide
theorem wk_len : (joinP WJ).length = 19 := by
  show joinL WJ = 19
  rw [joinL_cons, joinL_cons]; rfl
theorem wk_1 : joinL [[5#8]] = 9 := by rw [joinL_cons]; rfl
theorem wk_many : manyJ WJ 18 = 1 := by decide
theorem wk_torn : heldsV ((joinP WJ).take 18) = [[5#8]] ∧ sizeV ((joinP WJ).take 18) = 9 ∧ whyE ((joinP WJ).take 18) ≠ 0 := by
  obtain ⟨h1, h2, h3, h4⟩ := torn (c := 18) wk_h (by show 18 ≤ (joinP WJ).length; rw [wk_len]; decide)
  rw [wk_many] at h1 h2 h3
  refine ⟨h1, h2.trans wk_1, fun e => ?_⟩
  have := h3.1 e
  rw [show WJ.take 1 = [[5#8]] from rfl, wk_1] at this
  cases this
theorem wk_more : sizeV (joinP WJ ++ [0#8]) = 19 ∧ whyE (joinP WJ ++ [0#8]) = 110 := by
  obtain ⟨_, h2, _⟩ := scan_join WJ 0 [0#8] wk_h (by decide)
  have hl : joinL WJ = 19 := wk_len
  rw [Nat.zero_add, hl] at h2
  refine ⟨h2, ?_⟩
  have h3 : sizeV (joinP WJ ++ [0#8]) = 19 := h2
  unfold whyE
  rw [h3, if_neg (by rw [List.length_append, wk_len]; decide), show (19 : Nat) = (joinP WJ).length from wk_len.symm, List.drop_append_of_le_length (Nat.le_refl _), List.drop_of_length_le (Nat.le_refl _)]
  rfl
theorem wk_f1 : firstE [0#8, 0#8, 0#8] = 110 := by decide
theorem wk_f2 : firstE [0#8, 1#8, 0#8, 1#8] = 3 := by decide +kernel
theorem wk_f3 : firstE [0#8, 0#8, 0#8, 0#8, 1#8, 1#8, 1#8, 1#8] = 120 := by decide +kernel

set_option maxHeartbeats 1000000 in
theorem jwakes_c (w : World) : Calls Try.prog 35 #[] w fun e w' => e = .returned (.bool true) ∧ Below w.heap.size w w' := by
  have hwl := wk_len
  have hrl := recP_len [5#8, 6#8]
  replace hrl : (recP [5#8, 6#8]).length = 10 := hrl
  refine calls_of_T (l := []) 124 Try.func35 rfl rfl rfl ?_
  show T _ _ _ [] []
  refine T_seq (T_region ?_)
  refine TL_q (.bool false) (fun _ _ hρ _ => r_assign (hρ _ _ rfl)) rfl rfl rfl (w_n rfl) ?_
  refine TL_seq ?_
  refine T_seq (T_region ?_)
  refine TL_new 1 (.cells #[.int .u8 5, .int .u8 6] 5) (fun B => .slice (some ⟨B, 0, none⟩) 2 2) (fun _ _ hρ _ => r_buildSlice (vs := [(0, .int .u8 5), (1, .int .u8 6)]) (by kernel_rfl) (cons2 (pair2 (hρ _ _ rfl)) (cons2 (pair2 (hρ _ _ rfl)) rfl))) rfl rfl rfl (w_n rfl) ?_
  intro B1
  refine TL_callN (fun (_ : Option Addr × Nat) => True) (fun (ar2, cr2) => .tuple #[.slice ar2 ((recP [5#8, 6#8]).length) cr2, .int .i64 0]) (fun (ar2, cr2) => [(2, .row (.slice ar2 ((recP [5#8, 6#8]).length) cr2) 5 1 ((recP [5#8, 6#8]).length) ((recP [5#8, 6#8]).flatMap byc))]) (fun _ _ hρ _ => r_call (args := [.slice (some ⟨B1, 0, none⟩) 2 2]) (enters_of Try.func40 (by kernel_rfl) rfl) (hρ _ _ rfl) ((cons2 (hρ _ _ rfl) rfl)) rfl) (fun w hm => (jrec_ok [5#8, 6#8] (some ⟨B1, 0, none⟩) 2 w ⟨Nat.le_of_ble_eq_true rfl, (fun e => by cases e), .inr ⟨_, 0, _, _, _, rfl, (hm.at 1 rfl), row_of_take (fun _ => rfl) rfl⟩⟩ (Nat.le_of_ble_eq_true rfl) (by decide)).mono fun e w' ⟨a', cap', he, hb, hr⟩ => ⟨(a', cap'), trivial, he, hb, newOk1 2 hr⟩) rfl rfl rfl (w_n rfl) ?_
  rintro ⟨ar2, cr2⟩ -
  refine TL_q (.tuple #[.slice ar2 ((recP [5#8, 6#8]).length) cr2, .int .i64 0]) (fun _ _ hρ _ => r_move (hρ _ _ rfl)) rfl rfl rfl (w_n rfl) ?_
  refine TL_q (.slice ar2 ((recP [5#8, 6#8]).length) cr2) (fun _ _ hρ _ => r_extract (hρ _ _ rfl) rfl) rfl rfl rfl (w_n rfl) ?_
  refine TL_q (.int .i64 0) (fun _ _ hρ _ => r_extract (hρ _ _ rfl) rfl) rfl rfl rfl (w_n rfl) ?_
  refine TL_q (.slice ar2 ((recP [5#8, 6#8]).length) cr2) (fun _ _ hρ _ => r_assign (hρ _ _ rfl)) rfl rfl rfl (w_n rfl) ?_
  refine TL_q (.int .i64 0) (fun _ _ hρ _ => r_assign (hρ _ _ rfl)) rfl rfl rfl (w_n rfl) ?_
  refine TL_seq ?_
  refine T_seq (T_region ?_)
  refine TL_new 3 (.cells #[.int .u8 5] 5) (fun B => .slice (some ⟨B, 0, none⟩) 1 1) (fun _ _ hρ _ => r_buildSlice (vs := [(0, .int .u8 5)]) (by kernel_rfl) (cons2 (pair2 (hρ _ _ rfl)) rfl)) rfl rfl rfl (w_n rfl) ?_
  intro B3
  refine TL_new 4 (.cells #[.int .u8 6, .int .u8 7] 5) (fun B => .slice (some ⟨B, 0, none⟩) 2 2) (fun _ _ hρ _ => r_buildSlice (vs := [(0, .int .u8 6), (1, .int .u8 7)]) (by kernel_rfl) (cons2 (pair2 (hρ _ _ rfl)) (cons2 (pair2 (hρ _ _ rfl)) rfl))) rfl rfl rfl (w_n rfl) ?_
  intro B4
  refine TL_new 5 (.cells #[.slice (some ⟨B3, 0, none⟩) 1 1, .slice (some ⟨B4, 0, none⟩) 2 2] 34) (fun B => .slice (some ⟨B, 0, none⟩) 2 2) (fun _ _ hρ _ => r_buildSlice (vs := [(0, .slice (some ⟨B3, 0, none⟩) 1 1), (1, .slice (some ⟨B4, 0, none⟩) 2 2)]) (by kernel_rfl) (cons2 (pair2 (hρ _ _ rfl)) (cons2 (pair2 (hρ _ _ rfl)) rfl))) rfl rfl rfl (w_n rfl) ?_
  intro B5
  refine TL_callN (fun (_ : Option Addr × Nat) => True) (fun (ar6, cr6) => .tuple #[.slice ar6 ((joinP WJ).length) cr6, .int .i64 0]) (fun (ar6, cr6) => [(6, .row (.slice ar6 ((joinP WJ).length) cr6) 5 1 ((joinP WJ).length) ((joinP WJ).flatMap byc))]) (fun _ _ hρ _ => r_call (args := [.slice (some ⟨B5, 0, none⟩) 2 2]) (enters_of Try.func38 (by kernel_rfl) rfl) (hρ _ _ rfl) ((cons2 (hρ _ _ rfl) rfl)) rfl) (fun w hm => (join_ok [(⟨(some ⟨B3, 0, none⟩), 1, [5#8]⟩ : RowG By), (⟨(some ⟨B4, 0, none⟩), 2, [6#8, 7#8]⟩ : RowG By)] (some ⟨B5, 0, none⟩) 2 w ⟨Nat.le_of_ble_eq_true rfl, (fun e => by cases e), .inr ⟨_, 0, _, _, _, rfl, (hm.at 5 rfl), row_of_take (fun _ => rfl) rfl⟩⟩ (Nat.le_of_ble_eq_true rfl) (List.forall_mem_cons.2 ⟨⟨⟨Nat.le_of_ble_eq_true rfl, (fun e => by cases e), .inr ⟨_, 0, _, _, _, rfl, (hm.at 3 rfl), row_of_take (fun _ => rfl) rfl⟩⟩, (Nat.le_of_ble_eq_true rfl)⟩, (List.forall_mem_cons.2 ⟨⟨⟨Nat.le_of_ble_eq_true rfl, (fun e => by cases e), .inr ⟨_, 0, _, _, _, rfl, (hm.at 4 rfl), row_of_take (fun _ => rfl) rfl⟩⟩, (Nat.le_of_ble_eq_true rfl)⟩, (fun _ h => nomatch h)⟩)⟩) (Nat.le_of_ble_eq_true rfl) (show ∀ r ∈ [(⟨(some ⟨B3, 0, none⟩), 1, [5#8]⟩ : RowG By), (⟨(some ⟨B4, 0, none⟩), 2, [6#8, 7#8]⟩ : RowG By)], r.l.length ≤ 65536 from List.forall_mem_cons.2 ⟨(show 1 ≤ 65536 by decide), List.forall_mem_cons.2 ⟨(show 2 ≤ 65536 by decide), fun _ h => nomatch h⟩⟩)).mono fun e w' ⟨a', cap', he, hb, hr⟩ => ⟨(a', cap'), trivial, he, hb, newOk1 6 hr⟩) rfl rfl rfl (w_n rfl) ?_
  rintro ⟨ar6, cr6⟩ -
  refine TL_q (.tuple #[.slice ar6 ((joinP WJ).length) cr6, .int .i64 0]) (fun _ _ hρ _ => r_move (hρ _ _ rfl)) rfl rfl rfl (w_n rfl) ?_
  refine TL_q (.slice ar6 ((joinP WJ).length) cr6) (fun _ _ hρ _ => r_extract (hρ _ _ rfl) rfl) rfl rfl rfl (w_n rfl) ?_
  refine TL_q (.int .i64 0) (fun _ _ hρ _ => r_extract (hρ _ _ rfl) rfl) rfl rfl rfl (w_n rfl) ?_
  refine TL_q (.slice ar6 ((joinP WJ).length) cr6) (fun _ _ hρ _ => r_assign (hρ _ _ rfl)) rfl rfl rfl (w_n rfl) ?_
  refine TL_q (.int .i64 0) (fun _ _ hρ _ => r_assign (hρ _ _ rfl)) rfl rfl rfl (w_n rfl) ?_
  refine TL_seq ?_
  refine T_seq ?_
  refine T_seq (T_region ?_)
  refine TL_q (.int .i64 0) (fun _ _ hρ _ => r_move (hρ _ _ rfl)) rfl rfl rfl (w_n rfl) ?_
  refine TL_q (.bool false) (fun _ _ hρ _ => r_as (r_neq (hρ _ _ rfl) (hρ _ _ rfl)) (by rfl)) rfl rfl rfl (w_n rfl) ?_
  refine TL_q (.bool false) (fun _ _ hρ _ => r_move (hρ _ _ rfl)) rfl rfl rfl (w_n rfl) ?_
  refine TL_q (.int .i64 0) (fun _ _ hρ _ => r_move (hρ _ _ rfl)) rfl rfl rfl (want_y 34 rfl rfl rfl) ?_
  refine TL_q (.bool false) (fun _ _ hρ _ => r_as (r_neq (hρ _ _ rfl) (hρ _ _ rfl)) (by rfl)) rfl rfl rfl (want_y 34 rfl rfl rfl) ?_
  refine TL_q (.bool false) (fun _ _ hρ _ => r_pick_f (hρ _ _ rfl) (hρ _ _ rfl)) rfl rfl rfl (w_n rfl) ?_
  refine TL_q (.bool false) (fun _ _ hρ _ => r_move (hρ _ _ rfl)) rfl rfl rfl (w_n rfl) ?_
  refine TL_q (.slice ar2 ((recP [5#8, 6#8]).length) cr2) (fun _ _ hρ _ => r_move (hρ _ _ rfl)) rfl rfl rfl (want_y 38 rfl rfl rfl) ?_
  refine TL_q (.int .i64 (((recP [5#8, 6#8]).length : Nat) : Int)) (fun _ _ hρ _ => r_len sl34 (hρ _ _ rfl)) rfl rfl rfl (want_y 38 rfl rfl rfl) ?_
  refine TL_q (.bool false) (fun _ _ hρ _ => r_as (r_neq (hρ _ _ rfl) (hρ _ _ rfl)) (bool_as (by rw [decide_eq_true (by omega)]; rfl))) rfl rfl rfl (want_y 38 rfl rfl rfl) ?_
  refine TL_q (.bool false) (fun _ _ hρ _ => r_pick_f (hρ _ _ rfl) (hρ _ _ rfl)) rfl rfl rfl (w_n rfl) ?_
  refine TL_q (.bool false) (fun _ _ hρ _ => r_move (hρ _ _ rfl)) rfl rfl rfl (w_n rfl) ?_
  refine TL_q (.slice ar6 ((joinP WJ).length) cr6) (fun _ _ hρ _ => r_move (hρ _ _ rfl)) rfl rfl rfl (want_y 43 rfl rfl rfl) ?_
  refine TL_q (.int .i64 (((joinP WJ).length : Nat) : Int)) (fun _ _ hρ _ => r_len sl34 (hρ _ _ rfl)) rfl rfl rfl (want_y 43 rfl rfl rfl) ?_
  refine TL_q (.bool false) (fun _ _ hρ _ => r_as (r_neq (hρ _ _ rfl) (hρ _ _ rfl)) (bool_as (by rw [decide_eq_true (by omega)]; rfl))) rfl rfl rfl (want_y 43 rfl rfl rfl) ?_
  refine TL_q (.bool false) (fun _ _ hρ _ => r_pick_f (hρ _ _ rfl) (hρ _ _ rfl)) rfl rfl rfl (w_n rfl) ?_
  refine TL_seq ?_
  refine T_sub [(0, .bool false), (3, .slice ar6 ((joinP WJ).length) cr6), (47, .bool false)] [(6, .row (.slice ar6 ((joinP WJ).length) cr6) 5 1 ((joinP WJ).length) ((joinP WJ).flatMap byc)), (2, .row (.slice ar2 ((recP [5#8, 6#8]).length) cr2) 5 1 ((recP [5#8, 6#8]).length) ((recP [5#8, 6#8]).flatMap byc)), (1, .blk B1 (.cells #[.int .u8 5, .int .u8 6] 5)), (3, .blk B3 (.cells #[.int .u8 5] 5)), (4, .blk B4 (.cells #[.int .u8 6, .int .u8 7] 5)), (5, .blk B5 (.cells #[.slice (some ⟨B3, 0, none⟩) 1 1, .slice (some ⟨B4, 0, none⟩) 2 2] 34))] (sub_cons rfl (sub_cons rfl (sub_cons rfl sub_nil))) (sub_cons rfl (sub_cons rfl (sub_cons rfl (sub_cons rfl (sub_cons rfl (sub_cons rfl sub_nil)))))) ?_
  refine T_cond_f rfl ?_
  refine T_skip' ?_
  refine p_seq ?_
  refine T_rowcap 6 rfl (fun hrc5 => ?_)
  refine T_seq (T_region ?_)
  refine TL_q (.slice ar6 ((joinP WJ).length) cr6) (fun _ _ hρ _ => r_move (hρ _ _ rfl)) rfl rfl rfl (w_n rfl) ?_
  obtain ⟨l7, hl7, hn7⟩ : ∃ lz, lz = (joinP WJ).take 18 ∧ lz.length = 18 := ⟨_, rfl, by rw [List.length_take]; omega⟩
  refine TL_q (.slice ar6 l7.length cr6) (fun ρ _ hρ _ => r_as (r_sliceO sl34 sz5 (hρ _ _ rfl) (bd_none ρ _) (bd_some (n := 18) (hρ _ _ rfl)) (bd_none ρ _) (by simp) (by omega) (by omega) (by omega)) (by rw [hn7]; exact slo_zero _ _ _ _)) rfl rfl rfl (w_n rfl) ?_
  refine TL_callN (fun ((na8, nc8, nl8) : Option Addr × Nat × List (RowG By)) => rls nl8 = heldsV l7) (fun (na8, nc8, nl8) => .tuple #[.slice na8 nl8.length nc8, .int .i64 ((sizeV l7 : Nat) : Int)]) (fun (na8, nc8, nl8) => [(7, .row (.slice na8 nl8.length nc8) 34 1 nl8.length (nl8.flatMap RowG.cells)), (8, .pool 5 1 byc nl8)]) (fun _ _ hρ _ => r_call (args := [.slice ar6 l7.length cr6]) (enters_of Try.func46 (by kernel_rfl) rfl) (hρ _ _ rfl) ((cons2 (hρ _ _ rfl) rfl)) rfl) (fun w hm => (scan_c l7 ar6 cr6 w (by have hs := SliceAt.front (l := (joinP WJ)) (SliceAt.own byc_len (hm.row 6 rfl) rfl rfl) (n := 18) (m := cr6) (by omega) (by omega) (by omega); rw [← hl7] at hs; exact hs) (row_cap (hm.row 6 rfl)) (by omega)).mono fun e w' ⟨n, hf, he, hb, r1, r2, hs⟩ => ⟨(n.a, n.cap, n.l), hf, he, hb, newOk2 7 8 r1 r2 hs⟩) rfl rfl rfl (w_n rfl) ?_
  rintro ⟨na8, nc8, nl8⟩ hsc8
  refine TL_q (.tuple #[.slice na8 nl8.length nc8, .int .i64 ((sizeV l7 : Nat) : Int)]) (fun _ _ hρ _ => r_move (hρ _ _ rfl)) rfl rfl rfl (w_n rfl) ?_
  refine TL_q (.slice na8 nl8.length nc8) (fun _ _ hρ _ => r_extract (hρ _ _ rfl) rfl) rfl rfl rfl (w_n rfl) ?_
  refine TL_q (.int .i64 ((sizeV l7 : Nat) : Int)) (fun _ _ hρ _ => r_extract (hρ _ _ rfl) rfl) rfl rfl rfl (w_n rfl) ?_
  refine TL_q (.slice na8 nl8.length nc8) (fun _ _ hρ _ => r_assign (hρ _ _ rfl)) rfl rfl rfl (w_n rfl) ?_
  refine TL_q (.int .i64 ((sizeV l7 : Nat) : Int)) (fun _ _ hρ _ => r_assign (hρ _ _ rfl)) rfl rfl rfl (w_n rfl) ?_
  refine TL_seq ?_
  refine T_seq (T_region ?_)
  refine TL_new 9 (.cells #[.int .u8 0, .int .u8 0, .int .u8 0] 5) (fun B => .slice (some ⟨B, 0, none⟩) 3 3) (fun _ _ hρ _ => r_buildSlice (vs := [(0, .int .u8 0), (1, .int .u8 0), (2, .int .u8 0)]) (by kernel_rfl) (cons2 (pair2 (hρ _ _ rfl)) (cons2 (pair2 (hρ _ _ rfl)) (cons2 (pair2 (hρ _ _ rfl)) rfl)))) rfl rfl rfl (w_n rfl) ?_
  intro B9
  refine TL_callN (fun (_ : Option Addr × Nat) => True) (fun (ar10, cr10) => .tuple #[.slice ar10 (([] : List By).length) cr10, .int .i64 0, .int .i64 110]) (fun (ar10, cr10) => [(10, .row (.slice ar10 (([] : List By).length) cr10) 5 1 (([] : List By).length) (([] : List By).flatMap byc))]) (fun _ _ hρ _ => r_call (args := [.slice (some ⟨B9, 0, none⟩) 3 3]) (enters_of Try.func52 (by kernel_rfl) rfl) (hρ _ _ rfl) ((cons2 (hρ _ _ rfl) rfl)) rfl) (fun w hm => (jfirst_p [0#8, 0#8, 0#8] (some ⟨B9, 0, none⟩) 3 w ⟨Nat.le_of_ble_eq_true rfl, (fun e => by cases e), .inr ⟨_, 0, _, _, _, rfl, (hm.at 9 rfl), row_of_take (fun _ => rfl) rfl⟩⟩ (Nat.le_of_ble_eq_true rfl) (by rw [wk_f1]; decide)).mono fun e w' ⟨a', cap', he, hb, hr⟩ => ⟨(a', cap'), trivial, he.trans (by rw [wk_f1]), hb, newOk1 10 hr⟩) rfl rfl rfl (w_n rfl) ?_
  rintro ⟨ar10, cr10⟩ -
  refine TL_q (.tuple #[.slice ar10 (([] : List By).length) cr10, .int .i64 0, .int .i64 110]) (fun _ _ hρ _ => r_move (hρ _ _ rfl)) rfl rfl rfl (w_n rfl) ?_
  refine TL_q (.slice ar10 (([] : List By).length) cr10) (fun _ _ hρ _ => r_extract (hρ _ _ rfl) rfl) rfl rfl rfl (w_n rfl) ?_
  refine TL_q (.int .i64 0) (fun _ _ hρ _ => r_extract (hρ _ _ rfl) rfl) rfl rfl rfl (w_n rfl) ?_
  refine TL_q (.int .i64 110) (fun _ _ hρ _ => r_extract (hρ _ _ rfl) rfl) rfl rfl rfl (w_n rfl) ?_
  refine TL_q (.slice ar10 (([] : List By).length) cr10) (fun _ _ hρ _ => r_assign (hρ _ _ rfl)) rfl rfl rfl (w_n rfl) ?_
  refine TL_q (.int .i64 0) (fun _ _ hρ _ => r_assign (hρ _ _ rfl)) rfl rfl rfl (w_n rfl) ?_
  refine TL_q (.int .i64 110) (fun _ _ hρ _ => r_assign (hρ _ _ rfl)) rfl rfl rfl (w_n rfl) ?_
  refine TL_seq ?_
  refine T_seq (T_region ?_)
  refine TL_new 11 (.cells #[.int .u8 0, .int .u8 1, .int .u8 0, .int .u8 1] 5) (fun B => .slice (some ⟨B, 0, none⟩) 4 4) (fun _ _ hρ _ => r_buildSlice (vs := [(0, .int .u8 0), (1, .int .u8 1), (2, .int .u8 0), (3, .int .u8 1)]) (by kernel_rfl) (cons2 (pair2 (hρ _ _ rfl)) (cons2 (pair2 (hρ _ _ rfl)) (cons2 (pair2 (hρ _ _ rfl)) (cons2 (pair2 (hρ _ _ rfl)) rfl))))) rfl rfl rfl (w_n rfl) ?_
  intro B11
  refine TL_callN (fun (_ : Option Addr × Nat) => True) (fun (ar12, cr12) => .tuple #[.slice ar12 (([] : List By).length) cr12, .int .i64 0, .int .i64 3]) (fun (ar12, cr12) => [(12, .row (.slice ar12 (([] : List By).length) cr12) 5 1 (([] : List By).length) (([] : List By).flatMap byc))]) (fun _ _ hρ _ => r_call (args := [.slice (some ⟨B11, 0, none⟩) 4 4]) (enters_of Try.func52 (by kernel_rfl) rfl) (hρ _ _ rfl) ((cons2 (hρ _ _ rfl) rfl)) rfl) (fun w hm => (jfirst_p [0#8, 1#8, 0#8, 1#8] (some ⟨B11, 0, none⟩) 4 w ⟨Nat.le_of_ble_eq_true rfl, (fun e => by cases e), .inr ⟨_, 0, _, _, _, rfl, (hm.at 11 rfl), row_of_take (fun _ => rfl) rfl⟩⟩ (Nat.le_of_ble_eq_true rfl) (by rw [wk_f2]; decide)).mono fun e w' ⟨a', cap', he, hb, hr⟩ => ⟨(a', cap'), trivial, he.trans (by rw [wk_f2]), hb, newOk1 12 hr⟩) rfl rfl rfl (w_n rfl) ?_
  rintro ⟨ar12, cr12⟩ -
  refine TL_q (.tuple #[.slice ar12 (([] : List By).length) cr12, .int .i64 0, .int .i64 3]) (fun _ _ hρ _ => r_move (hρ _ _ rfl)) rfl rfl rfl (w_n rfl) ?_
  refine TL_q (.slice ar12 (([] : List By).length) cr12) (fun _ _ hρ _ => r_extract (hρ _ _ rfl) rfl) rfl rfl rfl (w_n rfl) ?_
  refine TL_q (.int .i64 0) (fun _ _ hρ _ => r_extract (hρ _ _ rfl) rfl) rfl rfl rfl (w_n rfl) ?_
  refine TL_q (.int .i64 3) (fun _ _ hρ _ => r_extract (hρ _ _ rfl) rfl) rfl rfl rfl (w_n rfl) ?_
  refine TL_q (.slice ar12 (([] : List By).length) cr12) (fun _ _ hρ _ => r_assign (hρ _ _ rfl)) rfl rfl rfl (w_n rfl) ?_
  refine TL_q (.int .i64 0) (fun _ _ hρ _ => r_assign (hρ _ _ rfl)) rfl rfl rfl (w_n rfl) ?_
  refine TL_q (.int .i64 3) (fun _ _ hρ _ => r_assign (hρ _ _ rfl)) rfl rfl rfl (w_n rfl) ?_
  refine TL_seq ?_
  refine T_seq (T_region ?_)
  refine TL_new 13 (.cells #[.int .u8 0, .int .u8 0, .int .u8 0, .int .u8 0, .int .u8 1, .int .u8 1, .int .u8 1, .int .u8 1] 5) (fun B => .slice (some ⟨B, 0, none⟩) 8 8) (fun _ _ hρ _ => r_buildSlice (vs := [(0, .int .u8 0), (1, .int .u8 0), (2, .int .u8 0), (3, .int .u8 0), (4, .int .u8 1), (5, .int .u8 1), (6, .int .u8 1), (7, .int .u8 1)]) (by kernel_rfl) (cons2 (pair2 (hρ _ _ rfl)) (cons2 (pair2 (hρ _ _ rfl)) (cons2 (pair2 (hρ _ _ rfl)) (cons2 (pair2 (hρ _ _ rfl)) (cons2 (pair2 (hρ _ _ rfl)) (cons2 (pair2 (hρ _ _ rfl)) (cons2 (pair2 (hρ _ _ rfl)) (cons2 (pair2 (hρ _ _ rfl)) rfl))))))))) rfl rfl rfl (w_n rfl) ?_
  intro B13
  refine TL_callN (fun (_ : Option Addr × Nat) => True) (fun (ar14, cr14) => .tuple #[.slice ar14 (([] : List By).length) cr14, .int .i64 0, .int .i64 120]) (fun (ar14, cr14) => [(14, .row (.slice ar14 (([] : List By).length) cr14) 5 1 (([] : List By).length) (([] : List By).flatMap byc))]) (fun _ _ hρ _ => r_call (args := [.slice (some ⟨B13, 0, none⟩) 8 8]) (enters_of Try.func52 (by kernel_rfl) rfl) (hρ _ _ rfl) ((cons2 (hρ _ _ rfl) rfl)) rfl) (fun w hm => (jfirst_p [0#8, 0#8, 0#8, 0#8, 1#8, 1#8, 1#8, 1#8] (some ⟨B13, 0, none⟩) 8 w ⟨Nat.le_of_ble_eq_true rfl, (fun e => by cases e), .inr ⟨_, 0, _, _, _, rfl, (hm.at 13 rfl), row_of_take (fun _ => rfl) rfl⟩⟩ (Nat.le_of_ble_eq_true rfl) (by rw [wk_f3]; decide)).mono fun e w' ⟨a', cap', he, hb, hr⟩ => ⟨(a', cap'), trivial, he.trans (by rw [wk_f3]), hb, newOk1 14 hr⟩) rfl rfl rfl (w_n rfl) ?_
  rintro ⟨ar14, cr14⟩ -
  refine TL_q (.tuple #[.slice ar14 (([] : List By).length) cr14, .int .i64 0, .int .i64 120]) (fun _ _ hρ _ => r_move (hρ _ _ rfl)) rfl rfl rfl (w_n rfl) ?_
  refine TL_q (.slice ar14 (([] : List By).length) cr14) (fun _ _ hρ _ => r_extract (hρ _ _ rfl) rfl) rfl rfl rfl (w_n rfl) ?_
  refine TL_q (.int .i64 0) (fun _ _ hρ _ => r_extract (hρ _ _ rfl) rfl) rfl rfl rfl (w_n rfl) ?_
  refine TL_q (.int .i64 120) (fun _ _ hρ _ => r_extract (hρ _ _ rfl) rfl) rfl rfl rfl (w_n rfl) ?_
  refine TL_q (.slice ar14 (([] : List By).length) cr14) (fun _ _ hρ _ => r_assign (hρ _ _ rfl)) rfl rfl rfl (w_n rfl) ?_
  refine TL_q (.int .i64 0) (fun _ _ hρ _ => r_assign (hρ _ _ rfl)) rfl rfl rfl (w_n rfl) ?_
  refine TL_q (.int .i64 120) (fun _ _ hρ _ => r_assign (hρ _ _ rfl)) rfl rfl rfl (w_n rfl) ?_
  refine TL_seq ?_
  refine T_sub [(0, .bool false), (3, .slice ar6 ((joinP WJ).length) cr6), (5, .slice na8 nl8.length nc8), (6, .int .i64 ((sizeV l7 : Nat) : Int)), (9, .int .i64 110), (12, .int .i64 3), (15, .int .i64 120)] [(14, .row (.slice ar14 (([] : List By).length) cr14) 5 1 (([] : List By).length) (([] : List By).flatMap byc)), (12, .row (.slice ar12 (([] : List By).length) cr12) 5 1 (([] : List By).length) (([] : List By).flatMap byc)), (10, .row (.slice ar10 (([] : List By).length) cr10) 5 1 (([] : List By).length) (([] : List By).flatMap byc)), (7, .row (.slice na8 nl8.length nc8) 34 1 nl8.length (nl8.flatMap RowG.cells)), (8, .pool 5 1 byc nl8), (6, .row (.slice ar6 ((joinP WJ).length) cr6) 5 1 ((joinP WJ).length) ((joinP WJ).flatMap byc)), (2, .row (.slice ar2 ((recP [5#8, 6#8]).length) cr2) 5 1 ((recP [5#8, 6#8]).length) ((recP [5#8, 6#8]).flatMap byc)), (1, .blk B1 (.cells #[.int .u8 5, .int .u8 6] 5)), (3, .blk B3 (.cells #[.int .u8 5] 5)), (4, .blk B4 (.cells #[.int .u8 6, .int .u8 7] 5)), (5, .blk B5 (.cells #[.slice (some ⟨B3, 0, none⟩) 1 1, .slice (some ⟨B4, 0, none⟩) 2 2] 34)), (9, .blk B9 (.cells #[.int .u8 0, .int .u8 0, .int .u8 0] 5)), (11, .blk B11 (.cells #[.int .u8 0, .int .u8 1, .int .u8 0, .int .u8 1] 5)), (13, .blk B13 (.cells #[.int .u8 0, .int .u8 0, .int .u8 0, .int .u8 0, .int .u8 1, .int .u8 1, .int .u8 1, .int .u8 1] 5))] (sub_cons rfl (sub_cons rfl (sub_cons rfl (sub_cons rfl (sub_cons rfl (sub_cons rfl (sub_cons rfl sub_nil))))))) (sub_cons rfl (sub_cons rfl (sub_cons rfl (sub_cons rfl (sub_cons rfl (sub_cons rfl (sub_cons rfl (sub_cons rfl (sub_cons rfl (sub_cons rfl (sub_cons rfl (sub_cons rfl (sub_cons rfl (sub_cons rfl sub_nil)))))))))))))) ?_
  refine T_seq (T_region ?_)
  refine TL_q (.slice ar6 ((joinP WJ).length) cr6) (fun _ _ hρ _ => r_move (hρ _ _ rfl)) rfl rfl rfl (w_n rfl) ?_
  refine TL_callN (fun (_ : Option Addr × Nat) => True) (fun (ar15, cr15) => .slice ar15 ((joinP WJ).length) cr15) (fun (ar15, cr15) => [(15, .row (.slice ar15 ((joinP WJ).length) cr15) 5 1 ((joinP WJ).length) ((joinP WJ).flatMap byc))]) (fun _ _ hρ _ => r_call (args := [.slice ar6 ((joinP WJ).length) cr6]) (enters_of Try.func37 (by kernel_rfl) rfl) (hρ _ _ rfl) ((cons2 (hρ _ _ rfl) rfl)) rfl) (fun w hm => (clone_b byc byc_len byc_one (joinP WJ) ar6 cr6 w (SliceAt.own byc_len (hm.row 6 rfl) rfl rfl) (by omega)).mono fun e w' ⟨a', cap', he, hb, hr⟩ => ⟨(a', cap'), trivial, he, hb, newOk1 15 hr⟩) rfl rfl rfl (w_n rfl) ?_
  rintro ⟨ar15, cr15⟩ -
  refine TL_new 16 (.cells #[.int .u8 0] 5) (fun B => .slice (some ⟨B, 0, none⟩) 1 1) (fun _ _ hρ _ => r_buildSlice (vs := [(0, .int .u8 0)]) (by kernel_rfl) (cons2 (pair2 (hρ _ _ rfl)) rfl)) rfl rfl rfl (w_n rfl) ?_
  intro B16
  refine TL_append (n := (joinP WJ).length) (m := 1) (xs := ((joinP WJ).flatMap byc)) (news := [.int .u8 0]) (z := .int .u8 0) 15 rfl rfl rfl sl34 sz5 by5 (by kernel_rfl) rfl rfl (.inl rfl) (fun _ hm => src_blk (news := [.int .u8 0]) (hm.at 16 rfl) rfl) (by simp [Value.oneCell']) (by omega) (by omega) rfl (w_n rfl) ?_
  intro a17 cap17
  have hn18 : ((joinP WJ).length + 1) = (joinP WJ ++ [0#8]).length := by rw [List.length_append]; rfl
  have hx18 : (((joinP WJ).flatMap byc) ++ [.int .u8 0]) = (joinP WJ ++ [0#8]).flatMap byc := by rw [List.flatMap_append]; rfl
  rw [hx18, hn18]
  refine TL_call (.tuple #[.int .i64 19, .int .i64 110]) (fun _ _ hρ _ => r_call (args := [.slice a17 ((joinP WJ ++ [0#8]).length) cap17]) (enters_of Try.func47 (by kernel_rfl) rfl) (hρ _ _ rfl) ((cons2 (hρ _ _ rfl) rfl)) rfl) (fun w hm => (why_c (joinP WJ ++ [0#8]) a17 cap17 w (SliceAt.own byc_len (hm.row 15 rfl) rfl rfl) (row_cap (hm.row 15 rfl)) (by rw [List.length_append, wk_len]; decide)).mono fun _ _ h => ⟨h.1.trans (by rw [show sizeV (joinP WJ ++ [0#8]) = 19 from wk_more.1, show whyE (joinP WJ ++ [0#8]) = 110 from wk_more.2]; rfl), h.2⟩) rfl rfl rfl (w_n rfl) ?_
  refine TL_q (.tuple #[.int .i64 19, .int .i64 110]) (fun _ _ hρ _ => r_move (hρ _ _ rfl)) rfl rfl rfl (w_n rfl) ?_
  refine TL_q (.int .i64 19) (fun _ _ hρ _ => r_extract (hρ _ _ rfl) rfl) rfl rfl rfl (w_n rfl) ?_
  refine TL_q (.int .i64 110) (fun _ _ hρ _ => r_extract (hρ _ _ rfl) rfl) rfl rfl rfl (w_n rfl) ?_
  refine TL_q (.int .i64 19) (fun _ _ hρ _ => r_assign (hρ _ _ rfl)) rfl rfl rfl (w_n rfl) ?_
  refine TL_q (.int .i64 110) (fun _ _ hρ _ => r_assign (hρ _ _ rfl)) rfl rfl rfl (w_n rfl) ?_
  refine TL_seq ?_
  refine T_seq (T_region ?_)
  refine TL_q (.slice ar6 ((joinP WJ).length) cr6) (fun _ _ hρ _ => r_move (hρ _ _ rfl)) rfl rfl rfl (w_n rfl) ?_
  obtain ⟨l19, hl19, hn19⟩ : ∃ lz, lz = (joinP WJ).take 18 ∧ lz.length = 18 := ⟨_, rfl, by rw [List.length_take]; omega⟩
  refine TL_q (.slice ar6 l19.length cr6) (fun ρ _ hρ _ => r_as (r_sliceO sl34 sz5 (hρ _ _ rfl) (bd_none ρ _) (bd_some (n := 18) (hρ _ _ rfl)) (bd_none ρ _) (by simp) (by omega) (by omega) (by omega)) (by rw [hn19]; exact slo_zero _ _ _ _)) rfl rfl rfl (w_n rfl) ?_
  refine TL_call (.tuple #[.slice none 0 0, .int .i64 2]) (fun _ _ hρ _ => r_call (args := [.slice ar6 l19.length cr6, .slice none 0 0]) (enters_of Try.func43 (by kernel_rfl) rfl) (hρ _ _ rfl) ((cons2 (hρ _ _ rfl) (cons2 (hρ _ _ rfl) rfl))) rfl) (fun w hm => app_arg l19 ar6 cr6 w (by have hs := SliceAt.front (l := (joinP WJ)) (SliceAt.own byc_len (hm.row 6 rfl) rfl rfl) (n := 18) (m := cr6) (by omega) (by omega) (by omega); rw [← hl19] at hs; exact hs) (row_cap (hm.row 6 rfl)) [] none 0 (sliceNil w) (by decide) (fun _ h => nomatch h) (by omega) (by decide) (by rw [hl19]; exact wk_torn.2.2)) rfl rfl rfl (w_n rfl) ?_
  refine TL_q (.tuple #[.slice none 0 0, .int .i64 2]) (fun _ _ hρ _ => r_move (hρ _ _ rfl)) rfl rfl rfl (w_n rfl) ?_
  refine TL_q (.slice none 0 0) (fun _ _ hρ _ => r_extract (hρ _ _ rfl) rfl) rfl rfl rfl (w_n rfl) ?_
  refine TL_q (.int .i64 2) (fun _ _ hρ _ => r_extract (hρ _ _ rfl) rfl) rfl rfl rfl (w_n rfl) ?_
  refine TL_q (.slice none 0 0) (fun _ _ hρ _ => r_assign (hρ _ _ rfl)) rfl rfl rfl (w_n rfl) ?_
  refine TL_q (.int .i64 2) (fun _ _ hρ _ => r_assign (hρ _ _ rfl)) rfl rfl rfl (w_n rfl) ?_
  refine TL_seq ?_
  have hs1 : rls nl8 = [[5#8]] := by rw [hsc8, hl7]; exact wk_torn.1
  have hs2 : sizeV l7 = 9 := by rw [hl7]; exact wk_torn.2.1
  have hs3 : nl8.length = 1 := by have := congrArg List.length hs1; rw [rls_len] at this; exact this
  obtain ⟨p, hp⟩ : ∃ x, nl8[0]? = some x := ⟨_, List.getElem?_eq_getElem (by omega)⟩
  have hpl : p.l = [5#8] := by have := congrArg (fun z => z[0]?) hs1; simp only [List.getElem?_map, hp] at this; exact Option.some.inj this
  have hpm := List.mem_of_getElem? hp
  have hpb : p.l.length ≤ 10 := by rw [hpl]; decide
  refine T_row 7 rfl (by omega) (fun g20 ha20 => ?_)
  subst ha20
  refine T_rowcap 7 rfl (fun hrc20 => ?_)
  refine T_seq (T_region ?_)
  refine TL_q (.slice (some ⟨g20, 0, none⟩) nl8.length nc8) (fun _ _ hρ _ => r_move (hρ _ _ rfl)) rfl rfl rfl (w_n rfl) ?_
  refine TL_q (.int .i64 ((nl8.length : Nat) : Int)) (fun _ _ hρ _ => r_len sl63 (hρ _ _ rfl)) rfl rfl rfl (w_n rfl) ?_
  refine TL_q (.bool true) (fun _ _ hρ _ => r_as (r_eql (hρ _ _ rfl) (hρ _ _ rfl)) (bool_as (decide_eq_true (by omega)))) rfl rfl rfl (w_n rfl) ?_
  refine TL_q (.bool true) (fun _ _ hρ _ => r_move (hρ _ _ rfl)) rfl rfl rfl (w_n rfl) ?_
  refine TL_q (.slice (some ⟨g20, 0, none⟩) nl8.length nc8) (fun _ _ hρ _ => r_move (hρ _ _ rfl)) rfl rfl rfl (want_y 89 rfl rfl rfl) ?_
  refine TL_q (.pointer (some ⟨g20, 0, none⟩)) (fun _ _ hρ _ => r_indexAddrS (i := 0) sl63 sz34 (hρ _ _ rfl) (hρ _ _ rfl) (by omega)) rfl rfl rfl (want_y 89 rfl rfl rfl) ?_
  refine TL_q (.slice p.a p.l.length p.cap) (fun _ _ hρ hm => r_loadOwn1 (f := RowG.cells) (u := p) (l := nl8) (i := 0) (s := 1) ag34 (hρ _ _ rfl) (hm.row 7 rfl) rfl rfl RowG.cells_len hp rfl) rfl rfl rfl (want_y 89 rfl rfl rfl) ?_
  refine TL_new 17 (.cells #[.int .u8 5] 5) (fun B => .slice (some ⟨B, 0, none⟩) 1 1) (fun _ _ hρ _ => r_buildSlice (vs := [(0, .int .u8 5)]) (by kernel_rfl) (cons2 (pair2 (hρ _ _ rfl)) rfl)) rfl rfl rfl (want_y 89 rfl rfl rfl) ?_
  intro B21
  refine TL_call (.bool true) (fun _ _ hρ _ => r_call (args := [.slice p.a p.l.length p.cap, .slice (some ⟨B21, 0, none⟩) 1 1]) (enters_of Try.func16 (by kernel_rfl) rfl) (hρ _ _ rfl) ((cons2 (hρ _ _ rfl) (cons2 (hρ _ _ rfl) rfl))) rfl) (fun w hm => (equal_b p.l [5#8] p.a (some ⟨B21, 0, none⟩) p.cap 1 w (poolAt byc_len (hm.pool 8 rfl) hpm) ⟨Nat.le_of_ble_eq_true rfl, (fun e => by cases e), .inr ⟨_, 0, _, _, _, rfl, (hm.at 17 rfl), row_of_take (fun _ => rfl) rfl⟩⟩ (by omega) (Nat.le_of_ble_eq_true rfl)).mono fun _ _ h => ⟨h.1.trans (congrArg Ending.returned (bool_as (decide_eq_true hpl))), h.2⟩) rfl rfl rfl (want_y 89 rfl rfl rfl) ?_
  refine TL_q (.bool true) (fun _ _ hρ _ => r_pick_t (hρ _ _ rfl) (hρ _ _ rfl)) rfl rfl rfl (w_n rfl) ?_
  refine TL_q (.bool true) (fun _ _ hρ _ => r_move (hρ _ _ rfl)) rfl rfl rfl (w_n rfl) ?_
  refine TL_q (.int .i64 ((sizeV l7 : Nat) : Int)) (fun _ _ hρ _ => r_move (hρ _ _ rfl)) rfl rfl rfl (want_y 96 rfl rfl rfl) ?_
  refine TL_q (.bool true) (fun _ _ hρ _ => r_as (r_eql (hρ _ _ rfl) (hρ _ _ rfl)) (bool_as (decide_eq_true (by omega)))) rfl rfl rfl (want_y 96 rfl rfl rfl) ?_
  refine TL_q (.bool true) (fun _ _ hρ _ => r_pick_t (hρ _ _ rfl) (hρ _ _ rfl)) rfl rfl rfl (w_n rfl) ?_
  refine TL_q (.bool true) (fun _ _ hρ _ => r_move (hρ _ _ rfl)) rfl rfl rfl (w_n rfl) ?_
  refine TL_q (.int .i64 110) (fun _ _ hρ _ => r_move (hρ _ _ rfl)) rfl rfl rfl (want_y 100 rfl rfl rfl) ?_
  refine TL_q (.bool true) (fun _ _ hρ _ => r_as (r_eql (hρ _ _ rfl) (hρ _ _ rfl)) (by rfl)) rfl rfl rfl (want_y 100 rfl rfl rfl) ?_
  refine TL_q (.bool true) (fun _ _ hρ _ => r_pick_t (hρ _ _ rfl) (hρ _ _ rfl)) rfl rfl rfl (w_n rfl) ?_
  refine TL_q (.bool true) (fun _ _ hρ _ => r_move (hρ _ _ rfl)) rfl rfl rfl (w_n rfl) ?_
  refine TL_q (.int .i64 3) (fun _ _ hρ _ => r_move (hρ _ _ rfl)) rfl rfl rfl (want_y 104 rfl rfl rfl) ?_
  refine TL_q (.bool true) (fun _ _ hρ _ => r_as (r_eql (hρ _ _ rfl) (hρ _ _ rfl)) (by rfl)) rfl rfl rfl (want_y 104 rfl rfl rfl) ?_
  refine TL_q (.bool true) (fun _ _ hρ _ => r_pick_t (hρ _ _ rfl) (hρ _ _ rfl)) rfl rfl rfl (w_n rfl) ?_
  refine TL_q (.bool true) (fun _ _ hρ _ => r_move (hρ _ _ rfl)) rfl rfl rfl (w_n rfl) ?_
  refine TL_q (.int .i64 120) (fun _ _ hρ _ => r_move (hρ _ _ rfl)) rfl rfl rfl (want_y 108 rfl rfl rfl) ?_
  refine TL_q (.bool true) (fun _ _ hρ _ => r_as (r_eql (hρ _ _ rfl) (hρ _ _ rfl)) (by rfl)) rfl rfl rfl (want_y 108 rfl rfl rfl) ?_
  refine TL_q (.bool true) (fun _ _ hρ _ => r_pick_t (hρ _ _ rfl) (hρ _ _ rfl)) rfl rfl rfl (w_n rfl) ?_
  refine TL_q (.bool true) (fun _ _ hρ _ => r_move (hρ _ _ rfl)) rfl rfl rfl (w_n rfl) ?_
  refine TL_q (.int .i64 19) (fun _ _ hρ _ => r_move (hρ _ _ rfl)) rfl rfl rfl (want_y 112 rfl rfl rfl) ?_
  refine TL_q (.bool true) (fun _ _ hρ _ => r_as (r_eql (hρ _ _ rfl) (hρ _ _ rfl)) (by rfl)) rfl rfl rfl (want_y 112 rfl rfl rfl) ?_
  refine TL_q (.bool true) (fun _ _ hρ _ => r_pick_t (hρ _ _ rfl) (hρ _ _ rfl)) rfl rfl rfl (w_n rfl) ?_
  refine TL_q (.bool true) (fun _ _ hρ _ => r_move (hρ _ _ rfl)) rfl rfl rfl (w_n rfl) ?_
  refine TL_q (.int .i64 110) (fun _ _ hρ _ => r_move (hρ _ _ rfl)) rfl rfl rfl (want_y 116 rfl rfl rfl) ?_
  refine TL_q (.bool true) (fun _ _ hρ _ => r_as (r_eql (hρ _ _ rfl) (hρ _ _ rfl)) (by rfl)) rfl rfl rfl (want_y 116 rfl rfl rfl) ?_
  refine TL_q (.bool true) (fun _ _ hρ _ => r_pick_t (hρ _ _ rfl) (hρ _ _ rfl)) rfl rfl rfl (w_n rfl) ?_
  refine TL_q (.bool true) (fun _ _ hρ _ => r_move (hρ _ _ rfl)) rfl rfl rfl (w_n rfl) ?_
  refine TL_q (.int .i64 2) (fun _ _ hρ _ => r_move (hρ _ _ rfl)) rfl rfl rfl (want_y 120 rfl rfl rfl) ?_
  refine TL_q (.bool true) (fun _ _ hρ _ => r_as (r_eql (hρ _ _ rfl) (hρ _ _ rfl)) (by rfl)) rfl rfl rfl (want_y 120 rfl rfl rfl) ?_
  refine TL_q (.bool true) (fun _ _ hρ _ => r_pick_t (hρ _ _ rfl) (hρ _ _ rfl)) rfl rfl rfl (w_n rfl) ?_
  refine TL_q (.bool true) (fun _ _ hρ _ => r_assign (hρ _ _ rfl)) rfl rfl rfl (w_n rfl) ?_
  refine TL_seq ?_
  refine T_sub [(0, .bool true)] [(15, .row (.slice a17 ((joinP WJ ++ [0#8]).length) cap17) 5 1 ((joinP WJ ++ [0#8]).length) ((joinP WJ ++ [0#8]).flatMap byc)), (14, .row (.slice ar14 (([] : List By).length) cr14) 5 1 (([] : List By).length) (([] : List By).flatMap byc)), (12, .row (.slice ar12 (([] : List By).length) cr12) 5 1 (([] : List By).length) (([] : List By).flatMap byc)), (10, .row (.slice ar10 (([] : List By).length) cr10) 5 1 (([] : List By).length) (([] : List By).flatMap byc)), (7, .row (.slice (some ⟨g20, 0, none⟩) nl8.length nc8) 34 1 nl8.length (nl8.flatMap RowG.cells)), (8, .pool 5 1 byc nl8), (6, .row (.slice ar6 ((joinP WJ).length) cr6) 5 1 ((joinP WJ).length) ((joinP WJ).flatMap byc)), (2, .row (.slice ar2 ((recP [5#8, 6#8]).length) cr2) 5 1 ((recP [5#8, 6#8]).length) ((recP [5#8, 6#8]).flatMap byc)), (1, .blk B1 (.cells #[.int .u8 5, .int .u8 6] 5)), (3, .blk B3 (.cells #[.int .u8 5] 5)), (4, .blk B4 (.cells #[.int .u8 6, .int .u8 7] 5)), (5, .blk B5 (.cells #[.slice (some ⟨B3, 0, none⟩) 1 1, .slice (some ⟨B4, 0, none⟩) 2 2] 34)), (9, .blk B9 (.cells #[.int .u8 0, .int .u8 0, .int .u8 0] 5)), (11, .blk B11 (.cells #[.int .u8 0, .int .u8 1, .int .u8 0, .int .u8 1] 5)), (13, .blk B13 (.cells #[.int .u8 0, .int .u8 0, .int .u8 0, .int .u8 0, .int .u8 1, .int .u8 1, .int .u8 1, .int .u8 1] 5)), (16, .blk B16 (.cells #[.int .u8 0] 5)), (17, .blk B21 (.cells #[.int .u8 5] 5))] (sub_cons rfl sub_nil) (sub_cons rfl (sub_cons rfl (sub_cons rfl (sub_cons rfl (sub_cons rfl (sub_cons rfl (sub_cons rfl (sub_cons rfl (sub_cons rfl (sub_cons rfl (sub_cons rfl (sub_cons rfl (sub_cons rfl (sub_cons rfl (sub_cons rfl (sub_cons rfl (sub_cons rfl sub_nil))))))))))))))))) ?_
  refine T_ret' ?_
  refine ret_of rfl (.bool true) (fun tmps w hk hm => res1 rfl (res_tmp (hk 0 _ rfl))) (fun w hm => ?_)
  exact ⟨rfl, hm.ext⟩
end Go.Proofs.Ytcidgbjgeegepaa
/- Things of one's own taken together. Over any program. -/
namespace Go.Proofs.Ytcidgbjgeegepaa
open Go Go.RowKit
section
variable {α : Type} (K : ShK α)
end
section
variable {α : Type} {K : ShK α} {w₀ w w' : World} {L : Heap} {l : List α} {d : α}
end
/-- What is new in memory, told of two things. -/
theorem ShNew.same {α : Type} {K : ShK α} {w w' : World} {l : List α} {d : α} (hb : Below w.heap.size w w') (hd : K.At w d) (hl : d ∈ l) : ShNew K w w' l d := ⟨hb, K.below hd hb, fun b h => .inr ⟨d, hl, h⟩⟩
end Go.Proofs.Ytcidgbjgeegepaa
/- journal: rows that are written over; what is compared in the laws (plainly). -/
namespace Go.Proofs.Ytcidgbjgeegepaa
open Go Go.RowKit
theorem T_fact {C : Cx} {c : Code} {Q : Post} {K : List (Nat × Value)} {L : Heap} {p : Prop} (h : ∀ w, MemOk C.w₀ L w → p) (k : p → T C c Q K L) : T C c Q K L := fun a w hf hm => k (h w hm) a w hf hm
/-- A word's rest by a number above 0. -/
theorem rest_of (n : Int) (m : Nat) : ∃ c : Nat, c ≤ m ∧ (IntKind.wrap .u64 n).tmod ((m + 1 : Nat) : Int) = (c : Int) := by
  have h : 0 ≤ IntKind.wrap .u64 n := by
    have e : IntKind.u64.wrap n = n % 18446744073709551616 := by simp [IntKind.wrap, IntKind.signed, IntKind.bits]
    rw [e]; exact Int.emod_nonneg _ (by decide)
  refine ⟨((IntKind.wrap .u64 n).tmod ((m + 1 : Nat) : Int)).toNat, ?_, ?_⟩
  · rw [Int.tmod_eq_emod_of_nonneg h]
    have := Int.emod_lt_of_pos (IntKind.wrap .u64 n) (show (0 : Int) < ((m + 1 : Nat) : Int) by omega)
    omega
  · rw [Int.tmod_eq_emod_of_nonneg h]
    have := Int.emod_nonneg (IntKind.wrap .u64 n) (show ((m + 1 : Nat) : Int) ≠ 0 by omega)
    omega
end Go.Proofs.Ytcidgbjgeegepaa
/- Arguments that are slices of what lies in memory (slices of slices ..), read. Over any program. -/
namespace Go.Proofs.Ytcidgbjgeegepaa
open Go Go.RowKit Go.ChangeShapes Go.WideShapes Go.Deep
/-- Cells that are read at this type, in this memory, are those of some x. -/
def RdsAt (P : Program) (w : World) (t : TypeId) {α : Type} (f : α → List Value) (ok : α → Prop) : Prop :=
  ∀ (H : Type) (enc : TypeId × Value → H) (base : Nat) (spare : Nat → Bool) (held : Bool) (fuel : Nat) (cs : List Value) (x : DataW H × List MemPlace), DataW.trod enc P w base spare held fuel t cs = some x → ∃ a, cs = f a ∧ ok a
theorem Rds.at {P : Program} {t : TypeId} {α : Type} {f : α → List Value} {ok : α → Prop} (h : Rds P t f ok) (w : World) : RdsAt P w t f ok := fun H enc base spare held fuel cs x hx => h H enc w base spare held fuel cs x hx
theorem RdsAt.mapIf {P : Program} {w : World} {t : TypeId} {α β : Type} {f : α → List Value} {ok : α → Prop} (h : RdsAt P w t f ok) (g : α → β) {f' : β → List Value} {ok' : β → Prop} (hf : ∀ a, ok a → f a = f' (g a)) (ho : ∀ a, ok a → ok' (g a)) : RdsAt P w t f' ok' := by
  intro H enc base spare held fuel cs x hx
  obtain ⟨a, h1, h2⟩ := h H enc base spare held fuel cs x hx
  exact ⟨g a, by rw [h1, hf a h2], ho a h2⟩
/-- A slice that came in. -/
theorem read_sliceW {P : Program} {t e : TypeId} {s : Nat} {α : Type} {f : α → List Value} {ok : α → Prop} (ht : sliOf P t = some e) (hs : szOf P e = some s) (hf : ∀ x, (f x).length = s) (hsp : 0 < s) {w : World} (h : RdsAt P w e f ok)
    {H : Type} {enc : TypeId × Value → H} {base : Nat} {spare : Nat → Bool} {held : Bool} {fuel : Nat} {cs : List Value} {x : DataW H × List MemPlace} (hx : DataW.trod enc P w base spare held fuel t cs = some x) :
    ∃ (l : List α) (a : Option Addr) (cap : Nat), cs = [.slice a l.length cap] ∧ SliceAt w a cap s f l ∧ (∀ x ∈ l, ok x) ∧ cap ≤ Go.maxLen := by
  rcases open_slice (und_sli ht) hx with ⟨rfl, _⟩ | ⟨a, len, cap, m, n, D, Pl, rfl, hb, hl, hm, hmm, _, hi⟩
  · exact ⟨[], none, 0, rfl, sliceNil w, (fun x hx => by cases hx), by unfold Go.maxLen; omega⟩
  · have hlm : len ≤ m := by rw [hmm]; split <;> omega
    rw [cellsOf_sz hs] at hi
    by_cases h0 : len = 0
    · subst h0
      exact ⟨[], some a, cap, rfl, ⟨by simp, (fun e => by cases e), .inl rfl⟩, (fun x hx => by cases hx), hm⟩
    · obtain ⟨l, h1, h2⟩ := list_of (p := fun i y => (∀ j, j < s → w.cell? ((a.add (i * s)).add j) = (f y)[j]?) ∧ ok y) len (fun i hil => by
        obtain ⟨cs', hc, ht'⟩ := hi i (by omega)
        obtain ⟨y, hy, oy⟩ := h _ enc base spare held n _ _ ht'
        obtain ⟨_, _, hcell⟩ := World.cells?_some hc
        exact ⟨y, fun j hj => by rw [hcell j hj, hy], oy⟩)
      have hl0 : l[0]? = some (l[0]'(by omega)) := List.getElem?_eq_getElem (by omega)
      have hc0 := (h2 0 _ hl0).1 0 hsp
      rw [List.getElem?_eq_getElem (by rw [hf]; exact hsp)] at hc0
      simp only [Nat.zero_mul, Addr.add, if_true] at hc0
      obtain ⟨b, off, sp⟩ := a
      unfold World.cell? at hc0
      split at hc0
      · rename_i c T fz hheap
        split at hc0
        · cases hc0
        · rename_i hspot
          have hsp0 : sp = none := by simpa using hspot
          subst hsp0
          subst h1
          refine ⟨l, some ⟨b, off, none⟩, cap, rfl, ⟨hl, (fun e => by cases e), .inr ⟨b, off, c, T, fz, rfl, hheap, ?_⟩⟩, fun x hx => by obtain ⟨i, hi⟩ := List.getElem?_of_mem hx; exact (h2 i x hi).2, hm⟩
          intro i y hy
          have hcells : ∀ j, j < s → c[off + i * s + j]? = (f y)[j]? := fun j hj => by
            have := (h2 i y hy).1 j hj
            rw [addr_add, addr_add] at this
            simpa [World.cell?, hheap] using this
          have hsz : off + i * s + s ≤ c.size := by
            have := hcells (s - 1) (by omega)
            rw [List.getElem?_eq_getElem (by rw [hf]; omega)] at this
            have := (Array.getElem?_eq_some_iff.1 this).1
            omega
          refine ⟨hsz, ?_⟩
          apply Array.ext_getElem?
          intro j
          rw [Array.getElem?_extract]
          by_cases hj : j < s
          · rw [if_pos (by omega), hcells j hj]; simp
          · rw [if_neg (by omega)]
            rw [Array.getElem?_eq_none]
            simp [hf]; omega
      · cases hc0
theorem rds_slice {P : Program} {w : World} {t e : TypeId} {s : Nat} {α : Type} {f : α → List Value} {ok : α → Prop} (ht : sliOf P t = some e) (hs : szOf P e = some s) (hf : ∀ x, (f x).length = s) (hsp : 0 < s) (h : RdsAt P w e f ok) :
    RdsAt P w t (RowG.cells (α := α)) (fun r => r.ok s f w ∧ (∀ x ∈ r.l, ok x) ∧ r.cap ≤ Go.maxLen) := by
  intro H enc base spare held fuel cs x hx
  obtain ⟨l, a, cap, h1, h2, h3, h4⟩ := read_sliceW ht hs hf hsp h hx
  exact ⟨⟨a, cap, l⟩, h1, h2, h3, h4⟩
section
variable {P : Program} {w : World} {r : Reach} {b0 : Nat} {t : TypeId} {v : Value} {H : Type} {enc : TypeId × Value → H} {base : Nat} {spare : Nat → Bool} {held : Bool} {d : DataW H} {ps : List MemPlace}
theorem param_sliceW {e : TypeId} {s : Nat} {α : Type} {f : α → List Value} {ok : α → Prop} (ht : sliOf P t = some e) (hs : szOf P e = some s) (hf : ∀ x, (f x).length = s) (hsp : 0 < s) (hr : RdsAt P w e f ok) (hv : Value.okWide P w r b0 t v) (h : DataW.Trod enc P w base spare held t v d ps) :
    ∃ (l : List α) (a : Option Addr) (cap : Nat), v = .slice a l.length cap ∧ SliceAt w a cap s f l ∧ (∀ x ∈ l, ok x) ∧ cap ≤ Go.maxLen := by
  obtain ⟨fuel, hf'⟩ := h
  obtain ⟨l, a, cap, h1, h2, h3, h4⟩ := read_sliceW ht hs hf hsp hr hf'
  refine ⟨l, a, cap, ?_, h2, h3, h4⟩
  unfold Value.okWide at hv
  rw [und_sli ht] at hv
  cases v with
  | agg cs => simp [Cell.okWide, und_sli ht, Cell.ok] at hv
  | _ => simp [Value.cells] at h1 <;> simp [h1]
end
end Go.Proofs.Ytcidgbjgeegepaa
/- journal: arguments of the laws, read. -/
namespace Go.Proofs.Ytcidgbjgeegepaa
open Go Go.RowKit Go.ChangeShapes Go.WideShapes
set_option maxRecDepth 10000
theorem Rds.mapIf {P : Program} {t : TypeId} {α β : Type} {f : α → List Value} {ok : α → Prop} (h : Rds P t f ok) (g : α → β) {f' : β → List Value} (hf : ∀ a, ok a → f a = f' (g a)) : Rds P t f' (fun _ => True) := by
  intro H enc w base spare held fuel cs x hx
  obtain ⟨a, h1, h2⟩ := h H enc w base spare held fuel cs x hx
  exact ⟨g a, by rw [h1, hf a h2], trivial⟩
theorem byte_back {n : Int} (h : (Lit.int .u8 n).wf = true) : ((BitVec.ofNat 8 n.toNat).toNat : Int) = n := by
  have := wf_u8 h
  rw [BitVec.toNat_ofNat]; omega
theorem rds_byte : Rds Try.prog 5 byc (fun _ => True) := (rds_int io5).mapIf (fun n => BitVec.ofNat 8 n.toNat) (fun n h => by show [Value.int .u8 n] = [Value.int .u8 _]; rw [byte_back h])
theorem rds_row (w : World) : RdsAt Try.prog w 34 RowG.cells (fun r : RowG By => SliceAt w r.a r.cap 1 byc r.l ∧ r.cap ≤ Go.maxLen) :=
  RdsAt.mapIf (rds_slice sl34 sz5 byc_len (by decide) (rds_byte.at w)) (fun p => p) (fun _ _ => rfl) (fun _ h => ⟨h.1, h.2.2⟩)
theorem word_back {n : Int} (h : (Lit.int .u32 n).wf = true) : ((BitVec.ofNat 32 n.toNat).toNat : Int) = n := by
  have := wf_u32 h
  rw [BitVec.toNat_ofNat]; omega
end Go.Proofs.Ytcidgbjgeegepaa
/- journal: arguments of the laws, read: masks. -/
namespace Go.Proofs.Ytcidgbjgeegepaa
open Go Go.RowKit Go.ChangeShapes Go.WideShapes
section
variable {w : World} {r : Reach} {b0 : Nat} {t : TypeId} {v : Value} {H : Type} {enc : TypeId × Value → H} {base : Nat} {spare : Nat → Bool} {held : Bool} {d : DataW H} {ps : List MemPlace}
theorem param_word {P : Program} (ht : intOf? P t = some .u32) (hv : Value.okWide P w r b0 t v) (h : DataW.Trod enc P w base spare held t v d ps) : ∃ x : Wd, v = .int .u32 (x.toNat : Int) := by
  obtain ⟨n, rfl, hw⟩ := param_int ht hv h
  exact ⟨BitVec.ofNat 32 n.toNat, by rw [word_back hw]⟩
end
end Go.Proofs.Ytcidgbjgeegepaa
/- net and journal: JournalTorn. Printed by a program of this seat's prover. -/
namespace Go.Proofs.Ytcidgbjgeegepaa
open Go Go.RowKit
set_option maxRecDepth 10000
theorem rls_take (l : List (RowG By)) (k : Nat) : (rls l).take k = rls (l.take k) := by
  unfold rls; rw [List.map_take]
theorem rls_all {n : List (RowG By)} {m : Nat} (h : ∀ r ∈ n, r.l.length ≤ m) : ∀ q ∈ rls n, q.length ≤ m := fun q hq => by
  obtain ⟨r, hr, rfl⟩ := List.mem_map.1 hq
  exact h r hr

end Go.Proofs.Ytcidgbjgeegepaa
/- net: a hand in memory. -/
namespace Go.Proofs.Ytcidgbjgeegepaa
open Go Go.RowKit
/-- A net that is worked on, and what was told. -/
structure Hd where
  n : NetR
  lost : Int
  t : NetR
/-- Its parcels' bytes are one's own. -/
def InB (bs : List (RowG By)) (l : List Pcl) : Prop := ∀ p ∈ l, p.r ∈ bs ∧ p.r.l.length ≤ 10000
structure HdOk (h : Hd) (bs : List (RowG By)) : Prop where
  len : h.n.l.length ≤ 64
  lost0 : 0 ≤ h.lost
  lost1 : h.lost ≤ MT
  inN : InB bs h.n.l
  inT : InB bs h.t.l
theorem InB.mono {bs cs : List (RowG By)} {l : List Pcl} (h : InB bs l) (hs : ∀ b ∈ bs, b ∈ cs) : InB cs l := fun p hp => ⟨hs _ (h p hp).1, (h p hp).2⟩
theorem InB.push {bs : List (RowG By)} {l : List Pcl} {b : RowG By} (h : InB bs l) : InB (bs ++ [b]) l := h.mono fun _ hb => List.mem_append_left _ hb
theorem InB.snoc {bs : List (RowG By)} {l : List Pcl} {p : Pcl} (h : InB bs l) (hp : p.r ∈ bs) (hl : p.r.l.length ≤ 10000) : InB bs (l ++ [p]) := fun q hq => by
  rcases List.mem_append.1 hq with h1 | h1
  · exact h q h1
  · rw [List.mem_singleton.1 h1]; exact ⟨hp, hl⟩
theorem InB.sub {bs : List (RowG By)} {l m : List Pcl} (h : InB bs l) (hs : ∀ p ∈ m, p ∈ l) : InB bs m := fun p hp => h p (hs p hp)
theorem InB.nil (bs : List (RowG By)) : InB bs [] := fun _ h => nomatch h
theorem HdOk.told {h : Hd} {bs : List (RowG By)} {i : Nat} {p : Pcl} {a : Option Addr} {c : Nat} (hh : HdOk h bs) (hp : h.n.l[i]? = some p) : HdOk { h with t := ⟨a, c, h.t.l ++ [p]⟩ } bs :=
  ⟨hh.len, hh.lost0, hh.lost1, hh.inN, hh.inT.snoc (hh.inN p (List.mem_of_getElem? hp)).1 (hh.inN p (List.mem_of_getElem? hp)).2⟩
theorem HdOk.set {h : Hd} {bs cs : List (RowG By)} {i : Nat} {p : Pcl} {a : Option Addr} {c : Nat} (hh : HdOk h bs) (hs : ∀ b ∈ bs, b ∈ cs) (hp : p.r ∈ cs) (hl : p.r.l.length ≤ 10000) : HdOk { h with n := ⟨a, c, h.n.l.set i p⟩ } cs :=
  ⟨(by dsimp only; rw [List.length_set]; exact hh.len), hh.lost0, hh.lost1, fun q hq => (List.mem_or_eq_of_mem_set hq).elim (hh.inN.mono hs q) (fun e => e ▸ ⟨hp, hl⟩), hh.inT.mono hs⟩
end Go.Proofs.Ytcidgbjgeegepaa
/- net and journal: the hand: twice, spoil. Printed by a program of this seat's prover. -/
namespace Go.Proofs.Ytcidgbjgeegepaa
open Go Go.RowKit
set_option maxRecDepth 10000
theorem spoil_c (bit : Int) (mask : Wd) (l : List By) (a : Option Addr) (cap : Nat) (w : World) (hv : SliceAt w a cap 1 byc l) (hl : l.length ≤ 1000000) (hcap : cap ≤ Go.maxLen) : Calls Try.prog 53 #[.slice a l.length cap, .int .i64 bit, .int .u32 (mask.toNat : Int)] w fun e w' => ∃ a' cap', e = .returned (.tuple #[.slice a' ((spoilI l bit mask).getD []).length cap', .int .i64 (spoilE (spoilI l bit mask))]) ∧ Below w.heap.size w w' ∧ w'.ownsRow w.heap.size 5 1 (.slice a' ((spoilI l bit mask).getD []).length cap') ((spoilI l bit mask).getD []).length (((spoilI l bit mask).getD []).flatMap byc) := by
  by_cases h0 : 0 ≤ bit ∧ bit.toNat < 8 * l.length
  · have h := spoil_in bit.toNat mask l a cap w hv hl hcap h0.2
    rw [show spoilI l bit mask = spoilP l bit.toNat mask from if_pos h0.1]
    rwa [Int.toNat_of_nonneg h0.1] at h
  · have e : spoilI l bit mask = none := by
      unfold spoilI
      split
      · unfold spoilP; rw [if_neg (by omega)]
      · rfl
    rw [e]
    exact (spoil_out bit mask l a cap w hv hl hcap (by omega)).mono fun e w' h => ⟨none, 0, h.1, h.2, World.ownsRow_nil _ _ _ _⟩
theorem spoil_ok {bit : Int} {mask : Wd} {l b : List By} (a : Option Addr) (cap : Nat) (w : World) (hb : spoilI l bit mask = some b) (hv : SliceAt w a cap 1 byc l) (hl : l.length ≤ 1000000) (hcap : cap ≤ Go.maxLen) : Calls Try.prog 53 #[.slice a l.length cap, .int .i64 bit, .int .u32 (mask.toNat : Int)] w fun e w' => ∃ a' cap', e = .returned (.tuple #[.slice a' b.length cap', .int .i64 0]) ∧ Below w.heap.size w w' ∧ w'.ownsRow w.heap.size 5 1 (.slice a' b.length cap') b.length (b.flatMap byc) := by
  have h := spoil_c bit mask l a cap w hv hl hcap
  rw [hb] at h; exact h
theorem spoil_no {bit : Int} {mask : Wd} {l : List By} (a : Option Addr) (cap : Nat) (w : World) (hb : spoilI l bit mask = none) (hv : SliceAt w a cap 1 byc l) (hl : l.length ≤ 1000000) (hcap : cap ≤ Go.maxLen) : Calls Try.prog 53 #[.slice a l.length cap, .int .i64 bit, .int .u32 (mask.toNat : Int)] w fun e w' => ∃ a' cap', e = .returned (.tuple #[.slice a' ([] : List By).length cap', .int .i64 2]) ∧ Below w.heap.size w w' ∧ w'.ownsRow w.heap.size 5 1 (.slice a' ([] : List By).length cap') ([] : List By).length (([] : List By).flatMap byc) := by
  have h := spoil_c bit mask l a cap w hv hl hcap
  rw [hb] at h; exact h
theorem spoilI_len {bit : Int} {mask : Wd} {l b : List By} (h : spoilI l bit mask = some b) : b.length = l.length := by
  unfold spoilI spoilP at h
  split at h
  · split at h
    · cases h; exact spoilN_len _ _ _ _
    · cases h
  · cases h

end Go.Proofs.Ytcidgbjgeegepaa
/- net and journal: JournalHolds. Printed by a program of this seat's prover. -/
namespace Go.Proofs.Ytcidgbjgeegepaa
open Go Go.RowKit
set_option maxRecDepth 10000
/-- A row's first bytes, in the same place. -/
def cut30 (r : RowG By) : RowG By := ⟨r.a, r.cap, r.l.take (min r.l.length 30)⟩
theorem cuts_in {e : TypeId} {n : List (RowG By)} {w : World} (h : poolH e 1 byc n w) : RowsIn w (n.map cut30) := fun y hy => by
  obtain ⟨r, hr, rfl⟩ := List.mem_map.1 hy
  have hs := poolAt byc_len h hr
  exact ⟨hs.front (Nat.min_le_left _ _) (Nat.le_trans (Nat.min_le_left _ _) hs.1) (Nat.le_refl _), (show r.cap ≤ Go.maxLen from poolCap h hr)⟩
theorem cuts_in2 {e : TypeId} {n ys : List (RowG By)} {w : World} (h : poolH e 1 byc n w) (hys : ys = n.map cut30) : RowsIn w ys := hys ▸ cuts_in h
theorem cuts_le {n : List (RowG By)} : ∀ r ∈ n.map cut30, r.l.length ≤ 30 := fun y hy => by
  obtain ⟨r, hr, rfl⟩ := List.mem_map.1 hy
  show (r.l.take _).length ≤ 30
  rw [List.length_take]; omega
theorem cut_step {n ys : List (RowG By)} {k : Nat} {r : RowG By} {z : List By} (h : ys = (n.take k).map cut30) (hr : n[k]? = some r) (hz : z = r.l.take (min r.l.length 30)) : ys ++ [⟨r.a, r.cap, z⟩] = (n.take (k + 1)).map cut30 := by
  rw [h, hz, List.take_add_one, hr, List.map_append]; rfl
theorem cut_all {rows : List (List By)} (h : sizeV (joinP rows) = joinL rows) : (joinP rows).take (sizeV (joinP rows)) = joinP rows := by
  rw [h]; exact List.take_of_length_le (Nat.le_refl _)
theorem place_at {rows : List (List By)} {k P : Nat} (h : placesV (joinP rows) = (List.range rows.length).map (fun k => joinL (rows.take k))) (hP : (placesV (joinP rows))[k]? = some P) : P = joinL (rows.take k) := by
  rw [h, List.getElem?_map] at hP
  cases hr : (List.range rows.length)[k]? with
  | none => rw [hr] at hP; cases hP
  | some j =>
    rw [hr] at hP
    have hj := (List.getElem?_eq_some_iff.1 hr)
    obtain ⟨h1, h2⟩ := hj
    rw [List.getElem_range] at h2
    subst h2
    exact (Option.some.inj hP).symm
theorem front_at {rows : List (List By)} {k : Nat} {r : List By} (h : rows[k]? = some r) : (joinP rows).take (joinL (rows.take k)) = joinP (rows.take k) ∧ joinL (rows.take k) + (recP r).length ≤ (joinP rows).length := by
  have e := join_split h
  constructor
  · rw [e]
    unfold joinL
    rw [List.take_append_of_le_length (Nat.le_refl _)]
    exact List.take_of_length_le (Nat.le_refl _)
  · rw [e]
    unfold joinL
    rw [List.length_append, List.length_append]; omega
theorem spoilI_some {l b : List By} {bit : Int} {mask : Wd} (h : spoilI l bit mask = some b) : spoilP l bit.toNat mask = some b := by
  unfold spoilI at h
  split at h
  · exact h
  · cases h

set_option maxHeartbeats 2000000 in
theorem jholds_c (xs : List (RowG By)) (a : Option Addr) (cap : Nat) (bit : Int) (mask : Wd) (w : World) (hv : SliceAt w a cap 1 RowG.cells xs) (hcap : cap ≤ Go.maxLen) (hx : RowsIn w xs) : Calls Try.prog 9 #[.slice a xs.length cap, .int .i64 bit, .int .u32 (mask.toNat : Int)] w fun e w' => e = .returned (.bool true) ∧ Below w.heap.size w w' := by
  have hvl := hv.1
  have hcp := hcap
  unfold Go.maxLen at hcp
  refine calls_of_T (l := [.slice a xs.length cap, .int .i64 bit, .int .u32 ((mask).toNat : Int)]) 147 Try.func9 rfl rfl rfl ?_
  show T _ _ _ [(0, .slice a xs.length cap), (1, .int .i64 bit), (2, .int .u32 ((mask).toNat : Int))] []
  refine T_seq (T_region ?_)
  refine TL_q (.bool false) (fun _ _ hρ _ => r_assign (hρ _ _ rfl)) rfl rfl rfl (w_n rfl) ?_
  refine TL_seq ?_
  refine T_seq ?_
  refine T_seq (T_region ?_)
  refine TL_call (.bool true) (fun _ _ hρ _ => r_call (args := []) (enters_of Try.func35 (by kernel_rfl) rfl) (hρ _ _ rfl) (by rfl) rfl) (fun w _ => jwakes_c w) rfl rfl rfl (w_n rfl) ?_
  refine TL_q (.bool false) (fun _ _ hρ _ => r_not (b := true) (hρ _ _ rfl)) rfl rfl rfl (w_n rfl) ?_
  refine TL_seq ?_
  refine T_cond_f rfl ?_
  refine T_skip' ?_
  refine p_seq ?_
  refine T_seq (T_region ?_)
  refine TL_q (.slice none 0 0) (fun _ _ hρ _ => r_assign (hρ _ _ rfl)) rfl rfl rfl (w_n rfl) ?_
  refine TL_seq ?_
  refine T_seq ?_
  refine T_seq (T_region ?_)
  refine TL_q (.slice a xs.length cap) (fun _ _ hρ _ => r_move (hρ _ _ rfl)) rfl rfl rfl (w_n rfl) ?_
  refine TL_callN (fun ((fa1, fc1, fl1) : Option Addr × Nat × List (RowG By)) => rls fl1 = fewR (rls xs)) (fun (fa1, fc1, fl1) => .slice fa1 fl1.length fc1) (fun (fa1, fc1, fl1) => [(1, .row (.slice fa1 fl1.length fc1) 34 1 fl1.length (fl1.flatMap RowG.cells)), (2, .pool 5 1 byc fl1)]) (fun _ _ hρ _ => r_call (args := [.slice a xs.length cap]) (enters_of Try.func36 (by kernel_rfl) rfl) (hρ _ _ rfl) ((cons2 (hρ _ _ rfl) rfl)) rfl) (fun w hm => (fewr_c xs a cap w (hv.keep hm.ext) hcap (hx.keep hm.ext)).mono fun e w' ⟨n, hf, he, hb, r1, r2, hs⟩ => ⟨(n.a, n.cap, n.l), hf, he, hb, newOk2 1 2 r1 r2 hs⟩) rfl rfl rfl (w_n rfl) ?_
  rintro ⟨fa1, fc1, fl1⟩ hfw1
  refine TL_q (.int .i64 ((fl1.length : Nat) : Int)) (fun _ _ hρ _ => r_len sl63 (hρ _ _ rfl)) rfl rfl rfl (w_n rfl) ?_
  refine TL_q (.int .i64 0) (fun _ _ hρ _ => r_move (hρ _ _ rfl)) rfl rfl rfl (w_n rfl) ?_
  refine TL_seq ?_
  refine T_block ?_
  refine T_mem (_ :: _) (fun _ hm => hm.nilRow 943 34 1) ?_
  have hnl6 : fl1.length ≤ 6 := by have := fewR_len (rls xs); rw [← hfw1, rls_len] at this; exact this
  have hnb : ∀ r ∈ fl1, r.l.length ≤ 65537 := rls_le hfw1 (fewR_le _)
  refine T_rowcap 1 rfl (fun hrcf => ?_)
  refine T_loop (ι := Nat × List (RowG By) × Option Addr × Nat) (fun (z : Nat × List (RowG By) × Option Addr × Nat) => match z with | (k, ys, ya, yc) => k ≤ fl1.length ∧ ys = (fl1.take k).map cut30) (fun (z : Nat × List (RowG By) × Option Addr × Nat) => match z with | (k, ys, ya, yc) => [(1, .int .i64 bit), (2, .int .u32 ((mask).toNat : Int)), (6, .bool false), (23, .slice fa1 fl1.length fc1), (24, .int .i64 ((fl1.length : Nat) : Int)), (25, .int .i64 ((k : Nat) : Int)), (7, .slice ya ys.length yc)]) (fun (z : Nat × List (RowG By) × Option Addr × Nat) => match z with | (k, ys, ya, yc) => [(1, .row (.slice fa1 fl1.length fc1) 34 1 fl1.length (fl1.flatMap RowG.cells)), (2, .pool 5 1 byc fl1), (943, .row (.slice ya ys.length yc) 34 1 ys.length (ys.flatMap RowG.cells))]) (fun (z : Nat × List (RowG By) × Option Addr × Nat) => match z with | (k, ys, ya, yc) => fl1.length - k) (0, [], none, 0) ⟨Nat.zero_le _, rfl⟩ (sub_cons rfl (sub_cons rfl (sub_cons rfl (sub_cons rfl (sub_cons rfl (sub_cons rfl (sub_cons rfl sub_nil))))))) (sub_cons rfl (sub_cons rfl (sub_cons rfl sub_nil))) ?_
  rintro ⟨k, ys, ya, yc⟩ hp
  obtain ⟨hk, hys⟩ := hp
  have hyl : ys.length = k := by rw [hys, List.length_map, List.length_take]; omega
  show T _ _ _ [(1, .int .i64 bit), (2, .int .u32 ((mask).toNat : Int)), (6, .bool false), (23, .slice fa1 fl1.length fc1), (24, .int .i64 ((fl1.length : Nat) : Int)), (25, .int .i64 ((k : Nat) : Int)), (7, .slice ya ys.length yc)] [(1, .row (.slice fa1 fl1.length fc1) 34 1 fl1.length (fl1.flatMap RowG.cells)), (2, .pool 5 1 byc fl1), (943, .row (.slice ya ys.length yc) 34 1 ys.length (ys.flatMap RowG.cells))]
  refine T_seq (T_region ?_)
  refine TL_q (.bool (decide (((k : Nat) : Int) < ((fl1.length : Nat) : Int)))) (fun _ _ hρ _ => r_lss (hρ _ _ rfl) (hρ _ _ rfl)) rfl rfl rfl (w_n rfl) ?_
  refine TL_seq ?_
  refine T_seq ?_
  refine T_cond rfl (fun h1 => ?_) (fun h1 => ?_)
  · replace h1 := of_decide_eq_true h1
    refine T_skip' ?_
    refine p_seq ?_
    refine T_seq ?_
    refine T_block ?_
    obtain ⟨p, hp9⟩ : ∃ x, fl1[k]? = some x := ⟨_, List.getElem?_eq_getElem (by omega)⟩
    have hpm := List.mem_of_getElem? hp9
    have hpb := hnb p hpm
    refine T_fact (fun _ hm => (poolAt byc_len (hm.pool 2 rfl) hpm).1) (fun hpcap => ?_)
    refine T_row 1 rfl (by omega) (fun g2 ha2 => ?_)
    subst ha2
    refine T_rowcap 1 rfl (fun hrc2 => ?_)
    refine T_seq (T_region ?_)
    refine TL_q (.pointer (some ⟨g2, 0 + k * 1, none⟩)) (fun _ _ hρ _ => r_indexAddrS (i := k) sl63 sz34 (hρ _ _ rfl) (hρ _ _ rfl) (by omega)) rfl rfl rfl (w_n rfl) ?_
    refine TL_q (.slice p.a p.l.length p.cap) (fun _ _ hρ hm => r_loadOwn1 (f := RowG.cells) (u := p) (l := fl1) ag34 (hρ _ _ rfl) (hm.row 1 rfl) rfl rfl RowG.cells_len hp9 rfl) rfl rfl rfl (w_n rfl) ?_
    refine TL_q (.slice p.a p.l.length p.cap) (fun _ _ hρ _ => r_assign (hρ _ _ rfl)) rfl rfl rfl (w_n rfl) ?_
    refine TL_seq ?_
    refine T_region ?_
    refine TL_q (.slice ya ys.length yc) (fun _ _ hρ _ => r_move (hρ _ _ rfl)) rfl rfl rfl (w_n rfl) ?_
    refine TL_q (.slice p.a p.l.length p.cap) (fun _ _ hρ _ => r_move (hρ _ _ rfl)) rfl rfl rfl (w_n rfl) ?_
    refine TL_q (.slice p.a p.l.length p.cap) (fun _ _ hρ _ => r_move (hρ _ _ rfl)) rfl rfl rfl (w_n rfl) ?_
    refine TL_q (.int .i64 ((p.l.length : Nat) : Int)) (fun _ _ hρ _ => r_len sl34 (hρ _ _ rfl)) rfl rfl rfl (w_n rfl) ?_
    refine TL_q (.int .i64 ((min p.l.length 30 : Nat) : Int)) (fun _ _ hρ _ => r_as (r_min (hρ _ _ rfl) (hρ _ _ rfl)) (int_as (minI _ 30))) rfl rfl rfl (w_n rfl) ?_
    obtain ⟨l3, hl3, hn3⟩ : ∃ lz, lz = p.l.take (min p.l.length 30) ∧ lz.length = min p.l.length 30 := ⟨_, rfl, by rw [List.length_take]; omega⟩
    refine TL_q (.slice p.a l3.length p.cap) (fun ρ _ hρ _ => r_as (r_sliceO sl34 sz5 (hρ _ _ rfl) (bd_none ρ _) (bd_some (n := min p.l.length 30) (hρ _ _ rfl)) (bd_none ρ _) (by simp) (by omega) (by omega) (by omega)) (by rw [hn3]; exact slo_zero _ _ _ _)) rfl rfl rfl (w_n rfl) ?_
    refine TL_new 3 (.cells #[.slice p.a l3.length p.cap] 34) (fun B => .slice (some ⟨B, 0, none⟩) 1 1) (fun _ _ hρ _ => r_buildSlice (vs := [(0, .slice p.a l3.length p.cap)]) (by kernel_rfl) (cons2 (pair2 (hρ _ _ rfl)) rfl)) rfl rfl rfl (w_n rfl) ?_
    intro B4
    refine TL_append (n := ys.length) (m := 1) (xs := (ys.flatMap RowG.cells)) (news := [.slice p.a l3.length p.cap]) (z := .slice none 0 0) 943 rfl rfl rfl sl63 sz34 by34 (by kernel_rfl) rfl rfl (.inl rfl) (fun _ hm => src_blk (news := [.slice p.a l3.length p.cap]) (hm.at 3 rfl) rfl) (by simp [Value.oneCell']) (by omega) (by omega) rfl (w_n rfl) ?_
    intro a5 cap5
    refine TL_q (.slice a5 (ys.length + 1) cap5) (fun _ _ hρ _ => r_assign (hρ _ _ rfl)) rfl rfl rfl (w_n rfl) ?_
    refine TL_nil ?_
    refine p_blk_n ?_
    refine p_seq ?_
    refine T_region ?_
    refine TL_q (.int .i64 ((k + 1 : Nat) : Int)) (fun _ _ hρ _ => r_as (r_add (hρ _ _ rfl) (hρ _ _ rfl)) (int_as ((wrap64 (by omega) (by omega)).trans (by omega)))) rfl rfl rfl (w_n rfl) ?_
    refine TL_q (.int .i64 ((k + 1 : Nat) : Int)) (fun _ _ hρ _ => r_move (hρ _ _ rfl)) rfl rfl rfl (w_n rfl) ?_
    refine TL_nil ?_
    have hn6 : (ys.length + 1) = (ys ++ [(⟨p.a, p.cap, l3⟩ : RowG By)]).length := by simp
    have hx6 : ((ys.flatMap RowG.cells) ++ [.slice p.a l3.length p.cap]) = (ys ++ [(⟨p.a, p.cap, l3⟩ : RowG By)]).flatMap RowG.cells := by simp [RowG.cells]
    rw [hx6, hn6]
    exact p_at (k + 1, ys ++ [(⟨p.a, p.cap, l3⟩ : RowG By)], a5, cap5) ⟨⟨by omega, cut_step hys hp9 hl3⟩, by dsimp only; omega⟩ (sub_cons rfl (sub_cons rfl (sub_cons rfl (sub_cons rfl (sub_cons rfl (sub_cons rfl (sub_cons rfl sub_nil))))))) (sub_cons rfl (sub_cons rfl (sub_cons rfl sub_nil)))
  · replace h1 := of_decide_eq_false h1
    refine T_exit' ?_
    refine p_then_x ?_
    refine p_then_x ?_
    refine p_blk_x ?_
    refine p_seq ?_
    have hke : k = fl1.length := by omega
    subst hke
    rw [List.take_length] at hys
    have hyb : ∀ r ∈ ys, r.l.length ≤ 30 := by rw [hys]; exact cuts_le
    have hy65 : ∀ r ∈ ys, r.l.length ≤ 65536 := fun r hr => Nat.le_trans (hyb r hr) (by decide)
    refine T_seq (T_region ?_)
    refine TL_q (.slice ya ys.length yc) (fun _ _ hρ _ => r_move (hρ _ _ rfl)) rfl rfl rfl (w_n rfl) ?_
    refine TL_callN (fun (_ : Option Addr × Nat) => True) (fun (ar7, cr7) => .tuple #[.slice ar7 ((joinP (rls ys)).length) cr7, .int .i64 0]) (fun (ar7, cr7) => [(4, .row (.slice ar7 ((joinP (rls ys)).length) cr7) 5 1 ((joinP (rls ys)).length) ((joinP (rls ys)).flatMap byc))]) (fun _ _ hρ _ => r_call (args := [.slice ya ys.length yc]) (enters_of Try.func38 (by kernel_rfl) rfl) (hρ _ _ rfl) ((cons2 (hρ _ _ rfl) rfl)) rfl) (fun w hm => (join_ok ys ya yc w (SliceAt.own RowG.cells_len (hm.row 943 rfl) rfl rfl) (row_cap (hm.row 943 rfl)) (cuts_in2 (hm.pool 2 rfl) hys) (by omega) hy65).mono fun e w' ⟨a', cap', he, hb, hr⟩ => ⟨(a', cap'), trivial, he, hb, newOk1 4 hr⟩) rfl rfl rfl (w_n rfl) ?_
    rintro ⟨ar7, cr7⟩ -
    refine TL_q (.tuple #[.slice ar7 ((joinP (rls ys)).length) cr7, .int .i64 0]) (fun _ _ hρ _ => r_move (hρ _ _ rfl)) rfl rfl rfl (w_n rfl) ?_
    refine TL_q (.slice ar7 ((joinP (rls ys)).length) cr7) (fun _ _ hρ _ => r_extract (hρ _ _ rfl) rfl) rfl rfl rfl (w_n rfl) ?_
    refine TL_q (.int .i64 0) (fun _ _ hρ _ => r_extract (hρ _ _ rfl) rfl) rfl rfl rfl (w_n rfl) ?_
    refine TL_q (.slice ar7 ((joinP (rls ys)).length) cr7) (fun _ _ hρ _ => r_assign (hρ _ _ rfl)) rfl rfl rfl (w_n rfl) ?_
    refine TL_q (.int .i64 0) (fun _ _ hρ _ => r_assign (hρ _ _ rfl)) rfl rfl rfl (w_n rfl) ?_
    refine TL_seq ?_
    refine T_seq ?_
    by_cases hy0 : ((ys.length : Nat) : Int) = 0
    · skip
      refine T_seq (T_region ?_)
      refine TL_q (.int .i64 0) (fun _ _ hρ _ => r_move (hρ _ _ rfl)) rfl rfl rfl (w_n rfl) ?_
      refine TL_q (.bool false) (fun _ _ hρ _ => r_as (r_neq (hρ _ _ rfl) (hρ _ _ rfl)) (by rfl)) rfl rfl rfl (w_n rfl) ?_
      refine TL_q (.bool false) (fun _ _ hρ _ => r_move (hρ _ _ rfl)) rfl rfl rfl (w_n rfl) ?_
      refine TL_q (.slice ya ys.length yc) (fun _ _ hρ _ => r_move (hρ _ _ rfl)) rfl rfl rfl (want_y 45 rfl rfl rfl) ?_
      refine TL_q (.int .i64 ((ys.length : Nat) : Int)) (fun _ _ hρ _ => r_len sl63 (hρ _ _ rfl)) rfl rfl rfl (want_y 45 rfl rfl rfl) ?_
      refine TL_q (.bool true) (fun _ _ hρ _ => r_as (r_eql (hρ _ _ rfl) (hρ _ _ rfl)) (bool_as (decide_eq_true hy0))) rfl rfl rfl (want_y 45 rfl rfl rfl) ?_
      refine TL_q (.bool true) (fun _ _ hρ _ => r_pick_f (hρ _ _ rfl) (hρ _ _ rfl)) rfl rfl rfl (w_n rfl) ?_
      refine TL_seq ?_
      refine T_cond_t rfl ?_
      refine T_seq (T_region ?_)
      refine TL_q (.int .i64 0) (fun _ _ hρ _ => r_move (hρ _ _ rfl)) rfl rfl rfl (w_n rfl) ?_
      refine TL_q (.bool true) (fun _ _ hρ _ => r_as (r_eql (hρ _ _ rfl) (hρ _ _ rfl)) (by rfl)) rfl rfl rfl (w_n rfl) ?_
      refine TL_q (.bool true) (fun _ _ hρ _ => r_assign (hρ _ _ rfl)) rfl rfl rfl (w_n rfl) ?_
      refine TL_seq ?_
      refine T_ret' ?_
      refine p_then_r ?_
      refine ret_of rfl (.bool true) (fun tmps w hk hm => res1 rfl (res_tmp (hk 6 _ rfl))) (fun w hm => ?_)
      exact ⟨rfl, hm.ext⟩
    · skip
      refine T_seq (T_region ?_)
      refine TL_q (.int .i64 0) (fun _ _ hρ _ => r_move (hρ _ _ rfl)) rfl rfl rfl (w_n rfl) ?_
      refine TL_q (.bool false) (fun _ _ hρ _ => r_as (r_neq (hρ _ _ rfl) (hρ _ _ rfl)) (by rfl)) rfl rfl rfl (w_n rfl) ?_
      refine TL_q (.bool false) (fun _ _ hρ _ => r_move (hρ _ _ rfl)) rfl rfl rfl (w_n rfl) ?_
      refine TL_q (.slice ya ys.length yc) (fun _ _ hρ _ => r_move (hρ _ _ rfl)) rfl rfl rfl (want_y 45 rfl rfl rfl) ?_
      refine TL_q (.int .i64 ((ys.length : Nat) : Int)) (fun _ _ hρ _ => r_len sl63 (hρ _ _ rfl)) rfl rfl rfl (want_y 45 rfl rfl rfl) ?_
      refine TL_q (.bool false) (fun _ _ hρ _ => r_as (r_eql (hρ _ _ rfl) (hρ _ _ rfl)) (bool_as (decide_eq_false hy0))) rfl rfl rfl (want_y 45 rfl rfl rfl) ?_
      refine TL_q (.bool false) (fun _ _ hρ _ => r_pick_f (hρ _ _ rfl) (hρ _ _ rfl)) rfl rfl rfl (w_n rfl) ?_
      refine TL_seq ?_
      refine T_cond_f rfl ?_
      refine T_skip' ?_
      refine p_seq ?_
      have h65r : ∀ q ∈ rls ys, q.length ≤ 65536 := rls_all hy65
      have hJ := joined h65r
      have hjl : (joinP (rls ys)).length ≤ 400000 := by have := join_bound (rs := ys) (k := ys.length) (by rw [List.take_length]; exact hy65); rw [List.take_length, show (rls ys).take ys.length = rls ys by rw [← List.map_take, List.take_length]] at this; omega
      refine T_rowcap 4 rfl (fun hrcj => ?_)
      have hcut := cut_all hJ.2.1
      refine T_seq (T_region ?_)
      refine TL_q (.slice ar7 ((joinP (rls ys)).length) cr7) (fun _ _ hρ _ => r_move (hρ _ _ rfl)) rfl rfl rfl (w_n rfl) ?_
      refine TL_callN (fun (_ : Option Addr × Nat) => True) (fun (ar8, cr8) => .slice ar8 ((joinP (rls ys)).length) cr8) (fun (ar8, cr8) => [(5, .row (.slice ar8 ((joinP (rls ys)).length) cr8) 5 1 ((joinP (rls ys)).length) ((joinP (rls ys)).flatMap byc))]) (fun _ _ hρ _ => r_call (args := [.slice ar7 ((joinP (rls ys)).length) cr7]) (enters_of Try.func50 (by kernel_rfl) rfl) (hρ _ _ rfl) ((cons2 (hρ _ _ rfl) rfl)) rfl) (fun w hm => (con_as (cut_c (joinP (rls ys)) ar7 cr7 w (SliceAt.own byc_len (hm.row 4 rfl) rfl rfl) (row_cap (hm.row 4 rfl)) (by omega)) hcut).mono fun e w' ⟨a', cap', he, hb, hr⟩ => ⟨(a', cap'), trivial, he, hb, newOk1 5 hr⟩) rfl rfl rfl (w_n rfl) ?_
      rintro ⟨ar8, cr8⟩ -
      refine TL_q (.slice ar8 ((joinP (rls ys)).length) cr8) (fun _ _ hρ _ => r_assign (hρ _ _ rfl)) rfl rfl rfl (w_n rfl) ?_
      refine TL_seq ?_
      refine T_seq ?_
      refine T_seq (T_region ?_)
      refine TL_q (.slice ar8 ((joinP (rls ys)).length) cr8) (fun _ _ hρ _ => r_move (hρ _ _ rfl)) rfl rfl rfl (w_n rfl) ?_
      refine TL_callN (fun (_ : Option Addr × Nat) => True) (fun (ar9, cr9) => .slice ar9 ((joinP (rls ys)).length) cr9) (fun (ar9, cr9) => [(6, .row (.slice ar9 ((joinP (rls ys)).length) cr9) 5 1 ((joinP (rls ys)).length) ((joinP (rls ys)).flatMap byc))]) (fun _ _ hρ _ => r_call (args := [.slice ar8 ((joinP (rls ys)).length) cr8]) (enters_of Try.func50 (by kernel_rfl) rfl) (hρ _ _ rfl) ((cons2 (hρ _ _ rfl) rfl)) rfl) (fun w hm => (con_as (cut_c (joinP (rls ys)) ar8 cr8 w (SliceAt.own byc_len (hm.row 5 rfl) rfl rfl) (row_cap (hm.row 5 rfl)) (by omega)) hcut).mono fun e w' ⟨a', cap', he, hb, hr⟩ => ⟨(a', cap'), trivial, he, hb, newOk1 6 hr⟩) rfl rfl rfl (w_n rfl) ?_
      rintro ⟨ar9, cr9⟩ -
      refine TL_q (.slice ar8 ((joinP (rls ys)).length) cr8) (fun _ _ hρ _ => r_move (hρ _ _ rfl)) rfl rfl rfl (w_n rfl) ?_
      refine TL_call (.bool true) (fun _ _ hρ _ => r_call (args := [.slice ar9 ((joinP (rls ys)).length) cr9, .slice ar8 ((joinP (rls ys)).length) cr8]) (enters_of Try.func16 (by kernel_rfl) rfl) (hρ _ _ rfl) ((cons2 (hρ _ _ rfl) (cons2 (hρ _ _ rfl) rfl))) rfl) (fun w hm => (equal_b (joinP (rls ys)) (joinP (rls ys)) ar9 ar8 cr9 cr8 w (SliceAt.own byc_len (hm.row 6 rfl) rfl rfl) (SliceAt.own byc_len (hm.row 5 rfl) rfl rfl) (by omega) (by omega)).mono fun _ _ h => ⟨h.1.trans (congrArg Ending.returned (bool_as (decide_eq_true rfl))), h.2⟩) rfl rfl rfl (w_n rfl) ?_
      refine TL_q (.bool false) (fun _ _ hρ _ => r_not (b := true) (hρ _ _ rfl)) rfl rfl rfl (w_n rfl) ?_
      refine TL_q (.bool false) (fun _ _ hρ _ => r_move (hρ _ _ rfl)) rfl rfl rfl (w_n rfl) ?_
      refine TL_q (.slice ar8 ((joinP (rls ys)).length) cr8) (fun _ _ hρ _ => r_move (hρ _ _ rfl)) rfl rfl rfl (want_y 59 rfl rfl rfl) ?_
      refine TL_q (.slice ar7 ((joinP (rls ys)).length) cr7) (fun _ _ hρ _ => r_move (hρ _ _ rfl)) rfl rfl rfl (want_y 59 rfl rfl rfl) ?_
      refine TL_call (.bool true) (fun _ _ hρ _ => r_call (args := [.slice ar8 ((joinP (rls ys)).length) cr8, .slice ar7 ((joinP (rls ys)).length) cr7]) (enters_of Try.func16 (by kernel_rfl) rfl) (hρ _ _ rfl) ((cons2 (hρ _ _ rfl) (cons2 (hρ _ _ rfl) rfl))) rfl) (fun w hm => (equal_b (joinP (rls ys)) (joinP (rls ys)) ar8 ar7 cr8 cr7 w (SliceAt.own byc_len (hm.row 5 rfl) rfl rfl) (SliceAt.own byc_len (hm.row 4 rfl) rfl rfl) (by omega) (by omega)).mono fun _ _ h => ⟨h.1.trans (congrArg Ending.returned (bool_as (decide_eq_true rfl))), h.2⟩) rfl rfl rfl (want_y 59 rfl rfl rfl) ?_
      refine TL_q (.bool false) (fun _ _ hρ _ => r_not (b := true) (hρ _ _ rfl)) rfl rfl rfl (want_y 59 rfl rfl rfl) ?_
      refine TL_q (.bool false) (fun _ _ hρ _ => r_pick_f (hρ _ _ rfl) (hρ _ _ rfl)) rfl rfl rfl (w_n rfl) ?_
      refine TL_seq ?_
      refine T_cond_f rfl ?_
      refine T_skip' ?_
      refine p_seq ?_
      refine T_seq (T_region ?_)
      refine TL_q (.int .i64 bit) (fun _ _ hρ _ => r_move (hρ _ _ rfl)) rfl rfl rfl (w_n rfl) ?_
      refine TL_q (.int .u64 (IntKind.wrap .u64 bit)) (fun _ _ hρ _ => r_conv un3 io80 (hρ _ _ rfl)) rfl rfl rfl (w_n rfl) ?_
      refine TL_q (.slice ya ys.length yc) (fun _ _ hρ _ => r_move (hρ _ _ rfl)) rfl rfl rfl (w_n rfl) ?_
      refine TL_q (.int .i64 ((ys.length : Nat) : Int)) (fun _ _ hρ _ => r_len sl63 (hρ _ _ rfl)) rfl rfl rfl (w_n rfl) ?_
      refine TL_q (.int .u64 ((ys.length : Nat) : Int)) (fun _ _ hρ _ => r_as (r_conv un3 io80 (hρ _ _ rfl)) (int_as (wrap_u64 (by omega) (by omega)))) rfl rfl rfl (w_n rfl) ?_
      obtain ⟨m9, hm9⟩ : ∃ m, ys.length = m + 1 := ⟨ys.length - 1, by omega⟩
      obtain ⟨c9, hc9, hc8⟩ := rest_of bit m9
      rw [← hm9] at hc8
      refine TL_q (.int .u64 ((c9 : Nat) : Int)) (fun _ _ hρ _ => r_as (r_rem (hρ _ _ rfl) (hρ _ _ rfl) (by omega)) (int_as hc8)) rfl rfl rfl (w_n rfl) ?_
      refine TL_q (.int .i64 ((c9 : Nat) : Int)) (fun _ _ hρ _ => r_as (r_conv un80 io3 (hρ _ _ rfl)) (int_as (wrap64 (by omega) (by omega)))) rfl rfl rfl (w_n rfl) ?_
      refine TL_q (.int .i64 ((c9 : Nat) : Int)) (fun _ _ hρ _ => r_assign (hρ _ _ rfl)) rfl rfl rfl (w_n rfl) ?_
      refine TL_seq ?_
      refine T_sub [(1, .int .i64 bit), (2, .int .u32 ((mask).toNat : Int)), (6, .bool false), (7, .slice ya ys.length yc), (10, .slice ar7 ((joinP (rls ys)).length) cr7), (11, .int .i64 0), (13, .int .i64 ((c9 : Nat) : Int))] [(6, .row (.slice ar9 ((joinP (rls ys)).length) cr9) 5 1 ((joinP (rls ys)).length) ((joinP (rls ys)).flatMap byc)), (5, .row (.slice ar8 ((joinP (rls ys)).length) cr8) 5 1 ((joinP (rls ys)).length) ((joinP (rls ys)).flatMap byc)), (4, .row (.slice ar7 ((joinP (rls ys)).length) cr7) 5 1 ((joinP (rls ys)).length) ((joinP (rls ys)).flatMap byc)), (1, .row (.slice fa1 fl1.length fc1) 34 1 fl1.length (fl1.flatMap RowG.cells)), (2, .pool 5 1 byc fl1), (943, .row (.slice ya ys.length yc) 34 1 ys.length (ys.flatMap RowG.cells))] (sub_cons rfl (sub_cons rfl (sub_cons rfl (sub_cons rfl (sub_cons rfl (sub_cons rfl (sub_cons rfl sub_nil))))))) (sub_cons rfl (sub_cons rfl (sub_cons rfl (sub_cons rfl (sub_cons rfl (sub_cons rfl sub_nil)))))) ?_
      refine T_seq (T_region ?_)
      refine TL_q (.slice ar7 ((joinP (rls ys)).length) cr7) (fun _ _ hρ _ => r_move (hρ _ _ rfl)) rfl rfl rfl (w_n rfl) ?_
      refine TL_callN (fun (_ : Option Addr × Nat) => True) (fun (ar10, cr10) => .slice ar10 ((placesV (joinP (rls ys))).length) cr10) (fun (ar10, cr10) => [(7, .row (.slice ar10 ((placesV (joinP (rls ys))).length) cr10) 3 1 ((placesV (joinP (rls ys))).length) ((placesV (joinP (rls ys))).flatMap nic))]) (fun _ _ hρ _ => r_call (args := [.slice ar7 ((joinP (rls ys)).length) cr7]) (enters_of Try.func49 (by kernel_rfl) rfl) (hρ _ _ rfl) ((cons2 (hρ _ _ rfl) rfl)) rfl) (fun w hm => (places_c (joinP (rls ys)) ar7 cr7 w (SliceAt.own byc_len (hm.row 4 rfl) rfl rfl) (row_cap (hm.row 4 rfl)) (by first | omega | (rw [List.length_append, List.length_append]; omega))).mono fun e w' ⟨a', cap', he, hb, hr⟩ => ⟨(a', cap'), trivial, he, hb, newOk1 7 hr⟩) rfl rfl rfl (w_n rfl) ?_
      rintro ⟨ar10, cr10⟩ -
      refine TL_q (.slice ar10 ((placesV (joinP (rls ys))).length) cr10) (fun _ _ hρ _ => r_assign (hρ _ _ rfl)) rfl rfl rfl (w_n rfl) ?_
      refine TL_seq ?_
      refine T_seq ?_
      refine T_seq (T_region ?_)
      refine TL_q (.slice ar10 ((placesV (joinP (rls ys))).length) cr10) (fun _ _ hρ _ => r_move (hρ _ _ rfl)) rfl rfl rfl (w_n rfl) ?_
      refine TL_q (.int .i64 (((placesV (joinP (rls ys))).length : Nat) : Int)) (fun _ _ hρ _ => r_len sl71 (hρ _ _ rfl)) rfl rfl rfl (w_n rfl) ?_
      refine TL_q (.slice ya ys.length yc) (fun _ _ hρ _ => r_move (hρ _ _ rfl)) rfl rfl rfl (w_n rfl) ?_
      refine TL_q (.int .i64 ((ys.length : Nat) : Int)) (fun _ _ hρ _ => r_len sl63 (hρ _ _ rfl)) rfl rfl rfl (w_n rfl) ?_
      refine TL_q (.bool false) (fun _ _ hρ _ => r_as (r_neq (hρ _ _ rfl) (hρ _ _ rfl)) (bool_as (by rw [decide_eq_true (by rw [hJ.2.2, List.length_map, List.length_range, rls_len])]; rfl))) rfl rfl rfl (w_n rfl) ?_
      refine TL_seq ?_
      refine T_cond_f rfl ?_
      refine T_skip' ?_
      refine p_seq ?_
      obtain ⟨q, hq9⟩ : ∃ x, ys[c9]? = some x := ⟨_, List.getElem?_eq_getElem (by omega)⟩
      have hqm := List.mem_of_getElem? hq9
      have hqb := hyb q hqm
      have hqr : (rls ys)[c9]? = some q.l := by rw [List.getElem?_map, hq9]; rfl
      have hrq := recP_len q.l
      refine T_row 943 rfl (by omega) (fun g11 ha11 => ?_)
      subst ha11
      refine T_rowcap 943 rfl (fun hrc11 => ?_)
      refine T_fact (fun w hm => ((show RowsIn w ys from (cuts_in2 (hm.pool 2 rfl) hys)) q hqm).1.1) (fun hqcap => ?_)
      refine T_seq (T_region ?_)
      refine TL_q (.slice (some ⟨g11, 0, none⟩) ys.length yc) (fun _ _ hρ _ => r_move (hρ _ _ rfl)) rfl rfl rfl (w_n rfl) ?_
      refine TL_q (.int .i64 ((c9 : Nat) : Int)) (fun _ _ hρ _ => r_move (hρ _ _ rfl)) rfl rfl rfl (w_n rfl) ?_
      refine TL_q (.pointer (some ⟨g11, 0 + c9 * 1, none⟩)) (fun _ _ hρ _ => r_indexAddrS (i := c9) sl63 sz34 (hρ _ _ rfl) (hρ _ _ rfl) (by omega)) rfl rfl rfl (w_n rfl) ?_
      refine TL_q (.slice q.a q.l.length q.cap) (fun _ _ hρ hm => r_loadOwn1 (f := RowG.cells) (u := q) (l := ys) ag34 (hρ _ _ rfl) (hm.row 943 rfl) rfl rfl RowG.cells_len hq9 rfl) rfl rfl rfl (w_n rfl) ?_
      refine TL_callN (fun (_ : Option Addr × Nat) => True) (fun (ar12, cr12) => .tuple #[.slice ar12 ((recP q.l).length) cr12, .int .i64 0]) (fun (ar12, cr12) => [(8, .row (.slice ar12 ((recP q.l).length) cr12) 5 1 ((recP q.l).length) ((recP q.l).flatMap byc))]) (fun _ _ hρ _ => r_call (args := [.slice q.a q.l.length q.cap]) (enters_of Try.func40 (by kernel_rfl) rfl) (hρ _ _ rfl) ((cons2 (hρ _ _ rfl) rfl)) rfl) (fun w hm => (jrec_ok q.l q.a q.cap w ((cuts_in2 (hm.pool 2 rfl) hys) q hqm).1 ((cuts_in2 (hm.pool 2 rfl) hys) q hqm).2 (by omega)).mono fun e w' ⟨a', cap', he, hb, hr⟩ => ⟨(a', cap'), trivial, he, hb, newOk1 8 hr⟩) rfl rfl rfl (w_n rfl) ?_
      rintro ⟨ar12, cr12⟩ -
      refine TL_q (.tuple #[.slice ar12 ((recP q.l).length) cr12, .int .i64 0]) (fun _ _ hρ _ => r_move (hρ _ _ rfl)) rfl rfl rfl (w_n rfl) ?_
      refine TL_q (.slice ar12 ((recP q.l).length) cr12) (fun _ _ hρ _ => r_extract (hρ _ _ rfl) rfl) rfl rfl rfl (w_n rfl) ?_
      refine TL_q (.int .i64 0) (fun _ _ hρ _ => r_extract (hρ _ _ rfl) rfl) rfl rfl rfl (w_n rfl) ?_
      refine TL_q (.slice ar12 ((recP q.l).length) cr12) (fun _ _ hρ _ => r_assign (hρ _ _ rfl)) rfl rfl rfl (w_n rfl) ?_
      refine TL_q (.int .i64 0) (fun _ _ hρ _ => r_assign (hρ _ _ rfl)) rfl rfl rfl (w_n rfl) ?_
      refine TL_seq ?_
      by_cases hsp : (spoilI (recP q.l) bit mask).isSome = true
      · skip
        obtain ⟨b9, hb9⟩ := Option.isSome_iff_exists.1 hsp
        have hbl := spoilI_len hb9
        refine T_seq (T_region ?_)
        refine TL_q (.slice ar12 ((recP q.l).length) cr12) (fun _ _ hρ _ => r_move (hρ _ _ rfl)) rfl rfl rfl (w_n rfl) ?_
        refine TL_q (.int .i64 bit) (fun _ _ hρ _ => r_move (hρ _ _ rfl)) rfl rfl rfl (w_n rfl) ?_
        refine TL_q (.int .u32 ((mask).toNat : Int)) (fun _ _ hρ _ => r_move (hρ _ _ rfl)) rfl rfl rfl (w_n rfl) ?_
        refine TL_callN (fun (_ : Option Addr × Nat) => True) (fun (ar13, cr13) => .tuple #[.slice ar13 ((b9).length) cr13, .int .i64 0]) (fun (ar13, cr13) => [(9, .row (.slice ar13 ((b9).length) cr13) 5 1 ((b9).length) ((b9).flatMap byc))]) (fun _ _ hρ _ => r_call (args := [.slice ar12 ((recP q.l).length) cr12, .int .i64 bit, .int .u32 ((mask).toNat : Int)]) (enters_of Try.func53 (by kernel_rfl) rfl) (hρ _ _ rfl) ((cons2 (hρ _ _ rfl) (cons2 (hρ _ _ rfl) (cons2 (hρ _ _ rfl) rfl)))) rfl) (fun w hm => (spoil_ok ar12 cr12 w hb9 (SliceAt.own byc_len (hm.row 8 rfl) rfl rfl) (by omega) (row_cap (hm.row 8 rfl))).mono fun e w' ⟨a', cap', he, hb, hr⟩ => ⟨(a', cap'), trivial, he, hb, newOk1 9 hr⟩) rfl rfl rfl (w_n rfl) ?_
        rintro ⟨ar13, cr13⟩ -
        refine TL_q (.tuple #[.slice ar13 ((b9).length) cr13, .int .i64 0]) (fun _ _ hρ _ => r_move (hρ _ _ rfl)) rfl rfl rfl (w_n rfl) ?_
        refine TL_q (.slice ar13 ((b9).length) cr13) (fun _ _ hρ _ => r_extract (hρ _ _ rfl) rfl) rfl rfl rfl (w_n rfl) ?_
        refine TL_q (.int .i64 0) (fun _ _ hρ _ => r_extract (hρ _ _ rfl) rfl) rfl rfl rfl (w_n rfl) ?_
        refine TL_q (.slice ar13 ((b9).length) cr13) (fun _ _ hρ _ => r_assign (hρ _ _ rfl)) rfl rfl rfl (w_n rfl) ?_
        refine TL_q (.int .i64 0) (fun _ _ hρ _ => r_assign (hρ _ _ rfl)) rfl rfl rfl (w_n rfl) ?_
        refine TL_seq ?_
        refine T_seq ?_
        refine T_seq (T_region ?_)
        refine TL_q (.int .i64 0) (fun _ _ hρ _ => r_move (hρ _ _ rfl)) rfl rfl rfl (w_n rfl) ?_
        refine TL_q (.bool false) (fun _ _ hρ _ => r_as (r_neq (hρ _ _ rfl) (hρ _ _ rfl)) (by rfl)) rfl rfl rfl (w_n rfl) ?_
        refine TL_q (.bool false) (fun _ _ hρ _ => r_move (hρ _ _ rfl)) rfl rfl rfl (w_n rfl) ?_
        refine TL_q (.int .i64 0) (fun _ _ hρ _ => r_move (hρ _ _ rfl)) rfl rfl rfl (want_y 96 rfl rfl rfl) ?_
        refine TL_q (.bool false) (fun _ _ hρ _ => r_as (r_neq (hρ _ _ rfl) (hρ _ _ rfl)) (by rfl)) rfl rfl rfl (want_y 96 rfl rfl rfl) ?_
        refine TL_q (.bool false) (fun _ _ hρ _ => r_pick_f (hρ _ _ rfl) (hρ _ _ rfl)) rfl rfl rfl (w_n rfl) ?_
        refine TL_seq ?_
        refine T_sub [(6, .bool false), (7, .slice (some ⟨g11, 0, none⟩) ys.length yc), (10, .slice ar7 ((joinP (rls ys)).length) cr7), (13, .int .i64 ((c9 : Nat) : Int)), (14, .slice ar10 ((placesV (joinP (rls ys))).length) cr10), (15, .slice ar12 ((recP q.l).length) cr12), (11, .int .i64 0), (16, .slice ar13 ((b9).length) cr13), (17, .int .i64 0), (99, .bool false)] [(9, .row (.slice ar13 ((b9).length) cr13) 5 1 ((b9).length) ((b9).flatMap byc)), (8, .row (.slice ar12 ((recP q.l).length) cr12) 5 1 ((recP q.l).length) ((recP q.l).flatMap byc)), (7, .row (.slice ar10 ((placesV (joinP (rls ys))).length) cr10) 3 1 ((placesV (joinP (rls ys))).length) ((placesV (joinP (rls ys))).flatMap nic)), (6, .row (.slice ar9 ((joinP (rls ys)).length) cr9) 5 1 ((joinP (rls ys)).length) ((joinP (rls ys)).flatMap byc)), (5, .row (.slice ar8 ((joinP (rls ys)).length) cr8) 5 1 ((joinP (rls ys)).length) ((joinP (rls ys)).flatMap byc)), (4, .row (.slice ar7 ((joinP (rls ys)).length) cr7) 5 1 ((joinP (rls ys)).length) ((joinP (rls ys)).flatMap byc)), (1, .row (.slice fa1 fl1.length fc1) 34 1 fl1.length (fl1.flatMap RowG.cells)), (2, .pool 5 1 byc fl1), (943, .row (.slice (some ⟨g11, 0, none⟩) ys.length yc) 34 1 ys.length (ys.flatMap RowG.cells))] (sub_cons rfl (sub_cons rfl (sub_cons rfl (sub_cons rfl (sub_cons rfl (sub_cons rfl (sub_cons rfl (sub_cons rfl (sub_cons rfl (sub_cons rfl sub_nil)))))))))) (sub_cons rfl (sub_cons rfl (sub_cons rfl (sub_cons rfl (sub_cons rfl (sub_cons rfl (sub_cons rfl (sub_cons rfl (sub_cons rfl sub_nil))))))))) ?_
        refine T_cond_f rfl ?_
        refine T_skip' ?_
        refine p_seq ?_
        refine T_seq ?_
        refine T_rowcap 9 rfl (fun hrc9 => ?_)
        refine T_rowcap 8 rfl (fun hrc8 => ?_)
        by_cases h4 : b9.take 4 = (recP q.l).take 4
        · skip
          obtain ⟨l14, hl14, hn14⟩ : ∃ lz, lz = (b9).take 4 ∧ lz.length = 4 := ⟨_, rfl, by rw [List.length_take]; omega⟩
          obtain ⟨l15, hl15, hn15⟩ : ∃ lz, lz = (recP q.l).take 4 ∧ lz.length = 4 := ⟨_, rfl, by rw [List.length_take]; omega⟩
          refine T_seq (T_draw (V := [(0, .slice ar13 ((b9).length) cr13), (1, .slice ar13 l14.length cr13), (2, .slice ar12 ((recP q.l).length) cr12), (3, .slice ar12 l15.length cr12)]) [0, 1, 0, 4, 15, 31] [[(16, none)], [(106, some 0)], [(15, none)], [(108, some 2)], [(107, some 1), (109, some 3)], [(110, some 4)]] 16 mixed (by kernel_rfl) ?_)
          refine G_step [0, 1, 2, 3] 4 [] (by kernel_rfl) (allM (all_cons (q_run (.slice ar13 ((b9).length) cr13) rfl rfl (wv_n rfl) rfl (fun _ _ hρ _ => r_move (hρ _ _ rfl))) (all_cons (q_run (.slice ar13 l14.length cr13) rfl rfl (wv_n rfl) rfl (fun ρ _ hρ _ => r_as (r_sliceO sl34 sz5 (hρ _ _ rfl) (bd_none ρ _) (bd_some (n := 4) (hρ _ _ rfl)) (bd_none ρ _) (by simp) (by omega) (by omega) (by omega)) (by rw [hn14]; exact slo_zero _ _ _ _))) (all_cons (q_run (.slice ar12 ((recP q.l).length) cr12) rfl rfl (wv_n rfl) rfl (fun _ _ hρ _ => r_move (hρ _ _ rfl))) (all_cons (q_run (.slice ar12 l15.length cr12) rfl rfl (wv_n rfl) rfl (fun ρ _ hρ _ => r_as (r_sliceO sl34 sz5 (hρ _ _ rfl) (bd_none ρ _) (bd_some (n := 4) (hρ _ _ rfl)) (bd_none ρ _) (by simp) (by omega) (by omega) (by omega)) (by rw [hn15]; exact slo_zero _ _ _ _))) all_nil))))) (allM (all_cons ?_ all_nil))
          refine LOb_call (.bool true) [(5, .bool false)] rfl (wv_n rfl) rfl rfl (fun _ _ hρ _ => r_call (args := [.slice ar13 l14.length cr13, .slice ar12 l15.length cr12]) (enters_of Try.func16 (by kernel_rfl) rfl) (hρ _ _ rfl) ((cons2 (hρ _ _ rfl) (cons2 (hρ _ _ rfl) rfl))) rfl) (fun w hm => (equal_b l14 l15 ar13 ar12 cr13 cr12 w (by have hs := SliceAt.front (l := (b9)) (SliceAt.own byc_len (hm.row 9 rfl) rfl rfl) (n := 4) (m := cr13) (by omega) (by omega) (by omega); rw [← hl14] at hs; exact hs) (by have hs := SliceAt.front (l := (recP q.l)) (SliceAt.own byc_len (hm.row 8 rfl) rfl rfl) (n := 4) (m := cr12) (by omega) (by omega) (by omega); rw [← hl15] at hs; exact hs) (by omega) (by omega)).mono fun _ _ h => ⟨h.1.trans (congrArg Ending.returned (bool_as (decide_eq_true (by rw [hl14, hl15]; exact h4)))), h.2⟩) (by kernel_rfl) ?_
          refine G_last [5] [(6, .bool false), (7, .slice (some ⟨g11, 0, none⟩) ys.length yc), (10, .slice ar7 ((joinP (rls ys)).length) cr7), (13, .int .i64 ((c9 : Nat) : Int)), (14, .slice ar10 ((placesV (joinP (rls ys))).length) cr10), (15, .slice ar12 ((recP q.l).length) cr12), (16, .slice ar13 ((b9).length) cr13), (111, .bool false)] (by kernel_rfl) (allM (all_cons (q_run (.bool false) rfl rfl (wv_n rfl) rfl (fun _ _ hρ _ => r_not (b := true) (hρ _ _ rfl))) all_nil)) (end_old rfl rfl (end_old rfl rfl (end_old rfl rfl (end_old rfl rfl (end_old rfl rfl (end_old rfl rfl (end_old rfl rfl (end_new 5 rfl rfl end_nil)))))))) ?_
          refine T_cond_f rfl ?_
          refine T_skip' ?_
          refine p_seq ?_
          have hpll : (placesV (joinP (rls ys))).length = ys.length := by rw [hJ.2.2, List.length_map, List.length_range, rls_len]
          obtain ⟨P9, hP9⟩ : ∃ x, (placesV (joinP (rls ys)))[c9]? = some x := ⟨_, List.getElem?_eq_getElem (by rw [hJ.2.2, List.length_map, List.length_range, rls_len]; omega)⟩
          have hP := place_at hJ.2.2 hP9
          have hfr := front_at hqr
          rw [← hP] at hfr
          refine T_row 7 rfl (by omega) (fun g16 ha16 => ?_)
          subst ha16
          refine T_rowcap 7 rfl (fun hrc16 => ?_)
          obtain ⟨l17, hl17, hn17⟩ : ∃ lz, lz = (joinP (rls ys)).take P9 ∧ lz.length = P9 := ⟨_, rfl, by rw [List.length_take]; omega⟩
          obtain ⟨l18, hl18, hn18⟩ : ∃ lz, lz = ((joinP (rls ys)).drop (P9 + ((recP q.l).length))).take ((joinP (rls ys)).length - (P9 + ((recP q.l).length))) ∧ lz.length = (joinP (rls ys)).length - (P9 + ((recP q.l).length)) := ⟨_, rfl, by rw [List.length_take, List.length_drop]; omega⟩
          obtain ⟨a18, ha18⟩ : ∃ az : Option Addr, az = (if cr7 = P9 + ((recP q.l).length) then (ar7 : Option Addr) else Option.map (fun z : Addr => z.add ((P9 + ((recP q.l).length)) * 1)) (ar7 : Option Addr)) := ⟨_, rfl⟩
          refine T_seq (T_draw (V := [(0, .slice ar7 ((joinP (rls ys)).length) cr7), (1, .slice (some ⟨g16, 0, none⟩) ((placesV (joinP (rls ys))).length) cr10), (2, .int .i64 ((c9 : Nat) : Int)), (3, .pointer (some ⟨g16, 0 + c9 * 1, none⟩)), (4, .int .i64 ((P9 : Nat) : Int)), (5, .slice ar7 l17.length cr7), (6, .slice ar13 ((b9).length) cr13), (7, .slice ar7 ((joinP (rls ys)).length) cr7), (8, .slice (some ⟨g16, 0, none⟩) ((placesV (joinP (rls ys))).length) cr10), (9, .int .i64 ((c9 : Nat) : Int)), (10, .pointer (some ⟨g16, 0 + c9 * 1, none⟩)), (11, .int .i64 ((P9 : Nat) : Int)), (12, .slice ar12 ((recP q.l).length) cr12), (13, .int .i64 (((recP q.l).length : Nat) : Int)), (14, .int .i64 ((P9 + ((recP q.l).length) : Nat) : Int)), (15, .slice a18 l18.length (cr7 - (P9 + ((recP q.l).length))))]) [0, 0, 0, 6, 14, 31, 0, 0, 0, 0, 768, 1792, 0, 4096, 16128, 32640, 65535, 131071, 262143, 524287, 1048575, 1048575, 2097151, 8388607] [[(10, none)], [(14, none)], [(13, none)], [(114, some 1), (115, some 2)], [(116, some 3)], [(113, some 0), (117, some 4)], [(16, none)], [(10, none)], [(14, none)], [(13, none)], [(121, some 8), (122, some 9)], [(123, some 10)], [(15, none)], [(125, some 12)], [(124, some 11), (126, some 13)], [(120, some 7), (127, some 14)], [(118, some 5), (119, some 6), (128, some 15)], [(129, some 16)], [(130, some 17)], [(131, some 18)], [(112, some 19)], [(112, some 19)], [(132, some 20)], [(133, some 21)]] 458752 mixed (by kernel_rfl) ?_)
          refine G_step [0, 1, 2, 3, 4, 5, 6, 7, 8, 9, 10, 11, 12, 13, 14, 15] 16 [] (by kernel_rfl) (allM (all_cons (q_run (.slice ar7 ((joinP (rls ys)).length) cr7) rfl rfl (wv_n rfl) rfl (fun _ _ hρ _ => r_move (hρ _ _ rfl))) (all_cons (q_run (.slice (some ⟨g16, 0, none⟩) ((placesV (joinP (rls ys))).length) cr10) rfl rfl (wv_n rfl) rfl (fun _ _ hρ _ => r_move (hρ _ _ rfl))) (all_cons (q_run (.int .i64 ((c9 : Nat) : Int)) rfl rfl (wv_n rfl) rfl (fun _ _ hρ _ => r_move (hρ _ _ rfl))) (all_cons (q_run (.pointer (some ⟨g16, 0 + c9 * 1, none⟩)) rfl rfl (wv_n rfl) rfl (fun _ _ hρ _ => r_indexAddrS (i := c9) sl71 sz3 (hρ _ _ rfl) (hρ _ _ rfl) (by omega))) (all_cons (q_run (.int .i64 ((P9 : Nat) : Int)) rfl rfl (wv_n rfl) rfl (fun _ _ hρ hm => r_loadOwn1 (f := nic) (u := P9) (l := (placesV (joinP (rls ys)))) ag3 (hρ _ _ rfl) (hm.row 7 rfl) rfl rfl nic_len hP9 rfl)) (all_cons (q_run (.slice ar7 l17.length cr7) rfl rfl (wv_n rfl) rfl (fun ρ _ hρ _ => r_as (r_sliceO sl34 sz5 (hρ _ _ rfl) (bd_none ρ _) (bd_some (n := P9) (hρ _ _ rfl)) (bd_none ρ _) (by simp) (by omega) (by omega) (by omega)) (by rw [hn17]; exact slo_zero _ _ _ _))) (all_cons (q_run (.slice ar13 ((b9).length) cr13) rfl rfl (wv_n rfl) rfl (fun _ _ hρ _ => r_move (hρ _ _ rfl))) (all_cons (q_run (.slice ar7 ((joinP (rls ys)).length) cr7) rfl rfl (wv_n rfl) rfl (fun _ _ hρ _ => r_move (hρ _ _ rfl))) (all_cons (q_run (.slice (some ⟨g16, 0, none⟩) ((placesV (joinP (rls ys))).length) cr10) rfl rfl (wv_n rfl) rfl (fun _ _ hρ _ => r_move (hρ _ _ rfl))) (all_cons (q_run (.int .i64 ((c9 : Nat) : Int)) rfl rfl (wv_n rfl) rfl (fun _ _ hρ _ => r_move (hρ _ _ rfl))) (all_cons (q_run (.pointer (some ⟨g16, 0 + c9 * 1, none⟩)) rfl rfl (wv_n rfl) rfl (fun _ _ hρ _ => r_indexAddrS (i := c9) sl71 sz3 (hρ _ _ rfl) (hρ _ _ rfl) (by omega))) (all_cons (q_run (.int .i64 ((P9 : Nat) : Int)) rfl rfl (wv_n rfl) rfl (fun _ _ hρ hm => r_loadOwn1 (f := nic) (u := P9) (l := (placesV (joinP (rls ys)))) ag3 (hρ _ _ rfl) (hm.row 7 rfl) rfl rfl nic_len hP9 rfl)) (all_cons (q_run (.slice ar12 ((recP q.l).length) cr12) rfl rfl (wv_n rfl) rfl (fun _ _ hρ _ => r_move (hρ _ _ rfl))) (all_cons (q_run (.int .i64 (((recP q.l).length : Nat) : Int)) rfl rfl (wv_n rfl) rfl (fun _ _ hρ _ => r_len sl34 (hρ _ _ rfl))) (all_cons (q_run (.int .i64 ((P9 + ((recP q.l).length) : Nat) : Int)) rfl rfl (wv_n rfl) rfl (fun _ _ hρ _ => r_as (r_add (hρ _ _ rfl) (hρ _ _ rfl)) (int_as ((wrap64 (by omega) (by omega)).trans (by omega))))) (all_cons (q_run (.slice a18 l18.length (cr7 - (P9 + ((recP q.l).length)))) rfl rfl (wv_n rfl) rfl (fun ρ _ hρ _ => r_as (r_sliceO sl34 sz5 (hρ _ _ rfl) (bd_none ρ _) (bd_none ρ _) (bd_some (n := P9 + ((recP q.l).length)) (hρ _ _ rfl)) (by simp) (by omega) (by omega) (by omega)) (by rw [hn18, ha18]))) all_nil))))))))))))))))) (allM (all_cons ?_ all_nil))
          refine LOb_new 10 (.cells #[.slice ar7 l17.length cr7, .slice ar13 ((b9).length) cr13, .slice a18 l18.length (cr7 - (P9 + ((recP q.l).length)))] 34) (fun B => .slice (some ⟨B, 0, none⟩) 3 3) (fun B => []) rfl (wv_n rfl) rfl rfl (fun _ _ hρ _ => r_buildSlice (vs := [(0, .slice ar7 l17.length cr7), (1, .slice ar13 ((b9).length) cr13), (2, .slice a18 l18.length (cr7 - (P9 + ((recP q.l).length))))]) (by kernel_rfl) (cons2 (pair2 (hρ _ _ rfl)) (cons2 (pair2 (hρ _ _ rfl)) (cons2 (pair2 (hρ _ _ rfl)) rfl)))) (fun B => by kernel_rfl) ?_
          intro B21
          refine G_step [] 17 [] (by kernel_rfl) (allM all_nil) (allM (all_cons ?_ all_nil))
          refine LOb_callN (fun (_ : Option Addr × Nat) => True) (fun (ar22, cr22) => .slice ar22 ((l17 ++ (b9 ++ l18)).length) cr22) (fun (ar22, cr22) => [(11, .row (.slice ar22 ((l17 ++ (b9 ++ l18)).length) cr22) 5 1 ((l17 ++ (b9 ++ l18)).length) ((l17 ++ (b9 ++ l18)).flatMap byc))]) (fun (ar22, cr22) => []) rfl (wv_n rfl) rfl rfl (fun _ _ hρ _ => r_call (args := [.slice (some ⟨B21, 0, none⟩) 3 3]) (enters_of Try.func54 (by kernel_rfl) rfl) (hρ _ _ rfl) ((cons2 (hρ _ _ rfl) rfl)) rfl) (fun w hm => (con_as (l' := l17 ++ (b9 ++ l18)) (con_b [(⟨ar7, cr7, l17⟩ : RowG By), (⟨ar13, cr13, (b9)⟩ : RowG By), (⟨a18, (cr7 - (P9 + ((recP q.l).length))), l18⟩ : RowG By)] (some ⟨B21, 0, none⟩) 3 w ⟨Nat.le_of_ble_eq_true rfl, (fun e => by cases e), .inr ⟨_, 0, _, _, _, rfl, (hm.at 10 rfl), row_of_take (fun _ => rfl) rfl⟩⟩ (Nat.le_of_ble_eq_true rfl) (List.forall_mem_cons.2 ⟨⟨(by have hs := SliceAt.front (l := (joinP (rls ys))) (SliceAt.own byc_len (hm.row 4 rfl) rfl rfl) (n := P9) (m := cr7) (by omega) (by omega) (by omega); rw [← hl17] at hs; exact hs), (row_cap (hm.row 4 rfl))⟩, (List.forall_mem_cons.2 ⟨⟨(SliceAt.own byc_len (hm.row 9 rfl) rfl rfl), (row_cap (hm.row 9 rfl))⟩, (List.forall_mem_cons.2 ⟨⟨(by have hs := SliceAt.part (l := (joinP (rls ys))) (SliceAt.own byc_len (hm.row 4 rfl) rfl rfl) (lo := P9 + ((recP q.l).length)) (hi := (joinP (rls ys)).length) (m := cr7) (by omega) (by omega) (by omega) (by omega); rw [← hl18, ← ha18] at hs; exact hs), (Nat.le_trans (Nat.sub_le _ _) (row_cap (hm.row 4 rfl)))⟩, (fun _ h => nomatch h)⟩)⟩)⟩) (by simp only [List.flatMap_cons, List.flatMap_nil, List.append_nil, List.length_append]; omega) (Nat.le_of_ble_eq_true rfl)) (by simp only [List.flatMap_cons, List.flatMap_nil, List.append_nil])).mono fun e w' ⟨a', cap', he, hb, hr⟩ => ⟨(a', cap'), trivial, he, hb, newOk1 11 hr⟩) (fun (ar22, cr22) => by kernel_rfl) ?_
          rintro ⟨ar22, cr22⟩ -
          refine G_step [] 18 [] (by kernel_rfl) (allM all_nil) (allM (all_cons ?_ all_nil))
          refine LOb_callN (fun ((na23, nc23, nl23) : Option Addr × Nat × List (RowG By)) => rls nl23 = heldsV (l17 ++ (b9 ++ l18))) (fun (na23, nc23, nl23) => .tuple #[.slice na23 nl23.length nc23, .int .i64 ((sizeV (l17 ++ (b9 ++ l18)) : Nat) : Int)]) (fun (na23, nc23, nl23) => [(12, .row (.slice na23 nl23.length nc23) 34 1 nl23.length (nl23.flatMap RowG.cells)), (13, .pool 5 1 byc nl23)]) (fun (na23, nc23, nl23) => [(19, .tuple #[.slice na23 nl23.length nc23, .int .i64 ((sizeV (l17 ++ (b9 ++ l18)) : Nat) : Int)]), (20, .slice na23 nl23.length nc23), (21, .int .i64 ((sizeV (l17 ++ (b9 ++ l18)) : Nat) : Int)), (22, .slice na23 nl23.length nc23), (23, .int .i64 ((sizeV (l17 ++ (b9 ++ l18)) : Nat) : Int))]) rfl (wv_n rfl) rfl rfl (fun _ _ hρ _ => r_call (args := [.slice ar22 ((l17 ++ (b9 ++ l18)).length) cr22]) (enters_of Try.func46 (by kernel_rfl) rfl) (hρ _ _ rfl) ((cons2 (hρ _ _ rfl) rfl)) rfl) (fun w hm => (scan_c (l17 ++ (b9 ++ l18)) ar22 cr22 w (SliceAt.own byc_len (hm.row 11 rfl) rfl rfl) (row_cap (hm.row 11 rfl)) (by first | omega | (rw [List.length_append, List.length_append]; omega))).mono fun e w' ⟨n, hf, he, hb, r1, r2, hs⟩ => ⟨(n.a, n.cap, n.l), hf, he, hb, newOk2 12 13 r1 r2 hs⟩) (fun (na23, nc23, nl23) => by kernel_rfl) ?_
          rintro ⟨na23, nc23, nl23⟩ hsc23
          refine G_last [19, 20, 21, 22, 23] [(6, .bool false), (7, .slice (some ⟨g11, 0, none⟩) ys.length yc), (13, .int .i64 ((c9 : Nat) : Int)), (14, .slice (some ⟨g16, 0, none⟩) ((placesV (joinP (rls ys))).length) cr10), (18, .slice na23 nl23.length nc23), (19, .int .i64 ((sizeV (l17 ++ (b9 ++ l18)) : Nat) : Int))] (by kernel_rfl) (allM (all_cons (q_run (.tuple #[.slice na23 nl23.length nc23, .int .i64 ((sizeV (l17 ++ (b9 ++ l18)) : Nat) : Int)]) rfl rfl (wv_n rfl) rfl (fun _ _ hρ _ => r_move (hρ _ _ rfl))) (all_cons (q_run (.slice na23 nl23.length nc23) rfl rfl (wv_n rfl) rfl (fun _ _ hρ _ => r_extract (hρ _ _ rfl) rfl)) (all_cons (q_run (.int .i64 ((sizeV (l17 ++ (b9 ++ l18)) : Nat) : Int)) rfl rfl (wv_n rfl) rfl (fun _ _ hρ _ => r_extract (hρ _ _ rfl) rfl)) (all_cons (q_run (.slice na23 nl23.length nc23) rfl rfl (wv_n rfl) rfl (fun _ _ hρ _ => r_assign (hρ _ _ rfl))) (all_cons (q_run (.int .i64 ((sizeV (l17 ++ (b9 ++ l18)) : Nat) : Int)) rfl rfl (wv_n rfl) rfl (fun _ _ hρ _ => r_assign (hρ _ _ rfl))) all_nil)))))) (end_old rfl rfl (end_old rfl rfl (end_old rfl rfl (end_old rfl rfl (end_new 22 rfl rfl (end_new 23 rfl rfl end_nil)))))) ?_
          have hS := spoilt h65r hqr (spoilI_some hb9) h4 l18
          rw [← hfr.1, ← hl17, ← hP] at hS
          refine T_seq (T_region ?_)
          refine TL_q (.int .i64 ((sizeV (l17 ++ (b9 ++ l18)) : Nat) : Int)) (fun _ _ hρ _ => r_move (hρ _ _ rfl)) rfl rfl rfl (w_n rfl) ?_
          refine TL_q (.slice (some ⟨g16, 0, none⟩) ((placesV (joinP (rls ys))).length) cr10) (fun _ _ hρ _ => r_move (hρ _ _ rfl)) rfl rfl rfl (w_n rfl) ?_
          refine TL_q (.int .i64 ((c9 : Nat) : Int)) (fun _ _ hρ _ => r_move (hρ _ _ rfl)) rfl rfl rfl (w_n rfl) ?_
          refine TL_q (.pointer (some ⟨g16, 0 + c9 * 1, none⟩)) (fun _ _ hρ _ => r_indexAddrS (i := c9) sl71 sz3 (hρ _ _ rfl) (hρ _ _ rfl) (by omega)) rfl rfl rfl (w_n rfl) ?_
          refine TL_q (.int .i64 ((P9 : Nat) : Int)) (fun _ _ hρ hm => r_loadOwn1 (f := nic) (u := P9) (l := (placesV (joinP (rls ys)))) ag3 (hρ _ _ rfl) (hm.row 7 rfl) rfl rfl nic_len hP9 rfl) rfl rfl rfl (w_n rfl) ?_
          refine TL_q (.bool true) (fun _ _ hρ _ => r_as (r_eql (hρ _ _ rfl) (hρ _ _ rfl)) (bool_as (decide_eq_true (by rw [hS.2])))) rfl rfl rfl (w_n rfl) ?_
          refine TL_q (.bool true) (fun _ _ hρ _ => r_move (hρ _ _ rfl)) rfl rfl rfl (w_n rfl) ?_
          refine TL_q (.slice na23 nl23.length nc23) (fun _ _ hρ _ => r_move (hρ _ _ rfl)) rfl rfl rfl (want_y 140 rfl rfl rfl) ?_
          refine TL_q (.slice (some ⟨g11, 0, none⟩) ys.length yc) (fun _ _ hρ _ => r_move (hρ _ _ rfl)) rfl rfl rfl (want_y 140 rfl rfl rfl) ?_
          refine TL_q (.int .i64 ((c9 : Nat) : Int)) (fun _ _ hρ _ => r_move (hρ _ _ rfl)) rfl rfl rfl (want_y 140 rfl rfl rfl) ?_
          obtain ⟨l24, hl24, hn24⟩ : ∃ lz, lz = ys.take c9 ∧ lz.length = c9 := ⟨_, rfl, by rw [List.length_take]; omega⟩
          refine TL_q (.slice (some ⟨g11, 0, none⟩) l24.length yc) (fun ρ _ hρ _ => r_as (r_sliceO sl63 sz34 (hρ _ _ rfl) (bd_none ρ _) (bd_some (n := c9) (hρ _ _ rfl)) (bd_none ρ _) (by simp) (by omega) (by omega) (by omega)) (by rw [hn24]; exact slo_zero _ _ _ _)) rfl rfl rfl (want_y 140 rfl rfl rfl) ?_
          refine TL_call (.bool true) (fun _ _ hρ _ => r_call (args := [.slice na23 nl23.length nc23, .slice (some ⟨g11, 0, none⟩) l24.length yc]) (enters_of Try.func45 (by kernel_rfl) rfl) (hρ _ _ rfl) ((cons2 (hρ _ _ rfl) (cons2 (hρ _ _ rfl) rfl))) rfl) (fun w hm => (same_c nl23 na23 nc23 l24 (some ⟨g11, 0, none⟩) yc w (SliceAt.own RowG.cells_len (hm.row 12 rfl) rfl rfl) (row_cap (hm.row 12 rfl)) (fun r hr => ⟨poolAt byc_len (hm.pool 13 rfl) hr, poolCap (hm.pool 13 rfl) hr⟩) (fun r hr => Nat.le_trans (rls_le hsc23 (held_le _) r hr) (by decide)) (by have hs := SliceAt.front (l := ys) (SliceAt.own RowG.cells_len (hm.row 943 rfl) rfl rfl) (n := c9) (m := yc) (by omega) (by omega) (by omega); rw [← hl24] at hs; exact hs) (row_cap (hm.row 943 rfl)) (fun r hr => (show RowsIn w ys from (cuts_in2 (hm.pool 2 rfl) hys)) r (List.mem_of_mem_take (hl24 ▸ hr))) (fun r hr => Nat.le_trans (hyb r (List.mem_of_mem_take (hl24 ▸ hr))) (by decide))).mono fun _ _ h => ⟨h.1.trans (congrArg Ending.returned (bool_as (decide_eq_true (hsc23.trans (hS.1.trans (by rw [hl24]; exact rls_take _ _)))))), h.2⟩) rfl rfl rfl (want_y 140 rfl rfl rfl) ?_
          refine TL_q (.bool true) (fun _ _ hρ _ => r_pick_t (hρ _ _ rfl) (hρ _ _ rfl)) rfl rfl rfl (w_n rfl) ?_
          refine TL_q (.bool true) (fun _ _ hρ _ => r_assign (hρ _ _ rfl)) rfl rfl rfl (w_n rfl) ?_
          refine TL_seq ?_
          refine T_ret' ?_
          refine ret_of rfl (.bool true) (fun tmps w hk hm => res1 rfl (res_tmp (hk 6 _ rfl))) (fun w hm => ?_)
          exact ⟨rfl, hm.ext⟩
        · skip
          obtain ⟨l25, hl25, hn25⟩ : ∃ lz, lz = (b9).take 4 ∧ lz.length = 4 := ⟨_, rfl, by rw [List.length_take]; omega⟩
          obtain ⟨l26, hl26, hn26⟩ : ∃ lz, lz = (recP q.l).take 4 ∧ lz.length = 4 := ⟨_, rfl, by rw [List.length_take]; omega⟩
          refine T_seq (T_draw (V := [(0, .slice ar13 ((b9).length) cr13), (1, .slice ar13 l25.length cr13), (2, .slice ar12 ((recP q.l).length) cr12), (3, .slice ar12 l26.length cr12)]) [0, 1, 0, 4, 15, 31] [[(16, none)], [(106, some 0)], [(15, none)], [(108, some 2)], [(107, some 1), (109, some 3)], [(110, some 4)]] 16 mixed (by kernel_rfl) ?_)
          refine G_step [0, 1, 2, 3] 4 [] (by kernel_rfl) (allM (all_cons (q_run (.slice ar13 ((b9).length) cr13) rfl rfl (wv_n rfl) rfl (fun _ _ hρ _ => r_move (hρ _ _ rfl))) (all_cons (q_run (.slice ar13 l25.length cr13) rfl rfl (wv_n rfl) rfl (fun ρ _ hρ _ => r_as (r_sliceO sl34 sz5 (hρ _ _ rfl) (bd_none ρ _) (bd_some (n := 4) (hρ _ _ rfl)) (bd_none ρ _) (by simp) (by omega) (by omega) (by omega)) (by rw [hn25]; exact slo_zero _ _ _ _))) (all_cons (q_run (.slice ar12 ((recP q.l).length) cr12) rfl rfl (wv_n rfl) rfl (fun _ _ hρ _ => r_move (hρ _ _ rfl))) (all_cons (q_run (.slice ar12 l26.length cr12) rfl rfl (wv_n rfl) rfl (fun ρ _ hρ _ => r_as (r_sliceO sl34 sz5 (hρ _ _ rfl) (bd_none ρ _) (bd_some (n := 4) (hρ _ _ rfl)) (bd_none ρ _) (by simp) (by omega) (by omega) (by omega)) (by rw [hn26]; exact slo_zero _ _ _ _))) all_nil))))) (allM (all_cons ?_ all_nil))
          refine LOb_call (.bool false) [(5, .bool true)] rfl (wv_n rfl) rfl rfl (fun _ _ hρ _ => r_call (args := [.slice ar13 l25.length cr13, .slice ar12 l26.length cr12]) (enters_of Try.func16 (by kernel_rfl) rfl) (hρ _ _ rfl) ((cons2 (hρ _ _ rfl) (cons2 (hρ _ _ rfl) rfl))) rfl) (fun w hm => (equal_b l25 l26 ar13 ar12 cr13 cr12 w (by have hs := SliceAt.front (l := (b9)) (SliceAt.own byc_len (hm.row 9 rfl) rfl rfl) (n := 4) (m := cr13) (by omega) (by omega) (by omega); rw [← hl25] at hs; exact hs) (by have hs := SliceAt.front (l := (recP q.l)) (SliceAt.own byc_len (hm.row 8 rfl) rfl rfl) (n := 4) (m := cr12) (by omega) (by omega) (by omega); rw [← hl26] at hs; exact hs) (by omega) (by omega)).mono fun _ _ h => ⟨h.1.trans (congrArg Ending.returned (bool_as (decide_eq_false (by rw [hl25, hl26]; exact h4)))), h.2⟩) (by kernel_rfl) ?_
          refine G_last [5] [(6, .bool false), (7, .slice (some ⟨g11, 0, none⟩) ys.length yc), (10, .slice ar7 ((joinP (rls ys)).length) cr7), (13, .int .i64 ((c9 : Nat) : Int)), (14, .slice ar10 ((placesV (joinP (rls ys))).length) cr10), (15, .slice ar12 ((recP q.l).length) cr12), (16, .slice ar13 ((b9).length) cr13), (111, .bool true)] (by kernel_rfl) (allM (all_cons (q_run (.bool true) rfl rfl (wv_n rfl) rfl (fun _ _ hρ _ => r_not (b := false) (hρ _ _ rfl))) all_nil)) (end_old rfl rfl (end_old rfl rfl (end_old rfl rfl (end_old rfl rfl (end_old rfl rfl (end_old rfl rfl (end_old rfl rfl (end_new 5 rfl rfl end_nil)))))))) ?_
          refine T_cond_t rfl ?_
          refine T_seq (T_region ?_)
          refine TL_q (.bool true) (fun _ _ hρ _ => r_assign (hρ _ _ rfl)) rfl rfl rfl (w_n rfl) ?_
          refine TL_seq ?_
          refine T_ret' ?_
          refine p_then_r ?_
          refine ret_of rfl (.bool true) (fun tmps w hk hm => res1 rfl (res_tmp (hk 6 _ rfl))) (fun w hm => ?_)
          exact ⟨rfl, hm.ext⟩
      · skip
        have hb9 : spoilI (recP q.l) bit mask = none := by cases hx9 : spoilI (recP q.l) bit mask with | none => rfl | some b => rw [hx9] at hsp; exact absurd rfl hsp
        refine T_seq (T_region ?_)
        refine TL_q (.slice ar12 ((recP q.l).length) cr12) (fun _ _ hρ _ => r_move (hρ _ _ rfl)) rfl rfl rfl (w_n rfl) ?_
        refine TL_q (.int .i64 bit) (fun _ _ hρ _ => r_move (hρ _ _ rfl)) rfl rfl rfl (w_n rfl) ?_
        refine TL_q (.int .u32 ((mask).toNat : Int)) (fun _ _ hρ _ => r_move (hρ _ _ rfl)) rfl rfl rfl (w_n rfl) ?_
        refine TL_callN (fun (_ : Option Addr × Nat) => True) (fun (ar27, cr27) => .tuple #[.slice ar27 (([] : List By).length) cr27, .int .i64 2]) (fun (ar27, cr27) => [(14, .row (.slice ar27 (([] : List By).length) cr27) 5 1 (([] : List By).length) (([] : List By).flatMap byc))]) (fun _ _ hρ _ => r_call (args := [.slice ar12 ((recP q.l).length) cr12, .int .i64 bit, .int .u32 ((mask).toNat : Int)]) (enters_of Try.func53 (by kernel_rfl) rfl) (hρ _ _ rfl) ((cons2 (hρ _ _ rfl) (cons2 (hρ _ _ rfl) (cons2 (hρ _ _ rfl) rfl)))) rfl) (fun w hm => (spoil_no ar12 cr12 w hb9 (SliceAt.own byc_len (hm.row 8 rfl) rfl rfl) (by omega) (row_cap (hm.row 8 rfl))).mono fun e w' ⟨a', cap', he, hb, hr⟩ => ⟨(a', cap'), trivial, he, hb, newOk1 14 hr⟩) rfl rfl rfl (w_n rfl) ?_
        rintro ⟨ar27, cr27⟩ -
        refine TL_q (.tuple #[.slice ar27 (([] : List By).length) cr27, .int .i64 2]) (fun _ _ hρ _ => r_move (hρ _ _ rfl)) rfl rfl rfl (w_n rfl) ?_
        refine TL_q (.slice ar27 (([] : List By).length) cr27) (fun _ _ hρ _ => r_extract (hρ _ _ rfl) rfl) rfl rfl rfl (w_n rfl) ?_
        refine TL_q (.int .i64 2) (fun _ _ hρ _ => r_extract (hρ _ _ rfl) rfl) rfl rfl rfl (w_n rfl) ?_
        refine TL_q (.slice ar27 (([] : List By).length) cr27) (fun _ _ hρ _ => r_assign (hρ _ _ rfl)) rfl rfl rfl (w_n rfl) ?_
        refine TL_q (.int .i64 2) (fun _ _ hρ _ => r_assign (hρ _ _ rfl)) rfl rfl rfl (w_n rfl) ?_
        refine TL_seq ?_
        refine T_seq ?_
        refine T_seq (T_region ?_)
        refine TL_q (.int .i64 0) (fun _ _ hρ _ => r_move (hρ _ _ rfl)) rfl rfl rfl (w_n rfl) ?_
        refine TL_q (.bool false) (fun _ _ hρ _ => r_as (r_neq (hρ _ _ rfl) (hρ _ _ rfl)) (by rfl)) rfl rfl rfl (w_n rfl) ?_
        refine TL_q (.bool false) (fun _ _ hρ _ => r_move (hρ _ _ rfl)) rfl rfl rfl (w_n rfl) ?_
        refine TL_q (.int .i64 2) (fun _ _ hρ _ => r_move (hρ _ _ rfl)) rfl rfl rfl (want_y 96 rfl rfl rfl) ?_
        refine TL_q (.bool true) (fun _ _ hρ _ => r_as (r_neq (hρ _ _ rfl) (hρ _ _ rfl)) (by rfl)) rfl rfl rfl (want_y 96 rfl rfl rfl) ?_
        refine TL_q (.bool true) (fun _ _ hρ _ => r_pick_f (hρ _ _ rfl) (hρ _ _ rfl)) rfl rfl rfl (w_n rfl) ?_
        refine TL_seq ?_
        refine T_sub [(6, .bool false), (7, .slice (some ⟨g11, 0, none⟩) ys.length yc), (10, .slice ar7 ((joinP (rls ys)).length) cr7), (13, .int .i64 ((c9 : Nat) : Int)), (14, .slice ar10 ((placesV (joinP (rls ys))).length) cr10), (15, .slice ar12 ((recP q.l).length) cr12), (11, .int .i64 0), (16, .slice ar27 (([] : List By).length) cr27), (17, .int .i64 2), (99, .bool true)] [(14, .row (.slice ar27 (([] : List By).length) cr27) 5 1 (([] : List By).length) (([] : List By).flatMap byc)), (8, .row (.slice ar12 ((recP q.l).length) cr12) 5 1 ((recP q.l).length) ((recP q.l).flatMap byc)), (7, .row (.slice ar10 ((placesV (joinP (rls ys))).length) cr10) 3 1 ((placesV (joinP (rls ys))).length) ((placesV (joinP (rls ys))).flatMap nic)), (6, .row (.slice ar9 ((joinP (rls ys)).length) cr9) 5 1 ((joinP (rls ys)).length) ((joinP (rls ys)).flatMap byc)), (5, .row (.slice ar8 ((joinP (rls ys)).length) cr8) 5 1 ((joinP (rls ys)).length) ((joinP (rls ys)).flatMap byc)), (4, .row (.slice ar7 ((joinP (rls ys)).length) cr7) 5 1 ((joinP (rls ys)).length) ((joinP (rls ys)).flatMap byc)), (1, .row (.slice fa1 fl1.length fc1) 34 1 fl1.length (fl1.flatMap RowG.cells)), (2, .pool 5 1 byc fl1), (943, .row (.slice (some ⟨g11, 0, none⟩) ys.length yc) 34 1 ys.length (ys.flatMap RowG.cells))] (sub_cons rfl (sub_cons rfl (sub_cons rfl (sub_cons rfl (sub_cons rfl (sub_cons rfl (sub_cons rfl (sub_cons rfl (sub_cons rfl (sub_cons rfl sub_nil)))))))))) (sub_cons rfl (sub_cons rfl (sub_cons rfl (sub_cons rfl (sub_cons rfl (sub_cons rfl (sub_cons rfl (sub_cons rfl (sub_cons rfl sub_nil))))))))) ?_
        refine T_cond_t rfl ?_
        refine T_seq (T_region ?_)
        refine TL_q (.int .i64 0) (fun _ _ hρ _ => r_move (hρ _ _ rfl)) rfl rfl rfl (w_n rfl) ?_
        refine TL_q (.bool true) (fun _ _ hρ _ => r_as (r_eql (hρ _ _ rfl) (hρ _ _ rfl)) (by rfl)) rfl rfl rfl (w_n rfl) ?_
        refine TL_q (.bool true) (fun _ _ hρ _ => r_move (hρ _ _ rfl)) rfl rfl rfl (w_n rfl) ?_
        refine TL_q (.int .i64 2) (fun _ _ hρ _ => r_move (hρ _ _ rfl)) rfl rfl rfl (want_y 102 rfl rfl rfl) ?_
        refine TL_q (.bool true) (fun _ _ hρ _ => r_as (r_eql (hρ _ _ rfl) (hρ _ _ rfl)) (by rfl)) rfl rfl rfl (want_y 102 rfl rfl rfl) ?_
        refine TL_q (.bool true) (fun _ _ hρ _ => r_pick_t (hρ _ _ rfl) (hρ _ _ rfl)) rfl rfl rfl (w_n rfl) ?_
        refine TL_q (.bool true) (fun _ _ hρ _ => r_assign (hρ _ _ rfl)) rfl rfl rfl (w_n rfl) ?_
        refine TL_seq ?_
        refine T_ret' ?_
        refine p_then_r ?_
        refine ret_of rfl (.bool true) (fun tmps w hk hm => res1 rfl (res_tmp (hk 6 _ rfl))) (fun w hm => ?_)
        exact ⟨rfl, hm.ext⟩
end Go.Proofs.Ytcidgbjgeegepaa
