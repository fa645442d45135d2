/- Texts of this seat, merged: part 5. -/
import Derived.Test.YtcidgbjgeegepaaMg4
/- net and journal: NetSends. Printed by a program of this seat's prover. -/
namespace Go.Proofs.Ytcidgbjgeegepaa
open Go Go.RowKit
set_option maxRecDepth 10000
theorem few_le10 {ls xs : List Pcl} (h : pvs ls = fewV (pvs xs)) (hx : xs.length ≤ 10) : ls.length ≤ 10 := by
  have := congrArg List.length h
  rw [pvs_len] at this
  unfold fewV at this
  rw [List.length_map, List.length_take, pvs_len] at this
  omega
theorem few_eq {l m a b : List Pcl} (h : pvs l = fewV (pvs a)) (h2 : pvs m = fewV (pvs b)) (e : a = b) : pvs l = pvs m := by rw [h, h2, e]
theorem puts_whole {n : NV} {l : List Pcl} : putsV n ((pvs l).take l.length) = putsV n (pvs l) := by rw [← pvs_len l, List.take_length]
theorem puts_next {n : NV} {l : List Pcl} {k : Nat} {p : Pcl} {x y : NV} (h : x = putsV n ((pvs l).take k)) (hp : l[k]? = some p) (hy : y = putV x p.pv) : y = putsV n ((pvs l).take (k + 1)) := by rw [putsV_step (pvs_get hp), ← h]; exact hy
theorem put_lo {x : NV} {l : List PV} {lo : Int} {p : PV} (h : (l, lo) = putV x p) (h0 : 0 ≤ x.2) : 0 ≤ lo := by
  have e : lo = (putV x p).2 := congrArg (·.2) h
  rw [e]; unfold putV
  split
  · exact h0
  · split
    · show 0 ≤ x.2 + 1; omega
    · exact h0

set_option maxHeartbeats 2000000 in
theorem nsends_c (xs : List Pcl) (a : Option Addr) (cap : Nat) (lost : Int) (ys : List Pcl) (b : Option Addr) (capb : Nat) (lost2 : Int) (zs : List Pcl) (c : Option Addr) (capc : Nat) (w : World) (hv : SliceAt w a cap 3 Pcl.cells xs) (hcap : cap ≤ Go.maxLen) (hx : PcsIn w xs) (hu : SliceAt w b capb 3 Pcl.cells ys) (hcapb : capb ≤ Go.maxLen) (hy : PcsIn w ys) (hz : SliceAt w c capc 3 Pcl.cells zs) (hcapc : capc ≤ Go.maxLen) (hz9 : PcsIn w zs) (h0 : 0 ≤ lost) : Calls Try.prog 5 #[.agg #[.slice a xs.length cap, .int .u64 lost], .agg #[.slice b ys.length capb, .int .u64 lost2], .slice c zs.length capc] w fun e w' => e = .returned (.bool true) ∧ Below w.heap.size w w' := by
  have hvl := hv.1
  have hul := hu.1
  have hzl := hz.1
  have hcp1 := hcap
  have hcp2 := hcapb
  have hcp3 := hcapc
  unfold Go.maxLen at hcp1 hcp2 hcp3
  refine calls_of_T (l := [.agg #[.slice a xs.length cap, .int .u64 lost], .agg #[.slice b ys.length capb, .int .u64 lost2], .slice c zs.length capc]) 170 Try.func5 rfl rfl rfl ?_
  show T _ _ _ [(0, .agg #[.slice a xs.length cap, .int .u64 lost]), (1, .agg #[.slice b ys.length capb, .int .u64 lost2]), (2, .slice c zs.length capc)] []
  refine T_seq (T_region ?_)
  refine TL_new 1 (.cells #[.slice a xs.length cap, .int .u64 lost] 27) (fun B => .pointer (some ⟨B, 0, none⟩)) (fun _ _ hρ _ => r_box (hρ _ _ rfl) rfl) rfl rfl rfl (w_n rfl) ?_
  intro B1
  refine TL_new 2 (.cells #[.slice b ys.length capb, .int .u64 lost2] 27) (fun B => .pointer (some ⟨B, 0, none⟩)) (fun _ _ hρ _ => r_box (hρ _ _ rfl) rfl) rfl rfl rfl (w_n rfl) ?_
  intro B2
  refine TL_q (.bool false) (fun _ _ hρ _ => r_assign (hρ _ _ rfl)) rfl rfl rfl (w_n rfl) ?_
  refine TL_seq ?_
  refine T_seq ?_
  refine T_seq (T_region ?_)
  refine TL_call (.bool true) (fun _ _ hρ _ => r_call (args := []) (enters_of Try.func11 (by kernel_rfl) rfl) (hρ _ _ rfl) (by rfl) rfl) (fun w _ => nwakes_c w) rfl rfl rfl (w_n rfl) ?_
  refine TL_q (.bool false) (fun _ _ hρ _ => r_not (b := true) (hρ _ _ rfl)) rfl rfl rfl (w_n rfl) ?_
  refine TL_seq ?_
  refine T_cond_f rfl ?_
  refine T_skip' ?_
  refine p_seq ?_
  obtain ⟨l3, hl3, hn3⟩ : ∃ lz, lz = zs.take (min zs.length 10) ∧ lz.length = min zs.length 10 := ⟨_, rfl, by rw [List.length_take]; omega⟩
  have hs3 := SliceAt.front hz (n := min zs.length 10) (m := capc) (by omega) (by omega) (by omega)
  rw [← hl3] at hs3
  refine T_join (ι := NetR × (List (RowG By)) × NetR × (List (RowG By)) × NetR × (List (RowG By)) × Nat × Nat) (fun (z : NetR × (List (RowG By)) × NetR × (List (RowG By)) × NetR × (List (RowG By)) × Nat × Nat) => match z with | (n1, b1, n2, b2, n3, b3, Bx10, Bx11) => (pvs n1.l = fewV (pvs xs) ∧ InB b1 n1.l) ∧ (pvs n2.l = fewV (pvs ys) ∧ InB b2 n2.l) ∧ (pvs n3.l = fewV (pvs l3) ∧ InB b3 n3.l) ∧ True) (fun (z : NetR × (List (RowG By)) × NetR × (List (RowG By)) × NetR × (List (RowG By)) × Nat × Nat) => match z with | (n1, b1, n2, b2, n3, b3, Bx10, Bx11) => [(2, .slice c zs.length capc), (3, .pointer (some ⟨B1, 0, none⟩)), (6, .bool false), (7, .pointer (some ⟨Bx10, 0, none⟩)), (8, .pointer (some ⟨Bx11, 0, none⟩)), (9, .slice n3.a n3.l.length n3.cap)]) (fun (z : NetR × (List (RowG By)) × NetR × (List (RowG By)) × NetR × (List (RowG By)) × Nat × Nat) => match z with | (n1, b1, n2, b2, n3, b3, Bx10, Bx11) => [(1, .blk B1 (.cells #[.slice a xs.length cap, .int .u64 lost] 27)), (2, .blk B2 (.cells #[.slice b ys.length capb, .int .u64 lost2] 27)), (3, .blk Bx10 (.cells #[.slice n1.a n1.l.length n1.cap, .int .u64 lost] 27)), (4, .blk Bx11 (.cells #[.slice n2.a n2.l.length n2.cap, .int .u64 lost2] 27)), (960, .row (.slice n1.a n1.l.length n1.cap) 36 3 n1.l.length (n1.l.flatMap Pcl.cells)), (961, .pool 5 1 byc b1), (962, .row (.slice n2.a n2.l.length n2.cap) 36 3 n2.l.length (n2.l.flatMap Pcl.cells)), (963, .pool 5 1 byc b2), (964, .row (.slice n3.a n3.l.length n3.cap) 36 3 n3.l.length (n3.l.flatMap Pcl.cells)), (965, .pool 5 1 byc b3)]) (T_draw (V := [(0, .agg #[.slice a xs.length cap, .int .u64 lost]), (2, .agg #[.slice b ys.length capb, .int .u64 lost2]), (4, .slice c zs.length capc), (5, .slice c zs.length capc), (6, .int .i64 ((zs.length : Nat) : Int)), (7, .int .i64 ((min zs.length 10 : Nat) : Int)), (8, .slice c l3.length capc)]) [0, 1, 0, 7, 0, 0, 32, 96, 240, 511, 0, 0, 4095, 8191, 16383] [[(3, none)], [(27, some 0)], [(4, none)], [(29, some 2)], [(2, none)], [(2, none)], [(32, some 5)], [(33, some 6)], [(31, some 4), (34, some 7)], [(35, some 8)], [], [], [(7, some 10), (28, some 1)], [(8, some 11), (30, some 3)], [(36, some 9)]] 15882 mixed (by kernel_rfl) ?_) (fun z hz => ?_)
  · skip
    refine G_step [0, 2, 4, 5, 6, 7, 8] 1 [10, 11] (by kernel_rfl) (allM (all_cons (q_run (.agg #[.slice a xs.length cap, .int .u64 lost]) rfl rfl (wv_n rfl) rfl (fun _ _ hρ hm => r_loadA ag27 sz27 (hρ _ _ rfl) (hm.at 1 rfl) rfl rfl)) (all_cons (q_run (.agg #[.slice b ys.length capb, .int .u64 lost2]) rfl rfl (wv_n rfl) rfl (fun _ _ hρ hm => r_loadA ag27 sz27 (hρ _ _ rfl) (hm.at 2 rfl) rfl rfl)) (all_cons (q_run (.slice c zs.length capc) rfl rfl (wv_n rfl) rfl (fun _ _ hρ _ => r_move (hρ _ _ rfl))) (all_cons (q_run (.slice c zs.length capc) rfl rfl (wv_n rfl) rfl (fun _ _ hρ _ => r_move (hρ _ _ rfl))) (all_cons (q_run (.int .i64 ((zs.length : Nat) : Int)) rfl rfl (wv_n rfl) rfl (fun _ _ hρ _ => r_len sl22 (hρ _ _ rfl))) (all_cons (q_run (.int .i64 ((min zs.length 10 : Nat) : Int)) rfl rfl (wv_n rfl) rfl (fun _ _ hρ _ => r_as (r_min (hρ _ _ rfl) (hρ _ _ rfl)) (int_as (minI _ 10)))) (all_cons (q_run (.slice c l3.length capc) rfl rfl (wv_n rfl) rfl (fun ρ _ hρ _ => r_as (r_sliceO sl22 sz36 (hρ _ _ rfl) (bd_none ρ _) (bd_some (n := min zs.length 10) (hρ _ _ rfl)) (bd_none ρ _) (by simp) (by omega) (by omega) (by omega)) (by rw [hn3]; exact slo_zero _ _ _ _))) all_nil)))))))) (allM (all_cons ?_ (all_cons ?_ (all_cons ?_ all_nil))))
    · skip
      refine LOb_callN (fun ((n1, b1) : NetR × List (RowG By)) => pvs n1.l = fewV (pvs xs) ∧ InB b1 n1.l) (fun (n1, b1) => .agg #[.slice n1.a n1.l.length n1.cap, .int .u64 lost]) (fun (n1, b1) => [(960, .row (.slice n1.a n1.l.length n1.cap) 36 3 n1.l.length (n1.l.flatMap Pcl.cells)), (961, .pool 5 1 byc b1)]) (fun (n1, b1) => []) rfl (wv_n rfl) rfl rfl (fun _ _ hρ _ => r_call (args := [.agg #[.slice a xs.length cap, .int .u64 lost]]) (enters_of Try.func20 (by kernel_rfl) rfl) (hρ _ _ rfl) ((cons2 (hρ _ _ rfl) rfl)) rfl) (fun w hm => (own_c xs a cap lost w (hv.keep hm.ext) hcap (fun p hp => ⟨(hx p hp).1.keep hm.ext, (hx p hp).2⟩)).mono fun e w' ⟨n, bs, hf, hi, he, hb, r1, r2, hs⟩ => ⟨(n, bs), ⟨hf, hi⟩, he, hb, newOk2 960 961 r1 r2 hs⟩) (fun (n1, b1) => by kernel_rfl) ?_
      rintro ⟨n1, b1⟩ hfn1
      refine G_step [2, 4, 5, 6, 7, 8] 3 [10, 11] (by kernel_rfl) (allM (all_cons (q_run (.agg #[.slice b ys.length capb, .int .u64 lost2]) rfl rfl (wv_n rfl) rfl (fun _ _ hρ hm => r_loadA ag27 sz27 (hρ _ _ rfl) (hm.at 2 rfl) rfl rfl)) (all_cons (q_run (.slice c zs.length capc) rfl rfl (wv_n rfl) rfl (fun _ _ hρ _ => r_move (hρ _ _ rfl))) (all_cons (q_run (.slice c zs.length capc) rfl rfl (wv_n rfl) rfl (fun _ _ hρ _ => r_move (hρ _ _ rfl))) (all_cons (q_run (.int .i64 ((zs.length : Nat) : Int)) rfl rfl (wv_n rfl) rfl (fun _ _ hρ _ => r_len sl22 (hρ _ _ rfl))) (all_cons (q_run (.int .i64 ((min zs.length 10 : Nat) : Int)) rfl rfl (wv_n rfl) rfl (fun _ _ hρ _ => r_as (r_min (hρ _ _ rfl) (hρ _ _ rfl)) (int_as (minI _ 10)))) (all_cons (q_run (.slice c l3.length capc) rfl rfl (wv_n rfl) rfl (fun ρ _ hρ _ => r_as (r_sliceO sl22 sz36 (hρ _ _ rfl) (bd_none ρ _) (bd_some (n := min zs.length 10) (hρ _ _ rfl)) (bd_none ρ _) (by simp) (by omega) (by omega) (by omega)) (by rw [hn3]; exact slo_zero _ _ _ _))) all_nil))))))) (allM (all_cons ?_ (all_cons ?_ (all_cons ?_ all_nil))))
      · skip
        refine LOb_callN (fun ((n2, b2) : NetR × List (RowG By)) => pvs n2.l = fewV (pvs ys) ∧ InB b2 n2.l) (fun (n2, b2) => .agg #[.slice n2.a n2.l.length n2.cap, .int .u64 lost2]) (fun (n2, b2) => [(962, .row (.slice n2.a n2.l.length n2.cap) 36 3 n2.l.length (n2.l.flatMap Pcl.cells)), (963, .pool 5 1 byc b2)]) (fun (n2, b2) => []) rfl (wv_n rfl) rfl rfl (fun _ _ hρ _ => r_call (args := [.agg #[.slice b ys.length capb, .int .u64 lost2]]) (enters_of Try.func20 (by kernel_rfl) rfl) (hρ _ _ rfl) ((cons2 (hρ _ _ rfl) rfl)) rfl) (fun w hm => (own_c ys b capb lost2 w (hu.keep hm.ext) hcapb (fun p hp => ⟨(hy p hp).1.keep hm.ext, (hy p hp).2⟩)).mono fun e w' ⟨n, bs, hf, hi, he, hb, r1, r2, hs⟩ => ⟨(n, bs), ⟨hf, hi⟩, he, hb, newOk2 962 963 r1 r2 hs⟩) (fun (n2, b2) => by kernel_rfl) ?_
        rintro ⟨n2, b2⟩ hfn2
        refine G_step [4, 5, 6, 7, 8] 9 [10, 11] (by kernel_rfl) (allM (all_cons (q_run (.slice c zs.length capc) rfl rfl (wv_n rfl) rfl (fun _ _ hρ _ => r_move (hρ _ _ rfl))) (all_cons (q_run (.slice c zs.length capc) rfl rfl (wv_n rfl) rfl (fun _ _ hρ _ => r_move (hρ _ _ rfl))) (all_cons (q_run (.int .i64 ((zs.length : Nat) : Int)) rfl rfl (wv_n rfl) rfl (fun _ _ hρ _ => r_len sl22 (hρ _ _ rfl))) (all_cons (q_run (.int .i64 ((min zs.length 10 : Nat) : Int)) rfl rfl (wv_n rfl) rfl (fun _ _ hρ _ => r_as (r_min (hρ _ _ rfl) (hρ _ _ rfl)) (int_as (minI _ 10)))) (all_cons (q_run (.slice c l3.length capc) rfl rfl (wv_n rfl) rfl (fun ρ _ hρ _ => r_as (r_sliceO sl22 sz36 (hρ _ _ rfl) (bd_none ρ _) (bd_some (n := min zs.length 10) (hρ _ _ rfl)) (bd_none ρ _) (by simp) (by omega) (by omega) (by omega)) (by rw [hn3]; exact slo_zero _ _ _ _))) all_nil)))))) (allM (all_cons ?_ (all_cons ?_ (all_cons ?_ all_nil))))
        · skip
          refine LOb_callN (fun ((n3, b3) : NetR × List (RowG By)) => pvs n3.l = fewV (pvs l3) ∧ InB b3 n3.l) (fun (n3, b3) => .slice n3.a n3.l.length n3.cap) (fun (n3, b3) => [(964, .row (.slice n3.a n3.l.length n3.cap) 36 3 n3.l.length (n3.l.flatMap Pcl.cells)), (965, .pool 5 1 byc b3)]) (fun (n3, b3) => []) rfl (wv_n rfl) rfl rfl (fun _ _ hρ _ => r_call (args := [.slice c l3.length capc]) (enters_of Try.func12 (by kernel_rfl) rfl) (hρ _ _ rfl) ((cons2 (hρ _ _ rfl) rfl)) rfl) (fun w hm => (few_c l3 c capc w (hs3.keep hm.ext) (by omega) (fun p hp => (fun h9 => ⟨(hz9 p h9).1.keep hm.ext, (hz9 p h9).2⟩) (by rw [hl3] at hp; exact List.mem_of_mem_take hp))).mono fun e w' ⟨n, bs, hf, hi, he, hb, r1, r2, hs⟩ => ⟨(n, bs), ⟨hf, hi⟩, he, hb, newOk2 964 965 r1 r2 hs⟩) (fun (n3, b3) => by kernel_rfl) ?_
          rintro ⟨n3, b3⟩ hfn3
          refine G_step [] 10 [11] (by kernel_rfl) (allM all_nil) (allM (all_cons ?_ (all_cons ?_ all_nil)))
          · skip
            refine LOb_new 3 (.cells #[.slice none 0 0, .int .u64 0] 27) (fun B => .pointer (some ⟨B, 0, none⟩)) (fun B => []) rfl (wv_n rfl) rfl rfl (fun _ _ _ _ => r_alloc (v := .agg #[.slice none 0 0, .int .u64 0]) (by kernel_rfl) rfl) (fun B => by kernel_rfl) ?_
            intro B4
            refine G_step [] 11 [] (by kernel_rfl) (allM all_nil) (allM (all_cons ?_ all_nil))
            refine LOb_new 4 (.cells #[.slice none 0 0, .int .u64 0] 27) (fun B => .pointer (some ⟨B, 0, none⟩)) (fun B => []) rfl (wv_n rfl) rfl rfl (fun _ _ _ _ => r_alloc (v := .agg #[.slice none 0 0, .int .u64 0]) (by kernel_rfl) rfl) (fun B => by kernel_rfl) ?_
            intro B5
            refine G_step [] 12 [] (by kernel_rfl) (allM all_nil) (allM (all_cons ?_ all_nil))
            refine LOb_store 3 (.cells #[.slice n1.a n1.l.length n1.cap, .int .u64 lost] 27) [] rfl (wv_n rfl) rfl rfl rfl (fun _ _ hρ hm => r_store sz27 (hρ _ _ rfl) (hρ _ _ rfl) (hm.at 3 rfl) rfl rfl rfl rfl) (by kernel_rfl) ?_
            refine G_step [] 13 [] (by kernel_rfl) (allM all_nil) (allM (all_cons ?_ all_nil))
            refine LOb_store 4 (.cells #[.slice n2.a n2.l.length n2.cap, .int .u64 lost2] 27) [(14, .slice n3.a n3.l.length n3.cap)] rfl (wv_n rfl) rfl rfl rfl (fun _ _ hρ hm => r_store sz27 (hρ _ _ rfl) (hρ _ _ rfl) (hm.at 4 rfl) rfl rfl rfl rfl) (by kernel_rfl) ?_
            exact G_lastQ [14] [(2, .slice c zs.length capc), (3, .pointer (some ⟨B1, 0, none⟩)), (6, .bool false), (7, .pointer (some ⟨B4, 0, none⟩)), (8, .pointer (some ⟨B5, 0, none⟩)), (9, .slice n3.a n3.l.length n3.cap)] (by kernel_rfl) (allM (all_cons (q_run (.slice n3.a n3.l.length n3.cap) rfl rfl (wv_n rfl) rfl (fun _ _ hρ _ => r_assign (hρ _ _ rfl))) all_nil)) (end_old rfl rfl (end_old rfl rfl (end_old rfl rfl (end_new 10 rfl rfl (end_new 11 rfl rfl (end_new 14 rfl rfl end_nil)))))) (fun a w hf hm => At_intro (n1, b1, n2, b2, n3, b3, B4, B5) ⟨hfn1, hfn2, hfn3, trivial⟩ hf hm (sub_cons rfl (sub_cons rfl (sub_cons rfl (sub_cons rfl (sub_cons rfl (sub_cons rfl sub_nil)))))) (sub_cons rfl (sub_cons rfl (sub_cons rfl (sub_cons rfl (sub_cons rfl (sub_cons rfl (sub_cons rfl (sub_cons rfl (sub_cons rfl (sub_cons rfl sub_nil)))))))))))
          · skip
            refine LOb_new 4 (.cells #[.slice none 0 0, .int .u64 0] 27) (fun B => .pointer (some ⟨B, 0, none⟩)) (fun B => []) rfl (wv_n rfl) rfl rfl (fun _ _ _ _ => r_alloc (v := .agg #[.slice none 0 0, .int .u64 0]) (by kernel_rfl) rfl) (fun B => by kernel_rfl) ?_
            intro B6
            refine G_step [] 10 [] (by kernel_rfl) (allM all_nil) (allM (all_cons ?_ all_nil))
            refine LOb_new 3 (.cells #[.slice none 0 0, .int .u64 0] 27) (fun B => .pointer (some ⟨B, 0, none⟩)) (fun B => []) rfl (wv_n rfl) rfl rfl (fun _ _ _ _ => r_alloc (v := .agg #[.slice none 0 0, .int .u64 0]) (by kernel_rfl) rfl) (fun B => by kernel_rfl) ?_
            intro B7
            refine G_step [] 12 [] (by kernel_rfl) (allM all_nil) (allM (all_cons ?_ all_nil))
            refine LOb_store 3 (.cells #[.slice n1.a n1.l.length n1.cap, .int .u64 lost] 27) [] rfl (wv_n rfl) rfl rfl rfl (fun _ _ hρ hm => r_store sz27 (hρ _ _ rfl) (hρ _ _ rfl) (hm.at 3 rfl) rfl rfl rfl rfl) (by kernel_rfl) ?_
            refine G_step [] 13 [] (by kernel_rfl) (allM all_nil) (allM (all_cons ?_ all_nil))
            refine LOb_store 4 (.cells #[.slice n2.a n2.l.length n2.cap, .int .u64 lost2] 27) [(14, .slice n3.a n3.l.length n3.cap)] rfl (wv_n rfl) rfl rfl rfl (fun _ _ hρ hm => r_store sz27 (hρ _ _ rfl) (hρ _ _ rfl) (hm.at 4 rfl) rfl rfl rfl rfl) (by kernel_rfl) ?_
            exact G_lastQ [14] [(2, .slice c zs.length capc), (3, .pointer (some ⟨B1, 0, none⟩)), (6, .bool false), (7, .pointer (some ⟨B7, 0, none⟩)), (8, .pointer (some ⟨B6, 0, none⟩)), (9, .slice n3.a n3.l.length n3.cap)] (by kernel_rfl) (allM (all_cons (q_run (.slice n3.a n3.l.length n3.cap) rfl rfl (wv_n rfl) rfl (fun _ _ hρ _ => r_assign (hρ _ _ rfl))) all_nil)) (end_old rfl rfl (end_old rfl rfl (end_old rfl rfl (end_new 10 rfl rfl (end_new 11 rfl rfl (end_new 14 rfl rfl end_nil)))))) (fun a w hf hm => At_intro (n1, b1, n2, b2, n3, b3, B7, B6) ⟨hfn1, hfn2, hfn3, trivial⟩ hf hm (sub_cons rfl (sub_cons rfl (sub_cons rfl (sub_cons rfl (sub_cons rfl (sub_cons rfl sub_nil)))))) (sub_cons rfl (sub_cons rfl (sub_cons rfl (sub_cons rfl (sub_cons rfl (sub_cons rfl (sub_cons rfl (sub_cons rfl (sub_cons rfl (sub_cons rfl sub_nil)))))))))))
        · skip
          refine LOb_new 3 (.cells #[.slice none 0 0, .int .u64 0] 27) (fun B => .pointer (some ⟨B, 0, none⟩)) (fun B => []) rfl (wv_n rfl) rfl rfl (fun _ _ _ _ => r_alloc (v := .agg #[.slice none 0 0, .int .u64 0]) (by kernel_rfl) rfl) (fun B => by kernel_rfl) ?_
          intro B8
          refine G_step [4, 5, 6, 7, 8] 9 [11] (by kernel_rfl) (allM (all_cons (q_run (.slice c zs.length capc) rfl rfl (wv_n rfl) rfl (fun _ _ hρ _ => r_move (hρ _ _ rfl))) (all_cons (q_run (.slice c zs.length capc) rfl rfl (wv_n rfl) rfl (fun _ _ hρ _ => r_move (hρ _ _ rfl))) (all_cons (q_run (.int .i64 ((zs.length : Nat) : Int)) rfl rfl (wv_n rfl) rfl (fun _ _ hρ _ => r_len sl22 (hρ _ _ rfl))) (all_cons (q_run (.int .i64 ((min zs.length 10 : Nat) : Int)) rfl rfl (wv_n rfl) rfl (fun _ _ hρ _ => r_as (r_min (hρ _ _ rfl) (hρ _ _ rfl)) (int_as (minI _ 10)))) (all_cons (q_run (.slice c l3.length capc) rfl rfl (wv_n rfl) rfl (fun ρ _ hρ _ => r_as (r_sliceO sl22 sz36 (hρ _ _ rfl) (bd_none ρ _) (bd_some (n := min zs.length 10) (hρ _ _ rfl)) (bd_none ρ _) (by simp) (by omega) (by omega) (by omega)) (by rw [hn3]; exact slo_zero _ _ _ _))) all_nil)))))) (allM (all_cons ?_ (all_cons ?_ all_nil)))
          · skip
            refine LOb_callN (fun ((n3, b3) : NetR × List (RowG By)) => pvs n3.l = fewV (pvs l3) ∧ InB b3 n3.l) (fun (n3, b3) => .slice n3.a n3.l.length n3.cap) (fun (n3, b3) => [(964, .row (.slice n3.a n3.l.length n3.cap) 36 3 n3.l.length (n3.l.flatMap Pcl.cells)), (965, .pool 5 1 byc b3)]) (fun (n3, b3) => []) rfl (wv_n rfl) rfl rfl (fun _ _ hρ _ => r_call (args := [.slice c l3.length capc]) (enters_of Try.func12 (by kernel_rfl) rfl) (hρ _ _ rfl) ((cons2 (hρ _ _ rfl) rfl)) rfl) (fun w hm => (few_c l3 c capc w (hs3.keep hm.ext) (by omega) (fun p hp => (fun h9 => ⟨(hz9 p h9).1.keep hm.ext, (hz9 p h9).2⟩) (by rw [hl3] at hp; exact List.mem_of_mem_take hp))).mono fun e w' ⟨n, bs, hf, hi, he, hb, r1, r2, hs⟩ => ⟨(n, bs), ⟨hf, hi⟩, he, hb, newOk2 964 965 r1 r2 hs⟩) (fun (n3, b3) => by kernel_rfl) ?_
            rintro ⟨n3, b3⟩ hfn3
            refine G_step [] 11 [] (by kernel_rfl) (allM all_nil) (allM (all_cons ?_ all_nil))
            refine LOb_new 4 (.cells #[.slice none 0 0, .int .u64 0] 27) (fun B => .pointer (some ⟨B, 0, none⟩)) (fun B => []) rfl (wv_n rfl) rfl rfl (fun _ _ _ _ => r_alloc (v := .agg #[.slice none 0 0, .int .u64 0]) (by kernel_rfl) rfl) (fun B => by kernel_rfl) ?_
            intro B9
            refine G_step [] 12 [] (by kernel_rfl) (allM all_nil) (allM (all_cons ?_ all_nil))
            refine LOb_store 3 (.cells #[.slice n1.a n1.l.length n1.cap, .int .u64 lost] 27) [] rfl (wv_n rfl) rfl rfl rfl (fun _ _ hρ hm => r_store sz27 (hρ _ _ rfl) (hρ _ _ rfl) (hm.at 3 rfl) rfl rfl rfl rfl) (by kernel_rfl) ?_
            refine G_step [] 13 [] (by kernel_rfl) (allM all_nil) (allM (all_cons ?_ all_nil))
            refine LOb_store 4 (.cells #[.slice n2.a n2.l.length n2.cap, .int .u64 lost2] 27) [(14, .slice n3.a n3.l.length n3.cap)] rfl (wv_n rfl) rfl rfl rfl (fun _ _ hρ hm => r_store sz27 (hρ _ _ rfl) (hρ _ _ rfl) (hm.at 4 rfl) rfl rfl rfl rfl) (by kernel_rfl) ?_
            exact G_lastQ [14] [(2, .slice c zs.length capc), (3, .pointer (some ⟨B1, 0, none⟩)), (6, .bool false), (7, .pointer (some ⟨B8, 0, none⟩)), (8, .pointer (some ⟨B9, 0, none⟩)), (9, .slice n3.a n3.l.length n3.cap)] (by kernel_rfl) (allM (all_cons (q_run (.slice n3.a n3.l.length n3.cap) rfl rfl (wv_n rfl) rfl (fun _ _ hρ _ => r_assign (hρ _ _ rfl))) all_nil)) (end_old rfl rfl (end_old rfl rfl (end_old rfl rfl (end_new 10 rfl rfl (end_new 11 rfl rfl (end_new 14 rfl rfl end_nil)))))) (fun a w hf hm => At_intro (n1, b1, n2, b2, n3, b3, B8, B9) ⟨hfn1, hfn2, hfn3, trivial⟩ hf hm (sub_cons rfl (sub_cons rfl (sub_cons rfl (sub_cons rfl (sub_cons rfl (sub_cons rfl sub_nil)))))) (sub_cons rfl (sub_cons rfl (sub_cons rfl (sub_cons rfl (sub_cons rfl (sub_cons rfl (sub_cons rfl (sub_cons rfl (sub_cons rfl (sub_cons rfl sub_nil)))))))))))
          · skip
            refine LOb_new 4 (.cells #[.slice none 0 0, .int .u64 0] 27) (fun B => .pointer (some ⟨B, 0, none⟩)) (fun B => []) rfl (wv_n rfl) rfl rfl (fun _ _ _ _ => r_alloc (v := .agg #[.slice none 0 0, .int .u64 0]) (by kernel_rfl) rfl) (fun B => by kernel_rfl) ?_
            intro B10
            refine G_step [4, 5, 6, 7, 8] 9 [] (by kernel_rfl) (allM (all_cons (q_run (.slice c zs.length capc) rfl rfl (wv_n rfl) rfl (fun _ _ hρ _ => r_move (hρ _ _ rfl))) (all_cons (q_run (.slice c zs.length capc) rfl rfl (wv_n rfl) rfl (fun _ _ hρ _ => r_move (hρ _ _ rfl))) (all_cons (q_run (.int .i64 ((zs.length : Nat) : Int)) rfl rfl (wv_n rfl) rfl (fun _ _ hρ _ => r_len sl22 (hρ _ _ rfl))) (all_cons (q_run (.int .i64 ((min zs.length 10 : Nat) : Int)) rfl rfl (wv_n rfl) rfl (fun _ _ hρ _ => r_as (r_min (hρ _ _ rfl) (hρ _ _ rfl)) (int_as (minI _ 10)))) (all_cons (q_run (.slice c l3.length capc) rfl rfl (wv_n rfl) rfl (fun ρ _ hρ _ => r_as (r_sliceO sl22 sz36 (hρ _ _ rfl) (bd_none ρ _) (bd_some (n := min zs.length 10) (hρ _ _ rfl)) (bd_none ρ _) (by simp) (by omega) (by omega) (by omega)) (by rw [hn3]; exact slo_zero _ _ _ _))) all_nil)))))) (allM (all_cons ?_ all_nil))
            refine LOb_callN (fun ((n3, b3) : NetR × List (RowG By)) => pvs n3.l = fewV (pvs l3) ∧ InB b3 n3.l) (fun (n3, b3) => .slice n3.a n3.l.length n3.cap) (fun (n3, b3) => [(964, .row (.slice n3.a n3.l.length n3.cap) 36 3 n3.l.length (n3.l.flatMap Pcl.cells)), (965, .pool 5 1 byc b3)]) (fun (n3, b3) => []) rfl (wv_n rfl) rfl rfl (fun _ _ hρ _ => r_call (args := [.slice c l3.length capc]) (enters_of Try.func12 (by kernel_rfl) rfl) (hρ _ _ rfl) ((cons2 (hρ _ _ rfl) rfl)) rfl) (fun w hm => (few_c l3 c capc w (hs3.keep hm.ext) (by omega) (fun p hp => (fun h9 => ⟨(hz9 p h9).1.keep hm.ext, (hz9 p h9).2⟩) (by rw [hl3] at hp; exact List.mem_of_mem_take hp))).mono fun e w' ⟨n, bs, hf, hi, he, hb, r1, r2, hs⟩ => ⟨(n, bs), ⟨hf, hi⟩, he, hb, newOk2 964 965 r1 r2 hs⟩) (fun (n3, b3) => by kernel_rfl) ?_
            rintro ⟨n3, b3⟩ hfn3
            refine G_step [] 12 [] (by kernel_rfl) (allM all_nil) (allM (all_cons ?_ all_nil))
            refine LOb_store 3 (.cells #[.slice n1.a n1.l.length n1.cap, .int .u64 lost] 27) [] rfl (wv_n rfl) rfl rfl rfl (fun _ _ hρ hm => r_store sz27 (hρ _ _ rfl) (hρ _ _ rfl) (hm.at 3 rfl) rfl rfl rfl rfl) (by kernel_rfl) ?_
            refine G_step [] 13 [] (by kernel_rfl) (allM all_nil) (allM (all_cons ?_ all_nil))
            refine LOb_store 4 (.cells #[.slice n2.a n2.l.length n2.cap, .int .u64 lost2] 27) [(14, .slice n3.a n3.l.length n3.cap)] rfl (wv_n rfl) rfl rfl rfl (fun _ _ hρ hm => r_store sz27 (hρ _ _ rfl) (hρ _ _ rfl) (hm.at 4 rfl) rfl rfl rfl rfl) (by kernel_rfl) ?_
            exact G_lastQ [14] [(2, .slice c zs.length capc), (3, .pointer (some ⟨B1, 0, none⟩)), (6, .bool false), (7, .pointer (some ⟨B8, 0, none⟩)), (8, .pointer (some ⟨B10, 0, none⟩)), (9, .slice n3.a n3.l.length n3.cap)] (by kernel_rfl) (allM (all_cons (q_run (.slice n3.a n3.l.length n3.cap) rfl rfl (wv_n rfl) rfl (fun _ _ hρ _ => r_assign (hρ _ _ rfl))) all_nil)) (end_old rfl rfl (end_old rfl rfl (end_old rfl rfl (end_new 10 rfl rfl (end_new 11 rfl rfl (end_new 14 rfl rfl end_nil)))))) (fun a w hf hm => At_intro (n1, b1, n2, b2, n3, b3, B8, B10) ⟨hfn1, hfn2, hfn3, trivial⟩ hf hm (sub_cons rfl (sub_cons rfl (sub_cons rfl (sub_cons rfl (sub_cons rfl (sub_cons rfl sub_nil)))))) (sub_cons rfl (sub_cons rfl (sub_cons rfl (sub_cons rfl (sub_cons rfl (sub_cons rfl (sub_cons rfl (sub_cons rfl (sub_cons rfl (sub_cons rfl sub_nil)))))))))))
        · skip
          refine LOb_new 4 (.cells #[.slice none 0 0, .int .u64 0] 27) (fun B => .pointer (some ⟨B, 0, none⟩)) (fun B => []) rfl (wv_n rfl) rfl rfl (fun _ _ _ _ => r_alloc (v := .agg #[.slice none 0 0, .int .u64 0]) (by kernel_rfl) rfl) (fun B => by kernel_rfl) ?_
          intro B11
          refine G_step [4, 5, 6, 7, 8] 9 [10] (by kernel_rfl) (allM (all_cons (q_run (.slice c zs.length capc) rfl rfl (wv_n rfl) rfl (fun _ _ hρ _ => r_move (hρ _ _ rfl))) (all_cons (q_run (.slice c zs.length capc) rfl rfl (wv_n rfl) rfl (fun _ _ hρ _ => r_move (hρ _ _ rfl))) (all_cons (q_run (.int .i64 ((zs.length : Nat) : Int)) rfl rfl (wv_n rfl) rfl (fun _ _ hρ _ => r_len sl22 (hρ _ _ rfl))) (all_cons (q_run (.int .i64 ((min zs.length 10 : Nat) : Int)) rfl rfl (wv_n rfl) rfl (fun _ _ hρ _ => r_as (r_min (hρ _ _ rfl) (hρ _ _ rfl)) (int_as (minI _ 10)))) (all_cons (q_run (.slice c l3.length capc) rfl rfl (wv_n rfl) rfl (fun ρ _ hρ _ => r_as (r_sliceO sl22 sz36 (hρ _ _ rfl) (bd_none ρ _) (bd_some (n := min zs.length 10) (hρ _ _ rfl)) (bd_none ρ _) (by simp) (by omega) (by omega) (by omega)) (by rw [hn3]; exact slo_zero _ _ _ _))) all_nil)))))) (allM (all_cons ?_ (all_cons ?_ all_nil)))
          · skip
            refine LOb_callN (fun ((n3, b3) : NetR × List (RowG By)) => pvs n3.l = fewV (pvs l3) ∧ InB b3 n3.l) (fun (n3, b3) => .slice n3.a n3.l.length n3.cap) (fun (n3, b3) => [(964, .row (.slice n3.a n3.l.length n3.cap) 36 3 n3.l.length (n3.l.flatMap Pcl.cells)), (965, .pool 5 1 byc b3)]) (fun (n3, b3) => []) rfl (wv_n rfl) rfl rfl (fun _ _ hρ _ => r_call (args := [.slice c l3.length capc]) (enters_of Try.func12 (by kernel_rfl) rfl) (hρ _ _ rfl) ((cons2 (hρ _ _ rfl) rfl)) rfl) (fun w hm => (few_c l3 c capc w (hs3.keep hm.ext) (by omega) (fun p hp => (fun h9 => ⟨(hz9 p h9).1.keep hm.ext, (hz9 p h9).2⟩) (by rw [hl3] at hp; exact List.mem_of_mem_take hp))).mono fun e w' ⟨n, bs, hf, hi, he, hb, r1, r2, hs⟩ => ⟨(n, bs), ⟨hf, hi⟩, he, hb, newOk2 964 965 r1 r2 hs⟩) (fun (n3, b3) => by kernel_rfl) ?_
            rintro ⟨n3, b3⟩ hfn3
            refine G_step [] 10 [] (by kernel_rfl) (allM all_nil) (allM (all_cons ?_ all_nil))
            refine LOb_new 3 (.cells #[.slice none 0 0, .int .u64 0] 27) (fun B => .pointer (some ⟨B, 0, none⟩)) (fun B => []) rfl (wv_n rfl) rfl rfl (fun _ _ _ _ => r_alloc (v := .agg #[.slice none 0 0, .int .u64 0]) (by kernel_rfl) rfl) (fun B => by kernel_rfl) ?_
            intro B12
            refine G_step [] 12 [] (by kernel_rfl) (allM all_nil) (allM (all_cons ?_ all_nil))
            refine LOb_store 3 (.cells #[.slice n1.a n1.l.length n1.cap, .int .u64 lost] 27) [] rfl (wv_n rfl) rfl rfl rfl (fun _ _ hρ hm => r_store sz27 (hρ _ _ rfl) (hρ _ _ rfl) (hm.at 3 rfl) rfl rfl rfl rfl) (by kernel_rfl) ?_
            refine G_step [] 13 [] (by kernel_rfl) (allM all_nil) (allM (all_cons ?_ all_nil))
            refine LOb_store 4 (.cells #[.slice n2.a n2.l.length n2.cap, .int .u64 lost2] 27) [(14, .slice n3.a n3.l.length n3.cap)] rfl (wv_n rfl) rfl rfl rfl (fun _ _ hρ hm => r_store sz27 (hρ _ _ rfl) (hρ _ _ rfl) (hm.at 4 rfl) rfl rfl rfl rfl) (by kernel_rfl) ?_
            exact G_lastQ [14] [(2, .slice c zs.length capc), (3, .pointer (some ⟨B1, 0, none⟩)), (6, .bool false), (7, .pointer (some ⟨B12, 0, none⟩)), (8, .pointer (some ⟨B11, 0, none⟩)), (9, .slice n3.a n3.l.length n3.cap)] (by kernel_rfl) (allM (all_cons (q_run (.slice n3.a n3.l.length n3.cap) rfl rfl (wv_n rfl) rfl (fun _ _ hρ _ => r_assign (hρ _ _ rfl))) all_nil)) (end_old rfl rfl (end_old rfl rfl (end_old rfl rfl (end_new 10 rfl rfl (end_new 11 rfl rfl (end_new 14 rfl rfl end_nil)))))) (fun a w hf hm => At_intro (n1, b1, n2, b2, n3, b3, B12, B11) ⟨hfn1, hfn2, hfn3, trivial⟩ hf hm (sub_cons rfl (sub_cons rfl (sub_cons rfl (sub_cons rfl (sub_cons rfl (sub_cons rfl sub_nil)))))) (sub_cons rfl (sub_cons rfl (sub_cons rfl (sub_cons rfl (sub_cons rfl (sub_cons rfl (sub_cons rfl (sub_cons rfl (sub_cons rfl (sub_cons rfl sub_nil)))))))))))
          · skip
            refine LOb_new 3 (.cells #[.slice none 0 0, .int .u64 0] 27) (fun B => .pointer (some ⟨B, 0, none⟩)) (fun B => []) rfl (wv_n rfl) rfl rfl (fun _ _ _ _ => r_alloc (v := .agg #[.slice none 0 0, .int .u64 0]) (by kernel_rfl) rfl) (fun B => by kernel_rfl) ?_
            intro B13
            refine G_step [4, 5, 6, 7, 8] 9 [] (by kernel_rfl) (allM (all_cons (q_run (.slice c zs.length capc) rfl rfl (wv_n rfl) rfl (fun _ _ hρ _ => r_move (hρ _ _ rfl))) (all_cons (q_run (.slice c zs.length capc) rfl rfl (wv_n rfl) rfl (fun _ _ hρ _ => r_move (hρ _ _ rfl))) (all_cons (q_run (.int .i64 ((zs.length : Nat) : Int)) rfl rfl (wv_n rfl) rfl (fun _ _ hρ _ => r_len sl22 (hρ _ _ rfl))) (all_cons (q_run (.int .i64 ((min zs.length 10 : Nat) : Int)) rfl rfl (wv_n rfl) rfl (fun _ _ hρ _ => r_as (r_min (hρ _ _ rfl) (hρ _ _ rfl)) (int_as (minI _ 10)))) (all_cons (q_run (.slice c l3.length capc) rfl rfl (wv_n rfl) rfl (fun ρ _ hρ _ => r_as (r_sliceO sl22 sz36 (hρ _ _ rfl) (bd_none ρ _) (bd_some (n := min zs.length 10) (hρ _ _ rfl)) (bd_none ρ _) (by simp) (by omega) (by omega) (by omega)) (by rw [hn3]; exact slo_zero _ _ _ _))) all_nil)))))) (allM (all_cons ?_ all_nil))
            refine LOb_callN (fun ((n3, b3) : NetR × List (RowG By)) => pvs n3.l = fewV (pvs l3) ∧ InB b3 n3.l) (fun (n3, b3) => .slice n3.a n3.l.length n3.cap) (fun (n3, b3) => [(964, .row (.slice n3.a n3.l.length n3.cap) 36 3 n3.l.length (n3.l.flatMap Pcl.cells)), (965, .pool 5 1 byc b3)]) (fun (n3, b3) => []) rfl (wv_n rfl) rfl rfl (fun _ _ hρ _ => r_call (args := [.slice c l3.length capc]) (enters_of Try.func12 (by kernel_rfl) rfl) (hρ _ _ rfl) ((cons2 (hρ _ _ rfl) rfl)) rfl) (fun w hm => (few_c l3 c capc w (hs3.keep hm.ext) (by omega) (fun p hp => (fun h9 => ⟨(hz9 p h9).1.keep hm.ext, (hz9 p h9).2⟩) (by rw [hl3] at hp; exact List.mem_of_mem_take hp))).mono fun e w' ⟨n, bs, hf, hi, he, hb, r1, r2, hs⟩ => ⟨(n, bs), ⟨hf, hi⟩, he, hb, newOk2 964 965 r1 r2 hs⟩) (fun (n3, b3) => by kernel_rfl) ?_
            rintro ⟨n3, b3⟩ hfn3
            refine G_step [] 12 [] (by kernel_rfl) (allM all_nil) (allM (all_cons ?_ all_nil))
            refine LOb_store 3 (.cells #[.slice n1.a n1.l.length n1.cap, .int .u64 lost] 27) [] rfl (wv_n rfl) rfl rfl rfl (fun _ _ hρ hm => r_store sz27 (hρ _ _ rfl) (hρ _ _ rfl) (hm.at 3 rfl) rfl rfl rfl rfl) (by kernel_rfl) ?_
            refine G_step [] 13 [] (by kernel_rfl) (allM all_nil) (allM (all_cons ?_ all_nil))
            refine LOb_store 4 (.cells #[.slice n2.a n2.l.length n2.cap, .int .u64 lost2] 27) [(14, .slice n3.a n3.l.length n3.cap)] rfl (wv_n rfl) rfl rfl rfl (fun _ _ hρ hm => r_store sz27 (hρ _ _ rfl) (hρ _ _ rfl) (hm.at 4 rfl) rfl rfl rfl rfl) (by kernel_rfl) ?_
            exact G_lastQ [14] [(2, .slice c zs.length capc), (3, .pointer (some ⟨B1, 0, none⟩)), (6, .bool false), (7, .pointer (some ⟨B13, 0, none⟩)), (8, .pointer (some ⟨B11, 0, none⟩)), (9, .slice n3.a n3.l.length n3.cap)] (by kernel_rfl) (allM (all_cons (q_run (.slice n3.a n3.l.length n3.cap) rfl rfl (wv_n rfl) rfl (fun _ _ hρ _ => r_assign (hρ _ _ rfl))) all_nil)) (end_old rfl rfl (end_old rfl rfl (end_old rfl rfl (end_new 10 rfl rfl (end_new 11 rfl rfl (end_new 14 rfl rfl end_nil)))))) (fun a w hf hm => At_intro (n1, b1, n2, b2, n3, b3, B13, B11) ⟨hfn1, hfn2, hfn3, trivial⟩ hf hm (sub_cons rfl (sub_cons rfl (sub_cons rfl (sub_cons rfl (sub_cons rfl (sub_cons rfl sub_nil)))))) (sub_cons rfl (sub_cons rfl (sub_cons rfl (sub_cons rfl (sub_cons rfl (sub_cons rfl (sub_cons rfl (sub_cons rfl (sub_cons rfl (sub_cons rfl sub_nil)))))))))))
      · skip
        refine LOb_new 3 (.cells #[.slice none 0 0, .int .u64 0] 27) (fun B => .pointer (some ⟨B, 0, none⟩)) (fun B => []) rfl (wv_n rfl) rfl rfl (fun _ _ _ _ => r_alloc (v := .agg #[.slice none 0 0, .int .u64 0]) (by kernel_rfl) rfl) (fun B => by kernel_rfl) ?_
        intro B14
        refine G_step [2, 4, 5, 6, 7, 8] 3 [11] (by kernel_rfl) (allM (all_cons (q_run (.agg #[.slice b ys.length capb, .int .u64 lost2]) rfl rfl (wv_n rfl) rfl (fun _ _ hρ hm => r_loadA ag27 sz27 (hρ _ _ rfl) (hm.at 2 rfl) rfl rfl)) (all_cons (q_run (.slice c zs.length capc) rfl rfl (wv_n rfl) rfl (fun _ _ hρ _ => r_move (hρ _ _ rfl))) (all_cons (q_run (.slice c zs.length capc) rfl rfl (wv_n rfl) rfl (fun _ _ hρ _ => r_move (hρ _ _ rfl))) (all_cons (q_run (.int .i64 ((zs.length : Nat) : Int)) rfl rfl (wv_n rfl) rfl (fun _ _ hρ _ => r_len sl22 (hρ _ _ rfl))) (all_cons (q_run (.int .i64 ((min zs.length 10 : Nat) : Int)) rfl rfl (wv_n rfl) rfl (fun _ _ hρ _ => r_as (r_min (hρ _ _ rfl) (hρ _ _ rfl)) (int_as (minI _ 10)))) (all_cons (q_run (.slice c l3.length capc) rfl rfl (wv_n rfl) rfl (fun ρ _ hρ _ => r_as (r_sliceO sl22 sz36 (hρ _ _ rfl) (bd_none ρ _) (bd_some (n := min zs.length 10) (hρ _ _ rfl)) (bd_none ρ _) (by simp) (by omega) (by omega) (by omega)) (by rw [hn3]; exact slo_zero _ _ _ _))) all_nil))))))) (allM (all_cons ?_ (all_cons ?_ all_nil)))
        · skip
          refine LOb_callN (fun ((n2, b2) : NetR × List (RowG By)) => pvs n2.l = fewV (pvs ys) ∧ InB b2 n2.l) (fun (n2, b2) => .agg #[.slice n2.a n2.l.length n2.cap, .int .u64 lost2]) (fun (n2, b2) => [(962, .row (.slice n2.a n2.l.length n2.cap) 36 3 n2.l.length (n2.l.flatMap Pcl.cells)), (963, .pool 5 1 byc b2)]) (fun (n2, b2) => []) rfl (wv_n rfl) rfl rfl (fun _ _ hρ _ => r_call (args := [.agg #[.slice b ys.length capb, .int .u64 lost2]]) (enters_of Try.func20 (by kernel_rfl) rfl) (hρ _ _ rfl) ((cons2 (hρ _ _ rfl) rfl)) rfl) (fun w hm => (own_c ys b capb lost2 w (hu.keep hm.ext) hcapb (fun p hp => ⟨(hy p hp).1.keep hm.ext, (hy p hp).2⟩)).mono fun e w' ⟨n, bs, hf, hi, he, hb, r1, r2, hs⟩ => ⟨(n, bs), ⟨hf, hi⟩, he, hb, newOk2 962 963 r1 r2 hs⟩) (fun (n2, b2) => by kernel_rfl) ?_
          rintro ⟨n2, b2⟩ hfn2
          refine G_step [4, 5, 6, 7, 8] 9 [11] (by kernel_rfl) (allM (all_cons (q_run (.slice c zs.length capc) rfl rfl (wv_n rfl) rfl (fun _ _ hρ _ => r_move (hρ _ _ rfl))) (all_cons (q_run (.slice c zs.length capc) rfl rfl (wv_n rfl) rfl (fun _ _ hρ _ => r_move (hρ _ _ rfl))) (all_cons (q_run (.int .i64 ((zs.length : Nat) : Int)) rfl rfl (wv_n rfl) rfl (fun _ _ hρ _ => r_len sl22 (hρ _ _ rfl))) (all_cons (q_run (.int .i64 ((min zs.length 10 : Nat) : Int)) rfl rfl (wv_n rfl) rfl (fun _ _ hρ _ => r_as (r_min (hρ _ _ rfl) (hρ _ _ rfl)) (int_as (minI _ 10)))) (all_cons (q_run (.slice c l3.length capc) rfl rfl (wv_n rfl) rfl (fun ρ _ hρ _ => r_as (r_sliceO sl22 sz36 (hρ _ _ rfl) (bd_none ρ _) (bd_some (n := min zs.length 10) (hρ _ _ rfl)) (bd_none ρ _) (by simp) (by omega) (by omega) (by omega)) (by rw [hn3]; exact slo_zero _ _ _ _))) all_nil)))))) (allM (all_cons ?_ (all_cons ?_ all_nil)))
          · skip
            refine LOb_callN (fun ((n3, b3) : NetR × List (RowG By)) => pvs n3.l = fewV (pvs l3) ∧ InB b3 n3.l) (fun (n3, b3) => .slice n3.a n3.l.length n3.cap) (fun (n3, b3) => [(964, .row (.slice n3.a n3.l.length n3.cap) 36 3 n3.l.length (n3.l.flatMap Pcl.cells)), (965, .pool 5 1 byc b3)]) (fun (n3, b3) => []) rfl (wv_n rfl) rfl rfl (fun _ _ hρ _ => r_call (args := [.slice c l3.length capc]) (enters_of Try.func12 (by kernel_rfl) rfl) (hρ _ _ rfl) ((cons2 (hρ _ _ rfl) rfl)) rfl) (fun w hm => (few_c l3 c capc w (hs3.keep hm.ext) (by omega) (fun p hp => (fun h9 => ⟨(hz9 p h9).1.keep hm.ext, (hz9 p h9).2⟩) (by rw [hl3] at hp; exact List.mem_of_mem_take hp))).mono fun e w' ⟨n, bs, hf, hi, he, hb, r1, r2, hs⟩ => ⟨(n, bs), ⟨hf, hi⟩, he, hb, newOk2 964 965 r1 r2 hs⟩) (fun (n3, b3) => by kernel_rfl) ?_
            rintro ⟨n3, b3⟩ hfn3
            refine G_step [] 11 [] (by kernel_rfl) (allM all_nil) (allM (all_cons ?_ all_nil))
            refine LOb_new 4 (.cells #[.slice none 0 0, .int .u64 0] 27) (fun B => .pointer (some ⟨B, 0, none⟩)) (fun B => []) rfl (wv_n rfl) rfl rfl (fun _ _ _ _ => r_alloc (v := .agg #[.slice none 0 0, .int .u64 0]) (by kernel_rfl) rfl) (fun B => by kernel_rfl) ?_
            intro B15
            refine G_step [] 12 [] (by kernel_rfl) (allM all_nil) (allM (all_cons ?_ all_nil))
            refine LOb_store 3 (.cells #[.slice n1.a n1.l.length n1.cap, .int .u64 lost] 27) [] rfl (wv_n rfl) rfl rfl rfl (fun _ _ hρ hm => r_store sz27 (hρ _ _ rfl) (hρ _ _ rfl) (hm.at 3 rfl) rfl rfl rfl rfl) (by kernel_rfl) ?_
            refine G_step [] 13 [] (by kernel_rfl) (allM all_nil) (allM (all_cons ?_ all_nil))
            refine LOb_store 4 (.cells #[.slice n2.a n2.l.length n2.cap, .int .u64 lost2] 27) [(14, .slice n3.a n3.l.length n3.cap)] rfl (wv_n rfl) rfl rfl rfl (fun _ _ hρ hm => r_store sz27 (hρ _ _ rfl) (hρ _ _ rfl) (hm.at 4 rfl) rfl rfl rfl rfl) (by kernel_rfl) ?_
            exact G_lastQ [14] [(2, .slice c zs.length capc), (3, .pointer (some ⟨B1, 0, none⟩)), (6, .bool false), (7, .pointer (some ⟨B14, 0, none⟩)), (8, .pointer (some ⟨B15, 0, none⟩)), (9, .slice n3.a n3.l.length n3.cap)] (by kernel_rfl) (allM (all_cons (q_run (.slice n3.a n3.l.length n3.cap) rfl rfl (wv_n rfl) rfl (fun _ _ hρ _ => r_assign (hρ _ _ rfl))) all_nil)) (end_old rfl rfl (end_old rfl rfl (end_old rfl rfl (end_new 10 rfl rfl (end_new 11 rfl rfl (end_new 14 rfl rfl end_nil)))))) (fun a w hf hm => At_intro (n1, b1, n2, b2, n3, b3, B14, B15) ⟨hfn1, hfn2, hfn3, trivial⟩ hf hm (sub_cons rfl (sub_cons rfl (sub_cons rfl (sub_cons rfl (sub_cons rfl (sub_cons rfl sub_nil)))))) (sub_cons rfl (sub_cons rfl (sub_cons rfl (sub_cons rfl (sub_cons rfl (sub_cons rfl (sub_cons rfl (sub_cons rfl (sub_cons rfl (sub_cons rfl sub_nil)))))))))))
          · skip
            refine LOb_new 4 (.cells #[.slice none 0 0, .int .u64 0] 27) (fun B => .pointer (some ⟨B, 0, none⟩)) (fun B => []) rfl (wv_n rfl) rfl rfl (fun _ _ _ _ => r_alloc (v := .agg #[.slice none 0 0, .int .u64 0]) (by kernel_rfl) rfl) (fun B => by kernel_rfl) ?_
            intro B16
            refine G_step [4, 5, 6, 7, 8] 9 [] (by kernel_rfl) (allM (all_cons (q_run (.slice c zs.length capc) rfl rfl (wv_n rfl) rfl (fun _ _ hρ _ => r_move (hρ _ _ rfl))) (all_cons (q_run (.slice c zs.length capc) rfl rfl (wv_n rfl) rfl (fun _ _ hρ _ => r_move (hρ _ _ rfl))) (all_cons (q_run (.int .i64 ((zs.length : Nat) : Int)) rfl rfl (wv_n rfl) rfl (fun _ _ hρ _ => r_len sl22 (hρ _ _ rfl))) (all_cons (q_run (.int .i64 ((min zs.length 10 : Nat) : Int)) rfl rfl (wv_n rfl) rfl (fun _ _ hρ _ => r_as (r_min (hρ _ _ rfl) (hρ _ _ rfl)) (int_as (minI _ 10)))) (all_cons (q_run (.slice c l3.length capc) rfl rfl (wv_n rfl) rfl (fun ρ _ hρ _ => r_as (r_sliceO sl22 sz36 (hρ _ _ rfl) (bd_none ρ _) (bd_some (n := min zs.length 10) (hρ _ _ rfl)) (bd_none ρ _) (by simp) (by omega) (by omega) (by omega)) (by rw [hn3]; exact slo_zero _ _ _ _))) all_nil)))))) (allM (all_cons ?_ all_nil))
            refine LOb_callN (fun ((n3, b3) : NetR × List (RowG By)) => pvs n3.l = fewV (pvs l3) ∧ InB b3 n3.l) (fun (n3, b3) => .slice n3.a n3.l.length n3.cap) (fun (n3, b3) => [(964, .row (.slice n3.a n3.l.length n3.cap) 36 3 n3.l.length (n3.l.flatMap Pcl.cells)), (965, .pool 5 1 byc b3)]) (fun (n3, b3) => []) rfl (wv_n rfl) rfl rfl (fun _ _ hρ _ => r_call (args := [.slice c l3.length capc]) (enters_of Try.func12 (by kernel_rfl) rfl) (hρ _ _ rfl) ((cons2 (hρ _ _ rfl) rfl)) rfl) (fun w hm => (few_c l3 c capc w (hs3.keep hm.ext) (by omega) (fun p hp => (fun h9 => ⟨(hz9 p h9).1.keep hm.ext, (hz9 p h9).2⟩) (by rw [hl3] at hp; exact List.mem_of_mem_take hp))).mono fun e w' ⟨n, bs, hf, hi, he, hb, r1, r2, hs⟩ => ⟨(n, bs), ⟨hf, hi⟩, he, hb, newOk2 964 965 r1 r2 hs⟩) (fun (n3, b3) => by kernel_rfl) ?_
            rintro ⟨n3, b3⟩ hfn3
            refine G_step [] 12 [] (by kernel_rfl) (allM all_nil) (allM (all_cons ?_ all_nil))
            refine LOb_store 3 (.cells #[.slice n1.a n1.l.length n1.cap, .int .u64 lost] 27) [] rfl (wv_n rfl) rfl rfl rfl (fun _ _ hρ hm => r_store sz27 (hρ _ _ rfl) (hρ _ _ rfl) (hm.at 3 rfl) rfl rfl rfl rfl) (by kernel_rfl) ?_
            refine G_step [] 13 [] (by kernel_rfl) (allM all_nil) (allM (all_cons ?_ all_nil))
            refine LOb_store 4 (.cells #[.slice n2.a n2.l.length n2.cap, .int .u64 lost2] 27) [(14, .slice n3.a n3.l.length n3.cap)] rfl (wv_n rfl) rfl rfl rfl (fun _ _ hρ hm => r_store sz27 (hρ _ _ rfl) (hρ _ _ rfl) (hm.at 4 rfl) rfl rfl rfl rfl) (by kernel_rfl) ?_
            exact G_lastQ [14] [(2, .slice c zs.length capc), (3, .pointer (some ⟨B1, 0, none⟩)), (6, .bool false), (7, .pointer (some ⟨B14, 0, none⟩)), (8, .pointer (some ⟨B16, 0, none⟩)), (9, .slice n3.a n3.l.length n3.cap)] (by kernel_rfl) (allM (all_cons (q_run (.slice n3.a n3.l.length n3.cap) rfl rfl (wv_n rfl) rfl (fun _ _ hρ _ => r_assign (hρ _ _ rfl))) all_nil)) (end_old rfl rfl (end_old rfl rfl (end_old rfl rfl (end_new 10 rfl rfl (end_new 11 rfl rfl (end_new 14 rfl rfl end_nil)))))) (fun a w hf hm => At_intro (n1, b1, n2, b2, n3, b3, B14, B16) ⟨hfn1, hfn2, hfn3, trivial⟩ hf hm (sub_cons rfl (sub_cons rfl (sub_cons rfl (sub_cons rfl (sub_cons rfl (sub_cons rfl sub_nil)))))) (sub_cons rfl (sub_cons rfl (sub_cons rfl (sub_cons rfl (sub_cons rfl (sub_cons rfl (sub_cons rfl (sub_cons rfl (sub_cons rfl (sub_cons rfl sub_nil)))))))))))
        · skip
          refine LOb_new 4 (.cells #[.slice none 0 0, .int .u64 0] 27) (fun B => .pointer (some ⟨B, 0, none⟩)) (fun B => []) rfl (wv_n rfl) rfl rfl (fun _ _ _ _ => r_alloc (v := .agg #[.slice none 0 0, .int .u64 0]) (by kernel_rfl) rfl) (fun B => by kernel_rfl) ?_
          intro B17
          refine G_step [2, 4, 5, 6, 7, 8] 3 [] (by kernel_rfl) (allM (all_cons (q_run (.agg #[.slice b ys.length capb, .int .u64 lost2]) rfl rfl (wv_n rfl) rfl (fun _ _ hρ hm => r_loadA ag27 sz27 (hρ _ _ rfl) (hm.at 2 rfl) rfl rfl)) (all_cons (q_run (.slice c zs.length capc) rfl rfl (wv_n rfl) rfl (fun _ _ hρ _ => r_move (hρ _ _ rfl))) (all_cons (q_run (.slice c zs.length capc) rfl rfl (wv_n rfl) rfl (fun _ _ hρ _ => r_move (hρ _ _ rfl))) (all_cons (q_run (.int .i64 ((zs.length : Nat) : Int)) rfl rfl (wv_n rfl) rfl (fun _ _ hρ _ => r_len sl22 (hρ _ _ rfl))) (all_cons (q_run (.int .i64 ((min zs.length 10 : Nat) : Int)) rfl rfl (wv_n rfl) rfl (fun _ _ hρ _ => r_as (r_min (hρ _ _ rfl) (hρ _ _ rfl)) (int_as (minI _ 10)))) (all_cons (q_run (.slice c l3.length capc) rfl rfl (wv_n rfl) rfl (fun ρ _ hρ _ => r_as (r_sliceO sl22 sz36 (hρ _ _ rfl) (bd_none ρ _) (bd_some (n := min zs.length 10) (hρ _ _ rfl)) (bd_none ρ _) (by simp) (by omega) (by omega) (by omega)) (by rw [hn3]; exact slo_zero _ _ _ _))) all_nil))))))) (allM (all_cons ?_ all_nil))
          refine LOb_callN (fun ((n2, b2) : NetR × List (RowG By)) => pvs n2.l = fewV (pvs ys) ∧ InB b2 n2.l) (fun (n2, b2) => .agg #[.slice n2.a n2.l.length n2.cap, .int .u64 lost2]) (fun (n2, b2) => [(962, .row (.slice n2.a n2.l.length n2.cap) 36 3 n2.l.length (n2.l.flatMap Pcl.cells)), (963, .pool 5 1 byc b2)]) (fun (n2, b2) => []) rfl (wv_n rfl) rfl rfl (fun _ _ hρ _ => r_call (args := [.agg #[.slice b ys.length capb, .int .u64 lost2]]) (enters_of Try.func20 (by kernel_rfl) rfl) (hρ _ _ rfl) ((cons2 (hρ _ _ rfl) rfl)) rfl) (fun w hm => (own_c ys b capb lost2 w (hu.keep hm.ext) hcapb (fun p hp => ⟨(hy p hp).1.keep hm.ext, (hy p hp).2⟩)).mono fun e w' ⟨n, bs, hf, hi, he, hb, r1, r2, hs⟩ => ⟨(n, bs), ⟨hf, hi⟩, he, hb, newOk2 962 963 r1 r2 hs⟩) (fun (n2, b2) => by kernel_rfl) ?_
          rintro ⟨n2, b2⟩ hfn2
          refine G_step [4, 5, 6, 7, 8] 9 [] (by kernel_rfl) (allM (all_cons (q_run (.slice c zs.length capc) rfl rfl (wv_n rfl) rfl (fun _ _ hρ _ => r_move (hρ _ _ rfl))) (all_cons (q_run (.slice c zs.length capc) rfl rfl (wv_n rfl) rfl (fun _ _ hρ _ => r_move (hρ _ _ rfl))) (all_cons (q_run (.int .i64 ((zs.length : Nat) : Int)) rfl rfl (wv_n rfl) rfl (fun _ _ hρ _ => r_len sl22 (hρ _ _ rfl))) (all_cons (q_run (.int .i64 ((min zs.length 10 : Nat) : Int)) rfl rfl (wv_n rfl) rfl (fun _ _ hρ _ => r_as (r_min (hρ _ _ rfl) (hρ _ _ rfl)) (int_as (minI _ 10)))) (all_cons (q_run (.slice c l3.length capc) rfl rfl (wv_n rfl) rfl (fun ρ _ hρ _ => r_as (r_sliceO sl22 sz36 (hρ _ _ rfl) (bd_none ρ _) (bd_some (n := min zs.length 10) (hρ _ _ rfl)) (bd_none ρ _) (by simp) (by omega) (by omega) (by omega)) (by rw [hn3]; exact slo_zero _ _ _ _))) all_nil)))))) (allM (all_cons ?_ all_nil))
          refine LOb_callN (fun ((n3, b3) : NetR × List (RowG By)) => pvs n3.l = fewV (pvs l3) ∧ InB b3 n3.l) (fun (n3, b3) => .slice n3.a n3.l.length n3.cap) (fun (n3, b3) => [(964, .row (.slice n3.a n3.l.length n3.cap) 36 3 n3.l.length (n3.l.flatMap Pcl.cells)), (965, .pool 5 1 byc b3)]) (fun (n3, b3) => []) rfl (wv_n rfl) rfl rfl (fun _ _ hρ _ => r_call (args := [.slice c l3.length capc]) (enters_of Try.func12 (by kernel_rfl) rfl) (hρ _ _ rfl) ((cons2 (hρ _ _ rfl) rfl)) rfl) (fun w hm => (few_c l3 c capc w (hs3.keep hm.ext) (by omega) (fun p hp => (fun h9 => ⟨(hz9 p h9).1.keep hm.ext, (hz9 p h9).2⟩) (by rw [hl3] at hp; exact List.mem_of_mem_take hp))).mono fun e w' ⟨n, bs, hf, hi, he, hb, r1, r2, hs⟩ => ⟨(n, bs), ⟨hf, hi⟩, he, hb, newOk2 964 965 r1 r2 hs⟩) (fun (n3, b3) => by kernel_rfl) ?_
          rintro ⟨n3, b3⟩ hfn3
          refine G_step [] 12 [] (by kernel_rfl) (allM all_nil) (allM (all_cons ?_ all_nil))
          refine LOb_store 3 (.cells #[.slice n1.a n1.l.length n1.cap, .int .u64 lost] 27) [] rfl (wv_n rfl) rfl rfl rfl (fun _ _ hρ hm => r_store sz27 (hρ _ _ rfl) (hρ _ _ rfl) (hm.at 3 rfl) rfl rfl rfl rfl) (by kernel_rfl) ?_
          refine G_step [] 13 [] (by kernel_rfl) (allM all_nil) (allM (all_cons ?_ all_nil))
          refine LOb_store 4 (.cells #[.slice n2.a n2.l.length n2.cap, .int .u64 lost2] 27) [(14, .slice n3.a n3.l.length n3.cap)] rfl (wv_n rfl) rfl rfl rfl (fun _ _ hρ hm => r_store sz27 (hρ _ _ rfl) (hρ _ _ rfl) (hm.at 4 rfl) rfl rfl rfl rfl) (by kernel_rfl) ?_
          exact G_lastQ [14] [(2, .slice c zs.length capc), (3, .pointer (some ⟨B1, 0, none⟩)), (6, .bool false), (7, .pointer (some ⟨B14, 0, none⟩)), (8, .pointer (some ⟨B17, 0, none⟩)), (9, .slice n3.a n3.l.length n3.cap)] (by kernel_rfl) (allM (all_cons (q_run (.slice n3.a n3.l.length n3.cap) rfl rfl (wv_n rfl) rfl (fun _ _ hρ _ => r_assign (hρ _ _ rfl))) all_nil)) (end_old rfl rfl (end_old rfl rfl (end_old rfl rfl (end_new 10 rfl rfl (end_new 11 rfl rfl (end_new 14 rfl rfl end_nil)))))) (fun a w hf hm => At_intro (n1, b1, n2, b2, n3, b3, B14, B17) ⟨hfn1, hfn2, hfn3, trivial⟩ hf hm (sub_cons rfl (sub_cons rfl (sub_cons rfl (sub_cons rfl (sub_cons rfl (sub_cons rfl sub_nil)))))) (sub_cons rfl (sub_cons rfl (sub_cons rfl (sub_cons rfl (sub_cons rfl (sub_cons rfl (sub_cons rfl (sub_cons rfl (sub_cons rfl (sub_cons rfl sub_nil)))))))))))
      · skip
        refine LOb_new 4 (.cells #[.slice none 0 0, .int .u64 0] 27) (fun B => .pointer (some ⟨B, 0, none⟩)) (fun B => []) rfl (wv_n rfl) rfl rfl (fun _ _ _ _ => r_alloc (v := .agg #[.slice none 0 0, .int .u64 0]) (by kernel_rfl) rfl) (fun B => by kernel_rfl) ?_
        intro B18
        refine G_step [2, 4, 5, 6, 7, 8] 3 [10] (by kernel_rfl) (allM (all_cons (q_run (.agg #[.slice b ys.length capb, .int .u64 lost2]) rfl rfl (wv_n rfl) rfl (fun _ _ hρ hm => r_loadA ag27 sz27 (hρ _ _ rfl) (hm.at 2 rfl) rfl rfl)) (all_cons (q_run (.slice c zs.length capc) rfl rfl (wv_n rfl) rfl (fun _ _ hρ _ => r_move (hρ _ _ rfl))) (all_cons (q_run (.slice c zs.length capc) rfl rfl (wv_n rfl) rfl (fun _ _ hρ _ => r_move (hρ _ _ rfl))) (all_cons (q_run (.int .i64 ((zs.length : Nat) : Int)) rfl rfl (wv_n rfl) rfl (fun _ _ hρ _ => r_len sl22 (hρ _ _ rfl))) (all_cons (q_run (.int .i64 ((min zs.length 10 : Nat) : Int)) rfl rfl (wv_n rfl) rfl (fun _ _ hρ _ => r_as (r_min (hρ _ _ rfl) (hρ _ _ rfl)) (int_as (minI _ 10)))) (all_cons (q_run (.slice c l3.length capc) rfl rfl (wv_n rfl) rfl (fun ρ _ hρ _ => r_as (r_sliceO sl22 sz36 (hρ _ _ rfl) (bd_none ρ _) (bd_some (n := min zs.length 10) (hρ _ _ rfl)) (bd_none ρ _) (by simp) (by omega) (by omega) (by omega)) (by rw [hn3]; exact slo_zero _ _ _ _))) all_nil))))))) (allM (all_cons ?_ (all_cons ?_ all_nil)))
        · skip
          refine LOb_callN (fun ((n2, b2) : NetR × List (RowG By)) => pvs n2.l = fewV (pvs ys) ∧ InB b2 n2.l) (fun (n2, b2) => .agg #[.slice n2.a n2.l.length n2.cap, .int .u64 lost2]) (fun (n2, b2) => [(962, .row (.slice n2.a n2.l.length n2.cap) 36 3 n2.l.length (n2.l.flatMap Pcl.cells)), (963, .pool 5 1 byc b2)]) (fun (n2, b2) => []) rfl (wv_n rfl) rfl rfl (fun _ _ hρ _ => r_call (args := [.agg #[.slice b ys.length capb, .int .u64 lost2]]) (enters_of Try.func20 (by kernel_rfl) rfl) (hρ _ _ rfl) ((cons2 (hρ _ _ rfl) rfl)) rfl) (fun w hm => (own_c ys b capb lost2 w (hu.keep hm.ext) hcapb (fun p hp => ⟨(hy p hp).1.keep hm.ext, (hy p hp).2⟩)).mono fun e w' ⟨n, bs, hf, hi, he, hb, r1, r2, hs⟩ => ⟨(n, bs), ⟨hf, hi⟩, he, hb, newOk2 962 963 r1 r2 hs⟩) (fun (n2, b2) => by kernel_rfl) ?_
          rintro ⟨n2, b2⟩ hfn2
          refine G_step [4, 5, 6, 7, 8] 9 [10] (by kernel_rfl) (allM (all_cons (q_run (.slice c zs.length capc) rfl rfl (wv_n rfl) rfl (fun _ _ hρ _ => r_move (hρ _ _ rfl))) (all_cons (q_run (.slice c zs.length capc) rfl rfl (wv_n rfl) rfl (fun _ _ hρ _ => r_move (hρ _ _ rfl))) (all_cons (q_run (.int .i64 ((zs.length : Nat) : Int)) rfl rfl (wv_n rfl) rfl (fun _ _ hρ _ => r_len sl22 (hρ _ _ rfl))) (all_cons (q_run (.int .i64 ((min zs.length 10 : Nat) : Int)) rfl rfl (wv_n rfl) rfl (fun _ _ hρ _ => r_as (r_min (hρ _ _ rfl) (hρ _ _ rfl)) (int_as (minI _ 10)))) (all_cons (q_run (.slice c l3.length capc) rfl rfl (wv_n rfl) rfl (fun ρ _ hρ _ => r_as (r_sliceO sl22 sz36 (hρ _ _ rfl) (bd_none ρ _) (bd_some (n := min zs.length 10) (hρ _ _ rfl)) (bd_none ρ _) (by simp) (by omega) (by omega) (by omega)) (by rw [hn3]; exact slo_zero _ _ _ _))) all_nil)))))) (allM (all_cons ?_ (all_cons ?_ all_nil)))
          · skip
            refine LOb_callN (fun ((n3, b3) : NetR × List (RowG By)) => pvs n3.l = fewV (pvs l3) ∧ InB b3 n3.l) (fun (n3, b3) => .slice n3.a n3.l.length n3.cap) (fun (n3, b3) => [(964, .row (.slice n3.a n3.l.length n3.cap) 36 3 n3.l.length (n3.l.flatMap Pcl.cells)), (965, .pool 5 1 byc b3)]) (fun (n3, b3) => []) rfl (wv_n rfl) rfl rfl (fun _ _ hρ _ => r_call (args := [.slice c l3.length capc]) (enters_of Try.func12 (by kernel_rfl) rfl) (hρ _ _ rfl) ((cons2 (hρ _ _ rfl) rfl)) rfl) (fun w hm => (few_c l3 c capc w (hs3.keep hm.ext) (by omega) (fun p hp => (fun h9 => ⟨(hz9 p h9).1.keep hm.ext, (hz9 p h9).2⟩) (by rw [hl3] at hp; exact List.mem_of_mem_take hp))).mono fun e w' ⟨n, bs, hf, hi, he, hb, r1, r2, hs⟩ => ⟨(n, bs), ⟨hf, hi⟩, he, hb, newOk2 964 965 r1 r2 hs⟩) (fun (n3, b3) => by kernel_rfl) ?_
            rintro ⟨n3, b3⟩ hfn3
            refine G_step [] 10 [] (by kernel_rfl) (allM all_nil) (allM (all_cons ?_ all_nil))
            refine LOb_new 3 (.cells #[.slice none 0 0, .int .u64 0] 27) (fun B => .pointer (some ⟨B, 0, none⟩)) (fun B => []) rfl (wv_n rfl) rfl rfl (fun _ _ _ _ => r_alloc (v := .agg #[.slice none 0 0, .int .u64 0]) (by kernel_rfl) rfl) (fun B => by kernel_rfl) ?_
            intro B19
            refine G_step [] 12 [] (by kernel_rfl) (allM all_nil) (allM (all_cons ?_ all_nil))
            refine LOb_store 3 (.cells #[.slice n1.a n1.l.length n1.cap, .int .u64 lost] 27) [] rfl (wv_n rfl) rfl rfl rfl (fun _ _ hρ hm => r_store sz27 (hρ _ _ rfl) (hρ _ _ rfl) (hm.at 3 rfl) rfl rfl rfl rfl) (by kernel_rfl) ?_
            refine G_step [] 13 [] (by kernel_rfl) (allM all_nil) (allM (all_cons ?_ all_nil))
            refine LOb_store 4 (.cells #[.slice n2.a n2.l.length n2.cap, .int .u64 lost2] 27) [(14, .slice n3.a n3.l.length n3.cap)] rfl (wv_n rfl) rfl rfl rfl (fun _ _ hρ hm => r_store sz27 (hρ _ _ rfl) (hρ _ _ rfl) (hm.at 4 rfl) rfl rfl rfl rfl) (by kernel_rfl) ?_
            exact G_lastQ [14] [(2, .slice c zs.length capc), (3, .pointer (some ⟨B1, 0, none⟩)), (6, .bool false), (7, .pointer (some ⟨B19, 0, none⟩)), (8, .pointer (some ⟨B18, 0, none⟩)), (9, .slice n3.a n3.l.length n3.cap)] (by kernel_rfl) (allM (all_cons (q_run (.slice n3.a n3.l.length n3.cap) rfl rfl (wv_n rfl) rfl (fun _ _ hρ _ => r_assign (hρ _ _ rfl))) all_nil)) (end_old rfl rfl (end_old rfl rfl (end_old rfl rfl (end_new 10 rfl rfl (end_new 11 rfl rfl (end_new 14 rfl rfl end_nil)))))) (fun a w hf hm => At_intro (n1, b1, n2, b2, n3, b3, B19, B18) ⟨hfn1, hfn2, hfn3, trivial⟩ hf hm (sub_cons rfl (sub_cons rfl (sub_cons rfl (sub_cons rfl (sub_cons rfl (sub_cons rfl sub_nil)))))) (sub_cons rfl (sub_cons rfl (sub_cons rfl (sub_cons rfl (sub_cons rfl (sub_cons rfl (sub_cons rfl (sub_cons rfl (sub_cons rfl (sub_cons rfl sub_nil)))))))))))
          · skip
            refine LOb_new 3 (.cells #[.slice none 0 0, .int .u64 0] 27) (fun B => .pointer (some ⟨B, 0, none⟩)) (fun B => []) rfl (wv_n rfl) rfl rfl (fun _ _ _ _ => r_alloc (v := .agg #[.slice none 0 0, .int .u64 0]) (by kernel_rfl) rfl) (fun B => by kernel_rfl) ?_
            intro B20
            refine G_step [4, 5, 6, 7, 8] 9 [] (by kernel_rfl) (allM (all_cons (q_run (.slice c zs.length capc) rfl rfl (wv_n rfl) rfl (fun _ _ hρ _ => r_move (hρ _ _ rfl))) (all_cons (q_run (.slice c zs.length capc) rfl rfl (wv_n rfl) rfl (fun _ _ hρ _ => r_move (hρ _ _ rfl))) (all_cons (q_run (.int .i64 ((zs.length : Nat) : Int)) rfl rfl (wv_n rfl) rfl (fun _ _ hρ _ => r_len sl22 (hρ _ _ rfl))) (all_cons (q_run (.int .i64 ((min zs.length 10 : Nat) : Int)) rfl rfl (wv_n rfl) rfl (fun _ _ hρ _ => r_as (r_min (hρ _ _ rfl) (hρ _ _ rfl)) (int_as (minI _ 10)))) (all_cons (q_run (.slice c l3.length capc) rfl rfl (wv_n rfl) rfl (fun ρ _ hρ _ => r_as (r_sliceO sl22 sz36 (hρ _ _ rfl) (bd_none ρ _) (bd_some (n := min zs.length 10) (hρ _ _ rfl)) (bd_none ρ _) (by simp) (by omega) (by omega) (by omega)) (by rw [hn3]; exact slo_zero _ _ _ _))) all_nil)))))) (allM (all_cons ?_ all_nil))
            refine LOb_callN (fun ((n3, b3) : NetR × List (RowG By)) => pvs n3.l = fewV (pvs l3) ∧ InB b3 n3.l) (fun (n3, b3) => .slice n3.a n3.l.length n3.cap) (fun (n3, b3) => [(964, .row (.slice n3.a n3.l.length n3.cap) 36 3 n3.l.length (n3.l.flatMap Pcl.cells)), (965, .pool 5 1 byc b3)]) (fun (n3, b3) => []) rfl (wv_n rfl) rfl rfl (fun _ _ hρ _ => r_call (args := [.slice c l3.length capc]) (enters_of Try.func12 (by kernel_rfl) rfl) (hρ _ _ rfl) ((cons2 (hρ _ _ rfl) rfl)) rfl) (fun w hm => (few_c l3 c capc w (hs3.keep hm.ext) (by omega) (fun p hp => (fun h9 => ⟨(hz9 p h9).1.keep hm.ext, (hz9 p h9).2⟩) (by rw [hl3] at hp; exact List.mem_of_mem_take hp))).mono fun e w' ⟨n, bs, hf, hi, he, hb, r1, r2, hs⟩ => ⟨(n, bs), ⟨hf, hi⟩, he, hb, newOk2 964 965 r1 r2 hs⟩) (fun (n3, b3) => by kernel_rfl) ?_
            rintro ⟨n3, b3⟩ hfn3
            refine G_step [] 12 [] (by kernel_rfl) (allM all_nil) (allM (all_cons ?_ all_nil))
            refine LOb_store 3 (.cells #[.slice n1.a n1.l.length n1.cap, .int .u64 lost] 27) [] rfl (wv_n rfl) rfl rfl rfl (fun _ _ hρ hm => r_store sz27 (hρ _ _ rfl) (hρ _ _ rfl) (hm.at 3 rfl) rfl rfl rfl rfl) (by kernel_rfl) ?_
            refine G_step [] 13 [] (by kernel_rfl) (allM all_nil) (allM (all_cons ?_ all_nil))
            refine LOb_store 4 (.cells #[.slice n2.a n2.l.length n2.cap, .int .u64 lost2] 27) [(14, .slice n3.a n3.l.length n3.cap)] rfl (wv_n rfl) rfl rfl rfl (fun _ _ hρ hm => r_store sz27 (hρ _ _ rfl) (hρ _ _ rfl) (hm.at 4 rfl) rfl rfl rfl rfl) (by kernel_rfl) ?_
            exact G_lastQ [14] [(2, .slice c zs.length capc), (3, .pointer (some ⟨B1, 0, none⟩)), (6, .bool false), (7, .pointer (some ⟨B20, 0, none⟩)), (8, .pointer (some ⟨B18, 0, none⟩)), (9, .slice n3.a n3.l.length n3.cap)] (by kernel_rfl) (allM (all_cons (q_run (.slice n3.a n3.l.length n3.cap) rfl rfl (wv_n rfl) rfl (fun _ _ hρ _ => r_assign (hρ _ _ rfl))) all_nil)) (end_old rfl rfl (end_old rfl rfl (end_old rfl rfl (end_new 10 rfl rfl (end_new 11 rfl rfl (end_new 14 rfl rfl end_nil)))))) (fun a w hf hm => At_intro (n1, b1, n2, b2, n3, b3, B20, B18) ⟨hfn1, hfn2, hfn3, trivial⟩ hf hm (sub_cons rfl (sub_cons rfl (sub_cons rfl (sub_cons rfl (sub_cons rfl (sub_cons rfl sub_nil)))))) (sub_cons rfl (sub_cons rfl (sub_cons rfl (sub_cons rfl (sub_cons rfl (sub_cons rfl (sub_cons rfl (sub_cons rfl (sub_cons rfl (sub_cons rfl sub_nil)))))))))))
        · skip
          refine LOb_new 3 (.cells #[.slice none 0 0, .int .u64 0] 27) (fun B => .pointer (some ⟨B, 0, none⟩)) (fun B => []) rfl (wv_n rfl) rfl rfl (fun _ _ _ _ => r_alloc (v := .agg #[.slice none 0 0, .int .u64 0]) (by kernel_rfl) rfl) (fun B => by kernel_rfl) ?_
          intro B21
          refine G_step [2, 4, 5, 6, 7, 8] 3 [] (by kernel_rfl) (allM (all_cons (q_run (.agg #[.slice b ys.length capb, .int .u64 lost2]) rfl rfl (wv_n rfl) rfl (fun _ _ hρ hm => r_loadA ag27 sz27 (hρ _ _ rfl) (hm.at 2 rfl) rfl rfl)) (all_cons (q_run (.slice c zs.length capc) rfl rfl (wv_n rfl) rfl (fun _ _ hρ _ => r_move (hρ _ _ rfl))) (all_cons (q_run (.slice c zs.length capc) rfl rfl (wv_n rfl) rfl (fun _ _ hρ _ => r_move (hρ _ _ rfl))) (all_cons (q_run (.int .i64 ((zs.length : Nat) : Int)) rfl rfl (wv_n rfl) rfl (fun _ _ hρ _ => r_len sl22 (hρ _ _ rfl))) (all_cons (q_run (.int .i64 ((min zs.length 10 : Nat) : Int)) rfl rfl (wv_n rfl) rfl (fun _ _ hρ _ => r_as (r_min (hρ _ _ rfl) (hρ _ _ rfl)) (int_as (minI _ 10)))) (all_cons (q_run (.slice c l3.length capc) rfl rfl (wv_n rfl) rfl (fun ρ _ hρ _ => r_as (r_sliceO sl22 sz36 (hρ _ _ rfl) (bd_none ρ _) (bd_some (n := min zs.length 10) (hρ _ _ rfl)) (bd_none ρ _) (by simp) (by omega) (by omega) (by omega)) (by rw [hn3]; exact slo_zero _ _ _ _))) all_nil))))))) (allM (all_cons ?_ all_nil))
          refine LOb_callN (fun ((n2, b2) : NetR × List (RowG By)) => pvs n2.l = fewV (pvs ys) ∧ InB b2 n2.l) (fun (n2, b2) => .agg #[.slice n2.a n2.l.length n2.cap, .int .u64 lost2]) (fun (n2, b2) => [(962, .row (.slice n2.a n2.l.length n2.cap) 36 3 n2.l.length (n2.l.flatMap Pcl.cells)), (963, .pool 5 1 byc b2)]) (fun (n2, b2) => []) rfl (wv_n rfl) rfl rfl (fun _ _ hρ _ => r_call (args := [.agg #[.slice b ys.length capb, .int .u64 lost2]]) (enters_of Try.func20 (by kernel_rfl) rfl) (hρ _ _ rfl) ((cons2 (hρ _ _ rfl) rfl)) rfl) (fun w hm => (own_c ys b capb lost2 w (hu.keep hm.ext) hcapb (fun p hp => ⟨(hy p hp).1.keep hm.ext, (hy p hp).2⟩)).mono fun e w' ⟨n, bs, hf, hi, he, hb, r1, r2, hs⟩ => ⟨(n, bs), ⟨hf, hi⟩, he, hb, newOk2 962 963 r1 r2 hs⟩) (fun (n2, b2) => by kernel_rfl) ?_
          rintro ⟨n2, b2⟩ hfn2
          refine G_step [4, 5, 6, 7, 8] 9 [] (by kernel_rfl) (allM (all_cons (q_run (.slice c zs.length capc) rfl rfl (wv_n rfl) rfl (fun _ _ hρ _ => r_move (hρ _ _ rfl))) (all_cons (q_run (.slice c zs.length capc) rfl rfl (wv_n rfl) rfl (fun _ _ hρ _ => r_move (hρ _ _ rfl))) (all_cons (q_run (.int .i64 ((zs.length : Nat) : Int)) rfl rfl (wv_n rfl) rfl (fun _ _ hρ _ => r_len sl22 (hρ _ _ rfl))) (all_cons (q_run (.int .i64 ((min zs.length 10 : Nat) : Int)) rfl rfl (wv_n rfl) rfl (fun _ _ hρ _ => r_as (r_min (hρ _ _ rfl) (hρ _ _ rfl)) (int_as (minI _ 10)))) (all_cons (q_run (.slice c l3.length capc) rfl rfl (wv_n rfl) rfl (fun ρ _ hρ _ => r_as (r_sliceO sl22 sz36 (hρ _ _ rfl) (bd_none ρ _) (bd_some (n := min zs.length 10) (hρ _ _ rfl)) (bd_none ρ _) (by simp) (by omega) (by omega) (by omega)) (by rw [hn3]; exact slo_zero _ _ _ _))) all_nil)))))) (allM (all_cons ?_ all_nil))
          refine LOb_callN (fun ((n3, b3) : NetR × List (RowG By)) => pvs n3.l = fewV (pvs l3) ∧ InB b3 n3.l) (fun (n3, b3) => .slice n3.a n3.l.length n3.cap) (fun (n3, b3) => [(964, .row (.slice n3.a n3.l.length n3.cap) 36 3 n3.l.length (n3.l.flatMap Pcl.cells)), (965, .pool 5 1 byc b3)]) (fun (n3, b3) => []) rfl (wv_n rfl) rfl rfl (fun _ _ hρ _ => r_call (args := [.slice c l3.length capc]) (enters_of Try.func12 (by kernel_rfl) rfl) (hρ _ _ rfl) ((cons2 (hρ _ _ rfl) rfl)) rfl) (fun w hm => (few_c l3 c capc w (hs3.keep hm.ext) (by omega) (fun p hp => (fun h9 => ⟨(hz9 p h9).1.keep hm.ext, (hz9 p h9).2⟩) (by rw [hl3] at hp; exact List.mem_of_mem_take hp))).mono fun e w' ⟨n, bs, hf, hi, he, hb, r1, r2, hs⟩ => ⟨(n, bs), ⟨hf, hi⟩, he, hb, newOk2 964 965 r1 r2 hs⟩) (fun (n3, b3) => by kernel_rfl) ?_
          rintro ⟨n3, b3⟩ hfn3
          refine G_step [] 12 [] (by kernel_rfl) (allM all_nil) (allM (all_cons ?_ all_nil))
          refine LOb_store 3 (.cells #[.slice n1.a n1.l.length n1.cap, .int .u64 lost] 27) [] rfl (wv_n rfl) rfl rfl rfl (fun _ _ hρ hm => r_store sz27 (hρ _ _ rfl) (hρ _ _ rfl) (hm.at 3 rfl) rfl rfl rfl rfl) (by kernel_rfl) ?_
          refine G_step [] 13 [] (by kernel_rfl) (allM all_nil) (allM (all_cons ?_ all_nil))
          refine LOb_store 4 (.cells #[.slice n2.a n2.l.length n2.cap, .int .u64 lost2] 27) [(14, .slice n3.a n3.l.length n3.cap)] rfl (wv_n rfl) rfl rfl rfl (fun _ _ hρ hm => r_store sz27 (hρ _ _ rfl) (hρ _ _ rfl) (hm.at 4 rfl) rfl rfl rfl rfl) (by kernel_rfl) ?_
          exact G_lastQ [14] [(2, .slice c zs.length capc), (3, .pointer (some ⟨B1, 0, none⟩)), (6, .bool false), (7, .pointer (some ⟨B21, 0, none⟩)), (8, .pointer (some ⟨B18, 0, none⟩)), (9, .slice n3.a n3.l.length n3.cap)] (by kernel_rfl) (allM (all_cons (q_run (.slice n3.a n3.l.length n3.cap) rfl rfl (wv_n rfl) rfl (fun _ _ hρ _ => r_assign (hρ _ _ rfl))) all_nil)) (end_old rfl rfl (end_old rfl rfl (end_old rfl rfl (end_new 10 rfl rfl (end_new 11 rfl rfl (end_new 14 rfl rfl end_nil)))))) (fun a w hf hm => At_intro (n1, b1, n2, b2, n3, b3, B21, B18) ⟨hfn1, hfn2, hfn3, trivial⟩ hf hm (sub_cons rfl (sub_cons rfl (sub_cons rfl (sub_cons rfl (sub_cons rfl (sub_cons rfl sub_nil)))))) (sub_cons rfl (sub_cons rfl (sub_cons rfl (sub_cons rfl (sub_cons rfl (sub_cons rfl (sub_cons rfl (sub_cons rfl (sub_cons rfl (sub_cons rfl sub_nil)))))))))))
    · skip
      refine LOb_new 3 (.cells #[.slice none 0 0, .int .u64 0] 27) (fun B => .pointer (some ⟨B, 0, none⟩)) (fun B => []) rfl (wv_n rfl) rfl rfl (fun _ _ _ _ => r_alloc (v := .agg #[.slice none 0 0, .int .u64 0]) (by kernel_rfl) rfl) (fun B => by kernel_rfl) ?_
      intro B22
      refine G_step [0, 2, 4, 5, 6, 7, 8] 1 [11] (by kernel_rfl) (allM (all_cons (q_run (.agg #[.slice a xs.length cap, .int .u64 lost]) rfl rfl (wv_n rfl) rfl (fun _ _ hρ hm => r_loadA ag27 sz27 (hρ _ _ rfl) (hm.at 1 rfl) rfl rfl)) (all_cons (q_run (.agg #[.slice b ys.length capb, .int .u64 lost2]) rfl rfl (wv_n rfl) rfl (fun _ _ hρ hm => r_loadA ag27 sz27 (hρ _ _ rfl) (hm.at 2 rfl) rfl rfl)) (all_cons (q_run (.slice c zs.length capc) rfl rfl (wv_n rfl) rfl (fun _ _ hρ _ => r_move (hρ _ _ rfl))) (all_cons (q_run (.slice c zs.length capc) rfl rfl (wv_n rfl) rfl (fun _ _ hρ _ => r_move (hρ _ _ rfl))) (all_cons (q_run (.int .i64 ((zs.length : Nat) : Int)) rfl rfl (wv_n rfl) rfl (fun _ _ hρ _ => r_len sl22 (hρ _ _ rfl))) (all_cons (q_run (.int .i64 ((min zs.length 10 : Nat) : Int)) rfl rfl (wv_n rfl) rfl (fun _ _ hρ _ => r_as (r_min (hρ _ _ rfl) (hρ _ _ rfl)) (int_as (minI _ 10)))) (all_cons (q_run (.slice c l3.length capc) rfl rfl (wv_n rfl) rfl (fun ρ _ hρ _ => r_as (r_sliceO sl22 sz36 (hρ _ _ rfl) (bd_none ρ _) (bd_some (n := min zs.length 10) (hρ _ _ rfl)) (bd_none ρ _) (by simp) (by omega) (by omega) (by omega)) (by rw [hn3]; exact slo_zero _ _ _ _))) all_nil)))))))) (allM (all_cons ?_ (all_cons ?_ all_nil)))
      · skip
        refine LOb_callN (fun ((n1, b1) : NetR × List (RowG By)) => pvs n1.l = fewV (pvs xs) ∧ InB b1 n1.l) (fun (n1, b1) => .agg #[.slice n1.a n1.l.length n1.cap, .int .u64 lost]) (fun (n1, b1) => [(960, .row (.slice n1.a n1.l.length n1.cap) 36 3 n1.l.length (n1.l.flatMap Pcl.cells)), (961, .pool 5 1 byc b1)]) (fun (n1, b1) => []) rfl (wv_n rfl) rfl rfl (fun _ _ hρ _ => r_call (args := [.agg #[.slice a xs.length cap, .int .u64 lost]]) (enters_of Try.func20 (by kernel_rfl) rfl) (hρ _ _ rfl) ((cons2 (hρ _ _ rfl) rfl)) rfl) (fun w hm => (own_c xs a cap lost w (hv.keep hm.ext) hcap (fun p hp => ⟨(hx p hp).1.keep hm.ext, (hx p hp).2⟩)).mono fun e w' ⟨n, bs, hf, hi, he, hb, r1, r2, hs⟩ => ⟨(n, bs), ⟨hf, hi⟩, he, hb, newOk2 960 961 r1 r2 hs⟩) (fun (n1, b1) => by kernel_rfl) ?_
        rintro ⟨n1, b1⟩ hfn1
        refine G_step [2, 4, 5, 6, 7, 8] 3 [11] (by kernel_rfl) (allM (all_cons (q_run (.agg #[.slice b ys.length capb, .int .u64 lost2]) rfl rfl (wv_n rfl) rfl (fun _ _ hρ hm => r_loadA ag27 sz27 (hρ _ _ rfl) (hm.at 2 rfl) rfl rfl)) (all_cons (q_run (.slice c zs.length capc) rfl rfl (wv_n rfl) rfl (fun _ _ hρ _ => r_move (hρ _ _ rfl))) (all_cons (q_run (.slice c zs.length capc) rfl rfl (wv_n rfl) rfl (fun _ _ hρ _ => r_move (hρ _ _ rfl))) (all_cons (q_run (.int .i64 ((zs.length : Nat) : Int)) rfl rfl (wv_n rfl) rfl (fun _ _ hρ _ => r_len sl22 (hρ _ _ rfl))) (all_cons (q_run (.int .i64 ((min zs.length 10 : Nat) : Int)) rfl rfl (wv_n rfl) rfl (fun _ _ hρ _ => r_as (r_min (hρ _ _ rfl) (hρ _ _ rfl)) (int_as (minI _ 10)))) (all_cons (q_run (.slice c l3.length capc) rfl rfl (wv_n rfl) rfl (fun ρ _ hρ _ => r_as (r_sliceO sl22 sz36 (hρ _ _ rfl) (bd_none ρ _) (bd_some (n := min zs.length 10) (hρ _ _ rfl)) (bd_none ρ _) (by simp) (by omega) (by omega) (by omega)) (by rw [hn3]; exact slo_zero _ _ _ _))) all_nil))))))) (allM (all_cons ?_ (all_cons ?_ all_nil)))
        · skip
          refine LOb_callN (fun ((n2, b2) : NetR × List (RowG By)) => pvs n2.l = fewV (pvs ys) ∧ InB b2 n2.l) (fun (n2, b2) => .agg #[.slice n2.a n2.l.length n2.cap, .int .u64 lost2]) (fun (n2, b2) => [(962, .row (.slice n2.a n2.l.length n2.cap) 36 3 n2.l.length (n2.l.flatMap Pcl.cells)), (963, .pool 5 1 byc b2)]) (fun (n2, b2) => []) rfl (wv_n rfl) rfl rfl (fun _ _ hρ _ => r_call (args := [.agg #[.slice b ys.length capb, .int .u64 lost2]]) (enters_of Try.func20 (by kernel_rfl) rfl) (hρ _ _ rfl) ((cons2 (hρ _ _ rfl) rfl)) rfl) (fun w hm => (own_c ys b capb lost2 w (hu.keep hm.ext) hcapb (fun p hp => ⟨(hy p hp).1.keep hm.ext, (hy p hp).2⟩)).mono fun e w' ⟨n, bs, hf, hi, he, hb, r1, r2, hs⟩ => ⟨(n, bs), ⟨hf, hi⟩, he, hb, newOk2 962 963 r1 r2 hs⟩) (fun (n2, b2) => by kernel_rfl) ?_
          rintro ⟨n2, b2⟩ hfn2
          refine G_step [4, 5, 6, 7, 8] 9 [11] (by kernel_rfl) (allM (all_cons (q_run (.slice c zs.length capc) rfl rfl (wv_n rfl) rfl (fun _ _ hρ _ => r_move (hρ _ _ rfl))) (all_cons (q_run (.slice c zs.length capc) rfl rfl (wv_n rfl) rfl (fun _ _ hρ _ => r_move (hρ _ _ rfl))) (all_cons (q_run (.int .i64 ((zs.length : Nat) : Int)) rfl rfl (wv_n rfl) rfl (fun _ _ hρ _ => r_len sl22 (hρ _ _ rfl))) (all_cons (q_run (.int .i64 ((min zs.length 10 : Nat) : Int)) rfl rfl (wv_n rfl) rfl (fun _ _ hρ _ => r_as (r_min (hρ _ _ rfl) (hρ _ _ rfl)) (int_as (minI _ 10)))) (all_cons (q_run (.slice c l3.length capc) rfl rfl (wv_n rfl) rfl (fun ρ _ hρ _ => r_as (r_sliceO sl22 sz36 (hρ _ _ rfl) (bd_none ρ _) (bd_some (n := min zs.length 10) (hρ _ _ rfl)) (bd_none ρ _) (by simp) (by omega) (by omega) (by omega)) (by rw [hn3]; exact slo_zero _ _ _ _))) all_nil)))))) (allM (all_cons ?_ (all_cons ?_ all_nil)))
          · skip
            refine LOb_callN (fun ((n3, b3) : NetR × List (RowG By)) => pvs n3.l = fewV (pvs l3) ∧ InB b3 n3.l) (fun (n3, b3) => .slice n3.a n3.l.length n3.cap) (fun (n3, b3) => [(964, .row (.slice n3.a n3.l.length n3.cap) 36 3 n3.l.length (n3.l.flatMap Pcl.cells)), (965, .pool 5 1 byc b3)]) (fun (n3, b3) => []) rfl (wv_n rfl) rfl rfl (fun _ _ hρ _ => r_call (args := [.slice c l3.length capc]) (enters_of Try.func12 (by kernel_rfl) rfl) (hρ _ _ rfl) ((cons2 (hρ _ _ rfl) rfl)) rfl) (fun w hm => (few_c l3 c capc w (hs3.keep hm.ext) (by omega) (fun p hp => (fun h9 => ⟨(hz9 p h9).1.keep hm.ext, (hz9 p h9).2⟩) (by rw [hl3] at hp; exact List.mem_of_mem_take hp))).mono fun e w' ⟨n, bs, hf, hi, he, hb, r1, r2, hs⟩ => ⟨(n, bs), ⟨hf, hi⟩, he, hb, newOk2 964 965 r1 r2 hs⟩) (fun (n3, b3) => by kernel_rfl) ?_
            rintro ⟨n3, b3⟩ hfn3
            refine G_step [] 11 [] (by kernel_rfl) (allM all_nil) (allM (all_cons ?_ all_nil))
            refine LOb_new 4 (.cells #[.slice none 0 0, .int .u64 0] 27) (fun B => .pointer (some ⟨B, 0, none⟩)) (fun B => []) rfl (wv_n rfl) rfl rfl (fun _ _ _ _ => r_alloc (v := .agg #[.slice none 0 0, .int .u64 0]) (by kernel_rfl) rfl) (fun B => by kernel_rfl) ?_
            intro B23
            refine G_step [] 12 [] (by kernel_rfl) (allM all_nil) (allM (all_cons ?_ all_nil))
            refine LOb_store 3 (.cells #[.slice n1.a n1.l.length n1.cap, .int .u64 lost] 27) [] rfl (wv_n rfl) rfl rfl rfl (fun _ _ hρ hm => r_store sz27 (hρ _ _ rfl) (hρ _ _ rfl) (hm.at 3 rfl) rfl rfl rfl rfl) (by kernel_rfl) ?_
            refine G_step [] 13 [] (by kernel_rfl) (allM all_nil) (allM (all_cons ?_ all_nil))
            refine LOb_store 4 (.cells #[.slice n2.a n2.l.length n2.cap, .int .u64 lost2] 27) [(14, .slice n3.a n3.l.length n3.cap)] rfl (wv_n rfl) rfl rfl rfl (fun _ _ hρ hm => r_store sz27 (hρ _ _ rfl) (hρ _ _ rfl) (hm.at 4 rfl) rfl rfl rfl rfl) (by kernel_rfl) ?_
            exact G_lastQ [14] [(2, .slice c zs.length capc), (3, .pointer (some ⟨B1, 0, none⟩)), (6, .bool false), (7, .pointer (some ⟨B22, 0, none⟩)), (8, .pointer (some ⟨B23, 0, none⟩)), (9, .slice n3.a n3.l.length n3.cap)] (by kernel_rfl) (allM (all_cons (q_run (.slice n3.a n3.l.length n3.cap) rfl rfl (wv_n rfl) rfl (fun _ _ hρ _ => r_assign (hρ _ _ rfl))) all_nil)) (end_old rfl rfl (end_old rfl rfl (end_old rfl rfl (end_new 10 rfl rfl (end_new 11 rfl rfl (end_new 14 rfl rfl end_nil)))))) (fun a w hf hm => At_intro (n1, b1, n2, b2, n3, b3, B22, B23) ⟨hfn1, hfn2, hfn3, trivial⟩ hf hm (sub_cons rfl (sub_cons rfl (sub_cons rfl (sub_cons rfl (sub_cons rfl (sub_cons rfl sub_nil)))))) (sub_cons rfl (sub_cons rfl (sub_cons rfl (sub_cons rfl (sub_cons rfl (sub_cons rfl (sub_cons rfl (sub_cons rfl (sub_cons rfl (sub_cons rfl sub_nil)))))))))))
          · skip
            refine LOb_new 4 (.cells #[.slice none 0 0, .int .u64 0] 27) (fun B => .pointer (some ⟨B, 0, none⟩)) (fun B => []) rfl (wv_n rfl) rfl rfl (fun _ _ _ _ => r_alloc (v := .agg #[.slice none 0 0, .int .u64 0]) (by kernel_rfl) rfl) (fun B => by kernel_rfl) ?_
            intro B24
            refine G_step [4, 5, 6, 7, 8] 9 [] (by kernel_rfl) (allM (all_cons (q_run (.slice c zs.length capc) rfl rfl (wv_n rfl) rfl (fun _ _ hρ _ => r_move (hρ _ _ rfl))) (all_cons (q_run (.slice c zs.length capc) rfl rfl (wv_n rfl) rfl (fun _ _ hρ _ => r_move (hρ _ _ rfl))) (all_cons (q_run (.int .i64 ((zs.length : Nat) : Int)) rfl rfl (wv_n rfl) rfl (fun _ _ hρ _ => r_len sl22 (hρ _ _ rfl))) (all_cons (q_run (.int .i64 ((min zs.length 10 : Nat) : Int)) rfl rfl (wv_n rfl) rfl (fun _ _ hρ _ => r_as (r_min (hρ _ _ rfl) (hρ _ _ rfl)) (int_as (minI _ 10)))) (all_cons (q_run (.slice c l3.length capc) rfl rfl (wv_n rfl) rfl (fun ρ _ hρ _ => r_as (r_sliceO sl22 sz36 (hρ _ _ rfl) (bd_none ρ _) (bd_some (n := min zs.length 10) (hρ _ _ rfl)) (bd_none ρ _) (by simp) (by omega) (by omega) (by omega)) (by rw [hn3]; exact slo_zero _ _ _ _))) all_nil)))))) (allM (all_cons ?_ all_nil))
            refine LOb_callN (fun ((n3, b3) : NetR × List (RowG By)) => pvs n3.l = fewV (pvs l3) ∧ InB b3 n3.l) (fun (n3, b3) => .slice n3.a n3.l.length n3.cap) (fun (n3, b3) => [(964, .row (.slice n3.a n3.l.length n3.cap) 36 3 n3.l.length (n3.l.flatMap Pcl.cells)), (965, .pool 5 1 byc b3)]) (fun (n3, b3) => []) rfl (wv_n rfl) rfl rfl (fun _ _ hρ _ => r_call (args := [.slice c l3.length capc]) (enters_of Try.func12 (by kernel_rfl) rfl) (hρ _ _ rfl) ((cons2 (hρ _ _ rfl) rfl)) rfl) (fun w hm => (few_c l3 c capc w (hs3.keep hm.ext) (by omega) (fun p hp => (fun h9 => ⟨(hz9 p h9).1.keep hm.ext, (hz9 p h9).2⟩) (by rw [hl3] at hp; exact List.mem_of_mem_take hp))).mono fun e w' ⟨n, bs, hf, hi, he, hb, r1, r2, hs⟩ => ⟨(n, bs), ⟨hf, hi⟩, he, hb, newOk2 964 965 r1 r2 hs⟩) (fun (n3, b3) => by kernel_rfl) ?_
            rintro ⟨n3, b3⟩ hfn3
            refine G_step [] 12 [] (by kernel_rfl) (allM all_nil) (allM (all_cons ?_ all_nil))
            refine LOb_store 3 (.cells #[.slice n1.a n1.l.length n1.cap, .int .u64 lost] 27) [] rfl (wv_n rfl) rfl rfl rfl (fun _ _ hρ hm => r_store sz27 (hρ _ _ rfl) (hρ _ _ rfl) (hm.at 3 rfl) rfl rfl rfl rfl) (by kernel_rfl) ?_
            refine G_step [] 13 [] (by kernel_rfl) (allM all_nil) (allM (all_cons ?_ all_nil))
            refine LOb_store 4 (.cells #[.slice n2.a n2.l.length n2.cap, .int .u64 lost2] 27) [(14, .slice n3.a n3.l.length n3.cap)] rfl (wv_n rfl) rfl rfl rfl (fun _ _ hρ hm => r_store sz27 (hρ _ _ rfl) (hρ _ _ rfl) (hm.at 4 rfl) rfl rfl rfl rfl) (by kernel_rfl) ?_
            exact G_lastQ [14] [(2, .slice c zs.length capc), (3, .pointer (some ⟨B1, 0, none⟩)), (6, .bool false), (7, .pointer (some ⟨B22, 0, none⟩)), (8, .pointer (some ⟨B24, 0, none⟩)), (9, .slice n3.a n3.l.length n3.cap)] (by kernel_rfl) (allM (all_cons (q_run (.slice n3.a n3.l.length n3.cap) rfl rfl (wv_n rfl) rfl (fun _ _ hρ _ => r_assign (hρ _ _ rfl))) all_nil)) (end_old rfl rfl (end_old rfl rfl (end_old rfl rfl (end_new 10 rfl rfl (end_new 11 rfl rfl (end_new 14 rfl rfl end_nil)))))) (fun a w hf hm => At_intro (n1, b1, n2, b2, n3, b3, B22, B24) ⟨hfn1, hfn2, hfn3, trivial⟩ hf hm (sub_cons rfl (sub_cons rfl (sub_cons rfl (sub_cons rfl (sub_cons rfl (sub_cons rfl sub_nil)))))) (sub_cons rfl (sub_cons rfl (sub_cons rfl (sub_cons rfl (sub_cons rfl (sub_cons rfl (sub_cons rfl (sub_cons rfl (sub_cons rfl (sub_cons rfl sub_nil)))))))))))
        · skip
          refine LOb_new 4 (.cells #[.slice none 0 0, .int .u64 0] 27) (fun B => .pointer (some ⟨B, 0, none⟩)) (fun B => []) rfl (wv_n rfl) rfl rfl (fun _ _ _ _ => r_alloc (v := .agg #[.slice none 0 0, .int .u64 0]) (by kernel_rfl) rfl) (fun B => by kernel_rfl) ?_
          intro B25
          refine G_step [2, 4, 5, 6, 7, 8] 3 [] (by kernel_rfl) (allM (all_cons (q_run (.agg #[.slice b ys.length capb, .int .u64 lost2]) rfl rfl (wv_n rfl) rfl (fun _ _ hρ hm => r_loadA ag27 sz27 (hρ _ _ rfl) (hm.at 2 rfl) rfl rfl)) (all_cons (q_run (.slice c zs.length capc) rfl rfl (wv_n rfl) rfl (fun _ _ hρ _ => r_move (hρ _ _ rfl))) (all_cons (q_run (.slice c zs.length capc) rfl rfl (wv_n rfl) rfl (fun _ _ hρ _ => r_move (hρ _ _ rfl))) (all_cons (q_run (.int .i64 ((zs.length : Nat) : Int)) rfl rfl (wv_n rfl) rfl (fun _ _ hρ _ => r_len sl22 (hρ _ _ rfl))) (all_cons (q_run (.int .i64 ((min zs.length 10 : Nat) : Int)) rfl rfl (wv_n rfl) rfl (fun _ _ hρ _ => r_as (r_min (hρ _ _ rfl) (hρ _ _ rfl)) (int_as (minI _ 10)))) (all_cons (q_run (.slice c l3.length capc) rfl rfl (wv_n rfl) rfl (fun ρ _ hρ _ => r_as (r_sliceO sl22 sz36 (hρ _ _ rfl) (bd_none ρ _) (bd_some (n := min zs.length 10) (hρ _ _ rfl)) (bd_none ρ _) (by simp) (by omega) (by omega) (by omega)) (by rw [hn3]; exact slo_zero _ _ _ _))) all_nil))))))) (allM (all_cons ?_ all_nil))
          refine LOb_callN (fun ((n2, b2) : NetR × List (RowG By)) => pvs n2.l = fewV (pvs ys) ∧ InB b2 n2.l) (fun (n2, b2) => .agg #[.slice n2.a n2.l.length n2.cap, .int .u64 lost2]) (fun (n2, b2) => [(962, .row (.slice n2.a n2.l.length n2.cap) 36 3 n2.l.length (n2.l.flatMap Pcl.cells)), (963, .pool 5 1 byc b2)]) (fun (n2, b2) => []) rfl (wv_n rfl) rfl rfl (fun _ _ hρ _ => r_call (args := [.agg #[.slice b ys.length capb, .int .u64 lost2]]) (enters_of Try.func20 (by kernel_rfl) rfl) (hρ _ _ rfl) ((cons2 (hρ _ _ rfl) rfl)) rfl) (fun w hm => (own_c ys b capb lost2 w (hu.keep hm.ext) hcapb (fun p hp => ⟨(hy p hp).1.keep hm.ext, (hy p hp).2⟩)).mono fun e w' ⟨n, bs, hf, hi, he, hb, r1, r2, hs⟩ => ⟨(n, bs), ⟨hf, hi⟩, he, hb, newOk2 962 963 r1 r2 hs⟩) (fun (n2, b2) => by kernel_rfl) ?_
          rintro ⟨n2, b2⟩ hfn2
          refine G_step [4, 5, 6, 7, 8] 9 [] (by kernel_rfl) (allM (all_cons (q_run (.slice c zs.length capc) rfl rfl (wv_n rfl) rfl (fun _ _ hρ _ => r_move (hρ _ _ rfl))) (all_cons (q_run (.slice c zs.length capc) rfl rfl (wv_n rfl) rfl (fun _ _ hρ _ => r_move (hρ _ _ rfl))) (all_cons (q_run (.int .i64 ((zs.length : Nat) : Int)) rfl rfl (wv_n rfl) rfl (fun _ _ hρ _ => r_len sl22 (hρ _ _ rfl))) (all_cons (q_run (.int .i64 ((min zs.length 10 : Nat) : Int)) rfl rfl (wv_n rfl) rfl (fun _ _ hρ _ => r_as (r_min (hρ _ _ rfl) (hρ _ _ rfl)) (int_as (minI _ 10)))) (all_cons (q_run (.slice c l3.length capc) rfl rfl (wv_n rfl) rfl (fun ρ _ hρ _ => r_as (r_sliceO sl22 sz36 (hρ _ _ rfl) (bd_none ρ _) (bd_some (n := min zs.length 10) (hρ _ _ rfl)) (bd_none ρ _) (by simp) (by omega) (by omega) (by omega)) (by rw [hn3]; exact slo_zero _ _ _ _))) all_nil)))))) (allM (all_cons ?_ all_nil))
          refine LOb_callN (fun ((n3, b3) : NetR × List (RowG By)) => pvs n3.l = fewV (pvs l3) ∧ InB b3 n3.l) (fun (n3, b3) => .slice n3.a n3.l.length n3.cap) (fun (n3, b3) => [(964, .row (.slice n3.a n3.l.length n3.cap) 36 3 n3.l.length (n3.l.flatMap Pcl.cells)), (965, .pool 5 1 byc b3)]) (fun (n3, b3) => []) rfl (wv_n rfl) rfl rfl (fun _ _ hρ _ => r_call (args := [.slice c l3.length capc]) (enters_of Try.func12 (by kernel_rfl) rfl) (hρ _ _ rfl) ((cons2 (hρ _ _ rfl) rfl)) rfl) (fun w hm => (few_c l3 c capc w (hs3.keep hm.ext) (by omega) (fun p hp => (fun h9 => ⟨(hz9 p h9).1.keep hm.ext, (hz9 p h9).2⟩) (by rw [hl3] at hp; exact List.mem_of_mem_take hp))).mono fun e w' ⟨n, bs, hf, hi, he, hb, r1, r2, hs⟩ => ⟨(n, bs), ⟨hf, hi⟩, he, hb, newOk2 964 965 r1 r2 hs⟩) (fun (n3, b3) => by kernel_rfl) ?_
          rintro ⟨n3, b3⟩ hfn3
          refine G_step [] 12 [] (by kernel_rfl) (allM all_nil) (allM (all_cons ?_ all_nil))
          refine LOb_store 3 (.cells #[.slice n1.a n1.l.length n1.cap, .int .u64 lost] 27) [] rfl (wv_n rfl) rfl rfl rfl (fun _ _ hρ hm => r_store sz27 (hρ _ _ rfl) (hρ _ _ rfl) (hm.at 3 rfl) rfl rfl rfl rfl) (by kernel_rfl) ?_
          refine G_step [] 13 [] (by kernel_rfl) (allM all_nil) (allM (all_cons ?_ all_nil))
          refine LOb_store 4 (.cells #[.slice n2.a n2.l.length n2.cap, .int .u64 lost2] 27) [(14, .slice n3.a n3.l.length n3.cap)] rfl (wv_n rfl) rfl rfl rfl (fun _ _ hρ hm => r_store sz27 (hρ _ _ rfl) (hρ _ _ rfl) (hm.at 4 rfl) rfl rfl rfl rfl) (by kernel_rfl) ?_
          exact G_lastQ [14] [(2, .slice c zs.length capc), (3, .pointer (some ⟨B1, 0, none⟩)), (6, .bool false), (7, .pointer (some ⟨B22, 0, none⟩)), (8, .pointer (some ⟨B25, 0, none⟩)), (9, .slice n3.a n3.l.length n3.cap)] (by kernel_rfl) (allM (all_cons (q_run (.slice n3.a n3.l.length n3.cap) rfl rfl (wv_n rfl) rfl (fun _ _ hρ _ => r_assign (hρ _ _ rfl))) all_nil)) (end_old rfl rfl (end_old rfl rfl (end_old rfl rfl (end_new 10 rfl rfl (end_new 11 rfl rfl (end_new 14 rfl rfl end_nil)))))) (fun a w hf hm => At_intro (n1, b1, n2, b2, n3, b3, B22, B25) ⟨hfn1, hfn2, hfn3, trivial⟩ hf hm (sub_cons rfl (sub_cons rfl (sub_cons rfl (sub_cons rfl (sub_cons rfl (sub_cons rfl sub_nil)))))) (sub_cons rfl (sub_cons rfl (sub_cons rfl (sub_cons rfl (sub_cons rfl (sub_cons rfl (sub_cons rfl (sub_cons rfl (sub_cons rfl (sub_cons rfl sub_nil)))))))))))
      · skip
        refine LOb_new 4 (.cells #[.slice none 0 0, .int .u64 0] 27) (fun B => .pointer (some ⟨B, 0, none⟩)) (fun B => []) rfl (wv_n rfl) rfl rfl (fun _ _ _ _ => r_alloc (v := .agg #[.slice none 0 0, .int .u64 0]) (by kernel_rfl) rfl) (fun B => by kernel_rfl) ?_
        intro B26
        refine G_step [0, 2, 4, 5, 6, 7, 8] 1 [] (by kernel_rfl) (allM (all_cons (q_run (.agg #[.slice a xs.length cap, .int .u64 lost]) rfl rfl (wv_n rfl) rfl (fun _ _ hρ hm => r_loadA ag27 sz27 (hρ _ _ rfl) (hm.at 1 rfl) rfl rfl)) (all_cons (q_run (.agg #[.slice b ys.length capb, .int .u64 lost2]) rfl rfl (wv_n rfl) rfl (fun _ _ hρ hm => r_loadA ag27 sz27 (hρ _ _ rfl) (hm.at 2 rfl) rfl rfl)) (all_cons (q_run (.slice c zs.length capc) rfl rfl (wv_n rfl) rfl (fun _ _ hρ _ => r_move (hρ _ _ rfl))) (all_cons (q_run (.slice c zs.length capc) rfl rfl (wv_n rfl) rfl (fun _ _ hρ _ => r_move (hρ _ _ rfl))) (all_cons (q_run (.int .i64 ((zs.length : Nat) : Int)) rfl rfl (wv_n rfl) rfl (fun _ _ hρ _ => r_len sl22 (hρ _ _ rfl))) (all_cons (q_run (.int .i64 ((min zs.length 10 : Nat) : Int)) rfl rfl (wv_n rfl) rfl (fun _ _ hρ _ => r_as (r_min (hρ _ _ rfl) (hρ _ _ rfl)) (int_as (minI _ 10)))) (all_cons (q_run (.slice c l3.length capc) rfl rfl (wv_n rfl) rfl (fun ρ _ hρ _ => r_as (r_sliceO sl22 sz36 (hρ _ _ rfl) (bd_none ρ _) (bd_some (n := min zs.length 10) (hρ _ _ rfl)) (bd_none ρ _) (by simp) (by omega) (by omega) (by omega)) (by rw [hn3]; exact slo_zero _ _ _ _))) all_nil)))))))) (allM (all_cons ?_ all_nil))
        refine LOb_callN (fun ((n1, b1) : NetR × List (RowG By)) => pvs n1.l = fewV (pvs xs) ∧ InB b1 n1.l) (fun (n1, b1) => .agg #[.slice n1.a n1.l.length n1.cap, .int .u64 lost]) (fun (n1, b1) => [(960, .row (.slice n1.a n1.l.length n1.cap) 36 3 n1.l.length (n1.l.flatMap Pcl.cells)), (961, .pool 5 1 byc b1)]) (fun (n1, b1) => []) rfl (wv_n rfl) rfl rfl (fun _ _ hρ _ => r_call (args := [.agg #[.slice a xs.length cap, .int .u64 lost]]) (enters_of Try.func20 (by kernel_rfl) rfl) (hρ _ _ rfl) ((cons2 (hρ _ _ rfl) rfl)) rfl) (fun w hm => (own_c xs a cap lost w (hv.keep hm.ext) hcap (fun p hp => ⟨(hx p hp).1.keep hm.ext, (hx p hp).2⟩)).mono fun e w' ⟨n, bs, hf, hi, he, hb, r1, r2, hs⟩ => ⟨(n, bs), ⟨hf, hi⟩, he, hb, newOk2 960 961 r1 r2 hs⟩) (fun (n1, b1) => by kernel_rfl) ?_
        rintro ⟨n1, b1⟩ hfn1
        refine G_step [2, 4, 5, 6, 7, 8] 3 [] (by kernel_rfl) (allM (all_cons (q_run (.agg #[.slice b ys.length capb, .int .u64 lost2]) rfl rfl (wv_n rfl) rfl (fun _ _ hρ hm => r_loadA ag27 sz27 (hρ _ _ rfl) (hm.at 2 rfl) rfl rfl)) (all_cons (q_run (.slice c zs.length capc) rfl rfl (wv_n rfl) rfl (fun _ _ hρ _ => r_move (hρ _ _ rfl))) (all_cons (q_run (.slice c zs.length capc) rfl rfl (wv_n rfl) rfl (fun _ _ hρ _ => r_move (hρ _ _ rfl))) (all_cons (q_run (.int .i64 ((zs.length : Nat) : Int)) rfl rfl (wv_n rfl) rfl (fun _ _ hρ _ => r_len sl22 (hρ _ _ rfl))) (all_cons (q_run (.int .i64 ((min zs.length 10 : Nat) : Int)) rfl rfl (wv_n rfl) rfl (fun _ _ hρ _ => r_as (r_min (hρ _ _ rfl) (hρ _ _ rfl)) (int_as (minI _ 10)))) (all_cons (q_run (.slice c l3.length capc) rfl rfl (wv_n rfl) rfl (fun ρ _ hρ _ => r_as (r_sliceO sl22 sz36 (hρ _ _ rfl) (bd_none ρ _) (bd_some (n := min zs.length 10) (hρ _ _ rfl)) (bd_none ρ _) (by simp) (by omega) (by omega) (by omega)) (by rw [hn3]; exact slo_zero _ _ _ _))) all_nil))))))) (allM (all_cons ?_ all_nil))
        refine LOb_callN (fun ((n2, b2) : NetR × List (RowG By)) => pvs n2.l = fewV (pvs ys) ∧ InB b2 n2.l) (fun (n2, b2) => .agg #[.slice n2.a n2.l.length n2.cap, .int .u64 lost2]) (fun (n2, b2) => [(962, .row (.slice n2.a n2.l.length n2.cap) 36 3 n2.l.length (n2.l.flatMap Pcl.cells)), (963, .pool 5 1 byc b2)]) (fun (n2, b2) => []) rfl (wv_n rfl) rfl rfl (fun _ _ hρ _ => r_call (args := [.agg #[.slice b ys.length capb, .int .u64 lost2]]) (enters_of Try.func20 (by kernel_rfl) rfl) (hρ _ _ rfl) ((cons2 (hρ _ _ rfl) rfl)) rfl) (fun w hm => (own_c ys b capb lost2 w (hu.keep hm.ext) hcapb (fun p hp => ⟨(hy p hp).1.keep hm.ext, (hy p hp).2⟩)).mono fun e w' ⟨n, bs, hf, hi, he, hb, r1, r2, hs⟩ => ⟨(n, bs), ⟨hf, hi⟩, he, hb, newOk2 962 963 r1 r2 hs⟩) (fun (n2, b2) => by kernel_rfl) ?_
        rintro ⟨n2, b2⟩ hfn2
        refine G_step [4, 5, 6, 7, 8] 9 [] (by kernel_rfl) (allM (all_cons (q_run (.slice c zs.length capc) rfl rfl (wv_n rfl) rfl (fun _ _ hρ _ => r_move (hρ _ _ rfl))) (all_cons (q_run (.slice c zs.length capc) rfl rfl (wv_n rfl) rfl (fun _ _ hρ _ => r_move (hρ _ _ rfl))) (all_cons (q_run (.int .i64 ((zs.length : Nat) : Int)) rfl rfl (wv_n rfl) rfl (fun _ _ hρ _ => r_len sl22 (hρ _ _ rfl))) (all_cons (q_run (.int .i64 ((min zs.length 10 : Nat) : Int)) rfl rfl (wv_n rfl) rfl (fun _ _ hρ _ => r_as (r_min (hρ _ _ rfl) (hρ _ _ rfl)) (int_as (minI _ 10)))) (all_cons (q_run (.slice c l3.length capc) rfl rfl (wv_n rfl) rfl (fun ρ _ hρ _ => r_as (r_sliceO sl22 sz36 (hρ _ _ rfl) (bd_none ρ _) (bd_some (n := min zs.length 10) (hρ _ _ rfl)) (bd_none ρ _) (by simp) (by omega) (by omega) (by omega)) (by rw [hn3]; exact slo_zero _ _ _ _))) all_nil)))))) (allM (all_cons ?_ all_nil))
        refine LOb_callN (fun ((n3, b3) : NetR × List (RowG By)) => pvs n3.l = fewV (pvs l3) ∧ InB b3 n3.l) (fun (n3, b3) => .slice n3.a n3.l.length n3.cap) (fun (n3, b3) => [(964, .row (.slice n3.a n3.l.length n3.cap) 36 3 n3.l.length (n3.l.flatMap Pcl.cells)), (965, .pool 5 1 byc b3)]) (fun (n3, b3) => []) rfl (wv_n rfl) rfl rfl (fun _ _ hρ _ => r_call (args := [.slice c l3.length capc]) (enters_of Try.func12 (by kernel_rfl) rfl) (hρ _ _ rfl) ((cons2 (hρ _ _ rfl) rfl)) rfl) (fun w hm => (few_c l3 c capc w (hs3.keep hm.ext) (by omega) (fun p hp => (fun h9 => ⟨(hz9 p h9).1.keep hm.ext, (hz9 p h9).2⟩) (by rw [hl3] at hp; exact List.mem_of_mem_take hp))).mono fun e w' ⟨n, bs, hf, hi, he, hb, r1, r2, hs⟩ => ⟨(n, bs), ⟨hf, hi⟩, he, hb, newOk2 964 965 r1 r2 hs⟩) (fun (n3, b3) => by kernel_rfl) ?_
        rintro ⟨n3, b3⟩ hfn3
        refine G_step [] 12 [] (by kernel_rfl) (allM all_nil) (allM (all_cons ?_ all_nil))
        refine LOb_store 3 (.cells #[.slice n1.a n1.l.length n1.cap, .int .u64 lost] 27) [] rfl (wv_n rfl) rfl rfl rfl (fun _ _ hρ hm => r_store sz27 (hρ _ _ rfl) (hρ _ _ rfl) (hm.at 3 rfl) rfl rfl rfl rfl) (by kernel_rfl) ?_
        refine G_step [] 13 [] (by kernel_rfl) (allM all_nil) (allM (all_cons ?_ all_nil))
        refine LOb_store 4 (.cells #[.slice n2.a n2.l.length n2.cap, .int .u64 lost2] 27) [(14, .slice n3.a n3.l.length n3.cap)] rfl (wv_n rfl) rfl rfl rfl (fun _ _ hρ hm => r_store sz27 (hρ _ _ rfl) (hρ _ _ rfl) (hm.at 4 rfl) rfl rfl rfl rfl) (by kernel_rfl) ?_
        exact G_lastQ [14] [(2, .slice c zs.length capc), (3, .pointer (some ⟨B1, 0, none⟩)), (6, .bool false), (7, .pointer (some ⟨B22, 0, none⟩)), (8, .pointer (some ⟨B26, 0, none⟩)), (9, .slice n3.a n3.l.length n3.cap)] (by kernel_rfl) (allM (all_cons (q_run (.slice n3.a n3.l.length n3.cap) rfl rfl (wv_n rfl) rfl (fun _ _ hρ _ => r_assign (hρ _ _ rfl))) all_nil)) (end_old rfl rfl (end_old rfl rfl (end_old rfl rfl (end_new 10 rfl rfl (end_new 11 rfl rfl (end_new 14 rfl rfl end_nil)))))) (fun a w hf hm => At_intro (n1, b1, n2, b2, n3, b3, B22, B26) ⟨hfn1, hfn2, hfn3, trivial⟩ hf hm (sub_cons rfl (sub_cons rfl (sub_cons rfl (sub_cons rfl (sub_cons rfl (sub_cons rfl sub_nil)))))) (sub_cons rfl (sub_cons rfl (sub_cons rfl (sub_cons rfl (sub_cons rfl (sub_cons rfl (sub_cons rfl (sub_cons rfl (sub_cons rfl (sub_cons rfl sub_nil)))))))))))
    · skip
      refine LOb_new 4 (.cells #[.slice none 0 0, .int .u64 0] 27) (fun B => .pointer (some ⟨B, 0, none⟩)) (fun B => []) rfl (wv_n rfl) rfl rfl (fun _ _ _ _ => r_alloc (v := .agg #[.slice none 0 0, .int .u64 0]) (by kernel_rfl) rfl) (fun B => by kernel_rfl) ?_
      intro B27
      refine G_step [0, 2, 4, 5, 6, 7, 8] 1 [10] (by kernel_rfl) (allM (all_cons (q_run (.agg #[.slice a xs.length cap, .int .u64 lost]) rfl rfl (wv_n rfl) rfl (fun _ _ hρ hm => r_loadA ag27 sz27 (hρ _ _ rfl) (hm.at 1 rfl) rfl rfl)) (all_cons (q_run (.agg #[.slice b ys.length capb, .int .u64 lost2]) rfl rfl (wv_n rfl) rfl (fun _ _ hρ hm => r_loadA ag27 sz27 (hρ _ _ rfl) (hm.at 2 rfl) rfl rfl)) (all_cons (q_run (.slice c zs.length capc) rfl rfl (wv_n rfl) rfl (fun _ _ hρ _ => r_move (hρ _ _ rfl))) (all_cons (q_run (.slice c zs.length capc) rfl rfl (wv_n rfl) rfl (fun _ _ hρ _ => r_move (hρ _ _ rfl))) (all_cons (q_run (.int .i64 ((zs.length : Nat) : Int)) rfl rfl (wv_n rfl) rfl (fun _ _ hρ _ => r_len sl22 (hρ _ _ rfl))) (all_cons (q_run (.int .i64 ((min zs.length 10 : Nat) : Int)) rfl rfl (wv_n rfl) rfl (fun _ _ hρ _ => r_as (r_min (hρ _ _ rfl) (hρ _ _ rfl)) (int_as (minI _ 10)))) (all_cons (q_run (.slice c l3.length capc) rfl rfl (wv_n rfl) rfl (fun ρ _ hρ _ => r_as (r_sliceO sl22 sz36 (hρ _ _ rfl) (bd_none ρ _) (bd_some (n := min zs.length 10) (hρ _ _ rfl)) (bd_none ρ _) (by simp) (by omega) (by omega) (by omega)) (by rw [hn3]; exact slo_zero _ _ _ _))) all_nil)))))))) (allM (all_cons ?_ (all_cons ?_ all_nil)))
      · skip
        refine LOb_callN (fun ((n1, b1) : NetR × List (RowG By)) => pvs n1.l = fewV (pvs xs) ∧ InB b1 n1.l) (fun (n1, b1) => .agg #[.slice n1.a n1.l.length n1.cap, .int .u64 lost]) (fun (n1, b1) => [(960, .row (.slice n1.a n1.l.length n1.cap) 36 3 n1.l.length (n1.l.flatMap Pcl.cells)), (961, .pool 5 1 byc b1)]) (fun (n1, b1) => []) rfl (wv_n rfl) rfl rfl (fun _ _ hρ _ => r_call (args := [.agg #[.slice a xs.length cap, .int .u64 lost]]) (enters_of Try.func20 (by kernel_rfl) rfl) (hρ _ _ rfl) ((cons2 (hρ _ _ rfl) rfl)) rfl) (fun w hm => (own_c xs a cap lost w (hv.keep hm.ext) hcap (fun p hp => ⟨(hx p hp).1.keep hm.ext, (hx p hp).2⟩)).mono fun e w' ⟨n, bs, hf, hi, he, hb, r1, r2, hs⟩ => ⟨(n, bs), ⟨hf, hi⟩, he, hb, newOk2 960 961 r1 r2 hs⟩) (fun (n1, b1) => by kernel_rfl) ?_
        rintro ⟨n1, b1⟩ hfn1
        refine G_step [2, 4, 5, 6, 7, 8] 3 [10] (by kernel_rfl) (allM (all_cons (q_run (.agg #[.slice b ys.length capb, .int .u64 lost2]) rfl rfl (wv_n rfl) rfl (fun _ _ hρ hm => r_loadA ag27 sz27 (hρ _ _ rfl) (hm.at 2 rfl) rfl rfl)) (all_cons (q_run (.slice c zs.length capc) rfl rfl (wv_n rfl) rfl (fun _ _ hρ _ => r_move (hρ _ _ rfl))) (all_cons (q_run (.slice c zs.length capc) rfl rfl (wv_n rfl) rfl (fun _ _ hρ _ => r_move (hρ _ _ rfl))) (all_cons (q_run (.int .i64 ((zs.length : Nat) : Int)) rfl rfl (wv_n rfl) rfl (fun _ _ hρ _ => r_len sl22 (hρ _ _ rfl))) (all_cons (q_run (.int .i64 ((min zs.length 10 : Nat) : Int)) rfl rfl (wv_n rfl) rfl (fun _ _ hρ _ => r_as (r_min (hρ _ _ rfl) (hρ _ _ rfl)) (int_as (minI _ 10)))) (all_cons (q_run (.slice c l3.length capc) rfl rfl (wv_n rfl) rfl (fun ρ _ hρ _ => r_as (r_sliceO sl22 sz36 (hρ _ _ rfl) (bd_none ρ _) (bd_some (n := min zs.length 10) (hρ _ _ rfl)) (bd_none ρ _) (by simp) (by omega) (by omega) (by omega)) (by rw [hn3]; exact slo_zero _ _ _ _))) all_nil))))))) (allM (all_cons ?_ (all_cons ?_ all_nil)))
        · skip
          refine LOb_callN (fun ((n2, b2) : NetR × List (RowG By)) => pvs n2.l = fewV (pvs ys) ∧ InB b2 n2.l) (fun (n2, b2) => .agg #[.slice n2.a n2.l.length n2.cap, .int .u64 lost2]) (fun (n2, b2) => [(962, .row (.slice n2.a n2.l.length n2.cap) 36 3 n2.l.length (n2.l.flatMap Pcl.cells)), (963, .pool 5 1 byc b2)]) (fun (n2, b2) => []) rfl (wv_n rfl) rfl rfl (fun _ _ hρ _ => r_call (args := [.agg #[.slice b ys.length capb, .int .u64 lost2]]) (enters_of Try.func20 (by kernel_rfl) rfl) (hρ _ _ rfl) ((cons2 (hρ _ _ rfl) rfl)) rfl) (fun w hm => (own_c ys b capb lost2 w (hu.keep hm.ext) hcapb (fun p hp => ⟨(hy p hp).1.keep hm.ext, (hy p hp).2⟩)).mono fun e w' ⟨n, bs, hf, hi, he, hb, r1, r2, hs⟩ => ⟨(n, bs), ⟨hf, hi⟩, he, hb, newOk2 962 963 r1 r2 hs⟩) (fun (n2, b2) => by kernel_rfl) ?_
          rintro ⟨n2, b2⟩ hfn2
          refine G_step [4, 5, 6, 7, 8] 9 [10] (by kernel_rfl) (allM (all_cons (q_run (.slice c zs.length capc) rfl rfl (wv_n rfl) rfl (fun _ _ hρ _ => r_move (hρ _ _ rfl))) (all_cons (q_run (.slice c zs.length capc) rfl rfl (wv_n rfl) rfl (fun _ _ hρ _ => r_move (hρ _ _ rfl))) (all_cons (q_run (.int .i64 ((zs.length : Nat) : Int)) rfl rfl (wv_n rfl) rfl (fun _ _ hρ _ => r_len sl22 (hρ _ _ rfl))) (all_cons (q_run (.int .i64 ((min zs.length 10 : Nat) : Int)) rfl rfl (wv_n rfl) rfl (fun _ _ hρ _ => r_as (r_min (hρ _ _ rfl) (hρ _ _ rfl)) (int_as (minI _ 10)))) (all_cons (q_run (.slice c l3.length capc) rfl rfl (wv_n rfl) rfl (fun ρ _ hρ _ => r_as (r_sliceO sl22 sz36 (hρ _ _ rfl) (bd_none ρ _) (bd_some (n := min zs.length 10) (hρ _ _ rfl)) (bd_none ρ _) (by simp) (by omega) (by omega) (by omega)) (by rw [hn3]; exact slo_zero _ _ _ _))) all_nil)))))) (allM (all_cons ?_ (all_cons ?_ all_nil)))
          · skip
            refine LOb_callN (fun ((n3, b3) : NetR × List (RowG By)) => pvs n3.l = fewV (pvs l3) ∧ InB b3 n3.l) (fun (n3, b3) => .slice n3.a n3.l.length n3.cap) (fun (n3, b3) => [(964, .row (.slice n3.a n3.l.length n3.cap) 36 3 n3.l.length (n3.l.flatMap Pcl.cells)), (965, .pool 5 1 byc b3)]) (fun (n3, b3) => []) rfl (wv_n rfl) rfl rfl (fun _ _ hρ _ => r_call (args := [.slice c l3.length capc]) (enters_of Try.func12 (by kernel_rfl) rfl) (hρ _ _ rfl) ((cons2 (hρ _ _ rfl) rfl)) rfl) (fun w hm => (few_c l3 c capc w (hs3.keep hm.ext) (by omega) (fun p hp => (fun h9 => ⟨(hz9 p h9).1.keep hm.ext, (hz9 p h9).2⟩) (by rw [hl3] at hp; exact List.mem_of_mem_take hp))).mono fun e w' ⟨n, bs, hf, hi, he, hb, r1, r2, hs⟩ => ⟨(n, bs), ⟨hf, hi⟩, he, hb, newOk2 964 965 r1 r2 hs⟩) (fun (n3, b3) => by kernel_rfl) ?_
            rintro ⟨n3, b3⟩ hfn3
            refine G_step [] 10 [] (by kernel_rfl) (allM all_nil) (allM (all_cons ?_ all_nil))
            refine LOb_new 3 (.cells #[.slice none 0 0, .int .u64 0] 27) (fun B => .pointer (some ⟨B, 0, none⟩)) (fun B => []) rfl (wv_n rfl) rfl rfl (fun _ _ _ _ => r_alloc (v := .agg #[.slice none 0 0, .int .u64 0]) (by kernel_rfl) rfl) (fun B => by kernel_rfl) ?_
            intro B28
            refine G_step [] 12 [] (by kernel_rfl) (allM all_nil) (allM (all_cons ?_ all_nil))
            refine LOb_store 3 (.cells #[.slice n1.a n1.l.length n1.cap, .int .u64 lost] 27) [] rfl (wv_n rfl) rfl rfl rfl (fun _ _ hρ hm => r_store sz27 (hρ _ _ rfl) (hρ _ _ rfl) (hm.at 3 rfl) rfl rfl rfl rfl) (by kernel_rfl) ?_
            refine G_step [] 13 [] (by kernel_rfl) (allM all_nil) (allM (all_cons ?_ all_nil))
            refine LOb_store 4 (.cells #[.slice n2.a n2.l.length n2.cap, .int .u64 lost2] 27) [(14, .slice n3.a n3.l.length n3.cap)] rfl (wv_n rfl) rfl rfl rfl (fun _ _ hρ hm => r_store sz27 (hρ _ _ rfl) (hρ _ _ rfl) (hm.at 4 rfl) rfl rfl rfl rfl) (by kernel_rfl) ?_
            exact G_lastQ [14] [(2, .slice c zs.length capc), (3, .pointer (some ⟨B1, 0, none⟩)), (6, .bool false), (7, .pointer (some ⟨B28, 0, none⟩)), (8, .pointer (some ⟨B27, 0, none⟩)), (9, .slice n3.a n3.l.length n3.cap)] (by kernel_rfl) (allM (all_cons (q_run (.slice n3.a n3.l.length n3.cap) rfl rfl (wv_n rfl) rfl (fun _ _ hρ _ => r_assign (hρ _ _ rfl))) all_nil)) (end_old rfl rfl (end_old rfl rfl (end_old rfl rfl (end_new 10 rfl rfl (end_new 11 rfl rfl (end_new 14 rfl rfl end_nil)))))) (fun a w hf hm => At_intro (n1, b1, n2, b2, n3, b3, B28, B27) ⟨hfn1, hfn2, hfn3, trivial⟩ hf hm (sub_cons rfl (sub_cons rfl (sub_cons rfl (sub_cons rfl (sub_cons rfl (sub_cons rfl sub_nil)))))) (sub_cons rfl (sub_cons rfl (sub_cons rfl (sub_cons rfl (sub_cons rfl (sub_cons rfl (sub_cons rfl (sub_cons rfl (sub_cons rfl (sub_cons rfl sub_nil)))))))))))
          · skip
            refine LOb_new 3 (.cells #[.slice none 0 0, .int .u64 0] 27) (fun B => .pointer (some ⟨B, 0, none⟩)) (fun B => []) rfl (wv_n rfl) rfl rfl (fun _ _ _ _ => r_alloc (v := .agg #[.slice none 0 0, .int .u64 0]) (by kernel_rfl) rfl) (fun B => by kernel_rfl) ?_
            intro B29
            refine G_step [4, 5, 6, 7, 8] 9 [] (by kernel_rfl) (allM (all_cons (q_run (.slice c zs.length capc) rfl rfl (wv_n rfl) rfl (fun _ _ hρ _ => r_move (hρ _ _ rfl))) (all_cons (q_run (.slice c zs.length capc) rfl rfl (wv_n rfl) rfl (fun _ _ hρ _ => r_move (hρ _ _ rfl))) (all_cons (q_run (.int .i64 ((zs.length : Nat) : Int)) rfl rfl (wv_n rfl) rfl (fun _ _ hρ _ => r_len sl22 (hρ _ _ rfl))) (all_cons (q_run (.int .i64 ((min zs.length 10 : Nat) : Int)) rfl rfl (wv_n rfl) rfl (fun _ _ hρ _ => r_as (r_min (hρ _ _ rfl) (hρ _ _ rfl)) (int_as (minI _ 10)))) (all_cons (q_run (.slice c l3.length capc) rfl rfl (wv_n rfl) rfl (fun ρ _ hρ _ => r_as (r_sliceO sl22 sz36 (hρ _ _ rfl) (bd_none ρ _) (bd_some (n := min zs.length 10) (hρ _ _ rfl)) (bd_none ρ _) (by simp) (by omega) (by omega) (by omega)) (by rw [hn3]; exact slo_zero _ _ _ _))) all_nil)))))) (allM (all_cons ?_ all_nil))
            refine LOb_callN (fun ((n3, b3) : NetR × List (RowG By)) => pvs n3.l = fewV (pvs l3) ∧ InB b3 n3.l) (fun (n3, b3) => .slice n3.a n3.l.length n3.cap) (fun (n3, b3) => [(964, .row (.slice n3.a n3.l.length n3.cap) 36 3 n3.l.length (n3.l.flatMap Pcl.cells)), (965, .pool 5 1 byc b3)]) (fun (n3, b3) => []) rfl (wv_n rfl) rfl rfl (fun _ _ hρ _ => r_call (args := [.slice c l3.length capc]) (enters_of Try.func12 (by kernel_rfl) rfl) (hρ _ _ rfl) ((cons2 (hρ _ _ rfl) rfl)) rfl) (fun w hm => (few_c l3 c capc w (hs3.keep hm.ext) (by omega) (fun p hp => (fun h9 => ⟨(hz9 p h9).1.keep hm.ext, (hz9 p h9).2⟩) (by rw [hl3] at hp; exact List.mem_of_mem_take hp))).mono fun e w' ⟨n, bs, hf, hi, he, hb, r1, r2, hs⟩ => ⟨(n, bs), ⟨hf, hi⟩, he, hb, newOk2 964 965 r1 r2 hs⟩) (fun (n3, b3) => by kernel_rfl) ?_
            rintro ⟨n3, b3⟩ hfn3
            refine G_step [] 12 [] (by kernel_rfl) (allM all_nil) (allM (all_cons ?_ all_nil))
            refine LOb_store 3 (.cells #[.slice n1.a n1.l.length n1.cap, .int .u64 lost] 27) [] rfl (wv_n rfl) rfl rfl rfl (fun _ _ hρ hm => r_store sz27 (hρ _ _ rfl) (hρ _ _ rfl) (hm.at 3 rfl) rfl rfl rfl rfl) (by kernel_rfl) ?_
            refine G_step [] 13 [] (by kernel_rfl) (allM all_nil) (allM (all_cons ?_ all_nil))
            refine LOb_store 4 (.cells #[.slice n2.a n2.l.length n2.cap, .int .u64 lost2] 27) [(14, .slice n3.a n3.l.length n3.cap)] rfl (wv_n rfl) rfl rfl rfl (fun _ _ hρ hm => r_store sz27 (hρ _ _ rfl) (hρ _ _ rfl) (hm.at 4 rfl) rfl rfl rfl rfl) (by kernel_rfl) ?_
            exact G_lastQ [14] [(2, .slice c zs.length capc), (3, .pointer (some ⟨B1, 0, none⟩)), (6, .bool false), (7, .pointer (some ⟨B29, 0, none⟩)), (8, .pointer (some ⟨B27, 0, none⟩)), (9, .slice n3.a n3.l.length n3.cap)] (by kernel_rfl) (allM (all_cons (q_run (.slice n3.a n3.l.length n3.cap) rfl rfl (wv_n rfl) rfl (fun _ _ hρ _ => r_assign (hρ _ _ rfl))) all_nil)) (end_old rfl rfl (end_old rfl rfl (end_old rfl rfl (end_new 10 rfl rfl (end_new 11 rfl rfl (end_new 14 rfl rfl end_nil)))))) (fun a w hf hm => At_intro (n1, b1, n2, b2, n3, b3, B29, B27) ⟨hfn1, hfn2, hfn3, trivial⟩ hf hm (sub_cons rfl (sub_cons rfl (sub_cons rfl (sub_cons rfl (sub_cons rfl (sub_cons rfl sub_nil)))))) (sub_cons rfl (sub_cons rfl (sub_cons rfl (sub_cons rfl (sub_cons rfl (sub_cons rfl (sub_cons rfl (sub_cons rfl (sub_cons rfl (sub_cons rfl sub_nil)))))))))))
        · skip
          refine LOb_new 3 (.cells #[.slice none 0 0, .int .u64 0] 27) (fun B => .pointer (some ⟨B, 0, none⟩)) (fun B => []) rfl (wv_n rfl) rfl rfl (fun _ _ _ _ => r_alloc (v := .agg #[.slice none 0 0, .int .u64 0]) (by kernel_rfl) rfl) (fun B => by kernel_rfl) ?_
          intro B30
          refine G_step [2, 4, 5, 6, 7, 8] 3 [] (by kernel_rfl) (allM (all_cons (q_run (.agg #[.slice b ys.length capb, .int .u64 lost2]) rfl rfl (wv_n rfl) rfl (fun _ _ hρ hm => r_loadA ag27 sz27 (hρ _ _ rfl) (hm.at 2 rfl) rfl rfl)) (all_cons (q_run (.slice c zs.length capc) rfl rfl (wv_n rfl) rfl (fun _ _ hρ _ => r_move (hρ _ _ rfl))) (all_cons (q_run (.slice c zs.length capc) rfl rfl (wv_n rfl) rfl (fun _ _ hρ _ => r_move (hρ _ _ rfl))) (all_cons (q_run (.int .i64 ((zs.length : Nat) : Int)) rfl rfl (wv_n rfl) rfl (fun _ _ hρ _ => r_len sl22 (hρ _ _ rfl))) (all_cons (q_run (.int .i64 ((min zs.length 10 : Nat) : Int)) rfl rfl (wv_n rfl) rfl (fun _ _ hρ _ => r_as (r_min (hρ _ _ rfl) (hρ _ _ rfl)) (int_as (minI _ 10)))) (all_cons (q_run (.slice c l3.length capc) rfl rfl (wv_n rfl) rfl (fun ρ _ hρ _ => r_as (r_sliceO sl22 sz36 (hρ _ _ rfl) (bd_none ρ _) (bd_some (n := min zs.length 10) (hρ _ _ rfl)) (bd_none ρ _) (by simp) (by omega) (by omega) (by omega)) (by rw [hn3]; exact slo_zero _ _ _ _))) all_nil))))))) (allM (all_cons ?_ all_nil))
          refine LOb_callN (fun ((n2, b2) : NetR × List (RowG By)) => pvs n2.l = fewV (pvs ys) ∧ InB b2 n2.l) (fun (n2, b2) => .agg #[.slice n2.a n2.l.length n2.cap, .int .u64 lost2]) (fun (n2, b2) => [(962, .row (.slice n2.a n2.l.length n2.cap) 36 3 n2.l.length (n2.l.flatMap Pcl.cells)), (963, .pool 5 1 byc b2)]) (fun (n2, b2) => []) rfl (wv_n rfl) rfl rfl (fun _ _ hρ _ => r_call (args := [.agg #[.slice b ys.length capb, .int .u64 lost2]]) (enters_of Try.func20 (by kernel_rfl) rfl) (hρ _ _ rfl) ((cons2 (hρ _ _ rfl) rfl)) rfl) (fun w hm => (own_c ys b capb lost2 w (hu.keep hm.ext) hcapb (fun p hp => ⟨(hy p hp).1.keep hm.ext, (hy p hp).2⟩)).mono fun e w' ⟨n, bs, hf, hi, he, hb, r1, r2, hs⟩ => ⟨(n, bs), ⟨hf, hi⟩, he, hb, newOk2 962 963 r1 r2 hs⟩) (fun (n2, b2) => by kernel_rfl) ?_
          rintro ⟨n2, b2⟩ hfn2
          refine G_step [4, 5, 6, 7, 8] 9 [] (by kernel_rfl) (allM (all_cons (q_run (.slice c zs.length capc) rfl rfl (wv_n rfl) rfl (fun _ _ hρ _ => r_move (hρ _ _ rfl))) (all_cons (q_run (.slice c zs.length capc) rfl rfl (wv_n rfl) rfl (fun _ _ hρ _ => r_move (hρ _ _ rfl))) (all_cons (q_run (.int .i64 ((zs.length : Nat) : Int)) rfl rfl (wv_n rfl) rfl (fun _ _ hρ _ => r_len sl22 (hρ _ _ rfl))) (all_cons (q_run (.int .i64 ((min zs.length 10 : Nat) : Int)) rfl rfl (wv_n rfl) rfl (fun _ _ hρ _ => r_as (r_min (hρ _ _ rfl) (hρ _ _ rfl)) (int_as (minI _ 10)))) (all_cons (q_run (.slice c l3.length capc) rfl rfl (wv_n rfl) rfl (fun ρ _ hρ _ => r_as (r_sliceO sl22 sz36 (hρ _ _ rfl) (bd_none ρ _) (bd_some (n := min zs.length 10) (hρ _ _ rfl)) (bd_none ρ _) (by simp) (by omega) (by omega) (by omega)) (by rw [hn3]; exact slo_zero _ _ _ _))) all_nil)))))) (allM (all_cons ?_ all_nil))
          refine LOb_callN (fun ((n3, b3) : NetR × List (RowG By)) => pvs n3.l = fewV (pvs l3) ∧ InB b3 n3.l) (fun (n3, b3) => .slice n3.a n3.l.length n3.cap) (fun (n3, b3) => [(964, .row (.slice n3.a n3.l.length n3.cap) 36 3 n3.l.length (n3.l.flatMap Pcl.cells)), (965, .pool 5 1 byc b3)]) (fun (n3, b3) => []) rfl (wv_n rfl) rfl rfl (fun _ _ hρ _ => r_call (args := [.slice c l3.length capc]) (enters_of Try.func12 (by kernel_rfl) rfl) (hρ _ _ rfl) ((cons2 (hρ _ _ rfl) rfl)) rfl) (fun w hm => (few_c l3 c capc w (hs3.keep hm.ext) (by omega) (fun p hp => (fun h9 => ⟨(hz9 p h9).1.keep hm.ext, (hz9 p h9).2⟩) (by rw [hl3] at hp; exact List.mem_of_mem_take hp))).mono fun e w' ⟨n, bs, hf, hi, he, hb, r1, r2, hs⟩ => ⟨(n, bs), ⟨hf, hi⟩, he, hb, newOk2 964 965 r1 r2 hs⟩) (fun (n3, b3) => by kernel_rfl) ?_
          rintro ⟨n3, b3⟩ hfn3
          refine G_step [] 12 [] (by kernel_rfl) (allM all_nil) (allM (all_cons ?_ all_nil))
          refine LOb_store 3 (.cells #[.slice n1.a n1.l.length n1.cap, .int .u64 lost] 27) [] rfl (wv_n rfl) rfl rfl rfl (fun _ _ hρ hm => r_store sz27 (hρ _ _ rfl) (hρ _ _ rfl) (hm.at 3 rfl) rfl rfl rfl rfl) (by kernel_rfl) ?_
          refine G_step [] 13 [] (by kernel_rfl) (allM all_nil) (allM (all_cons ?_ all_nil))
          refine LOb_store 4 (.cells #[.slice n2.a n2.l.length n2.cap, .int .u64 lost2] 27) [(14, .slice n3.a n3.l.length n3.cap)] rfl (wv_n rfl) rfl rfl rfl (fun _ _ hρ hm => r_store sz27 (hρ _ _ rfl) (hρ _ _ rfl) (hm.at 4 rfl) rfl rfl rfl rfl) (by kernel_rfl) ?_
          exact G_lastQ [14] [(2, .slice c zs.length capc), (3, .pointer (some ⟨B1, 0, none⟩)), (6, .bool false), (7, .pointer (some ⟨B30, 0, none⟩)), (8, .pointer (some ⟨B27, 0, none⟩)), (9, .slice n3.a n3.l.length n3.cap)] (by kernel_rfl) (allM (all_cons (q_run (.slice n3.a n3.l.length n3.cap) rfl rfl (wv_n rfl) rfl (fun _ _ hρ _ => r_assign (hρ _ _ rfl))) all_nil)) (end_old rfl rfl (end_old rfl rfl (end_old rfl rfl (end_new 10 rfl rfl (end_new 11 rfl rfl (end_new 14 rfl rfl end_nil)))))) (fun a w hf hm => At_intro (n1, b1, n2, b2, n3, b3, B30, B27) ⟨hfn1, hfn2, hfn3, trivial⟩ hf hm (sub_cons rfl (sub_cons rfl (sub_cons rfl (sub_cons rfl (sub_cons rfl (sub_cons rfl sub_nil)))))) (sub_cons rfl (sub_cons rfl (sub_cons rfl (sub_cons rfl (sub_cons rfl (sub_cons rfl (sub_cons rfl (sub_cons rfl (sub_cons rfl (sub_cons rfl sub_nil)))))))))))
      · skip
        refine LOb_new 3 (.cells #[.slice none 0 0, .int .u64 0] 27) (fun B => .pointer (some ⟨B, 0, none⟩)) (fun B => []) rfl (wv_n rfl) rfl rfl (fun _ _ _ _ => r_alloc (v := .agg #[.slice none 0 0, .int .u64 0]) (by kernel_rfl) rfl) (fun B => by kernel_rfl) ?_
        intro B31
        refine G_step [0, 2, 4, 5, 6, 7, 8] 1 [] (by kernel_rfl) (allM (all_cons (q_run (.agg #[.slice a xs.length cap, .int .u64 lost]) rfl rfl (wv_n rfl) rfl (fun _ _ hρ hm => r_loadA ag27 sz27 (hρ _ _ rfl) (hm.at 1 rfl) rfl rfl)) (all_cons (q_run (.agg #[.slice b ys.length capb, .int .u64 lost2]) rfl rfl (wv_n rfl) rfl (fun _ _ hρ hm => r_loadA ag27 sz27 (hρ _ _ rfl) (hm.at 2 rfl) rfl rfl)) (all_cons (q_run (.slice c zs.length capc) rfl rfl (wv_n rfl) rfl (fun _ _ hρ _ => r_move (hρ _ _ rfl))) (all_cons (q_run (.slice c zs.length capc) rfl rfl (wv_n rfl) rfl (fun _ _ hρ _ => r_move (hρ _ _ rfl))) (all_cons (q_run (.int .i64 ((zs.length : Nat) : Int)) rfl rfl (wv_n rfl) rfl (fun _ _ hρ _ => r_len sl22 (hρ _ _ rfl))) (all_cons (q_run (.int .i64 ((min zs.length 10 : Nat) : Int)) rfl rfl (wv_n rfl) rfl (fun _ _ hρ _ => r_as (r_min (hρ _ _ rfl) (hρ _ _ rfl)) (int_as (minI _ 10)))) (all_cons (q_run (.slice c l3.length capc) rfl rfl (wv_n rfl) rfl (fun ρ _ hρ _ => r_as (r_sliceO sl22 sz36 (hρ _ _ rfl) (bd_none ρ _) (bd_some (n := min zs.length 10) (hρ _ _ rfl)) (bd_none ρ _) (by simp) (by omega) (by omega) (by omega)) (by rw [hn3]; exact slo_zero _ _ _ _))) all_nil)))))))) (allM (all_cons ?_ all_nil))
        refine LOb_callN (fun ((n1, b1) : NetR × List (RowG By)) => pvs n1.l = fewV (pvs xs) ∧ InB b1 n1.l) (fun (n1, b1) => .agg #[.slice n1.a n1.l.length n1.cap, .int .u64 lost]) (fun (n1, b1) => [(960, .row (.slice n1.a n1.l.length n1.cap) 36 3 n1.l.length (n1.l.flatMap Pcl.cells)), (961, .pool 5 1 byc b1)]) (fun (n1, b1) => []) rfl (wv_n rfl) rfl rfl (fun _ _ hρ _ => r_call (args := [.agg #[.slice a xs.length cap, .int .u64 lost]]) (enters_of Try.func20 (by kernel_rfl) rfl) (hρ _ _ rfl) ((cons2 (hρ _ _ rfl) rfl)) rfl) (fun w hm => (own_c xs a cap lost w (hv.keep hm.ext) hcap (fun p hp => ⟨(hx p hp).1.keep hm.ext, (hx p hp).2⟩)).mono fun e w' ⟨n, bs, hf, hi, he, hb, r1, r2, hs⟩ => ⟨(n, bs), ⟨hf, hi⟩, he, hb, newOk2 960 961 r1 r2 hs⟩) (fun (n1, b1) => by kernel_rfl) ?_
        rintro ⟨n1, b1⟩ hfn1
        refine G_step [2, 4, 5, 6, 7, 8] 3 [] (by kernel_rfl) (allM (all_cons (q_run (.agg #[.slice b ys.length capb, .int .u64 lost2]) rfl rfl (wv_n rfl) rfl (fun _ _ hρ hm => r_loadA ag27 sz27 (hρ _ _ rfl) (hm.at 2 rfl) rfl rfl)) (all_cons (q_run (.slice c zs.length capc) rfl rfl (wv_n rfl) rfl (fun _ _ hρ _ => r_move (hρ _ _ rfl))) (all_cons (q_run (.slice c zs.length capc) rfl rfl (wv_n rfl) rfl (fun _ _ hρ _ => r_move (hρ _ _ rfl))) (all_cons (q_run (.int .i64 ((zs.length : Nat) : Int)) rfl rfl (wv_n rfl) rfl (fun _ _ hρ _ => r_len sl22 (hρ _ _ rfl))) (all_cons (q_run (.int .i64 ((min zs.length 10 : Nat) : Int)) rfl rfl (wv_n rfl) rfl (fun _ _ hρ _ => r_as (r_min (hρ _ _ rfl) (hρ _ _ rfl)) (int_as (minI _ 10)))) (all_cons (q_run (.slice c l3.length capc) rfl rfl (wv_n rfl) rfl (fun ρ _ hρ _ => r_as (r_sliceO sl22 sz36 (hρ _ _ rfl) (bd_none ρ _) (bd_some (n := min zs.length 10) (hρ _ _ rfl)) (bd_none ρ _) (by simp) (by omega) (by omega) (by omega)) (by rw [hn3]; exact slo_zero _ _ _ _))) all_nil))))))) (allM (all_cons ?_ all_nil))
        refine LOb_callN (fun ((n2, b2) : NetR × List (RowG By)) => pvs n2.l = fewV (pvs ys) ∧ InB b2 n2.l) (fun (n2, b2) => .agg #[.slice n2.a n2.l.length n2.cap, .int .u64 lost2]) (fun (n2, b2) => [(962, .row (.slice n2.a n2.l.length n2.cap) 36 3 n2.l.length (n2.l.flatMap Pcl.cells)), (963, .pool 5 1 byc b2)]) (fun (n2, b2) => []) rfl (wv_n rfl) rfl rfl (fun _ _ hρ _ => r_call (args := [.agg #[.slice b ys.length capb, .int .u64 lost2]]) (enters_of Try.func20 (by kernel_rfl) rfl) (hρ _ _ rfl) ((cons2 (hρ _ _ rfl) rfl)) rfl) (fun w hm => (own_c ys b capb lost2 w (hu.keep hm.ext) hcapb (fun p hp => ⟨(hy p hp).1.keep hm.ext, (hy p hp).2⟩)).mono fun e w' ⟨n, bs, hf, hi, he, hb, r1, r2, hs⟩ => ⟨(n, bs), ⟨hf, hi⟩, he, hb, newOk2 962 963 r1 r2 hs⟩) (fun (n2, b2) => by kernel_rfl) ?_
        rintro ⟨n2, b2⟩ hfn2
        refine G_step [4, 5, 6, 7, 8] 9 [] (by kernel_rfl) (allM (all_cons (q_run (.slice c zs.length capc) rfl rfl (wv_n rfl) rfl (fun _ _ hρ _ => r_move (hρ _ _ rfl))) (all_cons (q_run (.slice c zs.length capc) rfl rfl (wv_n rfl) rfl (fun _ _ hρ _ => r_move (hρ _ _ rfl))) (all_cons (q_run (.int .i64 ((zs.length : Nat) : Int)) rfl rfl (wv_n rfl) rfl (fun _ _ hρ _ => r_len sl22 (hρ _ _ rfl))) (all_cons (q_run (.int .i64 ((min zs.length 10 : Nat) : Int)) rfl rfl (wv_n rfl) rfl (fun _ _ hρ _ => r_as (r_min (hρ _ _ rfl) (hρ _ _ rfl)) (int_as (minI _ 10)))) (all_cons (q_run (.slice c l3.length capc) rfl rfl (wv_n rfl) rfl (fun ρ _ hρ _ => r_as (r_sliceO sl22 sz36 (hρ _ _ rfl) (bd_none ρ _) (bd_some (n := min zs.length 10) (hρ _ _ rfl)) (bd_none ρ _) (by simp) (by omega) (by omega) (by omega)) (by rw [hn3]; exact slo_zero _ _ _ _))) all_nil)))))) (allM (all_cons ?_ all_nil))
        refine LOb_callN (fun ((n3, b3) : NetR × List (RowG By)) => pvs n3.l = fewV (pvs l3) ∧ InB b3 n3.l) (fun (n3, b3) => .slice n3.a n3.l.length n3.cap) (fun (n3, b3) => [(964, .row (.slice n3.a n3.l.length n3.cap) 36 3 n3.l.length (n3.l.flatMap Pcl.cells)), (965, .pool 5 1 byc b3)]) (fun (n3, b3) => []) rfl (wv_n rfl) rfl rfl (fun _ _ hρ _ => r_call (args := [.slice c l3.length capc]) (enters_of Try.func12 (by kernel_rfl) rfl) (hρ _ _ rfl) ((cons2 (hρ _ _ rfl) rfl)) rfl) (fun w hm => (few_c l3 c capc w (hs3.keep hm.ext) (by omega) (fun p hp => (fun h9 => ⟨(hz9 p h9).1.keep hm.ext, (hz9 p h9).2⟩) (by rw [hl3] at hp; exact List.mem_of_mem_take hp))).mono fun e w' ⟨n, bs, hf, hi, he, hb, r1, r2, hs⟩ => ⟨(n, bs), ⟨hf, hi⟩, he, hb, newOk2 964 965 r1 r2 hs⟩) (fun (n3, b3) => by kernel_rfl) ?_
        rintro ⟨n3, b3⟩ hfn3
        refine G_step [] 12 [] (by kernel_rfl) (allM all_nil) (allM (all_cons ?_ all_nil))
        refine LOb_store 3 (.cells #[.slice n1.a n1.l.length n1.cap, .int .u64 lost] 27) [] rfl (wv_n rfl) rfl rfl rfl (fun _ _ hρ hm => r_store sz27 (hρ _ _ rfl) (hρ _ _ rfl) (hm.at 3 rfl) rfl rfl rfl rfl) (by kernel_rfl) ?_
        refine G_step [] 13 [] (by kernel_rfl) (allM all_nil) (allM (all_cons ?_ all_nil))
        refine LOb_store 4 (.cells #[.slice n2.a n2.l.length n2.cap, .int .u64 lost2] 27) [(14, .slice n3.a n3.l.length n3.cap)] rfl (wv_n rfl) rfl rfl rfl (fun _ _ hρ hm => r_store sz27 (hρ _ _ rfl) (hρ _ _ rfl) (hm.at 4 rfl) rfl rfl rfl rfl) (by kernel_rfl) ?_
        exact G_lastQ [14] [(2, .slice c zs.length capc), (3, .pointer (some ⟨B1, 0, none⟩)), (6, .bool false), (7, .pointer (some ⟨B31, 0, none⟩)), (8, .pointer (some ⟨B27, 0, none⟩)), (9, .slice n3.a n3.l.length n3.cap)] (by kernel_rfl) (allM (all_cons (q_run (.slice n3.a n3.l.length n3.cap) rfl rfl (wv_n rfl) rfl (fun _ _ hρ _ => r_assign (hρ _ _ rfl))) all_nil)) (end_old rfl rfl (end_old rfl rfl (end_old rfl rfl (end_new 10 rfl rfl (end_new 11 rfl rfl (end_new 14 rfl rfl end_nil)))))) (fun a w hf hm => At_intro (n1, b1, n2, b2, n3, b3, B31, B27) ⟨hfn1, hfn2, hfn3, trivial⟩ hf hm (sub_cons rfl (sub_cons rfl (sub_cons rfl (sub_cons rfl (sub_cons rfl (sub_cons rfl sub_nil)))))) (sub_cons rfl (sub_cons rfl (sub_cons rfl (sub_cons rfl (sub_cons rfl (sub_cons rfl (sub_cons rfl (sub_cons rfl (sub_cons rfl (sub_cons rfl sub_nil)))))))))))
  · skip
    obtain ⟨n1, b1, n2, b2, n3, b3, Bx10, Bx11⟩ := z
    obtain ⟨hfn1, hfn2, hfn3, _⟩ := hz
    show T _ _ _ [(2, .slice c zs.length capc), (3, .pointer (some ⟨B1, 0, none⟩)), (6, .bool false), (7, .pointer (some ⟨Bx10, 0, none⟩)), (8, .pointer (some ⟨Bx11, 0, none⟩)), (9, .slice n3.a n3.l.length n3.cap)] [(1, .blk B1 (.cells #[.slice a xs.length cap, .int .u64 lost] 27)), (2, .blk B2 (.cells #[.slice b ys.length capb, .int .u64 lost2] 27)), (3, .blk Bx10 (.cells #[.slice n1.a n1.l.length n1.cap, .int .u64 lost] 27)), (4, .blk Bx11 (.cells #[.slice n2.a n2.l.length n2.cap, .int .u64 lost2] 27)), (960, .row (.slice n1.a n1.l.length n1.cap) 36 3 n1.l.length (n1.l.flatMap Pcl.cells)), (961, .pool 5 1 byc b1), (962, .row (.slice n2.a n2.l.length n2.cap) 36 3 n2.l.length (n2.l.flatMap Pcl.cells)), (963, .pool 5 1 byc b2), (964, .row (.slice n3.a n3.l.length n3.cap) 36 3 n3.l.length (n3.l.flatMap Pcl.cells)), (965, .pool 5 1 byc b3)]
    refine T_mem (_ :: _ :: _) (fun _ hm => hm.netShelf 960 961 rfl rfl rfl hfn1.2) ?_
    refine T_mem (_ :: _ :: _) (fun _ hm => hm.netShelf 964 965 rfl rfl rfl hfn3.2) ?_
    refine T_mem (_ :: _ :: _) (fun _ hm => MemOk.shMerge netK hm 960 964 rfl rfl rfl) ?_
    obtain ⟨ns, hns⟩ : ∃ l, l = [n1] ++ [n3] := ⟨_, rfl⟩
    rw [← hns]
    have hA : n1 ∈ ns := by rw [hns]; exact List.mem_cons_self
    have hC : n3 ∈ ns := by rw [hns]; exact List.mem_cons_of_mem _ List.mem_cons_self
    have hn1l := few_le hfn1.1
    have hn3l := few_le10 hfn3.1 (by omega)
    by_cases hck : checkV (pvs n1.l) lost = true
    · skip
      refine T_seq (T_region ?_)
      refine TL_q (.agg #[.slice n1.a n1.l.length n1.cap, .int .u64 lost]) (fun _ _ hρ hm => r_loadA ag27 sz27 (hρ _ _ rfl) (hm.at 3 rfl) rfl rfl) rfl rfl rfl (w_n rfl) ?_
      refine TL_call (.bool true) (fun _ _ hρ _ => r_call (args := [.agg #[.slice n1.a n1.l.length n1.cap, .int .u64 lost]]) (enters_of Try.func22 (by kernel_rfl) rfl) (hρ _ _ rfl) ((cons2 (hρ _ _ rfl) rfl)) rfl) (fun w hm => (nright_c n1.l n1.a n1.cap lost w (hm.netAt 960 rfl hA).1 (hm.netAt 960 rfl hA).2.1 (hm.netAt 960 rfl hA).2.2).mono fun _ _ h => ⟨h.1.trans (congrArg Ending.returned (bool_as hck)), h.2⟩) rfl rfl rfl (w_n rfl) ?_
      refine TL_q (.bool true) (fun _ _ hρ _ => r_assign (hρ _ _ rfl)) rfl rfl rfl (w_n rfl) ?_
      refine TL_seq ?_
      refine T_seq ?_
      refine T_seq (T_region ?_)
      refine TL_q (.agg #[.slice n1.a n1.l.length n1.cap, .int .u64 lost]) (fun _ _ hρ hm => r_loadA ag27 sz27 (hρ _ _ rfl) (hm.at 3 rfl) rfl rfl) rfl rfl rfl (w_n rfl) ?_
      refine TL_call (.int .i64 0) (fun _ _ hρ _ => r_call (args := [.agg #[.slice n1.a n1.l.length n1.cap, .int .u64 lost]]) (enters_of Try.func31 (by kernel_rfl) rfl) (hρ _ _ rfl) ((cons2 (hρ _ _ rfl) rfl)) rfl) (fun w hm => (ncheck_c n1.l n1.a n1.cap lost w (hm.netAt 960 rfl hA).1 (hm.netAt 960 rfl hA).2.1 (hm.netAt 960 rfl hA).2.2).mono fun _ _ h => ⟨h.1.trans (congrArg Ending.returned (int_as (if_pos hck))), h.2⟩) rfl rfl rfl (w_n rfl) ?_
      refine TL_q (.int .i64 0) (fun _ _ hρ _ => r_assign (hρ _ _ rfl)) rfl rfl rfl (w_n rfl) ?_
      refine TL_seq ?_
      refine T_seq (T_draw (V := [(0, .int .i64 0), (1, .bool true), (2, .bool true), (3, .bool false), (4, .bool false), (5, .int .i64 0), (6, .bool false), (7, .bool false), (8, undef), (9, undef), (10, .bool false), (11, .bool false), (12, .bool false), (13, .agg #[.slice n1.a n1.l.length n1.cap, .int .u64 lost]), (14, .agg #[.slice n2.a n2.l.length n2.cap, .int .u64 lost2]), (16, .agg #[.slice n1.a n1.l.length n1.cap, .int .u64 lost]), (17, .agg #[.slice n2.a n2.l.length n2.cap, .int .u64 lost2])]) [0, 1, 0, 7, 15, 31, 63, 127, 255, 511, 1023, 2047, 4095, 8191, 8191, 32767, 8191, 8191, 262143, 524287, 1048575, 2097151, 4194303, 4194303, 12582911, 33554431, 67108863, 134217727, 268435455, 536870911, 536870911, 2147483647, 4294967295, 8589934591] [[(11, none)], [(41, some 0)], [(10, none)], [(42, some 1), (43, some 2)], [(44, some 3)], [(11, none)], [(46, some 5)], [(47, some 6)], [(11, none)], [(49, some 8)], [(50, some 9), (48, some 7)], [(51, some 10), (45, some 4)], [(52, some 11)], [(7, none)], [(8, none)], [(54, some 13), (55, some 14)], [(7, none)], [(8, none)], [(57, some 16), (58, some 17)], [(56, some 15), (59, some 18)], [(60, some 19), (53, some 12)], [(61, some 20)], [(7, none)], [(3, none)], [(64, some 23)], [(63, some 22), (65, some 24)], [(66, some 25)], [(67, some 26), (62, some 21)], [(68, some 27)], [], [], [(70, some 29), (71, some 30)], [(72, some 31)], [(73, some 32), (69, some 28)]] 2734981120 mixed (by kernel_rfl) ?_)
      refine G_step [0, 1, 2, 3, 4, 5, 6, 7, 8, 9, 10, 11, 12, 13, 14, 16, 17] 15 [] (by kernel_rfl) (allM (all_cons (q_run (.int .i64 0) rfl rfl (wv_n rfl) rfl (fun _ _ hρ _ => r_move (hρ _ _ rfl))) (all_cons (q_run (.bool true) rfl rfl (wv_n rfl) rfl (fun _ _ hρ _ => r_as (r_eql (hρ _ _ rfl) (hρ _ _ rfl)) (by rfl))) (all_cons (q_run (.bool true) rfl rfl (wv_n rfl) rfl (fun _ _ hρ _ => r_move (hρ _ _ rfl))) (all_cons (q_run (.bool false) rfl rfl (wv_n rfl) rfl (fun _ _ hρ _ => r_as (r_neqB (by kernel_rfl) (hρ _ _ rfl) (hρ _ _ rfl)) (by rfl))) (all_cons (q_run (.bool false) rfl rfl (wv_n rfl) rfl (fun _ _ hρ _ => r_move (hρ _ _ rfl))) (all_cons (q_run (.int .i64 0) rfl rfl (wv_y rfl rfl) rfl (fun _ _ hρ _ => r_move (hρ _ _ rfl))) (all_cons (q_run (.bool false) rfl rfl (wv_y rfl rfl) rfl (fun _ _ hρ _ => r_as (r_neq (hρ _ _ rfl) (hρ _ _ rfl)) (by rfl))) (all_cons (q_run (.bool false) rfl rfl (wv_y rfl rfl) rfl (fun _ _ hρ _ => r_move (hρ _ _ rfl))) (all_cons (q_no rfl rfl (wv_no rfl rfl)) (all_cons (q_no rfl rfl (wv_no rfl rfl)) (all_cons (q_run (.bool false) rfl rfl (wv_y rfl rfl) rfl (fun _ _ hρ _ => r_pick_f (hρ _ _ rfl) (hρ _ _ rfl))) (all_cons (q_run (.bool false) rfl rfl (wv_n rfl) rfl (fun _ _ hρ _ => r_pick_f (hρ _ _ rfl) (hρ _ _ rfl))) (all_cons (q_run (.bool false) rfl rfl (wv_n rfl) rfl (fun _ _ hρ _ => r_move (hρ _ _ rfl))) (all_cons (q_run (.agg #[.slice n1.a n1.l.length n1.cap, .int .u64 lost]) rfl rfl (wv_y rfl rfl) rfl (fun _ _ hρ hm => r_loadA ag27 sz27 (hρ _ _ rfl) (hm.at 3 rfl) rfl rfl)) (all_cons (q_run (.agg #[.slice n2.a n2.l.length n2.cap, .int .u64 lost2]) rfl rfl (wv_y rfl rfl) rfl (fun _ _ hρ hm => r_loadA ag27 sz27 (hρ _ _ rfl) (hm.at 4 rfl) rfl rfl)) (all_cons (q_run (.agg #[.slice n1.a n1.l.length n1.cap, .int .u64 lost]) rfl rfl (wv_y rfl rfl) rfl (fun _ _ hρ hm => r_loadA ag27 sz27 (hρ _ _ rfl) (hm.at 3 rfl) rfl rfl)) (all_cons (q_run (.agg #[.slice n2.a n2.l.length n2.cap, .int .u64 lost2]) rfl rfl (wv_y rfl rfl) rfl (fun _ _ hρ hm => r_loadA ag27 sz27 (hρ _ _ rfl) (hm.at 4 rfl) rfl rfl)) all_nil)))))))))))))))))) (allM (all_cons ?_ all_nil))
      refine LOb_call (.bool (decide (lost = lost2 ∧ pvs n1.l = pvs n2.l))) [] rfl (wv_y rfl rfl) rfl rfl (fun _ _ hρ _ => r_call (args := [.agg #[.slice n1.a n1.l.length n1.cap, .int .u64 lost], .agg #[.slice n2.a n2.l.length n2.cap, .int .u64 lost2]]) (enters_of Try.func32 (by kernel_rfl) rfl) (hρ _ _ rfl) ((cons2 (hρ _ _ rfl) (cons2 (hρ _ _ rfl) rfl))) rfl) (fun w hm => nsame_c n1.l n1.a n1.cap lost n2.l n2.a n2.cap lost2 w (hm.netAt 960 rfl hA).1 (hm.netAt 960 rfl hA).2.1 (hm.netAt 960 rfl hA).2.2 (SliceAt.own Pcl.cells_len (hm.row 962 rfl) rfl rfl) (row_cap (hm.row 962 rfl)) (pcs_pool (hm.pool 963 rfl) hfn2.2)) (by kernel_rfl) ?_
      refine G_step [16, 17] 18 [] (by kernel_rfl) (allM (all_cons (q_run (.agg #[.slice n1.a n1.l.length n1.cap, .int .u64 lost]) rfl rfl (wv_y rfl rfl) rfl (fun _ _ hρ hm => r_loadA ag27 sz27 (hρ _ _ rfl) (hm.at 3 rfl) rfl rfl)) (all_cons (q_run (.agg #[.slice n2.a n2.l.length n2.cap, .int .u64 lost2]) rfl rfl (wv_y rfl rfl) rfl (fun _ _ hρ hm => r_loadA ag27 sz27 (hρ _ _ rfl) (hm.at 4 rfl) rfl rfl)) all_nil))) (allM (all_cons ?_ all_nil))
      refine LOb_call (.bool (decide (lost = lost2 ∧ pvs n1.l = pvs n2.l))) [(19, .bool false), (20, .bool false), (21, .bool false), (22, .agg #[.slice n1.a n1.l.length n1.cap, .int .u64 lost]), (23, .agg #[.slice a xs.length cap, .int .u64 lost])] rfl (wv_y rfl rfl) rfl rfl (fun _ _ hρ _ => r_call (args := [.agg #[.slice n1.a n1.l.length n1.cap, .int .u64 lost], .agg #[.slice n2.a n2.l.length n2.cap, .int .u64 lost2]]) (enters_of Try.func25 (by kernel_rfl) rfl) (hρ _ _ rfl) ((cons2 (hρ _ _ rfl) (cons2 (hρ _ _ rfl) rfl))) rfl) (fun w hm => nrsame_c n1.l n1.a n1.cap lost n2.l n2.a n2.cap lost2 w (hm.netAt 960 rfl hA).1 (hm.netAt 960 rfl hA).2.1 (hm.netAt 960 rfl hA).2.2 (SliceAt.own Pcl.cells_len (hm.row 962 rfl) rfl rfl) (row_cap (hm.row 962 rfl)) (pcs_pool (hm.pool 963 rfl) hfn2.2)) (by kernel_rfl) ?_
      refine G_step [19, 20, 21, 22, 23] 24 [] (by kernel_rfl) (allM (all_cons (q_run (.bool false) rfl rfl (wv_y rfl rfl) rfl (fun _ _ hρ _ => r_as (r_neqB (by kernel_rfl) (hρ _ _ rfl) (hρ _ _ rfl)) (bool_as (by simp)))) (all_cons (q_run (.bool false) rfl rfl (wv_n rfl) rfl (fun _ _ hρ _ => r_pick_f (hρ _ _ rfl) (hρ _ _ rfl))) (all_cons (q_run (.bool false) rfl rfl (wv_n rfl) rfl (fun _ _ hρ _ => r_move (hρ _ _ rfl))) (all_cons (q_run (.agg #[.slice n1.a n1.l.length n1.cap, .int .u64 lost]) rfl rfl (wv_y rfl rfl) rfl (fun _ _ hρ hm => r_loadA ag27 sz27 (hρ _ _ rfl) (hm.at 3 rfl) rfl rfl)) (all_cons (q_run (.agg #[.slice a xs.length cap, .int .u64 lost]) rfl rfl (wv_y rfl rfl) rfl (fun _ _ hρ hm => r_loadA ag27 sz27 (hρ _ _ rfl) (hm.at 1 rfl) rfl rfl)) all_nil)))))) (allM (all_cons ?_ all_nil))
      refine LOb_callN (fun ((n4, b4) : NetR × List (RowG By)) => pvs n4.l = fewV (pvs xs) ∧ InB b4 n4.l) (fun (n4, b4) => .agg #[.slice n4.a n4.l.length n4.cap, .int .u64 lost]) (fun (n4, b4) => [(966, .row (.slice n4.a n4.l.length n4.cap) 36 3 n4.l.length (n4.l.flatMap Pcl.cells)), (967, .pool 5 1 byc b4)]) (fun (n4, b4) => []) rfl (wv_y rfl rfl) rfl rfl (fun _ _ hρ _ => r_call (args := [.agg #[.slice a xs.length cap, .int .u64 lost]]) (enters_of Try.func20 (by kernel_rfl) rfl) (hρ _ _ rfl) ((cons2 (hρ _ _ rfl) rfl)) rfl) (fun w hm => (own_c xs a cap lost w (hv.keep hm.ext) hcap (fun p hp => ⟨(hx p hp).1.keep hm.ext, (hx p hp).2⟩)).mono fun e w' ⟨n, bs, hf, hi, he, hb, r1, r2, hs⟩ => ⟨(n, bs), ⟨hf, hi⟩, he, hb, newOk2 966 967 r1 r2 hs⟩) (fun (n4, b4) => by kernel_rfl) ?_
      rintro ⟨n4, b4⟩ hfn4
      refine G_step [22] 25 [] (by kernel_rfl) (allM (all_cons (q_run (.agg #[.slice n1.a n1.l.length n1.cap, .int .u64 lost]) rfl rfl (wv_y rfl rfl) rfl (fun _ _ hρ hm => r_loadA ag27 sz27 (hρ _ _ rfl) (hm.at 3 rfl) rfl rfl)) all_nil)) (allM (all_cons ?_ all_nil))
      refine LOb_call (.bool true) [(26, .bool false), (27, .bool false), (28, .bool false), (30, .agg #[.slice none 0 0, .int .u64 0])] rfl (wv_y rfl rfl) rfl rfl (fun _ _ hρ _ => r_call (args := [.agg #[.slice n1.a n1.l.length n1.cap, .int .u64 lost], .agg #[.slice n4.a n4.l.length n4.cap, .int .u64 lost]]) (enters_of Try.func32 (by kernel_rfl) rfl) (hρ _ _ rfl) ((cons2 (hρ _ _ rfl) (cons2 (hρ _ _ rfl) rfl))) rfl) (fun w hm => (nsame_c n1.l n1.a n1.cap lost n4.l n4.a n4.cap lost w (hm.netAt 960 rfl hA).1 (hm.netAt 960 rfl hA).2.1 (hm.netAt 960 rfl hA).2.2 (SliceAt.own Pcl.cells_len (hm.row 966 rfl) rfl rfl) (row_cap (hm.row 966 rfl)) (pcs_pool (hm.pool 967 rfl) hfn4.2)).mono fun _ _ h => ⟨h.1.trans (congrArg Ending.returned (bool_as (decide_eq_true ⟨rfl, hfn1.1.trans hfn4.1.symm⟩))), h.2⟩) (by kernel_rfl) ?_
      refine G_step [26, 27, 28, 30] 29 [] (by kernel_rfl) (allM (all_cons (q_run (.bool false) rfl rfl (wv_y rfl rfl) rfl (fun _ _ hρ _ => r_not (b := true) (hρ _ _ rfl))) (all_cons (q_run (.bool false) rfl rfl (wv_n rfl) rfl (fun _ _ hρ _ => r_pick_f (hρ _ _ rfl) (hρ _ _ rfl))) (all_cons (q_run (.bool false) rfl rfl (wv_n rfl) rfl (fun _ _ hρ _ => r_move (hρ _ _ rfl))) (all_cons (q_run (.agg #[.slice none 0 0, .int .u64 0]) rfl rfl (wv_y rfl rfl) rfl (fun _ _ _ _ => r_build (vs := []) (by kernel_rfl) rfl)) all_nil))))) (allM (all_cons ?_ all_nil))
      refine LOb_call (.agg #[.slice none 0 0, .int .u64 0]) [] rfl (wv_y rfl rfl) rfl rfl (fun _ _ hρ _ => r_call (args := []) (enters_of Try.func14 (by kernel_rfl) rfl) (hρ _ _ rfl) (by rfl) rfl) (fun w _ => nnew_c w) (by kernel_rfl) ?_
      refine G_step [30] 31 [] (by kernel_rfl) (allM (all_cons (q_run (.agg #[.slice none 0 0, .int .u64 0]) rfl rfl (wv_y rfl rfl) rfl (fun _ _ _ _ => r_build (vs := []) (by kernel_rfl) rfl)) all_nil)) (allM (all_cons ?_ all_nil))
      refine LOb_call (.bool true) [(32, .bool false), (33, .bool false)] rfl (wv_y rfl rfl) rfl rfl (fun _ _ hρ _ => r_call (args := [.agg #[.slice none 0 0, .int .u64 0], .agg #[.slice none 0 0, .int .u64 0]]) (enters_of Try.func25 (by kernel_rfl) rfl) (hρ _ _ rfl) ((cons2 (hρ _ _ rfl) (cons2 (hρ _ _ rfl) rfl))) rfl) (fun w _ => (nrsame_c [] none 0 (0 : Int) [] none 0 (0 : Int) w (sliceNil w) (by decide) (pcsNil _) (sliceNil w) (by decide) (pcsNil _)).mono fun _ _ h => ⟨h.1.trans (congrArg Ending.returned (bool_as (decide_eq_true ⟨rfl, rfl⟩))), h.2⟩) (by kernel_rfl) ?_
      refine G_last [32, 33] [(2, .slice c zs.length capc), (3, .pointer (some ⟨B1, 0, none⟩)), (6, .bool false), (7, .pointer (some ⟨Bx10, 0, none⟩)), (9, .slice n3.a n3.l.length n3.cap), (10, .bool true), (74, .bool false)] (by kernel_rfl) (allM (all_cons (q_run (.bool false) rfl rfl (wv_y rfl rfl) rfl (fun _ _ hρ _ => r_not (b := true) (hρ _ _ rfl))) (all_cons (q_run (.bool false) rfl rfl (wv_n rfl) rfl (fun _ _ hρ _ => r_pick_f (hρ _ _ rfl) (hρ _ _ rfl))) all_nil))) (end_old rfl rfl (end_old rfl rfl (end_old rfl rfl (end_old rfl rfl (end_old rfl rfl (end_old rfl rfl (end_new 33 rfl rfl end_nil))))))) ?_
      refine T_cond_f rfl ?_
      refine T_skip' ?_
      refine p_seq ?_
      refine T_seq ?_
      refine T_seq (T_region ?_)
      refine TL_q (.int .i64 (-1)) (fun _ _ hρ _ => r_assign (hρ _ _ rfl)) rfl rfl rfl (w_n rfl) ?_
      refine TL_seq ?_
      refine T_block ?_
      refine T_loop (ι := Int) (fun (to : Int) => -1 ≤ to ∧ to ≤ 10) (fun (to : Int) => [(2, .slice c zs.length capc), (3, .pointer (some ⟨B1, 0, none⟩)), (7, .pointer (some ⟨Bx10, 0, none⟩)), (9, .slice n3.a n3.l.length n3.cap), (10, .bool true), (12, .int .i64 to)]) (fun (to : Int) => [(966, .row (.slice n4.a n4.l.length n4.cap) 36 3 n4.l.length (n4.l.flatMap Pcl.cells)), (967, .pool 5 1 byc b4), (960, .nets ns), (964, .no), (961, .no), (965, .no), (1, .blk B1 (.cells #[.slice a xs.length cap, .int .u64 lost] 27)), (2, .blk B2 (.cells #[.slice b ys.length capb, .int .u64 lost2] 27)), (3, .blk Bx10 (.cells #[.slice n1.a n1.l.length n1.cap, .int .u64 lost] 27)), (4, .blk Bx11 (.cells #[.slice n2.a n2.l.length n2.cap, .int .u64 lost2] 27)), (962, .row (.slice n2.a n2.l.length n2.cap) 36 3 n2.l.length (n2.l.flatMap Pcl.cells)), (963, .pool 5 1 byc b2)]) (fun (to : Int) => (10 - to).toNat) (-1 : Int) ⟨by decide, by decide⟩ (sub_cons rfl (sub_cons rfl (sub_cons rfl (sub_cons rfl (sub_cons rfl (sub_cons rfl sub_nil)))))) (sub_cons rfl (sub_cons rfl (sub_cons rfl (sub_cons rfl (sub_cons rfl (sub_cons rfl (sub_cons rfl (sub_cons rfl (sub_cons rfl (sub_cons rfl (sub_cons rfl (sub_cons rfl sub_nil)))))))))))) ?_
      rintro to hp
      obtain ⟨hto1, hto2⟩ := hp
      show T _ _ _ [(2, .slice c zs.length capc), (3, .pointer (some ⟨B1, 0, none⟩)), (7, .pointer (some ⟨Bx10, 0, none⟩)), (9, .slice n3.a n3.l.length n3.cap), (10, .bool true), (12, .int .i64 to)] [(966, .row (.slice n4.a n4.l.length n4.cap) 36 3 n4.l.length (n4.l.flatMap Pcl.cells)), (967, .pool 5 1 byc b4), (960, .nets ns), (964, .no), (961, .no), (965, .no), (1, .blk B1 (.cells #[.slice a xs.length cap, .int .u64 lost] 27)), (2, .blk B2 (.cells #[.slice b ys.length capb, .int .u64 lost2] 27)), (3, .blk Bx10 (.cells #[.slice n1.a n1.l.length n1.cap, .int .u64 lost] 27)), (4, .blk Bx11 (.cells #[.slice n2.a n2.l.length n2.cap, .int .u64 lost2] 27)), (962, .row (.slice n2.a n2.l.length n2.cap) 36 3 n2.l.length (n2.l.flatMap Pcl.cells)), (963, .pool 5 1 byc b2)]
      refine T_seq ?_
      refine T_seq (T_region ?_)
      refine TL_q (.int .i64 to) (fun _ _ hρ _ => r_move (hρ _ _ rfl)) rfl rfl rfl (w_n rfl) ?_
      refine TL_q (.bool (decide (to ≤ 9))) (fun _ _ hρ _ => r_leq (hρ _ _ rfl) (hρ _ _ rfl)) rfl rfl rfl (w_n rfl) ?_
      refine TL_seq ?_
      refine T_cond rfl (fun h1 => ?_) (fun h1 => ?_)
      · replace h1 := of_decide_eq_true h1
        refine T_skip' ?_
        refine p_seq ?_
        refine T_seq ?_
        refine T_block ?_
        refine T_seq (T_region ?_)
        refine TL_q (.agg #[.slice n1.a n1.l.length n1.cap, .int .u64 lost]) (fun _ _ hρ hm => r_loadA ag27 sz27 (hρ _ _ rfl) (hm.at 3 rfl) rfl rfl) rfl rfl rfl (w_n rfl) ?_
        refine TL_q (.int .i64 to) (fun _ _ hρ _ => r_move (hρ _ _ rfl)) rfl rfl rfl (w_n rfl) ?_
        refine TL_call (.tuple #[.int .i64 (((fiV n1.l to).getD 0 : Nat) : Int), .bool ((fiV n1.l to).isSome)]) (fun _ _ hρ _ => r_call (args := [.agg #[.slice n1.a n1.l.length n1.cap, .int .u64 lost], .int .i64 to]) (enters_of Try.func17 (by kernel_rfl) rfl) (hρ _ _ rfl) ((cons2 (hρ _ _ rfl) (cons2 (hρ _ _ rfl) rfl))) rfl) (fun w hm => (first_ok n1.l n1.a n1.cap lost to w (hm.netAt 960 rfl hA).1 (hm.netAt 960 rfl hA).2.1 (hm.netAt 960 rfl hA).2.2 hck).mono fun _ _ h => ⟨h.1.trans (congrArg Ending.returned (by rw [toV_first]; rfl)), h.2⟩) rfl rfl rfl (w_n rfl) ?_
        refine TL_q (.tuple #[.int .i64 (((fiV n1.l to).getD 0 : Nat) : Int), .bool ((fiV n1.l to).isSome)]) (fun _ _ hρ _ => r_move (hρ _ _ rfl)) rfl rfl rfl (w_n rfl) ?_
        refine TL_q (.int .i64 (((fiV n1.l to).getD 0 : Nat) : Int)) (fun _ _ hρ _ => r_extract (hρ _ _ rfl) rfl) rfl rfl rfl (w_n rfl) ?_
        refine TL_q (.bool ((fiV n1.l to).isSome)) (fun _ _ hρ _ => r_extract (hρ _ _ rfl) rfl) rfl rfl rfl (w_n rfl) ?_
        refine TL_q (.int .i64 (((fiV n1.l to).getD 0 : Nat) : Int)) (fun _ _ hρ _ => r_assign (hρ _ _ rfl)) rfl rfl rfl (w_n rfl) ?_
        refine TL_q (.bool ((fiV n1.l to).isSome)) (fun _ _ hρ _ => r_assign (hρ _ _ rfl)) rfl rfl rfl (w_n rfl) ?_
        refine TL_seq ?_
        refine T_seq (T_region ?_)
        refine TL_q (.int .i64 0) (fun _ _ hρ _ => r_assign (hρ _ _ rfl)) rfl rfl rfl (w_n rfl) ?_
        refine TL_q (.bool false) (fun _ _ hρ _ => r_assign (hρ _ _ rfl)) rfl rfl rfl (w_n rfl) ?_
        refine TL_seq ?_
        refine T_seq ?_
        refine T_seq (T_region ?_)
        refine TL_q (.pointer (some ⟨Bx10, 0, none⟩)) (fun _ _ hρ _ => r_fieldAddr fl27_0 sz22 (hρ _ _ rfl)) rfl rfl rfl (w_n rfl) ?_
        refine TL_q (.slice n1.a n1.l.length n1.cap) (fun _ _ hρ hm => r_load ag22 (hρ _ _ rfl) (hm.at 3 rfl) rfl) rfl rfl rfl (w_n rfl) ?_
        refine TL_q (.int .i64 ((n1.l.length : Nat) : Int)) (fun _ _ hρ _ => r_len sl22 (hρ _ _ rfl)) rfl rfl rfl (w_n rfl) ?_
        refine TL_q (.int .i64 0) (fun _ _ hρ _ => r_move (hρ _ _ rfl)) rfl rfl rfl (w_n rfl) ?_
        refine TL_seq ?_
        refine T_block ?_
        refine T_loop (ι := Nat × Option Nat) (fun (z : Nat × Option Nat) => match z with | (k, o) => k ≤ n1.l.length ∧ o = fiV (n1.l.take k) to) (fun (z : Nat × Option Nat) => match z with | (k, o) => [(2, .slice c zs.length capc), (3, .pointer (some ⟨B1, 0, none⟩)), (7, .pointer (some ⟨Bx10, 0, none⟩)), (9, .slice n3.a n3.l.length n3.cap), (10, .bool true), (12, .int .i64 to), (75, .int .i64 to), (76, .bool (decide (to ≤ 9))), (80, .agg #[.slice n1.a n1.l.length n1.cap, .int .u64 lost]), (81, .int .i64 to), (82, .tuple #[.int .i64 (((fiV n1.l to).getD 0 : Nat) : Int), .bool ((fiV n1.l to).isSome)]), (79, .tuple #[.int .i64 (((fiV n1.l to).getD 0 : Nat) : Int), .bool ((fiV n1.l to).isSome)]), (83, .int .i64 (((fiV n1.l to).getD 0 : Nat) : Int)), (84, .bool ((fiV n1.l to).isSome)), (13, .int .i64 (((fiV n1.l to).getD 0 : Nat) : Int)), (14, .bool ((fiV n1.l to).isSome)), (85, .pointer (some ⟨Bx10, 0, none⟩)), (86, .slice n1.a n1.l.length n1.cap), (87, .int .i64 ((n1.l.length : Nat) : Int)), (88, .int .i64 ((k : Nat) : Int)), (15, .int .i64 ((o.getD 0 : Nat) : Int)), (16, .bool o.isSome)]) (fun (z : Nat × Option Nat) => match z with | (k, o) => [(966, .row (.slice n4.a n4.l.length n4.cap) 36 3 n4.l.length (n4.l.flatMap Pcl.cells)), (967, .pool 5 1 byc b4), (960, .nets ns), (964, .no), (961, .no), (965, .no), (1, .blk B1 (.cells #[.slice a xs.length cap, .int .u64 lost] 27)), (2, .blk B2 (.cells #[.slice b ys.length capb, .int .u64 lost2] 27)), (3, .blk Bx10 (.cells #[.slice n1.a n1.l.length n1.cap, .int .u64 lost] 27)), (4, .blk Bx11 (.cells #[.slice n2.a n2.l.length n2.cap, .int .u64 lost2] 27)), (962, .row (.slice n2.a n2.l.length n2.cap) 36 3 n2.l.length (n2.l.flatMap Pcl.cells)), (963, .pool 5 1 byc b2)]) (fun (z : Nat × Option Nat) => match z with | (k, o) => n1.l.length - k) (0, none) ⟨Nat.zero_le _, rfl⟩ (sub_cons rfl (sub_cons rfl (sub_cons rfl (sub_cons rfl (sub_cons rfl (sub_cons rfl (sub_cons rfl (sub_cons rfl (sub_cons rfl (sub_cons rfl (sub_cons rfl (sub_cons rfl (sub_cons rfl (sub_cons rfl (sub_cons rfl (sub_cons rfl (sub_cons rfl (sub_cons rfl (sub_cons rfl (sub_cons rfl (sub_cons rfl (sub_cons rfl sub_nil)))))))))))))))))))))) (sub_cons rfl (sub_cons rfl (sub_cons rfl (sub_cons rfl (sub_cons rfl (sub_cons rfl (sub_cons rfl (sub_cons rfl (sub_cons rfl (sub_cons rfl (sub_cons rfl (sub_cons rfl sub_nil)))))))))))) ?_
        rintro ⟨k, o⟩ hp
        obtain ⟨hk, ho2⟩ := hp
        show T _ _ _ [(2, .slice c zs.length capc), (3, .pointer (some ⟨B1, 0, none⟩)), (7, .pointer (some ⟨Bx10, 0, none⟩)), (9, .slice n3.a n3.l.length n3.cap), (10, .bool true), (12, .int .i64 to), (75, .int .i64 to), (76, .bool (decide (to ≤ 9))), (80, .agg #[.slice n1.a n1.l.length n1.cap, .int .u64 lost]), (81, .int .i64 to), (82, .tuple #[.int .i64 (((fiV n1.l to).getD 0 : Nat) : Int), .bool ((fiV n1.l to).isSome)]), (79, .tuple #[.int .i64 (((fiV n1.l to).getD 0 : Nat) : Int), .bool ((fiV n1.l to).isSome)]), (83, .int .i64 (((fiV n1.l to).getD 0 : Nat) : Int)), (84, .bool ((fiV n1.l to).isSome)), (13, .int .i64 (((fiV n1.l to).getD 0 : Nat) : Int)), (14, .bool ((fiV n1.l to).isSome)), (85, .pointer (some ⟨Bx10, 0, none⟩)), (86, .slice n1.a n1.l.length n1.cap), (87, .int .i64 ((n1.l.length : Nat) : Int)), (88, .int .i64 ((k : Nat) : Int)), (15, .int .i64 ((o.getD 0 : Nat) : Int)), (16, .bool o.isSome)] [(966, .row (.slice n4.a n4.l.length n4.cap) 36 3 n4.l.length (n4.l.flatMap Pcl.cells)), (967, .pool 5 1 byc b4), (960, .nets ns), (964, .no), (961, .no), (965, .no), (1, .blk B1 (.cells #[.slice a xs.length cap, .int .u64 lost] 27)), (2, .blk B2 (.cells #[.slice b ys.length capb, .int .u64 lost2] 27)), (3, .blk Bx10 (.cells #[.slice n1.a n1.l.length n1.cap, .int .u64 lost] 27)), (4, .blk Bx11 (.cells #[.slice n2.a n2.l.length n2.cap, .int .u64 lost2] 27)), (962, .row (.slice n2.a n2.l.length n2.cap) 36 3 n2.l.length (n2.l.flatMap Pcl.cells)), (963, .pool 5 1 byc b2)]
        refine T_seq (T_region ?_)
        refine TL_q (.bool (decide (((k : Nat) : Int) < ((n1.l.length : Nat) : Int)))) (fun _ _ hρ _ => r_lss (hρ _ _ rfl) (hρ _ _ rfl)) rfl rfl rfl (w_n rfl) ?_
        refine TL_seq ?_
        refine T_seq ?_
        refine T_cond rfl (fun h2 => ?_) (fun h2 => ?_)
        · replace h2 := of_decide_eq_true h2
          refine T_skip' ?_
          refine p_seq ?_
          refine T_seq ?_
          refine T_block ?_
          obtain ⟨p, hp⟩ : ∃ x, n1.l[k]? = some x := ⟨_, List.getElem?_eq_getElem (by omega)⟩
          refine T_open (fun _ hm => (hm.netAt 960 rfl hA).1) (by omega) (fun b32 of32 ha32 => ?_)
          rw [ha32]
          refine T_seq (T_region ?_)
          refine TL_q (.int .i64 ((k : Nat) : Int)) (fun _ _ hρ _ => r_move (hρ _ _ rfl)) rfl rfl rfl (w_n rfl) ?_
          refine TL_q (.pointer (some ⟨b32, of32 + k * 3, none⟩)) (fun _ _ hρ _ => r_indexAddrS (i := k) sl22 sz36 (hρ _ _ rfl) (hρ _ _ rfl) (by omega)) rfl rfl rfl (w_n rfl) ?_
          refine TL_q (.agg #[.int .i64 p.to, .slice p.r.a p.r.l.length p.r.cap, .bool p.sp]) (fun _ _ hρ hm => r_loadS (f := Pcl.cells) (u := p) (l := n1.l) (i := k) ag36 sz36 (hρ _ _ rfl) (by have h9 := (hm.netAt 960 rfl hA).1; rw [ha32] at h9; exact h9) hp) rfl rfl rfl (w_n rfl) ?_
          refine TL_new 5 (.cells #[.int .i64 0, .slice none 0 0, .bool false] 36) (fun B => .pointer (some ⟨B, 0, none⟩)) (fun _ _ _ _ => r_alloc (v := .agg #[.int .i64 0, .slice none 0 0, .bool false]) (by kernel_rfl) rfl) rfl rfl rfl (w_n rfl) ?_
          intro B33
          refine TL_q (.int .i64 ((k : Nat) : Int)) (fun _ _ hρ _ => r_assign (hρ _ _ rfl)) rfl rfl rfl (w_n rfl) ?_
          refine TL_store 5 (.cells #[.int .i64 p.to, .slice p.r.a p.r.l.length p.r.cap, .bool p.sp] 36) rfl (fun _ _ hρ hm => r_store sz36 (hρ _ _ rfl) (hρ _ _ rfl) (hm.at 5 rfl) rfl rfl rfl rfl) rfl rfl (w_n rfl) ?_
          refine TL_seq ?_
          by_cases ho : o.isSome = true
          · skip
            refine T_seq (T_region ?_)
            refine TL_q (.bool true) (fun _ _ hρ _ => r_move (hρ _ _ rfl)) rfl rfl rfl (w_n rfl) ?_
            refine TL_q (.bool true) (fun _ _ hρ _ => r_move (hρ _ _ rfl)) rfl rfl rfl (w_n rfl) ?_
            refine TL_q (.bool o.isSome) (fun _ _ hρ _ => r_move (hρ _ _ rfl)) rfl rfl rfl (want_y 94 rfl rfl rfl) ?_
            refine TL_q (.bool false) (fun _ _ hρ _ => r_as (r_not (b := o.isSome) (hρ _ _ rfl)) (bool_as (by rw [ho]; rfl))) rfl rfl rfl (want_y 94 rfl rfl rfl) ?_
            refine TL_q (.bool false) (fun _ _ hρ _ => r_pick_t (hρ _ _ rfl) (hρ _ _ rfl)) rfl rfl rfl (w_n rfl) ?_
            refine TL_q (.bool false) (fun _ _ hρ _ => r_move (hρ _ _ rfl)) rfl rfl rfl (w_n rfl) ?_
            refine TL_no rfl rfl (want_n 98 rfl rfl rfl) ?_
            refine TL_no rfl rfl (want_n 98 rfl rfl rfl) ?_
            refine TL_no rfl rfl (want_n 98 rfl rfl rfl) ?_
            refine TL_no rfl rfl (want_n 98 rfl rfl rfl) ?_
            refine TL_q (.bool false) (fun _ _ hρ _ => r_pick_f (hρ _ _ rfl) (hρ _ _ rfl)) rfl rfl rfl (w_n rfl) ?_
            refine TL_seq ?_
            refine T_cond_f rfl ?_
            refine T_skip' ?_
            refine p_blk_n ?_
            refine p_seq ?_
            refine T_region ?_
            refine TL_q (.int .i64 ((k + 1 : Nat) : Int)) (fun _ _ hρ _ => r_as (r_add (hρ _ _ rfl) (hρ _ _ rfl)) (int_as ((wrap64 (by omega) (by omega)).trans (by omega)))) rfl rfl rfl (w_n rfl) ?_
            refine TL_q (.int .i64 ((k + 1 : Nat) : Int)) (fun _ _ hρ _ => r_move (hρ _ _ rfl)) rfl rfl rfl (w_n rfl) ?_
            refine TL_nil ?_
            exact p_at (k + 1, o) ⟨⟨by omega, fiV_was ho2 hp ho⟩, by dsimp only; omega⟩ (sub_cons rfl (sub_cons rfl (sub_cons rfl (sub_cons rfl (sub_cons rfl (sub_cons rfl (sub_cons rfl (sub_cons rfl (sub_cons rfl (sub_cons rfl (sub_cons rfl (sub_cons rfl (sub_cons rfl (sub_cons rfl (sub_cons rfl (sub_cons rfl (sub_cons rfl (sub_cons rfl (sub_cons rfl (sub_cons rfl (sub_cons rfl (sub_cons rfl sub_nil)))))))))))))))))))))) (sub_cons rfl (sub_cons rfl (sub_cons rfl (sub_cons rfl (sub_cons rfl (sub_cons rfl (sub_cons rfl (sub_cons rfl (sub_cons rfl (sub_cons rfl (sub_cons rfl (sub_cons rfl sub_nil))))))))))))
          · skip
            by_cases hpt : p.to = to
            · skip
              refine T_seq (T_region ?_)
              refine TL_q (.bool true) (fun _ _ hρ _ => r_move (hρ _ _ rfl)) rfl rfl rfl (w_n rfl) ?_
              refine TL_q (.bool true) (fun _ _ hρ _ => r_move (hρ _ _ rfl)) rfl rfl rfl (w_n rfl) ?_
              refine TL_q (.bool o.isSome) (fun _ _ hρ _ => r_move (hρ _ _ rfl)) rfl rfl rfl (want_y 94 rfl rfl rfl) ?_
              refine TL_q (.bool true) (fun _ _ hρ _ => r_as (r_not (b := o.isSome) (hρ _ _ rfl)) (bool_as (by rw [eq_false_of_ne_true ho]; rfl))) rfl rfl rfl (want_y 94 rfl rfl rfl) ?_
              refine TL_q (.bool true) (fun _ _ hρ _ => r_pick_t (hρ _ _ rfl) (hρ _ _ rfl)) rfl rfl rfl (w_n rfl) ?_
              refine TL_q (.bool true) (fun _ _ hρ _ => r_move (hρ _ _ rfl)) rfl rfl rfl (w_n rfl) ?_
              refine TL_q (.pointer (some ⟨B33, 0, none⟩)) (fun _ _ hρ _ => r_fieldAddr fl36_0 sz3 (hρ _ _ rfl)) rfl rfl rfl (want_y 98 rfl rfl rfl) ?_
              refine TL_q (.int .i64 p.to) (fun _ _ hρ hm => r_load ag3 (hρ _ _ rfl) (hm.at 5 rfl) rfl) rfl rfl rfl (want_y 98 rfl rfl rfl) ?_
              refine TL_q (.int .i64 to) (fun _ _ hρ _ => r_move (hρ _ _ rfl)) rfl rfl rfl (want_y 98 rfl rfl rfl) ?_
              refine TL_q (.bool true) (fun _ _ hρ _ => r_as (r_eql (hρ _ _ rfl) (hρ _ _ rfl)) (bool_as (decide_eq_true hpt))) rfl rfl rfl (want_y 98 rfl rfl rfl) ?_
              refine TL_q (.bool true) (fun _ _ hρ _ => r_pick_t (hρ _ _ rfl) (hρ _ _ rfl)) rfl rfl rfl (w_n rfl) ?_
              refine TL_seq ?_
              refine T_cond_t rfl ?_
              refine T_region ?_
              refine TL_q (.int .i64 ((k : Nat) : Int)) (fun _ _ hρ _ => r_move (hρ _ _ rfl)) rfl rfl rfl (w_n rfl) ?_
              refine TL_q (.int .i64 ((k : Nat) : Int)) (fun _ _ hρ _ => r_assign (hρ _ _ rfl)) rfl rfl rfl (w_n rfl) ?_
              refine TL_q (.bool true) (fun _ _ hρ _ => r_assign (hρ _ _ rfl)) rfl rfl rfl (w_n rfl) ?_
              refine TL_nil ?_
              refine p_blk_n ?_
              refine p_seq ?_
              refine T_region ?_
              refine TL_q (.int .i64 ((k + 1 : Nat) : Int)) (fun _ _ hρ _ => r_as (r_add (hρ _ _ rfl) (hρ _ _ rfl)) (int_as ((wrap64 (by omega) (by omega)).trans (by omega)))) rfl rfl rfl (w_n rfl) ?_
              refine TL_q (.int .i64 ((k + 1 : Nat) : Int)) (fun _ _ hρ _ => r_move (hρ _ _ rfl)) rfl rfl rfl (w_n rfl) ?_
              refine TL_nil ?_
              exact p_at (k + 1, some k) ⟨⟨by omega, fiV_hit ho2 hp ho hpt⟩, by dsimp only; omega⟩ (sub_cons rfl (sub_cons rfl (sub_cons rfl (sub_cons rfl (sub_cons rfl (sub_cons rfl (sub_cons rfl (sub_cons rfl (sub_cons rfl (sub_cons rfl (sub_cons rfl (sub_cons rfl (sub_cons rfl (sub_cons rfl (sub_cons rfl (sub_cons rfl (sub_cons rfl (sub_cons rfl (sub_cons rfl (sub_cons rfl (sub_cons rfl (sub_cons rfl sub_nil)))))))))))))))))))))) (sub_cons rfl (sub_cons rfl (sub_cons rfl (sub_cons rfl (sub_cons rfl (sub_cons rfl (sub_cons rfl (sub_cons rfl (sub_cons rfl (sub_cons rfl (sub_cons rfl (sub_cons rfl sub_nil))))))))))))
            · skip
              refine T_seq (T_region ?_)
              refine TL_q (.bool true) (fun _ _ hρ _ => r_move (hρ _ _ rfl)) rfl rfl rfl (w_n rfl) ?_
              refine TL_q (.bool true) (fun _ _ hρ _ => r_move (hρ _ _ rfl)) rfl rfl rfl (w_n rfl) ?_
              refine TL_q (.bool o.isSome) (fun _ _ hρ _ => r_move (hρ _ _ rfl)) rfl rfl rfl (want_y 94 rfl rfl rfl) ?_
              refine TL_q (.bool true) (fun _ _ hρ _ => r_as (r_not (b := o.isSome) (hρ _ _ rfl)) (bool_as (by rw [eq_false_of_ne_true ho]; rfl))) rfl rfl rfl (want_y 94 rfl rfl rfl) ?_
              refine TL_q (.bool true) (fun _ _ hρ _ => r_pick_t (hρ _ _ rfl) (hρ _ _ rfl)) rfl rfl rfl (w_n rfl) ?_
              refine TL_q (.bool true) (fun _ _ hρ _ => r_move (hρ _ _ rfl)) rfl rfl rfl (w_n rfl) ?_
              refine TL_q (.pointer (some ⟨B33, 0, none⟩)) (fun _ _ hρ _ => r_fieldAddr fl36_0 sz3 (hρ _ _ rfl)) rfl rfl rfl (want_y 98 rfl rfl rfl) ?_
              refine TL_q (.int .i64 p.to) (fun _ _ hρ hm => r_load ag3 (hρ _ _ rfl) (hm.at 5 rfl) rfl) rfl rfl rfl (want_y 98 rfl rfl rfl) ?_
              refine TL_q (.int .i64 to) (fun _ _ hρ _ => r_move (hρ _ _ rfl)) rfl rfl rfl (want_y 98 rfl rfl rfl) ?_
              refine TL_q (.bool false) (fun _ _ hρ _ => r_as (r_eql (hρ _ _ rfl) (hρ _ _ rfl)) (bool_as (decide_eq_false hpt))) rfl rfl rfl (want_y 98 rfl rfl rfl) ?_
              refine TL_q (.bool false) (fun _ _ hρ _ => r_pick_t (hρ _ _ rfl) (hρ _ _ rfl)) rfl rfl rfl (w_n rfl) ?_
              refine TL_seq ?_
              refine T_cond_f rfl ?_
              refine T_skip' ?_
              refine p_blk_n ?_
              refine p_seq ?_
              refine T_region ?_
              refine TL_q (.int .i64 ((k + 1 : Nat) : Int)) (fun _ _ hρ _ => r_as (r_add (hρ _ _ rfl) (hρ _ _ rfl)) (int_as ((wrap64 (by omega) (by omega)).trans (by omega)))) rfl rfl rfl (w_n rfl) ?_
              refine TL_q (.int .i64 ((k + 1 : Nat) : Int)) (fun _ _ hρ _ => r_move (hρ _ _ rfl)) rfl rfl rfl (w_n rfl) ?_
              refine TL_nil ?_
              exact p_at (k + 1, o) ⟨⟨by omega, fiV_miss ho2 hp hpt⟩, by dsimp only; omega⟩ (sub_cons rfl (sub_cons rfl (sub_cons rfl (sub_cons rfl (sub_cons rfl (sub_cons rfl (sub_cons rfl (sub_cons rfl (sub_cons rfl (sub_cons rfl (sub_cons rfl (sub_cons rfl (sub_cons rfl (sub_cons rfl (sub_cons rfl (sub_cons rfl (sub_cons rfl (sub_cons rfl (sub_cons rfl (sub_cons rfl (sub_cons rfl (sub_cons rfl sub_nil)))))))))))))))))))))) (sub_cons rfl (sub_cons rfl (sub_cons rfl (sub_cons rfl (sub_cons rfl (sub_cons rfl (sub_cons rfl (sub_cons rfl (sub_cons rfl (sub_cons rfl (sub_cons rfl (sub_cons rfl sub_nil))))))))))))
        · replace h2 := of_decide_eq_false h2
          refine T_exit' ?_
          refine p_then_x ?_
          refine p_then_x ?_
          refine p_blk_x ?_
          refine p_seq ?_
          have hke : k = n1.l.length := by omega
          subst hke
          rw [List.take_length] at ho2
          subst ho2
          refine T_seq (T_region ?_)
          refine TL_q (.int .i64 (((fiV n1.l to).getD 0 : Nat) : Int)) (fun _ _ hρ _ => r_move (hρ _ _ rfl)) rfl rfl rfl (w_n rfl) ?_
          refine TL_q (.int .i64 (((fiV n1.l to).getD 0 : Nat) : Int)) (fun _ _ hρ _ => r_move (hρ _ _ rfl)) rfl rfl rfl (w_n rfl) ?_
          refine TL_q (.bool false) (fun _ _ hρ _ => r_as (r_neq (hρ _ _ rfl) (hρ _ _ rfl)) (bool_as (by simp))) rfl rfl rfl (w_n rfl) ?_
          refine TL_q (.bool false) (fun _ _ hρ _ => r_move (hρ _ _ rfl)) rfl rfl rfl (w_n rfl) ?_
          refine TL_q (.bool ((fiV n1.l to).isSome)) (fun _ _ hρ _ => r_move (hρ _ _ rfl)) rfl rfl rfl (want_y 109 rfl rfl rfl) ?_
          refine TL_q (.bool ((fiV n1.l to).isSome)) (fun _ _ hρ _ => r_move (hρ _ _ rfl)) rfl rfl rfl (want_y 109 rfl rfl rfl) ?_
          refine TL_q (.bool false) (fun _ _ hρ _ => r_as (r_neqB (by kernel_rfl) (hρ _ _ rfl) (hρ _ _ rfl)) (bool_as (by simp))) rfl rfl rfl (want_y 109 rfl rfl rfl) ?_
          refine TL_q (.bool false) (fun _ _ hρ _ => r_pick_f (hρ _ _ rfl) (hρ _ _ rfl)) rfl rfl rfl (w_n rfl) ?_
          refine TL_seq ?_
          refine T_cond_f rfl ?_
          refine T_skip' ?_
          refine p_blk_n ?_
          refine p_seq ?_
          refine T_region ?_
          refine TL_q (.int .i64 to) (fun _ _ hρ _ => r_move (hρ _ _ rfl)) rfl rfl rfl (w_n rfl) ?_
          refine TL_q (.int .i64 (to + 1)) (fun _ _ hρ _ => r_as (r_add (hρ _ _ rfl) (hρ _ _ rfl)) (int_as (wrap64 (by omega) (by omega)))) rfl rfl rfl (w_n rfl) ?_
          refine TL_q (.int .i64 (to + 1)) (fun _ _ hρ _ => r_assign (hρ _ _ rfl)) rfl rfl rfl (w_n rfl) ?_
          refine TL_nil ?_
          exact p_at (to + 1) ⟨⟨by omega, by omega⟩, by omega⟩ (sub_cons rfl (sub_cons rfl (sub_cons rfl (sub_cons rfl (sub_cons rfl (sub_cons rfl sub_nil)))))) (sub_cons rfl (sub_cons rfl (sub_cons rfl (sub_cons rfl (sub_cons rfl (sub_cons rfl (sub_cons rfl (sub_cons rfl (sub_cons rfl (sub_cons rfl (sub_cons rfl (sub_cons rfl sub_nil))))))))))))
      · replace h1 := of_decide_eq_false h1
        refine T_exit' ?_
        refine p_then_x ?_
        refine p_then_x ?_
        refine p_blk_x ?_
        refine p_seq ?_
        by_cases hall : n3.l.all (fun p => mayV p.pv && !p.sp) = true
        · skip
          refine T_seq (T_region ?_)
          refine TL_q (.agg #[.slice n1.a n1.l.length n1.cap, .int .u64 lost]) (fun _ _ hρ hm => r_loadA ag27 sz27 (hρ _ _ rfl) (hm.at 3 rfl) rfl rfl) rfl rfl rfl (w_n rfl) ?_
          refine TL_q (.slice n3.a n3.l.length n3.cap) (fun _ _ hρ _ => r_move (hρ _ _ rfl)) rfl rfl rfl (w_n rfl) ?_
          refine TL_callN (fun x : Hd × List (RowG By) => NetIs (putsV (pvs n1.l, lost) (pvs n3.l)) x) (fun (h8, b8) => .tuple #[.agg #[.slice h8.n.a h8.n.l.length h8.n.cap, .int .u64 h8.lost], .int .i64 0]) (fun (h8, b8) => [(901, .row (.slice h8.n.a h8.n.l.length h8.n.cap) 36 3 h8.n.l.length (h8.n.l.flatMap Pcl.cells)), (903, .pool 5 1 byc b8)]) (fun _ _ hρ _ => r_call (args := [.agg #[.slice n1.a n1.l.length n1.cap, .int .u64 lost], .slice n3.a n3.l.length n3.cap]) (enters_of Try.func13 (by kernel_rfl) rfl) (hρ _ _ rfl) ((cons2 (hρ _ _ rfl) (cons2 (hρ _ _ rfl) rfl))) rfl) (fun w hm => (send_ok n1.l n1.a n1.cap lost n3.l n3.a n3.cap w (hm.netAt 960 rfl hA).1 (hm.netAt 960 rfl hA).2.1 (hm.netAt 960 rfl hA).2.2 (hm.netAt 960 rfl hC).1 (hm.netAt 960 rfl hC).2.1 (hm.netAt 960 rfl hC).2.2 h0 hck hall).mono fun e w' ⟨⟨h, bs⟩, hk, he, hb, hn⟩ => ⟨(h, bs), hk, he, hb, newOk2 901 903 hn.row hn.pool hn.sep⟩) rfl rfl rfl (w_n rfl) ?_
          rintro ⟨h8, b8⟩ hk8
          refine TL_q (.tuple #[.agg #[.slice h8.n.a h8.n.l.length h8.n.cap, .int .u64 h8.lost], .int .i64 0]) (fun _ _ hρ _ => r_move (hρ _ _ rfl)) rfl rfl rfl (w_n rfl) ?_
          refine TL_q (.agg #[.slice h8.n.a h8.n.l.length h8.n.cap, .int .u64 h8.lost]) (fun _ _ hρ _ => r_extract (hρ _ _ rfl) rfl) rfl rfl rfl (w_n rfl) ?_
          refine TL_q (.int .i64 0) (fun _ _ hρ _ => r_extract (hρ _ _ rfl) rfl) rfl rfl rfl (w_n rfl) ?_
          refine TL_new 6 (.cells #[.slice none 0 0, .int .u64 0] 27) (fun B => .pointer (some ⟨B, 0, none⟩)) (fun _ _ _ _ => r_alloc (v := .agg #[.slice none 0 0, .int .u64 0]) (by kernel_rfl) rfl) rfl rfl rfl (w_n rfl) ?_
          intro B34
          refine TL_store 6 (.cells #[.slice h8.n.a h8.n.l.length h8.n.cap, .int .u64 h8.lost] 27) rfl (fun _ _ hρ hm => r_store sz27 (hρ _ _ rfl) (hρ _ _ rfl) (hm.at 6 rfl) rfl rfl rfl rfl) rfl rfl (w_n rfl) ?_
          refine TL_q (.int .i64 0) (fun _ _ hρ _ => r_assign (hρ _ _ rfl)) rfl rfl rfl (w_n rfl) ?_
          refine TL_seq ?_
          refine T_seq (T_region ?_)
          refine TL_q (.agg #[.slice n1.a n1.l.length n1.cap, .int .u64 lost]) (fun _ _ hρ hm => r_loadA ag27 sz27 (hρ _ _ rfl) (hm.at 3 rfl) rfl rfl) rfl rfl rfl (w_n rfl) ?_
          refine TL_new 7 (.cells #[.slice none 0 0, .int .u64 0] 27) (fun B => .pointer (some ⟨B, 0, none⟩)) (fun _ _ _ _ => r_alloc (v := .agg #[.slice none 0 0, .int .u64 0]) (by kernel_rfl) rfl) rfl rfl rfl (w_n rfl) ?_
          intro B35
          refine TL_store 7 (.cells #[.slice n1.a n1.l.length n1.cap, .int .u64 lost] 27) rfl (fun _ _ hρ hm => r_store sz27 (hρ _ _ rfl) (hρ _ _ rfl) (hm.at 7 rfl) rfl rfl rfl rfl) rfl rfl (w_n rfl) ?_
          refine TL_q (.int .i64 0) (fun _ _ hρ _ => r_assign (hρ _ _ rfl)) rfl rfl rfl (w_n rfl) ?_
          refine TL_seq ?_
          refine T_seq ?_
          refine T_seq (T_region ?_)
          refine TL_q (.slice n3.a n3.l.length n3.cap) (fun _ _ hρ _ => r_move (hρ _ _ rfl)) rfl rfl rfl (w_n rfl) ?_
          refine TL_q (.int .i64 ((n3.l.length : Nat) : Int)) (fun _ _ hρ _ => r_len sl22 (hρ _ _ rfl)) rfl rfl rfl (w_n rfl) ?_
          refine TL_q (.int .i64 0) (fun _ _ hρ _ => r_move (hρ _ _ rfl)) rfl rfl rfl (w_n rfl) ?_
          refine TL_seq ?_
          refine T_block ?_
          refine T_loop (ι := Nat × Option Addr × Nat × List Pcl × Int × List NetR × Int) (fun (z : Nat × Option Addr × Nat × List Pcl × Int × List NetR × Int) => match z with | (k, wa, wc, wl, wlo, ns, er) => k ≤ n3.l.length ∧ (pvs wl, wlo) = putsV (pvs n1.l, lost) ((pvs n3.l).take k) ∧ (⟨wa, wc, wl⟩ : NetR) ∈ ns ∧ n1 ∈ ns ∧ n3 ∈ ns ∧ 0 ≤ wlo ∧ er = (if (n3.l.take k).all (fun p => mayV p.pv && !p.sp) = true then 0 else 2)) (fun (z : Nat × Option Addr × Nat × List Pcl × Int × List NetR × Int) => match z with | (k, wa, wc, wl, wlo, ns, er) => [(2, .slice c zs.length capc), (3, .pointer (some ⟨B1, 0, none⟩)), (7, .pointer (some ⟨Bx10, 0, none⟩)), (9, .slice n3.a n3.l.length n3.cap), (10, .bool true), (19, .pointer (some ⟨B34, 0, none⟩)), (20, .int .i64 0), (21, .pointer (some ⟨B35, 0, none⟩)), (121, .slice n3.a n3.l.length n3.cap), (122, .int .i64 ((n3.l.length : Nat) : Int)), (123, .int .i64 ((k : Nat) : Int)), (22, .int .i64 er)]) (fun (z : Nat × Option Addr × Nat × List Pcl × Int × List NetR × Int) => match z with | (k, wa, wc, wl, wlo, ns, er) => [(901, .row (.slice h8.n.a h8.n.l.length h8.n.cap) 36 3 h8.n.l.length (h8.n.l.flatMap Pcl.cells)), (903, .pool 5 1 byc b8), (966, .row (.slice n4.a n4.l.length n4.cap) 36 3 n4.l.length (n4.l.flatMap Pcl.cells)), (967, .pool 5 1 byc b4), (964, .no), (961, .no), (965, .no), (1, .blk B1 (.cells #[.slice a xs.length cap, .int .u64 lost] 27)), (2, .blk B2 (.cells #[.slice b ys.length capb, .int .u64 lost2] 27)), (3, .blk Bx10 (.cells #[.slice n1.a n1.l.length n1.cap, .int .u64 lost] 27)), (4, .blk Bx11 (.cells #[.slice n2.a n2.l.length n2.cap, .int .u64 lost2] 27)), (962, .row (.slice n2.a n2.l.length n2.cap) 36 3 n2.l.length (n2.l.flatMap Pcl.cells)), (963, .pool 5 1 byc b2), (6, .blk B34 (.cells #[.slice h8.n.a h8.n.l.length h8.n.cap, .int .u64 h8.lost] 27)), (7, .blk B35 (.cells #[.slice wa wl.length wc, .int .u64 wlo] 27)), (960, .nets ns)]) (fun (z : Nat × Option Addr × Nat × List Pcl × Int × List NetR × Int) => match z with | (k, wa, wc, wl, wlo, ns, er) => n3.l.length - k) (0, n1.a, n1.cap, n1.l, lost, ns, 0) ⟨Nat.zero_le _, rfl, hA, hA, hC, h0, rfl⟩ (sub_cons rfl (sub_cons rfl (sub_cons rfl (sub_cons rfl (sub_cons rfl (sub_cons rfl (sub_cons rfl (sub_cons rfl (sub_cons rfl (sub_cons rfl (sub_cons rfl (sub_cons rfl sub_nil)))))))))))) (sub_cons rfl (sub_cons rfl (sub_cons rfl (sub_cons rfl (sub_cons rfl (sub_cons rfl (sub_cons rfl (sub_cons rfl (sub_cons rfl (sub_cons rfl (sub_cons rfl (sub_cons rfl (sub_cons rfl (sub_cons rfl (sub_cons rfl (sub_cons rfl sub_nil)))))))))))))))) ?_
          rintro ⟨k, wa, wc, wl, wlo, ns, er⟩ hp
          obtain ⟨hk, hpw, hw, hA, hC, hwlo, her⟩ := hp
          show T _ _ _ [(2, .slice c zs.length capc), (3, .pointer (some ⟨B1, 0, none⟩)), (7, .pointer (some ⟨Bx10, 0, none⟩)), (9, .slice n3.a n3.l.length n3.cap), (10, .bool true), (19, .pointer (some ⟨B34, 0, none⟩)), (20, .int .i64 0), (21, .pointer (some ⟨B35, 0, none⟩)), (121, .slice n3.a n3.l.length n3.cap), (122, .int .i64 ((n3.l.length : Nat) : Int)), (123, .int .i64 ((k : Nat) : Int)), (22, .int .i64 er)] [(901, .row (.slice h8.n.a h8.n.l.length h8.n.cap) 36 3 h8.n.l.length (h8.n.l.flatMap Pcl.cells)), (903, .pool 5 1 byc b8), (966, .row (.slice n4.a n4.l.length n4.cap) 36 3 n4.l.length (n4.l.flatMap Pcl.cells)), (967, .pool 5 1 byc b4), (964, .no), (961, .no), (965, .no), (1, .blk B1 (.cells #[.slice a xs.length cap, .int .u64 lost] 27)), (2, .blk B2 (.cells #[.slice b ys.length capb, .int .u64 lost2] 27)), (3, .blk Bx10 (.cells #[.slice n1.a n1.l.length n1.cap, .int .u64 lost] 27)), (4, .blk Bx11 (.cells #[.slice n2.a n2.l.length n2.cap, .int .u64 lost2] 27)), (962, .row (.slice n2.a n2.l.length n2.cap) 36 3 n2.l.length (n2.l.flatMap Pcl.cells)), (963, .pool 5 1 byc b2), (6, .blk B34 (.cells #[.slice h8.n.a h8.n.l.length h8.n.cap, .int .u64 h8.lost] 27)), (7, .blk B35 (.cells #[.slice wa wl.length wc, .int .u64 wlo] 27)), (960, .nets ns)]
          refine T_seq (T_region ?_)
          refine TL_q (.bool (decide (((k : Nat) : Int) < ((n3.l.length : Nat) : Int)))) (fun _ _ hρ _ => r_lss (hρ _ _ rfl) (hρ _ _ rfl)) rfl rfl rfl (w_n rfl) ?_
          refine TL_seq ?_
          refine T_seq ?_
          refine T_cond rfl (fun h3 => ?_) (fun h3 => ?_)
          · replace h3 := of_decide_eq_true h3
            refine T_skip' ?_
            refine p_seq ?_
            refine T_seq ?_
            refine T_block ?_
            obtain ⟨p, hp⟩ : ∃ x, n3.l[k]? = some x := ⟨_, List.getElem?_eq_getElem (by omega)⟩
            refine T_open (fun _ hm => (hm.netAt 960 rfl hC).1) (by omega) (fun b36 of36 ha36 => ?_)
            rw [ha36]
            refine T_seq (T_region ?_)
            refine TL_q (.pointer (some ⟨b36, of36 + k * 3, none⟩)) (fun _ _ hρ _ => r_indexAddrS (i := k) sl22 sz36 (hρ _ _ rfl) (hρ _ _ rfl) (by omega)) rfl rfl rfl (w_n rfl) ?_
            refine TL_q (.agg #[.int .i64 p.to, .slice p.r.a p.r.l.length p.r.cap, .bool p.sp]) (fun _ _ hρ hm => r_loadS (f := Pcl.cells) (u := p) (l := n3.l) (i := k) ag36 sz36 (hρ _ _ rfl) (by have h9 := (hm.netAt 960 rfl hC).1; rw [ha36] at h9; exact h9) hp) rfl rfl rfl (w_n rfl) ?_
            refine TL_new 8 (.cells #[.int .i64 0, .slice none 0 0, .bool false] 36) (fun B => .pointer (some ⟨B, 0, none⟩)) (fun _ _ _ _ => r_alloc (v := .agg #[.int .i64 0, .slice none 0 0, .bool false]) (by kernel_rfl) rfl) rfl rfl rfl (w_n rfl) ?_
            intro B37
            refine TL_store 8 (.cells #[.int .i64 p.to, .slice p.r.a p.r.l.length p.r.cap, .bool p.sp] 36) rfl (fun _ _ hρ hm => r_store sz36 (hρ _ _ rfl) (hρ _ _ rfl) (hm.at 8 rfl) rfl rfl rfl rfl) rfl rfl (w_n rfl) ?_
            refine TL_seq ?_
            refine T_seq (T_region ?_)
            refine TL_q (.agg #[.slice wa wl.length wc, .int .u64 wlo]) (fun _ _ hρ hm => r_loadA ag27 sz27 (hρ _ _ rfl) (hm.at 7 rfl) rfl rfl) rfl rfl rfl (w_n rfl) ?_
            refine TL_q (.agg #[.int .i64 p.to, .slice p.r.a p.r.l.length p.r.cap, .bool p.sp]) (fun _ _ hρ hm => r_loadA ag36 sz36 (hρ _ _ rfl) (hm.at 8 rfl) rfl rfl) rfl rfl rfl (w_n rfl) ?_
            refine TL_callH (fun x : NetR × Int => (pvs x.1.l, x.2) = putV (pvs wl, wlo) p.pv) (fun x => .agg #[.slice x.1.a x.1.l.length x.1.cap, .int .u64 x.2]) (fun x => (960, .nets (x.1 :: ns)) :: _) (fun _ _ hρ _ => r_call (args := [.agg #[.slice wa wl.length wc, .int .u64 wlo], .agg #[.int .i64 p.to, .slice p.r.a p.r.l.length p.r.cap, .bool p.sp]]) (enters_of Try.func33 (by kernel_rfl) rfl) (hρ _ _ rfl) ((cons2 (hρ _ _ rfl) (cons2 (hρ _ _ rfl) rfl))) rfl) (fun w hm => (rput_c wl wa wc wlo p ns w (fun m hm9 => hm.netAt 960 rfl hm9) hw ⟨n3, hC, List.mem_of_getElem? hp⟩ hwlo).mono fun e w' ⟨d, lo, hp, he, hn⟩ => ⟨(d, lo), hp, he, MemOk.shAdd (K := netK) hm 960 rfl hn (fun _ h => h)⟩) rfl rfl rfl (w_n rfl) ?_
            rintro ⟨d38, lo38⟩ hput38
            refine TL_store 7 (.cells #[.slice d38.a d38.l.length d38.cap, .int .u64 lo38] 27) rfl (fun _ _ hρ hm => r_store sz27 (hρ _ _ rfl) (hρ _ _ rfl) (hm.at 7 rfl) rfl rfl rfl rfl) rfl rfl (w_n rfl) ?_
            refine TL_seq ?_
            by_cases hmy : mayV p.pv = true
            · skip
              by_cases hps : p.sp = true
              · skip
                refine T_seq (T_region ?_)
                refine TL_q (.agg #[.int .i64 p.to, .slice p.r.a p.r.l.length p.r.cap, .bool p.sp]) (fun _ _ hρ hm => r_loadA ag36 sz36 (hρ _ _ rfl) (hm.at 8 rfl) rfl rfl) rfl rfl rfl (w_n rfl) ?_
                refine TL_call (.bool true) (fun _ _ hρ _ => r_call (args := [.agg #[.int .i64 p.to, .slice p.r.a p.r.l.length p.r.cap, .bool p.sp]]) (enters_of Try.func34 (by kernel_rfl) rfl) (hρ _ _ rfl) ((cons2 (hρ _ _ rfl) rfl)) rfl) (fun w _ => (rmay_c p w).mono fun _ _ h => ⟨h.1.trans (congrArg Ending.returned (bool_as hmy)), h.2⟩) rfl rfl rfl (w_n rfl) ?_
                refine TL_q (.bool false) (fun _ _ hρ _ => r_not (b := true) (hρ _ _ rfl)) rfl rfl rfl (w_n rfl) ?_
                refine TL_q (.bool false) (fun _ _ hρ _ => r_move (hρ _ _ rfl)) rfl rfl rfl (w_n rfl) ?_
                refine TL_q (.pointer (some ⟨B37, 2, none⟩)) (fun _ _ hρ _ => r_fieldAddr fl36_2 sz4 (hρ _ _ rfl)) rfl rfl rfl (want_y 133 rfl rfl rfl) ?_
                refine TL_q (.bool true) (fun _ _ hρ hm => r_as (r_load ag4 (hρ _ _ rfl) (hm.at 8 rfl) rfl) (bool_as hps)) rfl rfl rfl (want_y 133 rfl rfl rfl) ?_
                refine TL_q (.bool true) (fun _ _ hρ _ => r_pick_f (hρ _ _ rfl) (hρ _ _ rfl)) rfl rfl rfl (w_n rfl) ?_
                refine TL_seq ?_
                refine T_cond_t rfl ?_
                refine T_region ?_
                refine TL_q (.int .i64 2) (fun _ _ hρ _ => r_assign (hρ _ _ rfl)) rfl rfl rfl (w_n rfl) ?_
                refine TL_nil ?_
                refine p_blk_n ?_
                refine p_seq ?_
                refine T_region ?_
                refine TL_q (.int .i64 ((k + 1 : Nat) : Int)) (fun _ _ hρ _ => r_as (r_add (hρ _ _ rfl) (hρ _ _ rfl)) (int_as ((wrap64 (by omega) (by omega)).trans (by omega)))) rfl rfl rfl (w_n rfl) ?_
                refine TL_q (.int .i64 ((k + 1 : Nat) : Int)) (fun _ _ hρ _ => r_move (hρ _ _ rfl)) rfl rfl rfl (w_n rfl) ?_
                refine TL_nil ?_
                exact p_at (k + 1, d38.a, d38.cap, d38.l, lo38, d38 :: ns, 2) ⟨⟨by omega, puts_next hpw hp hput38, List.mem_cons_self, List.mem_cons_of_mem _ hA, List.mem_cons_of_mem _ hC, put_lo hput38 hwlo, er_bad hp (by simp [hmy, hps])⟩, by dsimp only; omega⟩ (sub_cons rfl (sub_cons rfl (sub_cons rfl (sub_cons rfl (sub_cons rfl (sub_cons rfl (sub_cons rfl (sub_cons rfl (sub_cons rfl (sub_cons rfl (sub_cons rfl (sub_cons rfl sub_nil)))))))))))) (sub_cons rfl (sub_cons rfl (sub_cons rfl (sub_cons rfl (sub_cons rfl (sub_cons rfl (sub_cons rfl (sub_cons rfl (sub_cons rfl (sub_cons rfl (sub_cons rfl (sub_cons rfl (sub_cons rfl (sub_cons rfl (sub_cons rfl (sub_cons rfl sub_nil))))))))))))))))
              · skip
                refine T_seq (T_region ?_)
                refine TL_q (.agg #[.int .i64 p.to, .slice p.r.a p.r.l.length p.r.cap, .bool p.sp]) (fun _ _ hρ hm => r_loadA ag36 sz36 (hρ _ _ rfl) (hm.at 8 rfl) rfl rfl) rfl rfl rfl (w_n rfl) ?_
                refine TL_call (.bool true) (fun _ _ hρ _ => r_call (args := [.agg #[.int .i64 p.to, .slice p.r.a p.r.l.length p.r.cap, .bool p.sp]]) (enters_of Try.func34 (by kernel_rfl) rfl) (hρ _ _ rfl) ((cons2 (hρ _ _ rfl) rfl)) rfl) (fun w _ => (rmay_c p w).mono fun _ _ h => ⟨h.1.trans (congrArg Ending.returned (bool_as hmy)), h.2⟩) rfl rfl rfl (w_n rfl) ?_
                refine TL_q (.bool false) (fun _ _ hρ _ => r_not (b := true) (hρ _ _ rfl)) rfl rfl rfl (w_n rfl) ?_
                refine TL_q (.bool false) (fun _ _ hρ _ => r_move (hρ _ _ rfl)) rfl rfl rfl (w_n rfl) ?_
                refine TL_q (.pointer (some ⟨B37, 2, none⟩)) (fun _ _ hρ _ => r_fieldAddr fl36_2 sz4 (hρ _ _ rfl)) rfl rfl rfl (want_y 133 rfl rfl rfl) ?_
                refine TL_q (.bool false) (fun _ _ hρ hm => r_as (r_load ag4 (hρ _ _ rfl) (hm.at 8 rfl) rfl) (bool_as (eq_false_of_ne_true hps))) rfl rfl rfl (want_y 133 rfl rfl rfl) ?_
                refine TL_q (.bool false) (fun _ _ hρ _ => r_pick_f (hρ _ _ rfl) (hρ _ _ rfl)) rfl rfl rfl (w_n rfl) ?_
                refine TL_seq ?_
                refine T_cond_f rfl ?_
                refine T_skip' ?_
                refine p_blk_n ?_
                refine p_seq ?_
                refine T_region ?_
                refine TL_q (.int .i64 ((k + 1 : Nat) : Int)) (fun _ _ hρ _ => r_as (r_add (hρ _ _ rfl) (hρ _ _ rfl)) (int_as ((wrap64 (by omega) (by omega)).trans (by omega)))) rfl rfl rfl (w_n rfl) ?_
                refine TL_q (.int .i64 ((k + 1 : Nat) : Int)) (fun _ _ hρ _ => r_move (hρ _ _ rfl)) rfl rfl rfl (w_n rfl) ?_
                refine TL_nil ?_
                exact p_at (k + 1, d38.a, d38.cap, d38.l, lo38, d38 :: ns, er) ⟨⟨by omega, puts_next hpw hp hput38, List.mem_cons_self, List.mem_cons_of_mem _ hA, List.mem_cons_of_mem _ hC, put_lo hput38 hwlo, er_ok her hp (by simp [hmy, hps])⟩, by dsimp only; omega⟩ (sub_cons rfl (sub_cons rfl (sub_cons rfl (sub_cons rfl (sub_cons rfl (sub_cons rfl (sub_cons rfl (sub_cons rfl (sub_cons rfl (sub_cons rfl (sub_cons rfl (sub_cons rfl sub_nil)))))))))))) (sub_cons rfl (sub_cons rfl (sub_cons rfl (sub_cons rfl (sub_cons rfl (sub_cons rfl (sub_cons rfl (sub_cons rfl (sub_cons rfl (sub_cons rfl (sub_cons rfl (sub_cons rfl (sub_cons rfl (sub_cons rfl (sub_cons rfl (sub_cons rfl sub_nil))))))))))))))))
            · skip
              refine T_seq (T_region ?_)
              refine TL_q (.agg #[.int .i64 p.to, .slice p.r.a p.r.l.length p.r.cap, .bool p.sp]) (fun _ _ hρ hm => r_loadA ag36 sz36 (hρ _ _ rfl) (hm.at 8 rfl) rfl rfl) rfl rfl rfl (w_n rfl) ?_
              refine TL_call (.bool false) (fun _ _ hρ _ => r_call (args := [.agg #[.int .i64 p.to, .slice p.r.a p.r.l.length p.r.cap, .bool p.sp]]) (enters_of Try.func34 (by kernel_rfl) rfl) (hρ _ _ rfl) ((cons2 (hρ _ _ rfl) rfl)) rfl) (fun w _ => (rmay_c p w).mono fun _ _ h => ⟨h.1.trans (congrArg Ending.returned (bool_as (eq_false_of_ne_true hmy))), h.2⟩) rfl rfl rfl (w_n rfl) ?_
              refine TL_q (.bool true) (fun _ _ hρ _ => r_not (b := false) (hρ _ _ rfl)) rfl rfl rfl (w_n rfl) ?_
              refine TL_q (.bool true) (fun _ _ hρ _ => r_move (hρ _ _ rfl)) rfl rfl rfl (w_n rfl) ?_
              refine TL_no rfl rfl (want_n 133 rfl rfl rfl) ?_
              refine TL_no rfl rfl (want_n 133 rfl rfl rfl) ?_
              refine TL_q (.bool true) (fun _ _ hρ _ => r_pick_t (hρ _ _ rfl) (hρ _ _ rfl)) rfl rfl rfl (w_n rfl) ?_
              refine TL_seq ?_
              refine T_cond_t rfl ?_
              refine T_region ?_
              refine TL_q (.int .i64 2) (fun _ _ hρ _ => r_assign (hρ _ _ rfl)) rfl rfl rfl (w_n rfl) ?_
              refine TL_nil ?_
              refine p_blk_n ?_
              refine p_seq ?_
              refine T_region ?_
              refine TL_q (.int .i64 ((k + 1 : Nat) : Int)) (fun _ _ hρ _ => r_as (r_add (hρ _ _ rfl) (hρ _ _ rfl)) (int_as ((wrap64 (by omega) (by omega)).trans (by omega)))) rfl rfl rfl (w_n rfl) ?_
              refine TL_q (.int .i64 ((k + 1 : Nat) : Int)) (fun _ _ hρ _ => r_move (hρ _ _ rfl)) rfl rfl rfl (w_n rfl) ?_
              refine TL_nil ?_
              exact p_at (k + 1, d38.a, d38.cap, d38.l, lo38, d38 :: ns, 2) ⟨⟨by omega, puts_next hpw hp hput38, List.mem_cons_self, List.mem_cons_of_mem _ hA, List.mem_cons_of_mem _ hC, put_lo hput38 hwlo, er_bad hp (by simp [hmy])⟩, by dsimp only; omega⟩ (sub_cons rfl (sub_cons rfl (sub_cons rfl (sub_cons rfl (sub_cons rfl (sub_cons rfl (sub_cons rfl (sub_cons rfl (sub_cons rfl (sub_cons rfl (sub_cons rfl (sub_cons rfl sub_nil)))))))))))) (sub_cons rfl (sub_cons rfl (sub_cons rfl (sub_cons rfl (sub_cons rfl (sub_cons rfl (sub_cons rfl (sub_cons rfl (sub_cons rfl (sub_cons rfl (sub_cons rfl (sub_cons rfl (sub_cons rfl (sub_cons rfl (sub_cons rfl (sub_cons rfl sub_nil))))))))))))))))
          · replace h3 := of_decide_eq_false h3
            refine T_exit' ?_
            refine p_then_x ?_
            refine p_then_x ?_
            refine p_blk_x ?_
            refine p_seq ?_
            refine T_seq ?_
            have hke : k = n3.l.length := by omega
            subst hke
            rw [List.take_length, if_pos hall] at her
            subst her
            rw [puts_whole] at hpw
            have hsame : h8.lost = wlo ∧ pvs h8.n.l = pvs wl := ⟨congrArg (·.2) (hk8.nv.trans hpw.symm), congrArg (·.1) (hk8.nv.trans hpw.symm)⟩
            refine T_seq (T_region ?_)
            refine TL_q (.bool true) (fun _ _ hρ _ => r_move (hρ _ _ rfl)) rfl rfl rfl (w_n rfl) ?_
            refine TL_q (.bool false) (fun _ _ hρ _ => r_not (b := true) (hρ _ _ rfl)) rfl rfl rfl (w_n rfl) ?_
            refine TL_seq ?_
            refine T_cond_f rfl ?_
            refine T_skip' ?_
            refine p_seq ?_
            refine T_seq ?_
            refine T_seq (T_region ?_)
            refine TL_q (.int .i64 0) (fun _ _ hρ _ => r_move (hρ _ _ rfl)) rfl rfl rfl (w_n rfl) ?_
            refine TL_q (.bool false) (fun _ _ hρ _ => r_as (r_neq (hρ _ _ rfl) (hρ _ _ rfl)) (by rfl)) rfl rfl rfl (w_n rfl) ?_
            refine TL_seq ?_
            refine T_cond_f rfl ?_
            refine T_skip' ?_
            refine p_seq ?_
            refine T_seq ?_
            refine T_seq (T_region ?_)
            refine TL_q (.int .i64 0) (fun _ _ hρ _ => r_move (hρ _ _ rfl)) rfl rfl rfl (w_n rfl) ?_
            refine TL_q (.int .i64 0) (fun _ _ hρ _ => r_move (hρ _ _ rfl)) rfl rfl rfl (w_n rfl) ?_
            refine TL_q (.bool false) (fun _ _ hρ _ => r_as (r_neq (hρ _ _ rfl) (hρ _ _ rfl)) (by rfl)) rfl rfl rfl (w_n rfl) ?_
            refine TL_q (.bool false) (fun _ _ hρ _ => r_move (hρ _ _ rfl)) rfl rfl rfl (w_n rfl) ?_
            refine TL_q (.agg #[.slice h8.n.a h8.n.l.length h8.n.cap, .int .u64 h8.lost]) (fun _ _ hρ hm => r_loadA ag27 sz27 (hρ _ _ rfl) (hm.at 6 rfl) rfl rfl) rfl rfl rfl (want_y 146 rfl rfl rfl) ?_
            refine TL_q (.agg #[.slice wa wl.length wc, .int .u64 wlo]) (fun _ _ hρ hm => r_loadA ag27 sz27 (hρ _ _ rfl) (hm.at 7 rfl) rfl rfl) rfl rfl rfl (want_y 146 rfl rfl rfl) ?_
            refine TL_call (.bool true) (fun _ _ hρ _ => r_call (args := [.agg #[.slice h8.n.a h8.n.l.length h8.n.cap, .int .u64 h8.lost], .agg #[.slice wa wl.length wc, .int .u64 wlo]]) (enters_of Try.func25 (by kernel_rfl) rfl) (hρ _ _ rfl) ((cons2 (hρ _ _ rfl) (cons2 (hρ _ _ rfl) rfl))) rfl) (fun w hm => (nrsame_c h8.n.l h8.n.a h8.n.cap h8.lost wl wa wc wlo w (SliceAt.own Pcl.cells_len (hm.row 901 rfl) rfl rfl) (row_cap (hm.row 901 rfl)) (pcs_pool (hm.pool 903 rfl) hk8.ok.inN) (hm.netAt 960 rfl hw).1 (hm.netAt 960 rfl hw).2.1 (hm.netAt 960 rfl hw).2.2).mono fun _ _ h => ⟨h.1.trans (congrArg Ending.returned (bool_as (decide_eq_true hsame))), h.2⟩) rfl rfl rfl (want_y 146 rfl rfl rfl) ?_
            refine TL_q (.bool false) (fun _ _ hρ _ => r_not (b := true) (hρ _ _ rfl)) rfl rfl rfl (want_y 146 rfl rfl rfl) ?_
            refine TL_q (.bool false) (fun _ _ hρ _ => r_pick_f (hρ _ _ rfl) (hρ _ _ rfl)) rfl rfl rfl (w_n rfl) ?_
            refine TL_seq ?_
            refine T_cond_f rfl ?_
            refine T_skip' ?_
            refine p_seq ?_
            refine T_mem (_ :: _) (fun _ hm => hm.poolScr 903 byc_len rfl isB_byc) ?_
            refine T_seq (T_region ?_)
            refine TL_q (.agg #[.slice h8.n.a h8.n.l.length h8.n.cap, .int .u64 h8.lost]) (fun _ _ hρ hm => r_loadA ag27 sz27 (hρ _ _ rfl) (hm.at 6 rfl) rfl rfl) rfl rfl rfl (w_n rfl) ?_
            refine TL_callH _ _ _ (fun _ _ hρ _ => r_call (args := [.agg #[.slice h8.n.a h8.n.l.length h8.n.cap, .int .u64 h8.lost]]) (enters_of Try.func27 (by kernel_rfl) rfl) (hρ _ _ rfl) ((cons2 (hρ _ _ rfl) rfl)) rfl) (fun w hm => lspoil_ht h8.n b8 h8.lost (by repeat (first | exact noIds_nil _ _ | refine noIds_cons rfl ?_)) hk8.ok.inN (Nat.le_trans hk8.ok.len (by decide)) w (hm.of (lk_dups (A := [(901, rowP h8.n), (903, .scr 5 1 isB b8)]) (sub_cons rfl (sub_cons rfl sub_nil))))) rfl rfl rfl (w_n rfl) ?_
            rintro ⟨⟩ -
            refine TL_seq ?_
            obtain ⟨l39, hl39, hn39⟩ : ∃ lz, lz = zs.take (min zs.length 10) ∧ lz.length = min zs.length 10 := ⟨_, rfl, by rw [List.length_take]; omega⟩
            have hs39 := SliceAt.front hz (n := min zs.length 10) (m := capc) (by omega) (by omega) (by omega)
            rw [← hl39] at hs39
            refine T_seq (T_draw (V := [(0, .agg #[.slice n1.a n1.l.length n1.cap, .int .u64 lost]), (1, .agg #[.slice a xs.length cap, .int .u64 lost])]) [0, 0, 2, 7, 15, 31, 63, 31, 31, 287, 799, 1951, 3999, 8095, 16383, 32767, 65535] [[(7, none)], [(3, none)], [(155, some 1)], [(154, some 0), (156, some 2)], [(157, some 3)], [(9, none)], [(159, some 5)], [(2, none)], [(2, none)], [(162, some 8)], [(163, some 9)], [(161, some 7), (164, some 10)], [(165, some 11)], [(166, some 12)], [(160, some 6), (167, some 13)], [(168, some 14), (158, some 4)], [(169, some 15)]] 20492 mixed (by kernel_rfl) ?_)
            refine G_step [0, 1] 2 [] (by kernel_rfl) (allM (all_cons (q_run (.agg #[.slice n1.a n1.l.length n1.cap, .int .u64 lost]) rfl rfl (wv_n rfl) rfl (fun _ _ hρ hm => r_loadA ag27 sz27 (hρ _ _ rfl) (hm.at 3 rfl) rfl rfl)) (all_cons (q_run (.agg #[.slice a xs.length cap, .int .u64 lost]) rfl rfl (wv_n rfl) rfl (fun _ _ hρ hm => r_loadA ag27 sz27 (hρ _ _ rfl) (hm.at 1 rfl) rfl rfl)) all_nil))) (allM (all_cons ?_ all_nil))
            refine LOb_callN (fun ((n5, b5) : NetR × List (RowG By)) => pvs n5.l = fewV (pvs xs) ∧ InB b5 n5.l) (fun (n5, b5) => .agg #[.slice n5.a n5.l.length n5.cap, .int .u64 lost]) (fun (n5, b5) => [(968, .row (.slice n5.a n5.l.length n5.cap) 36 3 n5.l.length (n5.l.flatMap Pcl.cells)), (969, .pool 5 1 byc b5)]) (fun (n5, b5) => []) rfl (wv_n rfl) rfl rfl (fun _ _ hρ _ => r_call (args := [.agg #[.slice a xs.length cap, .int .u64 lost]]) (enters_of Try.func20 (by kernel_rfl) rfl) (hρ _ _ rfl) ((cons2 (hρ _ _ rfl) rfl)) rfl) (fun w hm => (own_c xs a cap lost w (hv.keep hm.ext) hcap (fun p hp => ⟨(hx p hp).1.keep hm.ext, (hx p hp).2⟩)).mono fun e w' ⟨n, bs, hf, hi, he, hb, r1, r2, hs⟩ => ⟨(n, bs), ⟨hf, hi⟩, he, hb, newOk2 968 969 r1 r2 hs⟩) (fun (n5, b5) => by kernel_rfl) ?_
            rintro ⟨n5, b5⟩ hfn5
            refine G_step [0] 3 [] (by kernel_rfl) (allM (all_cons (q_run (.agg #[.slice n1.a n1.l.length n1.cap, .int .u64 lost]) rfl rfl (wv_n rfl) rfl (fun _ _ hρ hm => r_loadA ag27 sz27 (hρ _ _ rfl) (hm.at 3 rfl) rfl rfl)) all_nil)) (allM (all_cons ?_ all_nil))
            refine LOb_call (.bool true) [(4, .bool true), (5, .slice n3.a n3.l.length n3.cap), (6, .agg #[.slice n3.a n3.l.length n3.cap, .int .u64 0]), (7, .slice c zs.length capc), (8, .slice c zs.length capc), (9, .int .i64 ((zs.length : Nat) : Int)), (10, .int .i64 ((min zs.length 10 : Nat) : Int)), (11, .slice c l39.length capc)] rfl (wv_n rfl) rfl rfl (fun _ _ hρ _ => r_call (args := [.agg #[.slice n1.a n1.l.length n1.cap, .int .u64 lost], .agg #[.slice n5.a n5.l.length n5.cap, .int .u64 lost]]) (enters_of Try.func25 (by kernel_rfl) rfl) (hρ _ _ rfl) ((cons2 (hρ _ _ rfl) (cons2 (hρ _ _ rfl) rfl))) rfl) (fun w hm => (nrsame_c n1.l n1.a n1.cap lost n5.l n5.a n5.cap lost w (hm.netAt 960 rfl hA).1 (hm.netAt 960 rfl hA).2.1 (hm.netAt 960 rfl hA).2.2 (SliceAt.own Pcl.cells_len (hm.row 968 rfl) rfl rfl) (row_cap (hm.row 968 rfl)) (pcs_pool (hm.pool 969 rfl) hfn5.2)).mono fun _ _ h => ⟨h.1.trans (congrArg Ending.returned (bool_as (decide_eq_true ⟨rfl, hfn1.1.trans hfn5.1.symm⟩))), h.2⟩) (by kernel_rfl) ?_
            refine G_step [4, 5, 6, 7, 8, 9, 10, 11] 12 [] (by kernel_rfl) (allM (all_cons (q_run (.bool true) rfl rfl (wv_n rfl) rfl (fun _ _ hρ _ => r_move (hρ _ _ rfl))) (all_cons (q_run (.slice n3.a n3.l.length n3.cap) rfl rfl (wv_y rfl rfl) rfl (fun _ _ hρ _ => r_move (hρ _ _ rfl))) (all_cons (q_run (.agg #[.slice n3.a n3.l.length n3.cap, .int .u64 0]) rfl rfl (wv_y rfl rfl) rfl (fun _ _ hρ _ => r_build (vs := [(0, .slice n3.a n3.l.length n3.cap)]) (by kernel_rfl) (cons2 (pair2 (hρ _ _ rfl)) rfl))) (all_cons (q_run (.slice c zs.length capc) rfl rfl (wv_y rfl rfl) rfl (fun _ _ hρ _ => r_move (hρ _ _ rfl))) (all_cons (q_run (.slice c zs.length capc) rfl rfl (wv_y rfl rfl) rfl (fun _ _ hρ _ => r_move (hρ _ _ rfl))) (all_cons (q_run (.int .i64 ((zs.length : Nat) : Int)) rfl rfl (wv_y rfl rfl) rfl (fun _ _ hρ _ => r_len sl22 (hρ _ _ rfl))) (all_cons (q_run (.int .i64 ((min zs.length 10 : Nat) : Int)) rfl rfl (wv_y rfl rfl) rfl (fun _ _ hρ _ => r_as (r_min (hρ _ _ rfl) (hρ _ _ rfl)) (int_as (minI _ 10)))) (all_cons (q_run (.slice c l39.length capc) rfl rfl (wv_y rfl rfl) rfl (fun ρ _ hρ _ => r_as (r_sliceO sl22 sz36 (hρ _ _ rfl) (bd_none ρ _) (bd_some (n := min zs.length 10) (hρ _ _ rfl)) (bd_none ρ _) (by simp) (by omega) (by omega) (by omega)) (by rw [hn39]; exact slo_zero _ _ _ _))) all_nil))))))))) (allM (all_cons ?_ all_nil))
            refine LOb_callN (fun ((n6, b6) : NetR × List (RowG By)) => pvs n6.l = fewV (pvs l39) ∧ InB b6 n6.l) (fun (n6, b6) => .slice n6.a n6.l.length n6.cap) (fun (n6, b6) => [(972, .row (.slice n6.a n6.l.length n6.cap) 36 3 n6.l.length (n6.l.flatMap Pcl.cells)), (973, .pool 5 1 byc b6)]) (fun (n6, b6) => [(13, .agg #[.slice n6.a n6.l.length n6.cap, .int .u64 0])]) rfl (wv_y rfl rfl) rfl rfl (fun _ _ hρ _ => r_call (args := [.slice c l39.length capc]) (enters_of Try.func12 (by kernel_rfl) rfl) (hρ _ _ rfl) ((cons2 (hρ _ _ rfl) rfl)) rfl) (fun w hm => (few_c l39 c capc w (hs39.keep hm.ext) (by omega) (fun p hp => (fun h9 => ⟨(hz9 p h9).1.keep hm.ext, (hz9 p h9).2⟩) (by rw [hl39] at hp; exact List.mem_of_mem_take hp))).mono fun e w' ⟨n, bs, hf, hi, he, hb, r1, r2, hs⟩ => ⟨(n, bs), ⟨hf, hi⟩, he, hb, newOk2 972 973 r1 r2 hs⟩) (fun (n6, b6) => by kernel_rfl) ?_
            rintro ⟨n6, b6⟩ hfn6
            refine G_step [5, 6, 13] 14 [] (by kernel_rfl) (allM (all_cons (q_run (.slice n3.a n3.l.length n3.cap) rfl rfl (wv_y rfl rfl) rfl (fun _ _ hρ _ => r_move (hρ _ _ rfl))) (all_cons (q_run (.agg #[.slice n3.a n3.l.length n3.cap, .int .u64 0]) rfl rfl (wv_y rfl rfl) rfl (fun _ _ hρ _ => r_build (vs := [(0, .slice n3.a n3.l.length n3.cap)]) (by kernel_rfl) (cons2 (pair2 (hρ _ _ rfl)) rfl))) (all_cons (q_run (.agg #[.slice n6.a n6.l.length n6.cap, .int .u64 0]) rfl rfl (wv_y rfl rfl) rfl (fun _ _ hρ _ => r_build (vs := [(0, .slice n6.a n6.l.length n6.cap)]) (by kernel_rfl) (cons2 (pair2 (hρ _ _ rfl)) rfl))) all_nil)))) (allM (all_cons ?_ all_nil))
            refine LOb_call (.bool true) [(15, .bool true), (16, .bool true)] rfl (wv_y rfl rfl) rfl rfl (fun _ _ hρ _ => r_call (args := [.agg #[.slice n3.a n3.l.length n3.cap, .int .u64 0], .agg #[.slice n6.a n6.l.length n6.cap, .int .u64 0]]) (enters_of Try.func25 (by kernel_rfl) rfl) (hρ _ _ rfl) ((cons2 (hρ _ _ rfl) (cons2 (hρ _ _ rfl) rfl))) rfl) (fun w hm => (nrsame_c n3.l n3.a n3.cap (0 : Int) n6.l n6.a n6.cap (0 : Int) w (hm.netAt 960 rfl hC).1 (hm.netAt 960 rfl hC).2.1 (hm.netAt 960 rfl hC).2.2 (SliceAt.own Pcl.cells_len (hm.row 972 rfl) rfl rfl) (row_cap (hm.row 972 rfl)) (pcs_pool (hm.pool 973 rfl) hfn6.2)).mono fun _ _ h => ⟨h.1.trans (congrArg Ending.returned (bool_as (decide_eq_true ⟨rfl, few_eq hfn3.1 hfn6.1 (hl3.trans hl39.symm)⟩))), h.2⟩) (by kernel_rfl) ?_
            refine G_last [15, 16] [(6, .bool true)] (by kernel_rfl) (allM (all_cons (q_run (.bool true) rfl rfl (wv_n rfl) rfl (fun _ _ hρ _ => r_pick_t (hρ _ _ rfl) (hρ _ _ rfl))) (all_cons (q_run (.bool true) rfl rfl (wv_n rfl) rfl (fun _ _ hρ _ => r_assign (hρ _ _ rfl))) all_nil))) (end_new 16 rfl rfl end_nil) ?_
            refine T_ret' ?_
            refine ret_of rfl (.bool true) (fun tmps w hk hm => res1 rfl (res_tmp (hk 6 _ rfl))) (fun w hm => ?_)
            exact ⟨rfl, hm.ext⟩
        · skip
          refine T_seq (T_region ?_)
          refine TL_q (.agg #[.slice n1.a n1.l.length n1.cap, .int .u64 lost]) (fun _ _ hρ hm => r_loadA ag27 sz27 (hρ _ _ rfl) (hm.at 3 rfl) rfl rfl) rfl rfl rfl (w_n rfl) ?_
          refine TL_q (.slice n3.a n3.l.length n3.cap) (fun _ _ hρ _ => r_move (hρ _ _ rfl)) rfl rfl rfl (w_n rfl) ?_
          refine TL_call (.tuple #[.agg #[.slice none 0 0, .int .u64 0], .int .i64 2]) (fun _ _ hρ _ => r_call (args := [.agg #[.slice n1.a n1.l.length n1.cap, .int .u64 lost], .slice n3.a n3.l.length n3.cap]) (enters_of Try.func13 (by kernel_rfl) rfl) (hρ _ _ rfl) ((cons2 (hρ _ _ rfl) (cons2 (hρ _ _ rfl) rfl))) rfl) (fun w hm => send_arg n1.l n1.a n1.cap lost n3.l n3.a n3.cap w (hm.netAt 960 rfl hA).1 (hm.netAt 960 rfl hA).2.1 (hm.netAt 960 rfl hA).2.2 (hm.netAt 960 rfl hC).1 (hm.netAt 960 rfl hC).2.1 (hm.netAt 960 rfl hC).2.2 h0 hck hall) rfl rfl rfl (w_n rfl) ?_
          refine TL_q (.tuple #[.agg #[.slice none 0 0, .int .u64 0], .int .i64 2]) (fun _ _ hρ _ => r_move (hρ _ _ rfl)) rfl rfl rfl (w_n rfl) ?_
          refine TL_q (.agg #[.slice none 0 0, .int .u64 0]) (fun _ _ hρ _ => r_extract (hρ _ _ rfl) rfl) rfl rfl rfl (w_n rfl) ?_
          refine TL_q (.int .i64 2) (fun _ _ hρ _ => r_extract (hρ _ _ rfl) rfl) rfl rfl rfl (w_n rfl) ?_
          refine TL_new 9 (.cells #[.slice none 0 0, .int .u64 0] 27) (fun B => .pointer (some ⟨B, 0, none⟩)) (fun _ _ _ _ => r_alloc (v := .agg #[.slice none 0 0, .int .u64 0]) (by kernel_rfl) rfl) rfl rfl rfl (w_n rfl) ?_
          intro B40
          refine TL_store 9 (.cells #[.slice none 0 0, .int .u64 0] 27) rfl (fun _ _ hρ hm => r_store sz27 (hρ _ _ rfl) (hρ _ _ rfl) (hm.at 9 rfl) rfl rfl rfl rfl) rfl rfl (w_n rfl) ?_
          refine TL_q (.int .i64 2) (fun _ _ hρ _ => r_assign (hρ _ _ rfl)) rfl rfl rfl (w_n rfl) ?_
          refine TL_seq ?_
          refine T_seq (T_region ?_)
          refine TL_q (.agg #[.slice n1.a n1.l.length n1.cap, .int .u64 lost]) (fun _ _ hρ hm => r_loadA ag27 sz27 (hρ _ _ rfl) (hm.at 3 rfl) rfl rfl) rfl rfl rfl (w_n rfl) ?_
          refine TL_new 10 (.cells #[.slice none 0 0, .int .u64 0] 27) (fun B => .pointer (some ⟨B, 0, none⟩)) (fun _ _ _ _ => r_alloc (v := .agg #[.slice none 0 0, .int .u64 0]) (by kernel_rfl) rfl) rfl rfl rfl (w_n rfl) ?_
          intro B41
          refine TL_store 10 (.cells #[.slice n1.a n1.l.length n1.cap, .int .u64 lost] 27) rfl (fun _ _ hρ hm => r_store sz27 (hρ _ _ rfl) (hρ _ _ rfl) (hm.at 10 rfl) rfl rfl rfl rfl) rfl rfl (w_n rfl) ?_
          refine TL_q (.int .i64 0) (fun _ _ hρ _ => r_assign (hρ _ _ rfl)) rfl rfl rfl (w_n rfl) ?_
          refine TL_seq ?_
          refine T_seq ?_
          refine T_seq (T_region ?_)
          refine TL_q (.slice n3.a n3.l.length n3.cap) (fun _ _ hρ _ => r_move (hρ _ _ rfl)) rfl rfl rfl (w_n rfl) ?_
          refine TL_q (.int .i64 ((n3.l.length : Nat) : Int)) (fun _ _ hρ _ => r_len sl22 (hρ _ _ rfl)) rfl rfl rfl (w_n rfl) ?_
          refine TL_q (.int .i64 0) (fun _ _ hρ _ => r_move (hρ _ _ rfl)) rfl rfl rfl (w_n rfl) ?_
          refine TL_seq ?_
          refine T_block ?_
          refine T_loop (ι := Nat × Option Addr × Nat × List Pcl × Int × List NetR × Int) (fun (z : Nat × Option Addr × Nat × List Pcl × Int × List NetR × Int) => match z with | (k, wa, wc, wl, wlo, ns, er) => k ≤ n3.l.length ∧ (pvs wl, wlo) = putsV (pvs n1.l, lost) ((pvs n3.l).take k) ∧ (⟨wa, wc, wl⟩ : NetR) ∈ ns ∧ n1 ∈ ns ∧ n3 ∈ ns ∧ 0 ≤ wlo ∧ er = (if (n3.l.take k).all (fun p => mayV p.pv && !p.sp) = true then 0 else 2)) (fun (z : Nat × Option Addr × Nat × List Pcl × Int × List NetR × Int) => match z with | (k, wa, wc, wl, wlo, ns, er) => [(2, .slice c zs.length capc), (3, .pointer (some ⟨B1, 0, none⟩)), (7, .pointer (some ⟨Bx10, 0, none⟩)), (9, .slice n3.a n3.l.length n3.cap), (10, .bool true), (19, .pointer (some ⟨B40, 0, none⟩)), (20, .int .i64 2), (21, .pointer (some ⟨B41, 0, none⟩)), (121, .slice n3.a n3.l.length n3.cap), (122, .int .i64 ((n3.l.length : Nat) : Int)), (123, .int .i64 ((k : Nat) : Int)), (22, .int .i64 er)]) (fun (z : Nat × Option Addr × Nat × List Pcl × Int × List NetR × Int) => match z with | (k, wa, wc, wl, wlo, ns, er) => [(966, .row (.slice n4.a n4.l.length n4.cap) 36 3 n4.l.length (n4.l.flatMap Pcl.cells)), (967, .pool 5 1 byc b4), (964, .no), (961, .no), (965, .no), (1, .blk B1 (.cells #[.slice a xs.length cap, .int .u64 lost] 27)), (2, .blk B2 (.cells #[.slice b ys.length capb, .int .u64 lost2] 27)), (3, .blk Bx10 (.cells #[.slice n1.a n1.l.length n1.cap, .int .u64 lost] 27)), (4, .blk Bx11 (.cells #[.slice n2.a n2.l.length n2.cap, .int .u64 lost2] 27)), (962, .row (.slice n2.a n2.l.length n2.cap) 36 3 n2.l.length (n2.l.flatMap Pcl.cells)), (963, .pool 5 1 byc b2), (9, .blk B40 (.cells #[.slice none 0 0, .int .u64 0] 27)), (10, .blk B41 (.cells #[.slice wa wl.length wc, .int .u64 wlo] 27)), (960, .nets ns)]) (fun (z : Nat × Option Addr × Nat × List Pcl × Int × List NetR × Int) => match z with | (k, wa, wc, wl, wlo, ns, er) => n3.l.length - k) (0, n1.a, n1.cap, n1.l, lost, ns, 0) ⟨Nat.zero_le _, rfl, hA, hA, hC, h0, rfl⟩ (sub_cons rfl (sub_cons rfl (sub_cons rfl (sub_cons rfl (sub_cons rfl (sub_cons rfl (sub_cons rfl (sub_cons rfl (sub_cons rfl (sub_cons rfl (sub_cons rfl (sub_cons rfl sub_nil)))))))))))) (sub_cons rfl (sub_cons rfl (sub_cons rfl (sub_cons rfl (sub_cons rfl (sub_cons rfl (sub_cons rfl (sub_cons rfl (sub_cons rfl (sub_cons rfl (sub_cons rfl (sub_cons rfl (sub_cons rfl (sub_cons rfl sub_nil)))))))))))))) ?_
          rintro ⟨k, wa, wc, wl, wlo, ns, er⟩ hp
          obtain ⟨hk, hpw, hw, hA, hC, hwlo, her⟩ := hp
          show T _ _ _ [(2, .slice c zs.length capc), (3, .pointer (some ⟨B1, 0, none⟩)), (7, .pointer (some ⟨Bx10, 0, none⟩)), (9, .slice n3.a n3.l.length n3.cap), (10, .bool true), (19, .pointer (some ⟨B40, 0, none⟩)), (20, .int .i64 2), (21, .pointer (some ⟨B41, 0, none⟩)), (121, .slice n3.a n3.l.length n3.cap), (122, .int .i64 ((n3.l.length : Nat) : Int)), (123, .int .i64 ((k : Nat) : Int)), (22, .int .i64 er)] [(966, .row (.slice n4.a n4.l.length n4.cap) 36 3 n4.l.length (n4.l.flatMap Pcl.cells)), (967, .pool 5 1 byc b4), (964, .no), (961, .no), (965, .no), (1, .blk B1 (.cells #[.slice a xs.length cap, .int .u64 lost] 27)), (2, .blk B2 (.cells #[.slice b ys.length capb, .int .u64 lost2] 27)), (3, .blk Bx10 (.cells #[.slice n1.a n1.l.length n1.cap, .int .u64 lost] 27)), (4, .blk Bx11 (.cells #[.slice n2.a n2.l.length n2.cap, .int .u64 lost2] 27)), (962, .row (.slice n2.a n2.l.length n2.cap) 36 3 n2.l.length (n2.l.flatMap Pcl.cells)), (963, .pool 5 1 byc b2), (9, .blk B40 (.cells #[.slice none 0 0, .int .u64 0] 27)), (10, .blk B41 (.cells #[.slice wa wl.length wc, .int .u64 wlo] 27)), (960, .nets ns)]
          refine T_seq (T_region ?_)
          refine TL_q (.bool (decide (((k : Nat) : Int) < ((n3.l.length : Nat) : Int)))) (fun _ _ hρ _ => r_lss (hρ _ _ rfl) (hρ _ _ rfl)) rfl rfl rfl (w_n rfl) ?_
          refine TL_seq ?_
          refine T_seq ?_
          refine T_cond rfl (fun h4 => ?_) (fun h4 => ?_)
          · replace h4 := of_decide_eq_true h4
            refine T_skip' ?_
            refine p_seq ?_
            refine T_seq ?_
            refine T_block ?_
            obtain ⟨p, hp⟩ : ∃ x, n3.l[k]? = some x := ⟨_, List.getElem?_eq_getElem (by omega)⟩
            refine T_open (fun _ hm => (hm.netAt 960 rfl hC).1) (by omega) (fun b42 of42 ha42 => ?_)
            rw [ha42]
            refine T_seq (T_region ?_)
            refine TL_q (.pointer (some ⟨b42, of42 + k * 3, none⟩)) (fun _ _ hρ _ => r_indexAddrS (i := k) sl22 sz36 (hρ _ _ rfl) (hρ _ _ rfl) (by omega)) rfl rfl rfl (w_n rfl) ?_
            refine TL_q (.agg #[.int .i64 p.to, .slice p.r.a p.r.l.length p.r.cap, .bool p.sp]) (fun _ _ hρ hm => r_loadS (f := Pcl.cells) (u := p) (l := n3.l) (i := k) ag36 sz36 (hρ _ _ rfl) (by have h9 := (hm.netAt 960 rfl hC).1; rw [ha42] at h9; exact h9) hp) rfl rfl rfl (w_n rfl) ?_
            refine TL_new 11 (.cells #[.int .i64 0, .slice none 0 0, .bool false] 36) (fun B => .pointer (some ⟨B, 0, none⟩)) (fun _ _ _ _ => r_alloc (v := .agg #[.int .i64 0, .slice none 0 0, .bool false]) (by kernel_rfl) rfl) rfl rfl rfl (w_n rfl) ?_
            intro B43
            refine TL_store 11 (.cells #[.int .i64 p.to, .slice p.r.a p.r.l.length p.r.cap, .bool p.sp] 36) rfl (fun _ _ hρ hm => r_store sz36 (hρ _ _ rfl) (hρ _ _ rfl) (hm.at 11 rfl) rfl rfl rfl rfl) rfl rfl (w_n rfl) ?_
            refine TL_seq ?_
            refine T_seq (T_region ?_)
            refine TL_q (.agg #[.slice wa wl.length wc, .int .u64 wlo]) (fun _ _ hρ hm => r_loadA ag27 sz27 (hρ _ _ rfl) (hm.at 10 rfl) rfl rfl) rfl rfl rfl (w_n rfl) ?_
            refine TL_q (.agg #[.int .i64 p.to, .slice p.r.a p.r.l.length p.r.cap, .bool p.sp]) (fun _ _ hρ hm => r_loadA ag36 sz36 (hρ _ _ rfl) (hm.at 11 rfl) rfl rfl) rfl rfl rfl (w_n rfl) ?_
            refine TL_callH (fun x : NetR × Int => (pvs x.1.l, x.2) = putV (pvs wl, wlo) p.pv) (fun x => .agg #[.slice x.1.a x.1.l.length x.1.cap, .int .u64 x.2]) (fun x => (960, .nets (x.1 :: ns)) :: _) (fun _ _ hρ _ => r_call (args := [.agg #[.slice wa wl.length wc, .int .u64 wlo], .agg #[.int .i64 p.to, .slice p.r.a p.r.l.length p.r.cap, .bool p.sp]]) (enters_of Try.func33 (by kernel_rfl) rfl) (hρ _ _ rfl) ((cons2 (hρ _ _ rfl) (cons2 (hρ _ _ rfl) rfl))) rfl) (fun w hm => (rput_c wl wa wc wlo p ns w (fun m hm9 => hm.netAt 960 rfl hm9) hw ⟨n3, hC, List.mem_of_getElem? hp⟩ hwlo).mono fun e w' ⟨d, lo, hp, he, hn⟩ => ⟨(d, lo), hp, he, MemOk.shAdd (K := netK) hm 960 rfl hn (fun _ h => h)⟩) rfl rfl rfl (w_n rfl) ?_
            rintro ⟨d44, lo44⟩ hput44
            refine TL_store 10 (.cells #[.slice d44.a d44.l.length d44.cap, .int .u64 lo44] 27) rfl (fun _ _ hρ hm => r_store sz27 (hρ _ _ rfl) (hρ _ _ rfl) (hm.at 10 rfl) rfl rfl rfl rfl) rfl rfl (w_n rfl) ?_
            refine TL_seq ?_
            by_cases hmy : mayV p.pv = true
            · skip
              by_cases hps : p.sp = true
              · skip
                refine T_seq (T_region ?_)
                refine TL_q (.agg #[.int .i64 p.to, .slice p.r.a p.r.l.length p.r.cap, .bool p.sp]) (fun _ _ hρ hm => r_loadA ag36 sz36 (hρ _ _ rfl) (hm.at 11 rfl) rfl rfl) rfl rfl rfl (w_n rfl) ?_
                refine TL_call (.bool true) (fun _ _ hρ _ => r_call (args := [.agg #[.int .i64 p.to, .slice p.r.a p.r.l.length p.r.cap, .bool p.sp]]) (enters_of Try.func34 (by kernel_rfl) rfl) (hρ _ _ rfl) ((cons2 (hρ _ _ rfl) rfl)) rfl) (fun w _ => (rmay_c p w).mono fun _ _ h => ⟨h.1.trans (congrArg Ending.returned (bool_as hmy)), h.2⟩) rfl rfl rfl (w_n rfl) ?_
                refine TL_q (.bool false) (fun _ _ hρ _ => r_not (b := true) (hρ _ _ rfl)) rfl rfl rfl (w_n rfl) ?_
                refine TL_q (.bool false) (fun _ _ hρ _ => r_move (hρ _ _ rfl)) rfl rfl rfl (w_n rfl) ?_
                refine TL_q (.pointer (some ⟨B43, 2, none⟩)) (fun _ _ hρ _ => r_fieldAddr fl36_2 sz4 (hρ _ _ rfl)) rfl rfl rfl (want_y 133 rfl rfl rfl) ?_
                refine TL_q (.bool true) (fun _ _ hρ hm => r_as (r_load ag4 (hρ _ _ rfl) (hm.at 11 rfl) rfl) (bool_as hps)) rfl rfl rfl (want_y 133 rfl rfl rfl) ?_
                refine TL_q (.bool true) (fun _ _ hρ _ => r_pick_f (hρ _ _ rfl) (hρ _ _ rfl)) rfl rfl rfl (w_n rfl) ?_
                refine TL_seq ?_
                refine T_cond_t rfl ?_
                refine T_region ?_
                refine TL_q (.int .i64 2) (fun _ _ hρ _ => r_assign (hρ _ _ rfl)) rfl rfl rfl (w_n rfl) ?_
                refine TL_nil ?_
                refine p_blk_n ?_
                refine p_seq ?_
                refine T_region ?_
                refine TL_q (.int .i64 ((k + 1 : Nat) : Int)) (fun _ _ hρ _ => r_as (r_add (hρ _ _ rfl) (hρ _ _ rfl)) (int_as ((wrap64 (by omega) (by omega)).trans (by omega)))) rfl rfl rfl (w_n rfl) ?_
                refine TL_q (.int .i64 ((k + 1 : Nat) : Int)) (fun _ _ hρ _ => r_move (hρ _ _ rfl)) rfl rfl rfl (w_n rfl) ?_
                refine TL_nil ?_
                exact p_at (k + 1, d44.a, d44.cap, d44.l, lo44, d44 :: ns, 2) ⟨⟨by omega, puts_next hpw hp hput44, List.mem_cons_self, List.mem_cons_of_mem _ hA, List.mem_cons_of_mem _ hC, put_lo hput44 hwlo, er_bad hp (by simp [hmy, hps])⟩, by dsimp only; omega⟩ (sub_cons rfl (sub_cons rfl (sub_cons rfl (sub_cons rfl (sub_cons rfl (sub_cons rfl (sub_cons rfl (sub_cons rfl (sub_cons rfl (sub_cons rfl (sub_cons rfl (sub_cons rfl sub_nil)))))))))))) (sub_cons rfl (sub_cons rfl (sub_cons rfl (sub_cons rfl (sub_cons rfl (sub_cons rfl (sub_cons rfl (sub_cons rfl (sub_cons rfl (sub_cons rfl (sub_cons rfl (sub_cons rfl (sub_cons rfl (sub_cons rfl sub_nil))))))))))))))
              · skip
                refine T_seq (T_region ?_)
                refine TL_q (.agg #[.int .i64 p.to, .slice p.r.a p.r.l.length p.r.cap, .bool p.sp]) (fun _ _ hρ hm => r_loadA ag36 sz36 (hρ _ _ rfl) (hm.at 11 rfl) rfl rfl) rfl rfl rfl (w_n rfl) ?_
                refine TL_call (.bool true) (fun _ _ hρ _ => r_call (args := [.agg #[.int .i64 p.to, .slice p.r.a p.r.l.length p.r.cap, .bool p.sp]]) (enters_of Try.func34 (by kernel_rfl) rfl) (hρ _ _ rfl) ((cons2 (hρ _ _ rfl) rfl)) rfl) (fun w _ => (rmay_c p w).mono fun _ _ h => ⟨h.1.trans (congrArg Ending.returned (bool_as hmy)), h.2⟩) rfl rfl rfl (w_n rfl) ?_
                refine TL_q (.bool false) (fun _ _ hρ _ => r_not (b := true) (hρ _ _ rfl)) rfl rfl rfl (w_n rfl) ?_
                refine TL_q (.bool false) (fun _ _ hρ _ => r_move (hρ _ _ rfl)) rfl rfl rfl (w_n rfl) ?_
                refine TL_q (.pointer (some ⟨B43, 2, none⟩)) (fun _ _ hρ _ => r_fieldAddr fl36_2 sz4 (hρ _ _ rfl)) rfl rfl rfl (want_y 133 rfl rfl rfl) ?_
                refine TL_q (.bool false) (fun _ _ hρ hm => r_as (r_load ag4 (hρ _ _ rfl) (hm.at 11 rfl) rfl) (bool_as (eq_false_of_ne_true hps))) rfl rfl rfl (want_y 133 rfl rfl rfl) ?_
                refine TL_q (.bool false) (fun _ _ hρ _ => r_pick_f (hρ _ _ rfl) (hρ _ _ rfl)) rfl rfl rfl (w_n rfl) ?_
                refine TL_seq ?_
                refine T_cond_f rfl ?_
                refine T_skip' ?_
                refine p_blk_n ?_
                refine p_seq ?_
                refine T_region ?_
                refine TL_q (.int .i64 ((k + 1 : Nat) : Int)) (fun _ _ hρ _ => r_as (r_add (hρ _ _ rfl) (hρ _ _ rfl)) (int_as ((wrap64 (by omega) (by omega)).trans (by omega)))) rfl rfl rfl (w_n rfl) ?_
                refine TL_q (.int .i64 ((k + 1 : Nat) : Int)) (fun _ _ hρ _ => r_move (hρ _ _ rfl)) rfl rfl rfl (w_n rfl) ?_
                refine TL_nil ?_
                exact p_at (k + 1, d44.a, d44.cap, d44.l, lo44, d44 :: ns, er) ⟨⟨by omega, puts_next hpw hp hput44, List.mem_cons_self, List.mem_cons_of_mem _ hA, List.mem_cons_of_mem _ hC, put_lo hput44 hwlo, er_ok her hp (by simp [hmy, hps])⟩, by dsimp only; omega⟩ (sub_cons rfl (sub_cons rfl (sub_cons rfl (sub_cons rfl (sub_cons rfl (sub_cons rfl (sub_cons rfl (sub_cons rfl (sub_cons rfl (sub_cons rfl (sub_cons rfl (sub_cons rfl sub_nil)))))))))))) (sub_cons rfl (sub_cons rfl (sub_cons rfl (sub_cons rfl (sub_cons rfl (sub_cons rfl (sub_cons rfl (sub_cons rfl (sub_cons rfl (sub_cons rfl (sub_cons rfl (sub_cons rfl (sub_cons rfl (sub_cons rfl sub_nil))))))))))))))
            · skip
              refine T_seq (T_region ?_)
              refine TL_q (.agg #[.int .i64 p.to, .slice p.r.a p.r.l.length p.r.cap, .bool p.sp]) (fun _ _ hρ hm => r_loadA ag36 sz36 (hρ _ _ rfl) (hm.at 11 rfl) rfl rfl) rfl rfl rfl (w_n rfl) ?_
              refine TL_call (.bool false) (fun _ _ hρ _ => r_call (args := [.agg #[.int .i64 p.to, .slice p.r.a p.r.l.length p.r.cap, .bool p.sp]]) (enters_of Try.func34 (by kernel_rfl) rfl) (hρ _ _ rfl) ((cons2 (hρ _ _ rfl) rfl)) rfl) (fun w _ => (rmay_c p w).mono fun _ _ h => ⟨h.1.trans (congrArg Ending.returned (bool_as (eq_false_of_ne_true hmy))), h.2⟩) rfl rfl rfl (w_n rfl) ?_
              refine TL_q (.bool true) (fun _ _ hρ _ => r_not (b := false) (hρ _ _ rfl)) rfl rfl rfl (w_n rfl) ?_
              refine TL_q (.bool true) (fun _ _ hρ _ => r_move (hρ _ _ rfl)) rfl rfl rfl (w_n rfl) ?_
              refine TL_no rfl rfl (want_n 133 rfl rfl rfl) ?_
              refine TL_no rfl rfl (want_n 133 rfl rfl rfl) ?_
              refine TL_q (.bool true) (fun _ _ hρ _ => r_pick_t (hρ _ _ rfl) (hρ _ _ rfl)) rfl rfl rfl (w_n rfl) ?_
              refine TL_seq ?_
              refine T_cond_t rfl ?_
              refine T_region ?_
              refine TL_q (.int .i64 2) (fun _ _ hρ _ => r_assign (hρ _ _ rfl)) rfl rfl rfl (w_n rfl) ?_
              refine TL_nil ?_
              refine p_blk_n ?_
              refine p_seq ?_
              refine T_region ?_
              refine TL_q (.int .i64 ((k + 1 : Nat) : Int)) (fun _ _ hρ _ => r_as (r_add (hρ _ _ rfl) (hρ _ _ rfl)) (int_as ((wrap64 (by omega) (by omega)).trans (by omega)))) rfl rfl rfl (w_n rfl) ?_
              refine TL_q (.int .i64 ((k + 1 : Nat) : Int)) (fun _ _ hρ _ => r_move (hρ _ _ rfl)) rfl rfl rfl (w_n rfl) ?_
              refine TL_nil ?_
              exact p_at (k + 1, d44.a, d44.cap, d44.l, lo44, d44 :: ns, 2) ⟨⟨by omega, puts_next hpw hp hput44, List.mem_cons_self, List.mem_cons_of_mem _ hA, List.mem_cons_of_mem _ hC, put_lo hput44 hwlo, er_bad hp (by simp [hmy])⟩, by dsimp only; omega⟩ (sub_cons rfl (sub_cons rfl (sub_cons rfl (sub_cons rfl (sub_cons rfl (sub_cons rfl (sub_cons rfl (sub_cons rfl (sub_cons rfl (sub_cons rfl (sub_cons rfl (sub_cons rfl sub_nil)))))))))))) (sub_cons rfl (sub_cons rfl (sub_cons rfl (sub_cons rfl (sub_cons rfl (sub_cons rfl (sub_cons rfl (sub_cons rfl (sub_cons rfl (sub_cons rfl (sub_cons rfl (sub_cons rfl (sub_cons rfl (sub_cons rfl sub_nil))))))))))))))
          · replace h4 := of_decide_eq_false h4
            refine T_exit' ?_
            refine p_then_x ?_
            refine p_then_x ?_
            refine p_blk_x ?_
            refine p_seq ?_
            refine T_seq ?_
            have hke : k = n3.l.length := by omega
            subst hke
            rw [List.take_length, if_neg hall] at her
            subst her
            refine T_seq (T_region ?_)
            refine TL_q (.bool true) (fun _ _ hρ _ => r_move (hρ _ _ rfl)) rfl rfl rfl (w_n rfl) ?_
            refine TL_q (.bool false) (fun _ _ hρ _ => r_not (b := true) (hρ _ _ rfl)) rfl rfl rfl (w_n rfl) ?_
            refine TL_seq ?_
            refine T_cond_f rfl ?_
            refine T_skip' ?_
            refine p_seq ?_
            refine T_seq ?_
            refine T_seq (T_region ?_)
            refine TL_q (.int .i64 2) (fun _ _ hρ _ => r_move (hρ _ _ rfl)) rfl rfl rfl (w_n rfl) ?_
            refine TL_q (.bool true) (fun _ _ hρ _ => r_as (r_neq (hρ _ _ rfl) (hρ _ _ rfl)) (by rfl)) rfl rfl rfl (w_n rfl) ?_
            refine TL_seq ?_
            refine T_cond_t rfl ?_
            refine T_region ?_
            refine TL_q (.agg #[.slice none 0 0, .int .u64 0]) (fun _ _ _ _ => r_build (vs := []) (by kernel_rfl) rfl) rfl rfl rfl (w_n rfl) ?_
            refine TL_store 10 (.cells #[.slice none 0 0, .int .u64 0] 27) rfl (fun _ _ hρ hm => r_store sz27 (hρ _ _ rfl) (hρ _ _ rfl) (hm.at 10 rfl) rfl rfl rfl rfl) rfl rfl (w_n rfl) ?_
            refine TL_nil ?_
            refine p_seq ?_
            refine T_seq ?_
            refine T_seq (T_region ?_)
            refine TL_q (.int .i64 2) (fun _ _ hρ _ => r_move (hρ _ _ rfl)) rfl rfl rfl (w_n rfl) ?_
            refine TL_q (.int .i64 2) (fun _ _ hρ _ => r_move (hρ _ _ rfl)) rfl rfl rfl (w_n rfl) ?_
            refine TL_q (.bool false) (fun _ _ hρ _ => r_as (r_neq (hρ _ _ rfl) (hρ _ _ rfl)) (by rfl)) rfl rfl rfl (w_n rfl) ?_
            refine TL_q (.bool false) (fun _ _ hρ _ => r_move (hρ _ _ rfl)) rfl rfl rfl (w_n rfl) ?_
            refine TL_q (.agg #[.slice none 0 0, .int .u64 0]) (fun _ _ hρ hm => r_loadA ag27 sz27 (hρ _ _ rfl) (hm.at 9 rfl) rfl rfl) rfl rfl rfl (want_y 146 rfl rfl rfl) ?_
            refine TL_q (.agg #[.slice none 0 0, .int .u64 0]) (fun _ _ hρ hm => r_loadA ag27 sz27 (hρ _ _ rfl) (hm.at 10 rfl) rfl rfl) rfl rfl rfl (want_y 146 rfl rfl rfl) ?_
            refine TL_call (.bool true) (fun _ _ hρ _ => r_call (args := [.agg #[.slice none 0 0, .int .u64 0], .agg #[.slice none 0 0, .int .u64 0]]) (enters_of Try.func25 (by kernel_rfl) rfl) (hρ _ _ rfl) ((cons2 (hρ _ _ rfl) (cons2 (hρ _ _ rfl) rfl))) rfl) (fun w _ => (nrsame_c [] none 0 (0 : Int) [] none 0 (0 : Int) w (sliceNil w) (by decide) (pcsNil _) (sliceNil w) (by decide) (pcsNil _)).mono fun _ _ h => ⟨h.1.trans (congrArg Ending.returned (bool_as (decide_eq_true ⟨rfl, rfl⟩))), h.2⟩) rfl rfl rfl (want_y 146 rfl rfl rfl) ?_
            refine TL_q (.bool false) (fun _ _ hρ _ => r_not (b := true) (hρ _ _ rfl)) rfl rfl rfl (want_y 146 rfl rfl rfl) ?_
            refine TL_q (.bool false) (fun _ _ hρ _ => r_pick_f (hρ _ _ rfl) (hρ _ _ rfl)) rfl rfl rfl (w_n rfl) ?_
            refine TL_seq ?_
            refine T_cond_f rfl ?_
            refine T_skip' ?_
            refine p_seq ?_
            refine T_mem (_ :: _ :: _ :: _) (fun _ hm => hm.scr0 901 903) ?_
            refine T_seq (T_region ?_)
            refine TL_q (.agg #[.slice none 0 0, .int .u64 0]) (fun _ _ hρ hm => r_loadA ag27 sz27 (hρ _ _ rfl) (hm.at 9 rfl) rfl rfl) rfl rfl rfl (w_n rfl) ?_
            refine TL_callH _ _ _ (fun _ _ hρ _ => r_call (args := [.agg #[.slice none 0 0, .int .u64 0]]) (enters_of Try.func27 (by kernel_rfl) rfl) (hρ _ _ rfl) ((cons2 (hρ _ _ rfl) rfl)) rfl) (fun w hm => lspoil_ht ⟨none, 0, []⟩ [] 0 (by repeat (first | exact noIds_nil _ _ | refine noIds_cons rfl ?_)) (InB.nil _) (Nat.zero_le _) w (hm.of (lk_dups (A := [(901, rowP ⟨none, 0, []⟩), (903, .scr 5 1 isB [])]) (sub_cons rfl (sub_cons rfl sub_nil))))) rfl rfl rfl (w_n rfl) ?_
            rintro ⟨⟩ -
            refine TL_seq ?_
            obtain ⟨l45, hl45, hn45⟩ : ∃ lz, lz = zs.take (min zs.length 10) ∧ lz.length = min zs.length 10 := ⟨_, rfl, by rw [List.length_take]; omega⟩
            have hs45 := SliceAt.front hz (n := min zs.length 10) (m := capc) (by omega) (by omega) (by omega)
            rw [← hl45] at hs45
            refine T_seq (T_draw (V := [(0, .agg #[.slice n1.a n1.l.length n1.cap, .int .u64 lost]), (1, .agg #[.slice a xs.length cap, .int .u64 lost])]) [0, 0, 2, 7, 15, 31, 63, 31, 31, 287, 799, 1951, 3999, 8095, 16383, 32767, 65535] [[(7, none)], [(3, none)], [(155, some 1)], [(154, some 0), (156, some 2)], [(157, some 3)], [(9, none)], [(159, some 5)], [(2, none)], [(2, none)], [(162, some 8)], [(163, some 9)], [(161, some 7), (164, some 10)], [(165, some 11)], [(166, some 12)], [(160, some 6), (167, some 13)], [(168, some 14), (158, some 4)], [(169, some 15)]] 20492 mixed (by kernel_rfl) ?_)
            refine G_step [0, 1] 2 [] (by kernel_rfl) (allM (all_cons (q_run (.agg #[.slice n1.a n1.l.length n1.cap, .int .u64 lost]) rfl rfl (wv_n rfl) rfl (fun _ _ hρ hm => r_loadA ag27 sz27 (hρ _ _ rfl) (hm.at 3 rfl) rfl rfl)) (all_cons (q_run (.agg #[.slice a xs.length cap, .int .u64 lost]) rfl rfl (wv_n rfl) rfl (fun _ _ hρ hm => r_loadA ag27 sz27 (hρ _ _ rfl) (hm.at 1 rfl) rfl rfl)) all_nil))) (allM (all_cons ?_ all_nil))
            refine LOb_callN (fun ((n5, b5) : NetR × List (RowG By)) => pvs n5.l = fewV (pvs xs) ∧ InB b5 n5.l) (fun (n5, b5) => .agg #[.slice n5.a n5.l.length n5.cap, .int .u64 lost]) (fun (n5, b5) => [(968, .row (.slice n5.a n5.l.length n5.cap) 36 3 n5.l.length (n5.l.flatMap Pcl.cells)), (969, .pool 5 1 byc b5)]) (fun (n5, b5) => []) rfl (wv_n rfl) rfl rfl (fun _ _ hρ _ => r_call (args := [.agg #[.slice a xs.length cap, .int .u64 lost]]) (enters_of Try.func20 (by kernel_rfl) rfl) (hρ _ _ rfl) ((cons2 (hρ _ _ rfl) rfl)) rfl) (fun w hm => (own_c xs a cap lost w (hv.keep hm.ext) hcap (fun p hp => ⟨(hx p hp).1.keep hm.ext, (hx p hp).2⟩)).mono fun e w' ⟨n, bs, hf, hi, he, hb, r1, r2, hs⟩ => ⟨(n, bs), ⟨hf, hi⟩, he, hb, newOk2 968 969 r1 r2 hs⟩) (fun (n5, b5) => by kernel_rfl) ?_
            rintro ⟨n5, b5⟩ hfn5
            refine G_step [0] 3 [] (by kernel_rfl) (allM (all_cons (q_run (.agg #[.slice n1.a n1.l.length n1.cap, .int .u64 lost]) rfl rfl (wv_n rfl) rfl (fun _ _ hρ hm => r_loadA ag27 sz27 (hρ _ _ rfl) (hm.at 3 rfl) rfl rfl)) all_nil)) (allM (all_cons ?_ all_nil))
            refine LOb_call (.bool true) [(4, .bool true), (5, .slice n3.a n3.l.length n3.cap), (6, .agg #[.slice n3.a n3.l.length n3.cap, .int .u64 0]), (7, .slice c zs.length capc), (8, .slice c zs.length capc), (9, .int .i64 ((zs.length : Nat) : Int)), (10, .int .i64 ((min zs.length 10 : Nat) : Int)), (11, .slice c l45.length capc)] rfl (wv_n rfl) rfl rfl (fun _ _ hρ _ => r_call (args := [.agg #[.slice n1.a n1.l.length n1.cap, .int .u64 lost], .agg #[.slice n5.a n5.l.length n5.cap, .int .u64 lost]]) (enters_of Try.func25 (by kernel_rfl) rfl) (hρ _ _ rfl) ((cons2 (hρ _ _ rfl) (cons2 (hρ _ _ rfl) rfl))) rfl) (fun w hm => (nrsame_c n1.l n1.a n1.cap lost n5.l n5.a n5.cap lost w (hm.netAt 960 rfl hA).1 (hm.netAt 960 rfl hA).2.1 (hm.netAt 960 rfl hA).2.2 (SliceAt.own Pcl.cells_len (hm.row 968 rfl) rfl rfl) (row_cap (hm.row 968 rfl)) (pcs_pool (hm.pool 969 rfl) hfn5.2)).mono fun _ _ h => ⟨h.1.trans (congrArg Ending.returned (bool_as (decide_eq_true ⟨rfl, hfn1.1.trans hfn5.1.symm⟩))), h.2⟩) (by kernel_rfl) ?_
            refine G_step [4, 5, 6, 7, 8, 9, 10, 11] 12 [] (by kernel_rfl) (allM (all_cons (q_run (.bool true) rfl rfl (wv_n rfl) rfl (fun _ _ hρ _ => r_move (hρ _ _ rfl))) (all_cons (q_run (.slice n3.a n3.l.length n3.cap) rfl rfl (wv_y rfl rfl) rfl (fun _ _ hρ _ => r_move (hρ _ _ rfl))) (all_cons (q_run (.agg #[.slice n3.a n3.l.length n3.cap, .int .u64 0]) rfl rfl (wv_y rfl rfl) rfl (fun _ _ hρ _ => r_build (vs := [(0, .slice n3.a n3.l.length n3.cap)]) (by kernel_rfl) (cons2 (pair2 (hρ _ _ rfl)) rfl))) (all_cons (q_run (.slice c zs.length capc) rfl rfl (wv_y rfl rfl) rfl (fun _ _ hρ _ => r_move (hρ _ _ rfl))) (all_cons (q_run (.slice c zs.length capc) rfl rfl (wv_y rfl rfl) rfl (fun _ _ hρ _ => r_move (hρ _ _ rfl))) (all_cons (q_run (.int .i64 ((zs.length : Nat) : Int)) rfl rfl (wv_y rfl rfl) rfl (fun _ _ hρ _ => r_len sl22 (hρ _ _ rfl))) (all_cons (q_run (.int .i64 ((min zs.length 10 : Nat) : Int)) rfl rfl (wv_y rfl rfl) rfl (fun _ _ hρ _ => r_as (r_min (hρ _ _ rfl) (hρ _ _ rfl)) (int_as (minI _ 10)))) (all_cons (q_run (.slice c l45.length capc) rfl rfl (wv_y rfl rfl) rfl (fun ρ _ hρ _ => r_as (r_sliceO sl22 sz36 (hρ _ _ rfl) (bd_none ρ _) (bd_some (n := min zs.length 10) (hρ _ _ rfl)) (bd_none ρ _) (by simp) (by omega) (by omega) (by omega)) (by rw [hn45]; exact slo_zero _ _ _ _))) all_nil))))))))) (allM (all_cons ?_ all_nil))
            refine LOb_callN (fun ((n6, b6) : NetR × List (RowG By)) => pvs n6.l = fewV (pvs l45) ∧ InB b6 n6.l) (fun (n6, b6) => .slice n6.a n6.l.length n6.cap) (fun (n6, b6) => [(972, .row (.slice n6.a n6.l.length n6.cap) 36 3 n6.l.length (n6.l.flatMap Pcl.cells)), (973, .pool 5 1 byc b6)]) (fun (n6, b6) => [(13, .agg #[.slice n6.a n6.l.length n6.cap, .int .u64 0])]) rfl (wv_y rfl rfl) rfl rfl (fun _ _ hρ _ => r_call (args := [.slice c l45.length capc]) (enters_of Try.func12 (by kernel_rfl) rfl) (hρ _ _ rfl) ((cons2 (hρ _ _ rfl) rfl)) rfl) (fun w hm => (few_c l45 c capc w (hs45.keep hm.ext) (by omega) (fun p hp => (fun h9 => ⟨(hz9 p h9).1.keep hm.ext, (hz9 p h9).2⟩) (by rw [hl45] at hp; exact List.mem_of_mem_take hp))).mono fun e w' ⟨n, bs, hf, hi, he, hb, r1, r2, hs⟩ => ⟨(n, bs), ⟨hf, hi⟩, he, hb, newOk2 972 973 r1 r2 hs⟩) (fun (n6, b6) => by kernel_rfl) ?_
            rintro ⟨n6, b6⟩ hfn6
            refine G_step [5, 6, 13] 14 [] (by kernel_rfl) (allM (all_cons (q_run (.slice n3.a n3.l.length n3.cap) rfl rfl (wv_y rfl rfl) rfl (fun _ _ hρ _ => r_move (hρ _ _ rfl))) (all_cons (q_run (.agg #[.slice n3.a n3.l.length n3.cap, .int .u64 0]) rfl rfl (wv_y rfl rfl) rfl (fun _ _ hρ _ => r_build (vs := [(0, .slice n3.a n3.l.length n3.cap)]) (by kernel_rfl) (cons2 (pair2 (hρ _ _ rfl)) rfl))) (all_cons (q_run (.agg #[.slice n6.a n6.l.length n6.cap, .int .u64 0]) rfl rfl (wv_y rfl rfl) rfl (fun _ _ hρ _ => r_build (vs := [(0, .slice n6.a n6.l.length n6.cap)]) (by kernel_rfl) (cons2 (pair2 (hρ _ _ rfl)) rfl))) all_nil)))) (allM (all_cons ?_ all_nil))
            refine LOb_call (.bool true) [(15, .bool true), (16, .bool true)] rfl (wv_y rfl rfl) rfl rfl (fun _ _ hρ _ => r_call (args := [.agg #[.slice n3.a n3.l.length n3.cap, .int .u64 0], .agg #[.slice n6.a n6.l.length n6.cap, .int .u64 0]]) (enters_of Try.func25 (by kernel_rfl) rfl) (hρ _ _ rfl) ((cons2 (hρ _ _ rfl) (cons2 (hρ _ _ rfl) rfl))) rfl) (fun w hm => (nrsame_c n3.l n3.a n3.cap (0 : Int) n6.l n6.a n6.cap (0 : Int) w (hm.netAt 960 rfl hC).1 (hm.netAt 960 rfl hC).2.1 (hm.netAt 960 rfl hC).2.2 (SliceAt.own Pcl.cells_len (hm.row 972 rfl) rfl rfl) (row_cap (hm.row 972 rfl)) (pcs_pool (hm.pool 973 rfl) hfn6.2)).mono fun _ _ h => ⟨h.1.trans (congrArg Ending.returned (bool_as (decide_eq_true ⟨rfl, few_eq hfn3.1 hfn6.1 (hl3.trans hl45.symm)⟩))), h.2⟩) (by kernel_rfl) ?_
            refine G_last [15, 16] [(6, .bool true)] (by kernel_rfl) (allM (all_cons (q_run (.bool true) rfl rfl (wv_n rfl) rfl (fun _ _ hρ _ => r_pick_t (hρ _ _ rfl) (hρ _ _ rfl))) (all_cons (q_run (.bool true) rfl rfl (wv_n rfl) rfl (fun _ _ hρ _ => r_assign (hρ _ _ rfl))) all_nil))) (end_new 16 rfl rfl end_nil) ?_
            refine T_ret' ?_
            refine ret_of rfl (.bool true) (fun tmps w hk hm => res1 rfl (res_tmp (hk 6 _ rfl))) (fun w hm => ?_)
            exact ⟨rfl, hm.ext⟩
    · skip
      refine T_seq (T_region ?_)
      refine TL_q (.agg #[.slice n1.a n1.l.length n1.cap, .int .u64 lost]) (fun _ _ hρ hm => r_loadA ag27 sz27 (hρ _ _ rfl) (hm.at 3 rfl) rfl rfl) rfl rfl rfl (w_n rfl) ?_
      refine TL_call (.bool false) (fun _ _ hρ _ => r_call (args := [.agg #[.slice n1.a n1.l.length n1.cap, .int .u64 lost]]) (enters_of Try.func22 (by kernel_rfl) rfl) (hρ _ _ rfl) ((cons2 (hρ _ _ rfl) rfl)) rfl) (fun w hm => (nright_c n1.l n1.a n1.cap lost w (hm.netAt 960 rfl hA).1 (hm.netAt 960 rfl hA).2.1 (hm.netAt 960 rfl hA).2.2).mono fun _ _ h => ⟨h.1.trans (congrArg Ending.returned (bool_as (eq_false_of_ne_true hck))), h.2⟩) rfl rfl rfl (w_n rfl) ?_
      refine TL_q (.bool false) (fun _ _ hρ _ => r_assign (hρ _ _ rfl)) rfl rfl rfl (w_n rfl) ?_
      refine TL_seq ?_
      refine T_seq ?_
      refine T_seq (T_region ?_)
      refine TL_q (.agg #[.slice n1.a n1.l.length n1.cap, .int .u64 lost]) (fun _ _ hρ hm => r_loadA ag27 sz27 (hρ _ _ rfl) (hm.at 3 rfl) rfl rfl) rfl rfl rfl (w_n rfl) ?_
      refine TL_call (.int .i64 350) (fun _ _ hρ _ => r_call (args := [.agg #[.slice n1.a n1.l.length n1.cap, .int .u64 lost]]) (enters_of Try.func31 (by kernel_rfl) rfl) (hρ _ _ rfl) ((cons2 (hρ _ _ rfl) rfl)) rfl) (fun w hm => (ncheck_c n1.l n1.a n1.cap lost w (hm.netAt 960 rfl hA).1 (hm.netAt 960 rfl hA).2.1 (hm.netAt 960 rfl hA).2.2).mono fun _ _ h => ⟨h.1.trans (congrArg Ending.returned (int_as (if_neg hck))), h.2⟩) rfl rfl rfl (w_n rfl) ?_
      refine TL_q (.int .i64 350) (fun _ _ hρ _ => r_assign (hρ _ _ rfl)) rfl rfl rfl (w_n rfl) ?_
      refine TL_seq ?_
      refine T_seq (T_draw (V := [(0, .int .i64 350), (1, .bool false), (2, .bool false), (3, .bool false), (4, .bool false), (5, .int .i64 350), (6, .bool true), (7, .bool true), (8, .int .i64 350), (9, .bool false), (10, .bool false), (11, .bool false), (12, .bool false), (13, .agg #[.slice n1.a n1.l.length n1.cap, .int .u64 lost]), (14, .agg #[.slice n2.a n2.l.length n2.cap, .int .u64 lost2]), (16, .agg #[.slice n1.a n1.l.length n1.cap, .int .u64 lost]), (17, .agg #[.slice n2.a n2.l.length n2.cap, .int .u64 lost2])]) [0, 1, 0, 7, 15, 31, 63, 127, 255, 511, 1023, 2047, 4095, 8191, 8191, 32767, 8191, 8191, 262143, 524287, 1048575, 2097151, 4194303, 4194303, 12582911, 33554431, 67108863, 134217727, 268435455, 536870911, 536870911, 2147483647, 4294967295, 8589934591] [[(11, none)], [(41, some 0)], [(10, none)], [(42, some 1), (43, some 2)], [(44, some 3)], [(11, none)], [(46, some 5)], [(47, some 6)], [(11, none)], [(49, some 8)], [(50, some 9), (48, some 7)], [(51, some 10), (45, some 4)], [(52, some 11)], [(7, none)], [(8, none)], [(54, some 13), (55, some 14)], [(7, none)], [(8, none)], [(57, some 16), (58, some 17)], [(56, some 15), (59, some 18)], [(60, some 19), (53, some 12)], [(61, some 20)], [(7, none)], [(3, none)], [(64, some 23)], [(63, some 22), (65, some 24)], [(66, some 25)], [(67, some 26), (62, some 21)], [(68, some 27)], [], [], [(70, some 29), (71, some 30)], [(72, some 31)], [(73, some 32), (69, some 28)]] 2734981120 mixed (by kernel_rfl) ?_)
      refine G_step [0, 1, 2, 3, 4, 5, 6, 7, 8, 9, 10, 11, 12, 13, 14, 16, 17] 15 [] (by kernel_rfl) (allM (all_cons (q_run (.int .i64 350) rfl rfl (wv_n rfl) rfl (fun _ _ hρ _ => r_move (hρ _ _ rfl))) (all_cons (q_run (.bool false) rfl rfl (wv_n rfl) rfl (fun _ _ hρ _ => r_as (r_eql (hρ _ _ rfl) (hρ _ _ rfl)) (by rfl))) (all_cons (q_run (.bool false) rfl rfl (wv_n rfl) rfl (fun _ _ hρ _ => r_move (hρ _ _ rfl))) (all_cons (q_run (.bool false) rfl rfl (wv_n rfl) rfl (fun _ _ hρ _ => r_as (r_neqB (by kernel_rfl) (hρ _ _ rfl) (hρ _ _ rfl)) (by rfl))) (all_cons (q_run (.bool false) rfl rfl (wv_n rfl) rfl (fun _ _ hρ _ => r_move (hρ _ _ rfl))) (all_cons (q_run (.int .i64 350) rfl rfl (wv_y rfl rfl) rfl (fun _ _ hρ _ => r_move (hρ _ _ rfl))) (all_cons (q_run (.bool true) rfl rfl (wv_y rfl rfl) rfl (fun _ _ hρ _ => r_as (r_neq (hρ _ _ rfl) (hρ _ _ rfl)) (by rfl))) (all_cons (q_run (.bool true) rfl rfl (wv_y rfl rfl) rfl (fun _ _ hρ _ => r_move (hρ _ _ rfl))) (all_cons (q_run (.int .i64 350) rfl rfl (wv_y rfl rfl) rfl (fun _ _ hρ _ => r_move (hρ _ _ rfl))) (all_cons (q_run (.bool false) rfl rfl (wv_y rfl rfl) rfl (fun _ _ hρ _ => r_as (r_neq (hρ _ _ rfl) (hρ _ _ rfl)) (by rfl))) (all_cons (q_run (.bool false) rfl rfl (wv_y rfl rfl) rfl (fun _ _ hρ _ => r_pick_t (hρ _ _ rfl) (hρ _ _ rfl))) (all_cons (q_run (.bool false) rfl rfl (wv_n rfl) rfl (fun _ _ hρ _ => r_pick_f (hρ _ _ rfl) (hρ _ _ rfl))) (all_cons (q_run (.bool false) rfl rfl (wv_n rfl) rfl (fun _ _ hρ _ => r_move (hρ _ _ rfl))) (all_cons (q_run (.agg #[.slice n1.a n1.l.length n1.cap, .int .u64 lost]) rfl rfl (wv_y rfl rfl) rfl (fun _ _ hρ hm => r_loadA ag27 sz27 (hρ _ _ rfl) (hm.at 3 rfl) rfl rfl)) (all_cons (q_run (.agg #[.slice n2.a n2.l.length n2.cap, .int .u64 lost2]) rfl rfl (wv_y rfl rfl) rfl (fun _ _ hρ hm => r_loadA ag27 sz27 (hρ _ _ rfl) (hm.at 4 rfl) rfl rfl)) (all_cons (q_run (.agg #[.slice n1.a n1.l.length n1.cap, .int .u64 lost]) rfl rfl (wv_y rfl rfl) rfl (fun _ _ hρ hm => r_loadA ag27 sz27 (hρ _ _ rfl) (hm.at 3 rfl) rfl rfl)) (all_cons (q_run (.agg #[.slice n2.a n2.l.length n2.cap, .int .u64 lost2]) rfl rfl (wv_y rfl rfl) rfl (fun _ _ hρ hm => r_loadA ag27 sz27 (hρ _ _ rfl) (hm.at 4 rfl) rfl rfl)) all_nil)))))))))))))))))) (allM (all_cons ?_ all_nil))
      refine LOb_call (.bool (decide (lost = lost2 ∧ pvs n1.l = pvs n2.l))) [] rfl (wv_y rfl rfl) rfl rfl (fun _ _ hρ _ => r_call (args := [.agg #[.slice n1.a n1.l.length n1.cap, .int .u64 lost], .agg #[.slice n2.a n2.l.length n2.cap, .int .u64 lost2]]) (enters_of Try.func32 (by kernel_rfl) rfl) (hρ _ _ rfl) ((cons2 (hρ _ _ rfl) (cons2 (hρ _ _ rfl) rfl))) rfl) (fun w hm => nsame_c n1.l n1.a n1.cap lost n2.l n2.a n2.cap lost2 w (hm.netAt 960 rfl hA).1 (hm.netAt 960 rfl hA).2.1 (hm.netAt 960 rfl hA).2.2 (SliceAt.own Pcl.cells_len (hm.row 962 rfl) rfl rfl) (row_cap (hm.row 962 rfl)) (pcs_pool (hm.pool 963 rfl) hfn2.2)) (by kernel_rfl) ?_
      refine G_step [16, 17] 18 [] (by kernel_rfl) (allM (all_cons (q_run (.agg #[.slice n1.a n1.l.length n1.cap, .int .u64 lost]) rfl rfl (wv_y rfl rfl) rfl (fun _ _ hρ hm => r_loadA ag27 sz27 (hρ _ _ rfl) (hm.at 3 rfl) rfl rfl)) (all_cons (q_run (.agg #[.slice n2.a n2.l.length n2.cap, .int .u64 lost2]) rfl rfl (wv_y rfl rfl) rfl (fun _ _ hρ hm => r_loadA ag27 sz27 (hρ _ _ rfl) (hm.at 4 rfl) rfl rfl)) all_nil))) (allM (all_cons ?_ all_nil))
      refine LOb_call (.bool (decide (lost = lost2 ∧ pvs n1.l = pvs n2.l))) [(19, .bool false), (20, .bool false), (21, .bool false), (22, .agg #[.slice n1.a n1.l.length n1.cap, .int .u64 lost]), (23, .agg #[.slice a xs.length cap, .int .u64 lost])] rfl (wv_y rfl rfl) rfl rfl (fun _ _ hρ _ => r_call (args := [.agg #[.slice n1.a n1.l.length n1.cap, .int .u64 lost], .agg #[.slice n2.a n2.l.length n2.cap, .int .u64 lost2]]) (enters_of Try.func25 (by kernel_rfl) rfl) (hρ _ _ rfl) ((cons2 (hρ _ _ rfl) (cons2 (hρ _ _ rfl) rfl))) rfl) (fun w hm => nrsame_c n1.l n1.a n1.cap lost n2.l n2.a n2.cap lost2 w (hm.netAt 960 rfl hA).1 (hm.netAt 960 rfl hA).2.1 (hm.netAt 960 rfl hA).2.2 (SliceAt.own Pcl.cells_len (hm.row 962 rfl) rfl rfl) (row_cap (hm.row 962 rfl)) (pcs_pool (hm.pool 963 rfl) hfn2.2)) (by kernel_rfl) ?_
      refine G_step [19, 20, 21, 22, 23] 24 [] (by kernel_rfl) (allM (all_cons (q_run (.bool false) rfl rfl (wv_y rfl rfl) rfl (fun _ _ hρ _ => r_as (r_neqB (by kernel_rfl) (hρ _ _ rfl) (hρ _ _ rfl)) (bool_as (by simp)))) (all_cons (q_run (.bool false) rfl rfl (wv_n rfl) rfl (fun _ _ hρ _ => r_pick_f (hρ _ _ rfl) (hρ _ _ rfl))) (all_cons (q_run (.bool false) rfl rfl (wv_n rfl) rfl (fun _ _ hρ _ => r_move (hρ _ _ rfl))) (all_cons (q_run (.agg #[.slice n1.a n1.l.length n1.cap, .int .u64 lost]) rfl rfl (wv_y rfl rfl) rfl (fun _ _ hρ hm => r_loadA ag27 sz27 (hρ _ _ rfl) (hm.at 3 rfl) rfl rfl)) (all_cons (q_run (.agg #[.slice a xs.length cap, .int .u64 lost]) rfl rfl (wv_y rfl rfl) rfl (fun _ _ hρ hm => r_loadA ag27 sz27 (hρ _ _ rfl) (hm.at 1 rfl) rfl rfl)) all_nil)))))) (allM (all_cons ?_ all_nil))
      refine LOb_callN (fun ((n4, b4) : NetR × List (RowG By)) => pvs n4.l = fewV (pvs xs) ∧ InB b4 n4.l) (fun (n4, b4) => .agg #[.slice n4.a n4.l.length n4.cap, .int .u64 lost]) (fun (n4, b4) => [(966, .row (.slice n4.a n4.l.length n4.cap) 36 3 n4.l.length (n4.l.flatMap Pcl.cells)), (967, .pool 5 1 byc b4)]) (fun (n4, b4) => []) rfl (wv_y rfl rfl) rfl rfl (fun _ _ hρ _ => r_call (args := [.agg #[.slice a xs.length cap, .int .u64 lost]]) (enters_of Try.func20 (by kernel_rfl) rfl) (hρ _ _ rfl) ((cons2 (hρ _ _ rfl) rfl)) rfl) (fun w hm => (own_c xs a cap lost w (hv.keep hm.ext) hcap (fun p hp => ⟨(hx p hp).1.keep hm.ext, (hx p hp).2⟩)).mono fun e w' ⟨n, bs, hf, hi, he, hb, r1, r2, hs⟩ => ⟨(n, bs), ⟨hf, hi⟩, he, hb, newOk2 966 967 r1 r2 hs⟩) (fun (n4, b4) => by kernel_rfl) ?_
      rintro ⟨n4, b4⟩ hfn4
      refine G_step [22] 25 [] (by kernel_rfl) (allM (all_cons (q_run (.agg #[.slice n1.a n1.l.length n1.cap, .int .u64 lost]) rfl rfl (wv_y rfl rfl) rfl (fun _ _ hρ hm => r_loadA ag27 sz27 (hρ _ _ rfl) (hm.at 3 rfl) rfl rfl)) all_nil)) (allM (all_cons ?_ all_nil))
      refine LOb_call (.bool true) [(26, .bool false), (27, .bool false), (28, .bool false), (30, .agg #[.slice none 0 0, .int .u64 0])] rfl (wv_y rfl rfl) rfl rfl (fun _ _ hρ _ => r_call (args := [.agg #[.slice n1.a n1.l.length n1.cap, .int .u64 lost], .agg #[.slice n4.a n4.l.length n4.cap, .int .u64 lost]]) (enters_of Try.func32 (by kernel_rfl) rfl) (hρ _ _ rfl) ((cons2 (hρ _ _ rfl) (cons2 (hρ _ _ rfl) rfl))) rfl) (fun w hm => (nsame_c n1.l n1.a n1.cap lost n4.l n4.a n4.cap lost w (hm.netAt 960 rfl hA).1 (hm.netAt 960 rfl hA).2.1 (hm.netAt 960 rfl hA).2.2 (SliceAt.own Pcl.cells_len (hm.row 966 rfl) rfl rfl) (row_cap (hm.row 966 rfl)) (pcs_pool (hm.pool 967 rfl) hfn4.2)).mono fun _ _ h => ⟨h.1.trans (congrArg Ending.returned (bool_as (decide_eq_true ⟨rfl, hfn1.1.trans hfn4.1.symm⟩))), h.2⟩) (by kernel_rfl) ?_
      refine G_step [26, 27, 28, 30] 29 [] (by kernel_rfl) (allM (all_cons (q_run (.bool false) rfl rfl (wv_y rfl rfl) rfl (fun _ _ hρ _ => r_not (b := true) (hρ _ _ rfl))) (all_cons (q_run (.bool false) rfl rfl (wv_n rfl) rfl (fun _ _ hρ _ => r_pick_f (hρ _ _ rfl) (hρ _ _ rfl))) (all_cons (q_run (.bool false) rfl rfl (wv_n rfl) rfl (fun _ _ hρ _ => r_move (hρ _ _ rfl))) (all_cons (q_run (.agg #[.slice none 0 0, .int .u64 0]) rfl rfl (wv_y rfl rfl) rfl (fun _ _ _ _ => r_build (vs := []) (by kernel_rfl) rfl)) all_nil))))) (allM (all_cons ?_ all_nil))
      refine LOb_call (.agg #[.slice none 0 0, .int .u64 0]) [] rfl (wv_y rfl rfl) rfl rfl (fun _ _ hρ _ => r_call (args := []) (enters_of Try.func14 (by kernel_rfl) rfl) (hρ _ _ rfl) (by rfl) rfl) (fun w _ => nnew_c w) (by kernel_rfl) ?_
      refine G_step [30] 31 [] (by kernel_rfl) (allM (all_cons (q_run (.agg #[.slice none 0 0, .int .u64 0]) rfl rfl (wv_y rfl rfl) rfl (fun _ _ _ _ => r_build (vs := []) (by kernel_rfl) rfl)) all_nil)) (allM (all_cons ?_ all_nil))
      refine LOb_call (.bool true) [(32, .bool false), (33, .bool false)] rfl (wv_y rfl rfl) rfl rfl (fun _ _ hρ _ => r_call (args := [.agg #[.slice none 0 0, .int .u64 0], .agg #[.slice none 0 0, .int .u64 0]]) (enters_of Try.func25 (by kernel_rfl) rfl) (hρ _ _ rfl) ((cons2 (hρ _ _ rfl) (cons2 (hρ _ _ rfl) rfl))) rfl) (fun w _ => (nrsame_c [] none 0 (0 : Int) [] none 0 (0 : Int) w (sliceNil w) (by decide) (pcsNil _) (sliceNil w) (by decide) (pcsNil _)).mono fun _ _ h => ⟨h.1.trans (congrArg Ending.returned (bool_as (decide_eq_true ⟨rfl, rfl⟩))), h.2⟩) (by kernel_rfl) ?_
      refine G_last [32, 33] [(2, .slice c zs.length capc), (3, .pointer (some ⟨B1, 0, none⟩)), (6, .bool false), (7, .pointer (some ⟨Bx10, 0, none⟩)), (9, .slice n3.a n3.l.length n3.cap), (10, .bool false), (74, .bool false)] (by kernel_rfl) (allM (all_cons (q_run (.bool false) rfl rfl (wv_y rfl rfl) rfl (fun _ _ hρ _ => r_not (b := true) (hρ _ _ rfl))) (all_cons (q_run (.bool false) rfl rfl (wv_n rfl) rfl (fun _ _ hρ _ => r_pick_f (hρ _ _ rfl) (hρ _ _ rfl))) all_nil))) (end_old rfl rfl (end_old rfl rfl (end_old rfl rfl (end_old rfl rfl (end_old rfl rfl (end_old rfl rfl (end_new 33 rfl rfl end_nil))))))) ?_
      refine T_cond_f rfl ?_
      refine T_skip' ?_
      refine p_seq ?_
      refine T_seq ?_
      refine T_seq (T_region ?_)
      refine TL_q (.int .i64 (-1)) (fun _ _ hρ _ => r_assign (hρ _ _ rfl)) rfl rfl rfl (w_n rfl) ?_
      refine TL_seq ?_
      refine T_block ?_
      refine T_loop (ι := Int) (fun (to : Int) => -1 ≤ to ∧ to ≤ 10) (fun (to : Int) => [(2, .slice c zs.length capc), (3, .pointer (some ⟨B1, 0, none⟩)), (7, .pointer (some ⟨Bx10, 0, none⟩)), (9, .slice n3.a n3.l.length n3.cap), (10, .bool false), (12, .int .i64 to)]) (fun (to : Int) => [(966, .row (.slice n4.a n4.l.length n4.cap) 36 3 n4.l.length (n4.l.flatMap Pcl.cells)), (967, .pool 5 1 byc b4), (960, .nets ns), (964, .no), (961, .no), (965, .no), (1, .blk B1 (.cells #[.slice a xs.length cap, .int .u64 lost] 27)), (2, .blk B2 (.cells #[.slice b ys.length capb, .int .u64 lost2] 27)), (3, .blk Bx10 (.cells #[.slice n1.a n1.l.length n1.cap, .int .u64 lost] 27)), (4, .blk Bx11 (.cells #[.slice n2.a n2.l.length n2.cap, .int .u64 lost2] 27)), (962, .row (.slice n2.a n2.l.length n2.cap) 36 3 n2.l.length (n2.l.flatMap Pcl.cells)), (963, .pool 5 1 byc b2)]) (fun (to : Int) => (10 - to).toNat) (-1 : Int) ⟨by decide, by decide⟩ (sub_cons rfl (sub_cons rfl (sub_cons rfl (sub_cons rfl (sub_cons rfl (sub_cons rfl sub_nil)))))) (sub_cons rfl (sub_cons rfl (sub_cons rfl (sub_cons rfl (sub_cons rfl (sub_cons rfl (sub_cons rfl (sub_cons rfl (sub_cons rfl (sub_cons rfl (sub_cons rfl (sub_cons rfl sub_nil)))))))))))) ?_
      rintro to hp
      obtain ⟨hto1, hto2⟩ := hp
      show T _ _ _ [(2, .slice c zs.length capc), (3, .pointer (some ⟨B1, 0, none⟩)), (7, .pointer (some ⟨Bx10, 0, none⟩)), (9, .slice n3.a n3.l.length n3.cap), (10, .bool false), (12, .int .i64 to)] [(966, .row (.slice n4.a n4.l.length n4.cap) 36 3 n4.l.length (n4.l.flatMap Pcl.cells)), (967, .pool 5 1 byc b4), (960, .nets ns), (964, .no), (961, .no), (965, .no), (1, .blk B1 (.cells #[.slice a xs.length cap, .int .u64 lost] 27)), (2, .blk B2 (.cells #[.slice b ys.length capb, .int .u64 lost2] 27)), (3, .blk Bx10 (.cells #[.slice n1.a n1.l.length n1.cap, .int .u64 lost] 27)), (4, .blk Bx11 (.cells #[.slice n2.a n2.l.length n2.cap, .int .u64 lost2] 27)), (962, .row (.slice n2.a n2.l.length n2.cap) 36 3 n2.l.length (n2.l.flatMap Pcl.cells)), (963, .pool 5 1 byc b2)]
      refine T_seq ?_
      refine T_seq (T_region ?_)
      refine TL_q (.int .i64 to) (fun _ _ hρ _ => r_move (hρ _ _ rfl)) rfl rfl rfl (w_n rfl) ?_
      refine TL_q (.bool (decide (to ≤ 9))) (fun _ _ hρ _ => r_leq (hρ _ _ rfl) (hρ _ _ rfl)) rfl rfl rfl (w_n rfl) ?_
      refine TL_seq ?_
      refine T_cond rfl (fun h5 => ?_) (fun h5 => ?_)
      · replace h5 := of_decide_eq_true h5
        refine T_skip' ?_
        refine p_seq ?_
        refine T_seq ?_
        refine T_block ?_
        refine T_seq (T_region ?_)
        refine TL_q (.agg #[.slice n1.a n1.l.length n1.cap, .int .u64 lost]) (fun _ _ hρ hm => r_loadA ag27 sz27 (hρ _ _ rfl) (hm.at 3 rfl) rfl rfl) rfl rfl rfl (w_n rfl) ?_
        refine TL_q (.int .i64 to) (fun _ _ hρ _ => r_move (hρ _ _ rfl)) rfl rfl rfl (w_n rfl) ?_
        refine TL_call (.tuple #[.int .i64 0, .bool false]) (fun _ _ hρ _ => r_call (args := [.agg #[.slice n1.a n1.l.length n1.cap, .int .u64 lost], .int .i64 to]) (enters_of Try.func17 (by kernel_rfl) rfl) (hρ _ _ rfl) ((cons2 (hρ _ _ rfl) (cons2 (hρ _ _ rfl) rfl))) rfl) (fun w hm => first_no n1.l n1.a n1.cap lost to w (hm.netAt 960 rfl hA).1 (hm.netAt 960 rfl hA).2.1 (hm.netAt 960 rfl hA).2.2 hck) rfl rfl rfl (w_n rfl) ?_
        refine TL_q (.tuple #[.int .i64 0, .bool false]) (fun _ _ hρ _ => r_move (hρ _ _ rfl)) rfl rfl rfl (w_n rfl) ?_
        refine TL_q (.int .i64 0) (fun _ _ hρ _ => r_extract (hρ _ _ rfl) rfl) rfl rfl rfl (w_n rfl) ?_
        refine TL_q (.bool false) (fun _ _ hρ _ => r_extract (hρ _ _ rfl) rfl) rfl rfl rfl (w_n rfl) ?_
        refine TL_q (.int .i64 0) (fun _ _ hρ _ => r_assign (hρ _ _ rfl)) rfl rfl rfl (w_n rfl) ?_
        refine TL_q (.bool false) (fun _ _ hρ _ => r_assign (hρ _ _ rfl)) rfl rfl rfl (w_n rfl) ?_
        refine TL_seq ?_
        refine T_seq (T_region ?_)
        refine TL_q (.int .i64 0) (fun _ _ hρ _ => r_assign (hρ _ _ rfl)) rfl rfl rfl (w_n rfl) ?_
        refine TL_q (.bool false) (fun _ _ hρ _ => r_assign (hρ _ _ rfl)) rfl rfl rfl (w_n rfl) ?_
        refine TL_seq ?_
        refine T_seq ?_
        refine T_seq (T_region ?_)
        refine TL_q (.pointer (some ⟨Bx10, 0, none⟩)) (fun _ _ hρ _ => r_fieldAddr fl27_0 sz22 (hρ _ _ rfl)) rfl rfl rfl (w_n rfl) ?_
        refine TL_q (.slice n1.a n1.l.length n1.cap) (fun _ _ hρ hm => r_load ag22 (hρ _ _ rfl) (hm.at 3 rfl) rfl) rfl rfl rfl (w_n rfl) ?_
        refine TL_q (.int .i64 ((n1.l.length : Nat) : Int)) (fun _ _ hρ _ => r_len sl22 (hρ _ _ rfl)) rfl rfl rfl (w_n rfl) ?_
        refine TL_q (.int .i64 0) (fun _ _ hρ _ => r_move (hρ _ _ rfl)) rfl rfl rfl (w_n rfl) ?_
        refine TL_seq ?_
        refine T_block ?_
        refine T_loop (ι := Nat) (fun (k : Nat) => k ≤ n1.l.length) (fun (k : Nat) => [(2, .slice c zs.length capc), (3, .pointer (some ⟨B1, 0, none⟩)), (7, .pointer (some ⟨Bx10, 0, none⟩)), (9, .slice n3.a n3.l.length n3.cap), (10, .bool false), (12, .int .i64 to), (75, .int .i64 to), (76, .bool (decide (to ≤ 9))), (80, .agg #[.slice n1.a n1.l.length n1.cap, .int .u64 lost]), (81, .int .i64 to), (82, .tuple #[.int .i64 0, .bool false]), (79, .tuple #[.int .i64 0, .bool false]), (83, .int .i64 0), (84, .bool false), (13, .int .i64 0), (14, .bool false), (85, .pointer (some ⟨Bx10, 0, none⟩)), (86, .slice n1.a n1.l.length n1.cap), (87, .int .i64 ((n1.l.length : Nat) : Int)), (88, .int .i64 ((k : Nat) : Int)), (15, .int .i64 0), (16, .bool false)]) (fun (k : Nat) => [(966, .row (.slice n4.a n4.l.length n4.cap) 36 3 n4.l.length (n4.l.flatMap Pcl.cells)), (967, .pool 5 1 byc b4), (960, .nets ns), (964, .no), (961, .no), (965, .no), (1, .blk B1 (.cells #[.slice a xs.length cap, .int .u64 lost] 27)), (2, .blk B2 (.cells #[.slice b ys.length capb, .int .u64 lost2] 27)), (3, .blk Bx10 (.cells #[.slice n1.a n1.l.length n1.cap, .int .u64 lost] 27)), (4, .blk Bx11 (.cells #[.slice n2.a n2.l.length n2.cap, .int .u64 lost2] 27)), (962, .row (.slice n2.a n2.l.length n2.cap) 36 3 n2.l.length (n2.l.flatMap Pcl.cells)), (963, .pool 5 1 byc b2)]) (fun (k : Nat) => n1.l.length - k) 0 (Nat.zero_le _) (sub_cons rfl (sub_cons rfl (sub_cons rfl (sub_cons rfl (sub_cons rfl (sub_cons rfl (sub_cons rfl (sub_cons rfl (sub_cons rfl (sub_cons rfl (sub_cons rfl (sub_cons rfl (sub_cons rfl (sub_cons rfl (sub_cons rfl (sub_cons rfl (sub_cons rfl (sub_cons rfl (sub_cons rfl (sub_cons rfl (sub_cons rfl (sub_cons rfl sub_nil)))))))))))))))))))))) (sub_cons rfl (sub_cons rfl (sub_cons rfl (sub_cons rfl (sub_cons rfl (sub_cons rfl (sub_cons rfl (sub_cons rfl (sub_cons rfl (sub_cons rfl (sub_cons rfl (sub_cons rfl sub_nil)))))))))))) ?_
        rintro k hp
        have hk := hp
        show T _ _ _ [(2, .slice c zs.length capc), (3, .pointer (some ⟨B1, 0, none⟩)), (7, .pointer (some ⟨Bx10, 0, none⟩)), (9, .slice n3.a n3.l.length n3.cap), (10, .bool false), (12, .int .i64 to), (75, .int .i64 to), (76, .bool (decide (to ≤ 9))), (80, .agg #[.slice n1.a n1.l.length n1.cap, .int .u64 lost]), (81, .int .i64 to), (82, .tuple #[.int .i64 0, .bool false]), (79, .tuple #[.int .i64 0, .bool false]), (83, .int .i64 0), (84, .bool false), (13, .int .i64 0), (14, .bool false), (85, .pointer (some ⟨Bx10, 0, none⟩)), (86, .slice n1.a n1.l.length n1.cap), (87, .int .i64 ((n1.l.length : Nat) : Int)), (88, .int .i64 ((k : Nat) : Int)), (15, .int .i64 0), (16, .bool false)] [(966, .row (.slice n4.a n4.l.length n4.cap) 36 3 n4.l.length (n4.l.flatMap Pcl.cells)), (967, .pool 5 1 byc b4), (960, .nets ns), (964, .no), (961, .no), (965, .no), (1, .blk B1 (.cells #[.slice a xs.length cap, .int .u64 lost] 27)), (2, .blk B2 (.cells #[.slice b ys.length capb, .int .u64 lost2] 27)), (3, .blk Bx10 (.cells #[.slice n1.a n1.l.length n1.cap, .int .u64 lost] 27)), (4, .blk Bx11 (.cells #[.slice n2.a n2.l.length n2.cap, .int .u64 lost2] 27)), (962, .row (.slice n2.a n2.l.length n2.cap) 36 3 n2.l.length (n2.l.flatMap Pcl.cells)), (963, .pool 5 1 byc b2)]
        refine T_seq (T_region ?_)
        refine TL_q (.bool (decide (((k : Nat) : Int) < ((n1.l.length : Nat) : Int)))) (fun _ _ hρ _ => r_lss (hρ _ _ rfl) (hρ _ _ rfl)) rfl rfl rfl (w_n rfl) ?_
        refine TL_seq ?_
        refine T_seq ?_
        refine T_cond rfl (fun h6 => ?_) (fun h6 => ?_)
        · replace h6 := of_decide_eq_true h6
          refine T_skip' ?_
          refine p_seq ?_
          refine T_seq ?_
          refine T_block ?_
          obtain ⟨p, hp⟩ : ∃ x, n1.l[k]? = some x := ⟨_, List.getElem?_eq_getElem (by omega)⟩
          refine T_open (fun _ hm => (hm.netAt 960 rfl hA).1) (by omega) (fun b46 of46 ha46 => ?_)
          rw [ha46]
          refine T_seq (T_region ?_)
          refine TL_q (.int .i64 ((k : Nat) : Int)) (fun _ _ hρ _ => r_move (hρ _ _ rfl)) rfl rfl rfl (w_n rfl) ?_
          refine TL_q (.pointer (some ⟨b46, of46 + k * 3, none⟩)) (fun _ _ hρ _ => r_indexAddrS (i := k) sl22 sz36 (hρ _ _ rfl) (hρ _ _ rfl) (by omega)) rfl rfl rfl (w_n rfl) ?_
          refine TL_q (.agg #[.int .i64 p.to, .slice p.r.a p.r.l.length p.r.cap, .bool p.sp]) (fun _ _ hρ hm => r_loadS (f := Pcl.cells) (u := p) (l := n1.l) (i := k) ag36 sz36 (hρ _ _ rfl) (by have h9 := (hm.netAt 960 rfl hA).1; rw [ha46] at h9; exact h9) hp) rfl rfl rfl (w_n rfl) ?_
          refine TL_new 12 (.cells #[.int .i64 0, .slice none 0 0, .bool false] 36) (fun B => .pointer (some ⟨B, 0, none⟩)) (fun _ _ _ _ => r_alloc (v := .agg #[.int .i64 0, .slice none 0 0, .bool false]) (by kernel_rfl) rfl) rfl rfl rfl (w_n rfl) ?_
          intro B47
          refine TL_q (.int .i64 ((k : Nat) : Int)) (fun _ _ hρ _ => r_assign (hρ _ _ rfl)) rfl rfl rfl (w_n rfl) ?_
          refine TL_store 12 (.cells #[.int .i64 p.to, .slice p.r.a p.r.l.length p.r.cap, .bool p.sp] 36) rfl (fun _ _ hρ hm => r_store sz36 (hρ _ _ rfl) (hρ _ _ rfl) (hm.at 12 rfl) rfl rfl rfl rfl) rfl rfl (w_n rfl) ?_
          refine TL_seq ?_
          refine T_seq (T_region ?_)
          refine TL_q (.bool false) (fun _ _ hρ _ => r_move (hρ _ _ rfl)) rfl rfl rfl (w_n rfl) ?_
          refine TL_q (.bool false) (fun _ _ hρ _ => r_move (hρ _ _ rfl)) rfl rfl rfl (w_n rfl) ?_
          refine TL_no rfl rfl (want_n 94 rfl rfl rfl) ?_
          refine TL_no rfl rfl (want_n 94 rfl rfl rfl) ?_
          refine TL_q (.bool false) (fun _ _ hρ _ => r_pick_f (hρ _ _ rfl) (hρ _ _ rfl)) rfl rfl rfl (w_n rfl) ?_
          refine TL_q (.bool false) (fun _ _ hρ _ => r_move (hρ _ _ rfl)) rfl rfl rfl (w_n rfl) ?_
          refine TL_no rfl rfl (want_n 98 rfl rfl rfl) ?_
          refine TL_no rfl rfl (want_n 98 rfl rfl rfl) ?_
          refine TL_no rfl rfl (want_n 98 rfl rfl rfl) ?_
          refine TL_no rfl rfl (want_n 98 rfl rfl rfl) ?_
          refine TL_q (.bool false) (fun _ _ hρ _ => r_pick_f (hρ _ _ rfl) (hρ _ _ rfl)) rfl rfl rfl (w_n rfl) ?_
          refine TL_seq ?_
          refine T_cond_f rfl ?_
          refine T_skip' ?_
          refine p_blk_n ?_
          refine p_seq ?_
          refine T_region ?_
          refine TL_q (.int .i64 ((k + 1 : Nat) : Int)) (fun _ _ hρ _ => r_as (r_add (hρ _ _ rfl) (hρ _ _ rfl)) (int_as ((wrap64 (by omega) (by omega)).trans (by omega)))) rfl rfl rfl (w_n rfl) ?_
          refine TL_q (.int .i64 ((k + 1 : Nat) : Int)) (fun _ _ hρ _ => r_move (hρ _ _ rfl)) rfl rfl rfl (w_n rfl) ?_
          refine TL_nil ?_
          exact p_at (k + 1) ⟨by omega, by omega⟩ (sub_cons rfl (sub_cons rfl (sub_cons rfl (sub_cons rfl (sub_cons rfl (sub_cons rfl (sub_cons rfl (sub_cons rfl (sub_cons rfl (sub_cons rfl (sub_cons rfl (sub_cons rfl (sub_cons rfl (sub_cons rfl (sub_cons rfl (sub_cons rfl (sub_cons rfl (sub_cons rfl (sub_cons rfl (sub_cons rfl (sub_cons rfl (sub_cons rfl sub_nil)))))))))))))))))))))) (sub_cons rfl (sub_cons rfl (sub_cons rfl (sub_cons rfl (sub_cons rfl (sub_cons rfl (sub_cons rfl (sub_cons rfl (sub_cons rfl (sub_cons rfl (sub_cons rfl (sub_cons rfl sub_nil))))))))))))
        · replace h6 := of_decide_eq_false h6
          refine T_exit' ?_
          refine p_then_x ?_
          refine p_then_x ?_
          refine p_blk_x ?_
          refine p_seq ?_
          refine T_seq (T_region ?_)
          refine TL_q (.int .i64 0) (fun _ _ hρ _ => r_move (hρ _ _ rfl)) rfl rfl rfl (w_n rfl) ?_
          refine TL_q (.int .i64 0) (fun _ _ hρ _ => r_move (hρ _ _ rfl)) rfl rfl rfl (w_n rfl) ?_
          refine TL_q (.bool false) (fun _ _ hρ _ => r_as (r_neq (hρ _ _ rfl) (hρ _ _ rfl)) (by rfl)) rfl rfl rfl (w_n rfl) ?_
          refine TL_q (.bool false) (fun _ _ hρ _ => r_move (hρ _ _ rfl)) rfl rfl rfl (w_n rfl) ?_
          refine TL_q (.bool false) (fun _ _ hρ _ => r_move (hρ _ _ rfl)) rfl rfl rfl (want_y 109 rfl rfl rfl) ?_
          refine TL_q (.bool false) (fun _ _ hρ _ => r_move (hρ _ _ rfl)) rfl rfl rfl (want_y 109 rfl rfl rfl) ?_
          refine TL_q (.bool false) (fun _ _ hρ _ => r_as (r_neqB (by kernel_rfl) (hρ _ _ rfl) (hρ _ _ rfl)) (by rfl)) rfl rfl rfl (want_y 109 rfl rfl rfl) ?_
          refine TL_q (.bool false) (fun _ _ hρ _ => r_pick_f (hρ _ _ rfl) (hρ _ _ rfl)) rfl rfl rfl (w_n rfl) ?_
          refine TL_seq ?_
          refine T_cond_f rfl ?_
          refine T_skip' ?_
          refine p_blk_n ?_
          refine p_seq ?_
          refine T_region ?_
          refine TL_q (.int .i64 to) (fun _ _ hρ _ => r_move (hρ _ _ rfl)) rfl rfl rfl (w_n rfl) ?_
          refine TL_q (.int .i64 (to + 1)) (fun _ _ hρ _ => r_as (r_add (hρ _ _ rfl) (hρ _ _ rfl)) (int_as (wrap64 (by omega) (by omega)))) rfl rfl rfl (w_n rfl) ?_
          refine TL_q (.int .i64 (to + 1)) (fun _ _ hρ _ => r_assign (hρ _ _ rfl)) rfl rfl rfl (w_n rfl) ?_
          refine TL_nil ?_
          exact p_at (to + 1) ⟨⟨by omega, by omega⟩, by omega⟩ (sub_cons rfl (sub_cons rfl (sub_cons rfl (sub_cons rfl (sub_cons rfl (sub_cons rfl sub_nil)))))) (sub_cons rfl (sub_cons rfl (sub_cons rfl (sub_cons rfl (sub_cons rfl (sub_cons rfl (sub_cons rfl (sub_cons rfl (sub_cons rfl (sub_cons rfl (sub_cons rfl (sub_cons rfl sub_nil))))))))))))
      · replace h5 := of_decide_eq_false h5
        refine T_exit' ?_
        refine p_then_x ?_
        refine p_then_x ?_
        refine p_blk_x ?_
        refine p_seq ?_
        refine T_seq (T_region ?_)
        refine TL_q (.agg #[.slice n1.a n1.l.length n1.cap, .int .u64 lost]) (fun _ _ hρ hm => r_loadA ag27 sz27 (hρ _ _ rfl) (hm.at 3 rfl) rfl rfl) rfl rfl rfl (w_n rfl) ?_
        refine TL_q (.slice n3.a n3.l.length n3.cap) (fun _ _ hρ _ => r_move (hρ _ _ rfl)) rfl rfl rfl (w_n rfl) ?_
        refine TL_call (.tuple #[.agg #[.slice none 0 0, .int .u64 0], .int .i64 350]) (fun _ _ hρ _ => r_call (args := [.agg #[.slice n1.a n1.l.length n1.cap, .int .u64 lost], .slice n3.a n3.l.length n3.cap]) (enters_of Try.func13 (by kernel_rfl) rfl) (hρ _ _ rfl) ((cons2 (hρ _ _ rfl) (cons2 (hρ _ _ rfl) rfl))) rfl) (fun w hm => send_net n1.l n1.a n1.cap lost n3.l n3.a n3.cap w (hm.netAt 960 rfl hA).1 (hm.netAt 960 rfl hA).2.1 (hm.netAt 960 rfl hA).2.2 (hm.netAt 960 rfl hC).1 (hm.netAt 960 rfl hC).2.1 (hm.netAt 960 rfl hC).2.2 hck) rfl rfl rfl (w_n rfl) ?_
        refine TL_q (.tuple #[.agg #[.slice none 0 0, .int .u64 0], .int .i64 350]) (fun _ _ hρ _ => r_move (hρ _ _ rfl)) rfl rfl rfl (w_n rfl) ?_
        refine TL_q (.agg #[.slice none 0 0, .int .u64 0]) (fun _ _ hρ _ => r_extract (hρ _ _ rfl) rfl) rfl rfl rfl (w_n rfl) ?_
        refine TL_q (.int .i64 350) (fun _ _ hρ _ => r_extract (hρ _ _ rfl) rfl) rfl rfl rfl (w_n rfl) ?_
        refine TL_new 13 (.cells #[.slice none 0 0, .int .u64 0] 27) (fun B => .pointer (some ⟨B, 0, none⟩)) (fun _ _ _ _ => r_alloc (v := .agg #[.slice none 0 0, .int .u64 0]) (by kernel_rfl) rfl) rfl rfl rfl (w_n rfl) ?_
        intro B48
        refine TL_store 13 (.cells #[.slice none 0 0, .int .u64 0] 27) rfl (fun _ _ hρ hm => r_store sz27 (hρ _ _ rfl) (hρ _ _ rfl) (hm.at 13 rfl) rfl rfl rfl rfl) rfl rfl (w_n rfl) ?_
        refine TL_q (.int .i64 350) (fun _ _ hρ _ => r_assign (hρ _ _ rfl)) rfl rfl rfl (w_n rfl) ?_
        refine TL_seq ?_
        refine T_seq (T_region ?_)
        refine TL_q (.agg #[.slice n1.a n1.l.length n1.cap, .int .u64 lost]) (fun _ _ hρ hm => r_loadA ag27 sz27 (hρ _ _ rfl) (hm.at 3 rfl) rfl rfl) rfl rfl rfl (w_n rfl) ?_
        refine TL_new 14 (.cells #[.slice none 0 0, .int .u64 0] 27) (fun B => .pointer (some ⟨B, 0, none⟩)) (fun _ _ _ _ => r_alloc (v := .agg #[.slice none 0 0, .int .u64 0]) (by kernel_rfl) rfl) rfl rfl rfl (w_n rfl) ?_
        intro B49
        refine TL_store 14 (.cells #[.slice n1.a n1.l.length n1.cap, .int .u64 lost] 27) rfl (fun _ _ hρ hm => r_store sz27 (hρ _ _ rfl) (hρ _ _ rfl) (hm.at 14 rfl) rfl rfl rfl rfl) rfl rfl (w_n rfl) ?_
        refine TL_q (.int .i64 0) (fun _ _ hρ _ => r_assign (hρ _ _ rfl)) rfl rfl rfl (w_n rfl) ?_
        refine TL_seq ?_
        refine T_seq ?_
        refine T_seq (T_region ?_)
        refine TL_q (.slice n3.a n3.l.length n3.cap) (fun _ _ hρ _ => r_move (hρ _ _ rfl)) rfl rfl rfl (w_n rfl) ?_
        refine TL_q (.int .i64 ((n3.l.length : Nat) : Int)) (fun _ _ hρ _ => r_len sl22 (hρ _ _ rfl)) rfl rfl rfl (w_n rfl) ?_
        refine TL_q (.int .i64 0) (fun _ _ hρ _ => r_move (hρ _ _ rfl)) rfl rfl rfl (w_n rfl) ?_
        refine TL_seq ?_
        refine T_block ?_
        refine T_loop (ι := Nat × Option Addr × Nat × List Pcl × Int × List NetR × Int) (fun (z : Nat × Option Addr × Nat × List Pcl × Int × List NetR × Int) => match z with | (k, wa, wc, wl, wlo, ns, er) => k ≤ n3.l.length ∧ (pvs wl, wlo) = putsV (pvs n1.l, lost) ((pvs n3.l).take k) ∧ (⟨wa, wc, wl⟩ : NetR) ∈ ns ∧ n1 ∈ ns ∧ n3 ∈ ns ∧ 0 ≤ wlo ∧ er = (if (n3.l.take k).all (fun p => mayV p.pv && !p.sp) = true then 0 else 2)) (fun (z : Nat × Option Addr × Nat × List Pcl × Int × List NetR × Int) => match z with | (k, wa, wc, wl, wlo, ns, er) => [(2, .slice c zs.length capc), (3, .pointer (some ⟨B1, 0, none⟩)), (7, .pointer (some ⟨Bx10, 0, none⟩)), (9, .slice n3.a n3.l.length n3.cap), (10, .bool false), (19, .pointer (some ⟨B48, 0, none⟩)), (20, .int .i64 350), (21, .pointer (some ⟨B49, 0, none⟩)), (121, .slice n3.a n3.l.length n3.cap), (122, .int .i64 ((n3.l.length : Nat) : Int)), (123, .int .i64 ((k : Nat) : Int)), (22, .int .i64 er)]) (fun (z : Nat × Option Addr × Nat × List Pcl × Int × List NetR × Int) => match z with | (k, wa, wc, wl, wlo, ns, er) => [(966, .row (.slice n4.a n4.l.length n4.cap) 36 3 n4.l.length (n4.l.flatMap Pcl.cells)), (967, .pool 5 1 byc b4), (964, .no), (961, .no), (965, .no), (1, .blk B1 (.cells #[.slice a xs.length cap, .int .u64 lost] 27)), (2, .blk B2 (.cells #[.slice b ys.length capb, .int .u64 lost2] 27)), (3, .blk Bx10 (.cells #[.slice n1.a n1.l.length n1.cap, .int .u64 lost] 27)), (4, .blk Bx11 (.cells #[.slice n2.a n2.l.length n2.cap, .int .u64 lost2] 27)), (962, .row (.slice n2.a n2.l.length n2.cap) 36 3 n2.l.length (n2.l.flatMap Pcl.cells)), (963, .pool 5 1 byc b2), (13, .blk B48 (.cells #[.slice none 0 0, .int .u64 0] 27)), (14, .blk B49 (.cells #[.slice wa wl.length wc, .int .u64 wlo] 27)), (960, .nets ns)]) (fun (z : Nat × Option Addr × Nat × List Pcl × Int × List NetR × Int) => match z with | (k, wa, wc, wl, wlo, ns, er) => n3.l.length - k) (0, n1.a, n1.cap, n1.l, lost, ns, 0) ⟨Nat.zero_le _, rfl, hA, hA, hC, h0, rfl⟩ (sub_cons rfl (sub_cons rfl (sub_cons rfl (sub_cons rfl (sub_cons rfl (sub_cons rfl (sub_cons rfl (sub_cons rfl (sub_cons rfl (sub_cons rfl (sub_cons rfl (sub_cons rfl sub_nil)))))))))))) (sub_cons rfl (sub_cons rfl (sub_cons rfl (sub_cons rfl (sub_cons rfl (sub_cons rfl (sub_cons rfl (sub_cons rfl (sub_cons rfl (sub_cons rfl (sub_cons rfl (sub_cons rfl (sub_cons rfl (sub_cons rfl sub_nil)))))))))))))) ?_
        rintro ⟨k, wa, wc, wl, wlo, ns, er⟩ hp
        obtain ⟨hk, hpw, hw, hA, hC, hwlo, her⟩ := hp
        show T _ _ _ [(2, .slice c zs.length capc), (3, .pointer (some ⟨B1, 0, none⟩)), (7, .pointer (some ⟨Bx10, 0, none⟩)), (9, .slice n3.a n3.l.length n3.cap), (10, .bool false), (19, .pointer (some ⟨B48, 0, none⟩)), (20, .int .i64 350), (21, .pointer (some ⟨B49, 0, none⟩)), (121, .slice n3.a n3.l.length n3.cap), (122, .int .i64 ((n3.l.length : Nat) : Int)), (123, .int .i64 ((k : Nat) : Int)), (22, .int .i64 er)] [(966, .row (.slice n4.a n4.l.length n4.cap) 36 3 n4.l.length (n4.l.flatMap Pcl.cells)), (967, .pool 5 1 byc b4), (964, .no), (961, .no), (965, .no), (1, .blk B1 (.cells #[.slice a xs.length cap, .int .u64 lost] 27)), (2, .blk B2 (.cells #[.slice b ys.length capb, .int .u64 lost2] 27)), (3, .blk Bx10 (.cells #[.slice n1.a n1.l.length n1.cap, .int .u64 lost] 27)), (4, .blk Bx11 (.cells #[.slice n2.a n2.l.length n2.cap, .int .u64 lost2] 27)), (962, .row (.slice n2.a n2.l.length n2.cap) 36 3 n2.l.length (n2.l.flatMap Pcl.cells)), (963, .pool 5 1 byc b2), (13, .blk B48 (.cells #[.slice none 0 0, .int .u64 0] 27)), (14, .blk B49 (.cells #[.slice wa wl.length wc, .int .u64 wlo] 27)), (960, .nets ns)]
        refine T_seq (T_region ?_)
        refine TL_q (.bool (decide (((k : Nat) : Int) < ((n3.l.length : Nat) : Int)))) (fun _ _ hρ _ => r_lss (hρ _ _ rfl) (hρ _ _ rfl)) rfl rfl rfl (w_n rfl) ?_
        refine TL_seq ?_
        refine T_seq ?_
        refine T_cond rfl (fun h7 => ?_) (fun h7 => ?_)
        · replace h7 := of_decide_eq_true h7
          refine T_skip' ?_
          refine p_seq ?_
          refine T_seq ?_
          refine T_block ?_
          obtain ⟨p, hp⟩ : ∃ x, n3.l[k]? = some x := ⟨_, List.getElem?_eq_getElem (by omega)⟩
          refine T_open (fun _ hm => (hm.netAt 960 rfl hC).1) (by omega) (fun b50 of50 ha50 => ?_)
          rw [ha50]
          refine T_seq (T_region ?_)
          refine TL_q (.pointer (some ⟨b50, of50 + k * 3, none⟩)) (fun _ _ hρ _ => r_indexAddrS (i := k) sl22 sz36 (hρ _ _ rfl) (hρ _ _ rfl) (by omega)) rfl rfl rfl (w_n rfl) ?_
          refine TL_q (.agg #[.int .i64 p.to, .slice p.r.a p.r.l.length p.r.cap, .bool p.sp]) (fun _ _ hρ hm => r_loadS (f := Pcl.cells) (u := p) (l := n3.l) (i := k) ag36 sz36 (hρ _ _ rfl) (by have h9 := (hm.netAt 960 rfl hC).1; rw [ha50] at h9; exact h9) hp) rfl rfl rfl (w_n rfl) ?_
          refine TL_new 15 (.cells #[.int .i64 0, .slice none 0 0, .bool false] 36) (fun B => .pointer (some ⟨B, 0, none⟩)) (fun _ _ _ _ => r_alloc (v := .agg #[.int .i64 0, .slice none 0 0, .bool false]) (by kernel_rfl) rfl) rfl rfl rfl (w_n rfl) ?_
          intro B51
          refine TL_store 15 (.cells #[.int .i64 p.to, .slice p.r.a p.r.l.length p.r.cap, .bool p.sp] 36) rfl (fun _ _ hρ hm => r_store sz36 (hρ _ _ rfl) (hρ _ _ rfl) (hm.at 15 rfl) rfl rfl rfl rfl) rfl rfl (w_n rfl) ?_
          refine TL_seq ?_
          refine T_seq (T_region ?_)
          refine TL_q (.agg #[.slice wa wl.length wc, .int .u64 wlo]) (fun _ _ hρ hm => r_loadA ag27 sz27 (hρ _ _ rfl) (hm.at 14 rfl) rfl rfl) rfl rfl rfl (w_n rfl) ?_
          refine TL_q (.agg #[.int .i64 p.to, .slice p.r.a p.r.l.length p.r.cap, .bool p.sp]) (fun _ _ hρ hm => r_loadA ag36 sz36 (hρ _ _ rfl) (hm.at 15 rfl) rfl rfl) rfl rfl rfl (w_n rfl) ?_
          refine TL_callH (fun x : NetR × Int => (pvs x.1.l, x.2) = putV (pvs wl, wlo) p.pv) (fun x => .agg #[.slice x.1.a x.1.l.length x.1.cap, .int .u64 x.2]) (fun x => (960, .nets (x.1 :: ns)) :: _) (fun _ _ hρ _ => r_call (args := [.agg #[.slice wa wl.length wc, .int .u64 wlo], .agg #[.int .i64 p.to, .slice p.r.a p.r.l.length p.r.cap, .bool p.sp]]) (enters_of Try.func33 (by kernel_rfl) rfl) (hρ _ _ rfl) ((cons2 (hρ _ _ rfl) (cons2 (hρ _ _ rfl) rfl))) rfl) (fun w hm => (rput_c wl wa wc wlo p ns w (fun m hm9 => hm.netAt 960 rfl hm9) hw ⟨n3, hC, List.mem_of_getElem? hp⟩ hwlo).mono fun e w' ⟨d, lo, hp, he, hn⟩ => ⟨(d, lo), hp, he, MemOk.shAdd (K := netK) hm 960 rfl hn (fun _ h => h)⟩) rfl rfl rfl (w_n rfl) ?_
          rintro ⟨d52, lo52⟩ hput52
          refine TL_store 14 (.cells #[.slice d52.a d52.l.length d52.cap, .int .u64 lo52] 27) rfl (fun _ _ hρ hm => r_store sz27 (hρ _ _ rfl) (hρ _ _ rfl) (hm.at 14 rfl) rfl rfl rfl rfl) rfl rfl (w_n rfl) ?_
          refine TL_seq ?_
          by_cases hmy : mayV p.pv = true
          · skip
            by_cases hps : p.sp = true
            · skip
              refine T_seq (T_region ?_)
              refine TL_q (.agg #[.int .i64 p.to, .slice p.r.a p.r.l.length p.r.cap, .bool p.sp]) (fun _ _ hρ hm => r_loadA ag36 sz36 (hρ _ _ rfl) (hm.at 15 rfl) rfl rfl) rfl rfl rfl (w_n rfl) ?_
              refine TL_call (.bool true) (fun _ _ hρ _ => r_call (args := [.agg #[.int .i64 p.to, .slice p.r.a p.r.l.length p.r.cap, .bool p.sp]]) (enters_of Try.func34 (by kernel_rfl) rfl) (hρ _ _ rfl) ((cons2 (hρ _ _ rfl) rfl)) rfl) (fun w _ => (rmay_c p w).mono fun _ _ h => ⟨h.1.trans (congrArg Ending.returned (bool_as hmy)), h.2⟩) rfl rfl rfl (w_n rfl) ?_
              refine TL_q (.bool false) (fun _ _ hρ _ => r_not (b := true) (hρ _ _ rfl)) rfl rfl rfl (w_n rfl) ?_
              refine TL_q (.bool false) (fun _ _ hρ _ => r_move (hρ _ _ rfl)) rfl rfl rfl (w_n rfl) ?_
              refine TL_q (.pointer (some ⟨B51, 2, none⟩)) (fun _ _ hρ _ => r_fieldAddr fl36_2 sz4 (hρ _ _ rfl)) rfl rfl rfl (want_y 133 rfl rfl rfl) ?_
              refine TL_q (.bool true) (fun _ _ hρ hm => r_as (r_load ag4 (hρ _ _ rfl) (hm.at 15 rfl) rfl) (bool_as hps)) rfl rfl rfl (want_y 133 rfl rfl rfl) ?_
              refine TL_q (.bool true) (fun _ _ hρ _ => r_pick_f (hρ _ _ rfl) (hρ _ _ rfl)) rfl rfl rfl (w_n rfl) ?_
              refine TL_seq ?_
              refine T_cond_t rfl ?_
              refine T_region ?_
              refine TL_q (.int .i64 2) (fun _ _ hρ _ => r_assign (hρ _ _ rfl)) rfl rfl rfl (w_n rfl) ?_
              refine TL_nil ?_
              refine p_blk_n ?_
              refine p_seq ?_
              refine T_region ?_
              refine TL_q (.int .i64 ((k + 1 : Nat) : Int)) (fun _ _ hρ _ => r_as (r_add (hρ _ _ rfl) (hρ _ _ rfl)) (int_as ((wrap64 (by omega) (by omega)).trans (by omega)))) rfl rfl rfl (w_n rfl) ?_
              refine TL_q (.int .i64 ((k + 1 : Nat) : Int)) (fun _ _ hρ _ => r_move (hρ _ _ rfl)) rfl rfl rfl (w_n rfl) ?_
              refine TL_nil ?_
              exact p_at (k + 1, d52.a, d52.cap, d52.l, lo52, d52 :: ns, 2) ⟨⟨by omega, puts_next hpw hp hput52, List.mem_cons_self, List.mem_cons_of_mem _ hA, List.mem_cons_of_mem _ hC, put_lo hput52 hwlo, er_bad hp (by simp [hmy, hps])⟩, by dsimp only; omega⟩ (sub_cons rfl (sub_cons rfl (sub_cons rfl (sub_cons rfl (sub_cons rfl (sub_cons rfl (sub_cons rfl (sub_cons rfl (sub_cons rfl (sub_cons rfl (sub_cons rfl (sub_cons rfl sub_nil)))))))))))) (sub_cons rfl (sub_cons rfl (sub_cons rfl (sub_cons rfl (sub_cons rfl (sub_cons rfl (sub_cons rfl (sub_cons rfl (sub_cons rfl (sub_cons rfl (sub_cons rfl (sub_cons rfl (sub_cons rfl (sub_cons rfl sub_nil))))))))))))))
            · skip
              refine T_seq (T_region ?_)
              refine TL_q (.agg #[.int .i64 p.to, .slice p.r.a p.r.l.length p.r.cap, .bool p.sp]) (fun _ _ hρ hm => r_loadA ag36 sz36 (hρ _ _ rfl) (hm.at 15 rfl) rfl rfl) rfl rfl rfl (w_n rfl) ?_
              refine TL_call (.bool true) (fun _ _ hρ _ => r_call (args := [.agg #[.int .i64 p.to, .slice p.r.a p.r.l.length p.r.cap, .bool p.sp]]) (enters_of Try.func34 (by kernel_rfl) rfl) (hρ _ _ rfl) ((cons2 (hρ _ _ rfl) rfl)) rfl) (fun w _ => (rmay_c p w).mono fun _ _ h => ⟨h.1.trans (congrArg Ending.returned (bool_as hmy)), h.2⟩) rfl rfl rfl (w_n rfl) ?_
              refine TL_q (.bool false) (fun _ _ hρ _ => r_not (b := true) (hρ _ _ rfl)) rfl rfl rfl (w_n rfl) ?_
              refine TL_q (.bool false) (fun _ _ hρ _ => r_move (hρ _ _ rfl)) rfl rfl rfl (w_n rfl) ?_
              refine TL_q (.pointer (some ⟨B51, 2, none⟩)) (fun _ _ hρ _ => r_fieldAddr fl36_2 sz4 (hρ _ _ rfl)) rfl rfl rfl (want_y 133 rfl rfl rfl) ?_
              refine TL_q (.bool false) (fun _ _ hρ hm => r_as (r_load ag4 (hρ _ _ rfl) (hm.at 15 rfl) rfl) (bool_as (eq_false_of_ne_true hps))) rfl rfl rfl (want_y 133 rfl rfl rfl) ?_
              refine TL_q (.bool false) (fun _ _ hρ _ => r_pick_f (hρ _ _ rfl) (hρ _ _ rfl)) rfl rfl rfl (w_n rfl) ?_
              refine TL_seq ?_
              refine T_cond_f rfl ?_
              refine T_skip' ?_
              refine p_blk_n ?_
              refine p_seq ?_
              refine T_region ?_
              refine TL_q (.int .i64 ((k + 1 : Nat) : Int)) (fun _ _ hρ _ => r_as (r_add (hρ _ _ rfl) (hρ _ _ rfl)) (int_as ((wrap64 (by omega) (by omega)).trans (by omega)))) rfl rfl rfl (w_n rfl) ?_
              refine TL_q (.int .i64 ((k + 1 : Nat) : Int)) (fun _ _ hρ _ => r_move (hρ _ _ rfl)) rfl rfl rfl (w_n rfl) ?_
              refine TL_nil ?_
              exact p_at (k + 1, d52.a, d52.cap, d52.l, lo52, d52 :: ns, er) ⟨⟨by omega, puts_next hpw hp hput52, List.mem_cons_self, List.mem_cons_of_mem _ hA, List.mem_cons_of_mem _ hC, put_lo hput52 hwlo, er_ok her hp (by simp [hmy, hps])⟩, by dsimp only; omega⟩ (sub_cons rfl (sub_cons rfl (sub_cons rfl (sub_cons rfl (sub_cons rfl (sub_cons rfl (sub_cons rfl (sub_cons rfl (sub_cons rfl (sub_cons rfl (sub_cons rfl (sub_cons rfl sub_nil)))))))))))) (sub_cons rfl (sub_cons rfl (sub_cons rfl (sub_cons rfl (sub_cons rfl (sub_cons rfl (sub_cons rfl (sub_cons rfl (sub_cons rfl (sub_cons rfl (sub_cons rfl (sub_cons rfl (sub_cons rfl (sub_cons rfl sub_nil))))))))))))))
          · skip
            refine T_seq (T_region ?_)
            refine TL_q (.agg #[.int .i64 p.to, .slice p.r.a p.r.l.length p.r.cap, .bool p.sp]) (fun _ _ hρ hm => r_loadA ag36 sz36 (hρ _ _ rfl) (hm.at 15 rfl) rfl rfl) rfl rfl rfl (w_n rfl) ?_
            refine TL_call (.bool false) (fun _ _ hρ _ => r_call (args := [.agg #[.int .i64 p.to, .slice p.r.a p.r.l.length p.r.cap, .bool p.sp]]) (enters_of Try.func34 (by kernel_rfl) rfl) (hρ _ _ rfl) ((cons2 (hρ _ _ rfl) rfl)) rfl) (fun w _ => (rmay_c p w).mono fun _ _ h => ⟨h.1.trans (congrArg Ending.returned (bool_as (eq_false_of_ne_true hmy))), h.2⟩) rfl rfl rfl (w_n rfl) ?_
            refine TL_q (.bool true) (fun _ _ hρ _ => r_not (b := false) (hρ _ _ rfl)) rfl rfl rfl (w_n rfl) ?_
            refine TL_q (.bool true) (fun _ _ hρ _ => r_move (hρ _ _ rfl)) rfl rfl rfl (w_n rfl) ?_
            refine TL_no rfl rfl (want_n 133 rfl rfl rfl) ?_
            refine TL_no rfl rfl (want_n 133 rfl rfl rfl) ?_
            refine TL_q (.bool true) (fun _ _ hρ _ => r_pick_t (hρ _ _ rfl) (hρ _ _ rfl)) rfl rfl rfl (w_n rfl) ?_
            refine TL_seq ?_
            refine T_cond_t rfl ?_
            refine T_region ?_
            refine TL_q (.int .i64 2) (fun _ _ hρ _ => r_assign (hρ _ _ rfl)) rfl rfl rfl (w_n rfl) ?_
            refine TL_nil ?_
            refine p_blk_n ?_
            refine p_seq ?_
            refine T_region ?_
            refine TL_q (.int .i64 ((k + 1 : Nat) : Int)) (fun _ _ hρ _ => r_as (r_add (hρ _ _ rfl) (hρ _ _ rfl)) (int_as ((wrap64 (by omega) (by omega)).trans (by omega)))) rfl rfl rfl (w_n rfl) ?_
            refine TL_q (.int .i64 ((k + 1 : Nat) : Int)) (fun _ _ hρ _ => r_move (hρ _ _ rfl)) rfl rfl rfl (w_n rfl) ?_
            refine TL_nil ?_
            exact p_at (k + 1, d52.a, d52.cap, d52.l, lo52, d52 :: ns, 2) ⟨⟨by omega, puts_next hpw hp hput52, List.mem_cons_self, List.mem_cons_of_mem _ hA, List.mem_cons_of_mem _ hC, put_lo hput52 hwlo, er_bad hp (by simp [hmy])⟩, by dsimp only; omega⟩ (sub_cons rfl (sub_cons rfl (sub_cons rfl (sub_cons rfl (sub_cons rfl (sub_cons rfl (sub_cons rfl (sub_cons rfl (sub_cons rfl (sub_cons rfl (sub_cons rfl (sub_cons rfl sub_nil)))))))))))) (sub_cons rfl (sub_cons rfl (sub_cons rfl (sub_cons rfl (sub_cons rfl (sub_cons rfl (sub_cons rfl (sub_cons rfl (sub_cons rfl (sub_cons rfl (sub_cons rfl (sub_cons rfl (sub_cons rfl (sub_cons rfl sub_nil))))))))))))))
        · replace h7 := of_decide_eq_false h7
          refine T_exit' ?_
          refine p_then_x ?_
          refine p_then_x ?_
          refine p_blk_x ?_
          refine p_seq ?_
          refine T_seq ?_
          refine T_seq (T_region ?_)
          refine TL_q (.bool false) (fun _ _ hρ _ => r_move (hρ _ _ rfl)) rfl rfl rfl (w_n rfl) ?_
          refine TL_q (.bool true) (fun _ _ hρ _ => r_not (b := false) (hρ _ _ rfl)) rfl rfl rfl (w_n rfl) ?_
          refine TL_seq ?_
          refine T_cond_t rfl ?_
          refine T_region ?_
          refine TL_q (.int .i64 350) (fun _ _ hρ _ => r_assign (hρ _ _ rfl)) rfl rfl rfl (w_n rfl) ?_
          refine TL_nil ?_
          refine p_seq ?_
          refine T_seq ?_
          refine T_seq (T_region ?_)
          refine TL_q (.int .i64 350) (fun _ _ hρ _ => r_move (hρ _ _ rfl)) rfl rfl rfl (w_n rfl) ?_
          refine TL_q (.bool true) (fun _ _ hρ _ => r_as (r_neq (hρ _ _ rfl) (hρ _ _ rfl)) (by rfl)) rfl rfl rfl (w_n rfl) ?_
          refine TL_seq ?_
          refine T_cond_t rfl ?_
          refine T_region ?_
          refine TL_q (.agg #[.slice none 0 0, .int .u64 0]) (fun _ _ _ _ => r_build (vs := []) (by kernel_rfl) rfl) rfl rfl rfl (w_n rfl) ?_
          refine TL_store 14 (.cells #[.slice none 0 0, .int .u64 0] 27) rfl (fun _ _ hρ hm => r_store sz27 (hρ _ _ rfl) (hρ _ _ rfl) (hm.at 14 rfl) rfl rfl rfl rfl) rfl rfl (w_n rfl) ?_
          refine TL_nil ?_
          refine p_seq ?_
          refine T_seq ?_
          refine T_seq (T_region ?_)
          refine TL_q (.int .i64 350) (fun _ _ hρ _ => r_move (hρ _ _ rfl)) rfl rfl rfl (w_n rfl) ?_
          refine TL_q (.int .i64 350) (fun _ _ hρ _ => r_move (hρ _ _ rfl)) rfl rfl rfl (w_n rfl) ?_
          refine TL_q (.bool false) (fun _ _ hρ _ => r_as (r_neq (hρ _ _ rfl) (hρ _ _ rfl)) (by rfl)) rfl rfl rfl (w_n rfl) ?_
          refine TL_q (.bool false) (fun _ _ hρ _ => r_move (hρ _ _ rfl)) rfl rfl rfl (w_n rfl) ?_
          refine TL_q (.agg #[.slice none 0 0, .int .u64 0]) (fun _ _ hρ hm => r_loadA ag27 sz27 (hρ _ _ rfl) (hm.at 13 rfl) rfl rfl) rfl rfl rfl (want_y 146 rfl rfl rfl) ?_
          refine TL_q (.agg #[.slice none 0 0, .int .u64 0]) (fun _ _ hρ hm => r_loadA ag27 sz27 (hρ _ _ rfl) (hm.at 14 rfl) rfl rfl) rfl rfl rfl (want_y 146 rfl rfl rfl) ?_
          refine TL_call (.bool true) (fun _ _ hρ _ => r_call (args := [.agg #[.slice none 0 0, .int .u64 0], .agg #[.slice none 0 0, .int .u64 0]]) (enters_of Try.func25 (by kernel_rfl) rfl) (hρ _ _ rfl) ((cons2 (hρ _ _ rfl) (cons2 (hρ _ _ rfl) rfl))) rfl) (fun w _ => (nrsame_c [] none 0 (0 : Int) [] none 0 (0 : Int) w (sliceNil w) (by decide) (pcsNil _) (sliceNil w) (by decide) (pcsNil _)).mono fun _ _ h => ⟨h.1.trans (congrArg Ending.returned (bool_as (decide_eq_true ⟨rfl, rfl⟩))), h.2⟩) rfl rfl rfl (want_y 146 rfl rfl rfl) ?_
          refine TL_q (.bool false) (fun _ _ hρ _ => r_not (b := true) (hρ _ _ rfl)) rfl rfl rfl (want_y 146 rfl rfl rfl) ?_
          refine TL_q (.bool false) (fun _ _ hρ _ => r_pick_f (hρ _ _ rfl) (hρ _ _ rfl)) rfl rfl rfl (w_n rfl) ?_
          refine TL_seq ?_
          refine T_cond_f rfl ?_
          refine T_skip' ?_
          refine p_seq ?_
          refine T_mem (_ :: _ :: _ :: _) (fun _ hm => hm.scr0 901 903) ?_
          refine T_seq (T_region ?_)
          refine TL_q (.agg #[.slice none 0 0, .int .u64 0]) (fun _ _ hρ hm => r_loadA ag27 sz27 (hρ _ _ rfl) (hm.at 13 rfl) rfl rfl) rfl rfl rfl (w_n rfl) ?_
          refine TL_callH _ _ _ (fun _ _ hρ _ => r_call (args := [.agg #[.slice none 0 0, .int .u64 0]]) (enters_of Try.func27 (by kernel_rfl) rfl) (hρ _ _ rfl) ((cons2 (hρ _ _ rfl) rfl)) rfl) (fun w hm => lspoil_ht ⟨none, 0, []⟩ [] 0 (by repeat (first | exact noIds_nil _ _ | refine noIds_cons rfl ?_)) (InB.nil _) (Nat.zero_le _) w (hm.of (lk_dups (A := [(901, rowP ⟨none, 0, []⟩), (903, .scr 5 1 isB [])]) (sub_cons rfl (sub_cons rfl sub_nil))))) rfl rfl rfl (w_n rfl) ?_
          rintro ⟨⟩ -
          refine TL_seq ?_
          obtain ⟨l53, hl53, hn53⟩ : ∃ lz, lz = zs.take (min zs.length 10) ∧ lz.length = min zs.length 10 := ⟨_, rfl, by rw [List.length_take]; omega⟩
          have hs53 := SliceAt.front hz (n := min zs.length 10) (m := capc) (by omega) (by omega) (by omega)
          rw [← hl53] at hs53
          refine T_seq (T_draw (V := [(0, .agg #[.slice n1.a n1.l.length n1.cap, .int .u64 lost]), (1, .agg #[.slice a xs.length cap, .int .u64 lost])]) [0, 0, 2, 7, 15, 31, 63, 31, 31, 287, 799, 1951, 3999, 8095, 16383, 32767, 65535] [[(7, none)], [(3, none)], [(155, some 1)], [(154, some 0), (156, some 2)], [(157, some 3)], [(9, none)], [(159, some 5)], [(2, none)], [(2, none)], [(162, some 8)], [(163, some 9)], [(161, some 7), (164, some 10)], [(165, some 11)], [(166, some 12)], [(160, some 6), (167, some 13)], [(168, some 14), (158, some 4)], [(169, some 15)]] 20492 mixed (by kernel_rfl) ?_)
          refine G_step [0, 1] 2 [] (by kernel_rfl) (allM (all_cons (q_run (.agg #[.slice n1.a n1.l.length n1.cap, .int .u64 lost]) rfl rfl (wv_n rfl) rfl (fun _ _ hρ hm => r_loadA ag27 sz27 (hρ _ _ rfl) (hm.at 3 rfl) rfl rfl)) (all_cons (q_run (.agg #[.slice a xs.length cap, .int .u64 lost]) rfl rfl (wv_n rfl) rfl (fun _ _ hρ hm => r_loadA ag27 sz27 (hρ _ _ rfl) (hm.at 1 rfl) rfl rfl)) all_nil))) (allM (all_cons ?_ all_nil))
          refine LOb_callN (fun ((n5, b5) : NetR × List (RowG By)) => pvs n5.l = fewV (pvs xs) ∧ InB b5 n5.l) (fun (n5, b5) => .agg #[.slice n5.a n5.l.length n5.cap, .int .u64 lost]) (fun (n5, b5) => [(968, .row (.slice n5.a n5.l.length n5.cap) 36 3 n5.l.length (n5.l.flatMap Pcl.cells)), (969, .pool 5 1 byc b5)]) (fun (n5, b5) => []) rfl (wv_n rfl) rfl rfl (fun _ _ hρ _ => r_call (args := [.agg #[.slice a xs.length cap, .int .u64 lost]]) (enters_of Try.func20 (by kernel_rfl) rfl) (hρ _ _ rfl) ((cons2 (hρ _ _ rfl) rfl)) rfl) (fun w hm => (own_c xs a cap lost w (hv.keep hm.ext) hcap (fun p hp => ⟨(hx p hp).1.keep hm.ext, (hx p hp).2⟩)).mono fun e w' ⟨n, bs, hf, hi, he, hb, r1, r2, hs⟩ => ⟨(n, bs), ⟨hf, hi⟩, he, hb, newOk2 968 969 r1 r2 hs⟩) (fun (n5, b5) => by kernel_rfl) ?_
          rintro ⟨n5, b5⟩ hfn5
          refine G_step [0] 3 [] (by kernel_rfl) (allM (all_cons (q_run (.agg #[.slice n1.a n1.l.length n1.cap, .int .u64 lost]) rfl rfl (wv_n rfl) rfl (fun _ _ hρ hm => r_loadA ag27 sz27 (hρ _ _ rfl) (hm.at 3 rfl) rfl rfl)) all_nil)) (allM (all_cons ?_ all_nil))
          refine LOb_call (.bool true) [(4, .bool true), (5, .slice n3.a n3.l.length n3.cap), (6, .agg #[.slice n3.a n3.l.length n3.cap, .int .u64 0]), (7, .slice c zs.length capc), (8, .slice c zs.length capc), (9, .int .i64 ((zs.length : Nat) : Int)), (10, .int .i64 ((min zs.length 10 : Nat) : Int)), (11, .slice c l53.length capc)] rfl (wv_n rfl) rfl rfl (fun _ _ hρ _ => r_call (args := [.agg #[.slice n1.a n1.l.length n1.cap, .int .u64 lost], .agg #[.slice n5.a n5.l.length n5.cap, .int .u64 lost]]) (enters_of Try.func25 (by kernel_rfl) rfl) (hρ _ _ rfl) ((cons2 (hρ _ _ rfl) (cons2 (hρ _ _ rfl) rfl))) rfl) (fun w hm => (nrsame_c n1.l n1.a n1.cap lost n5.l n5.a n5.cap lost w (hm.netAt 960 rfl hA).1 (hm.netAt 960 rfl hA).2.1 (hm.netAt 960 rfl hA).2.2 (SliceAt.own Pcl.cells_len (hm.row 968 rfl) rfl rfl) (row_cap (hm.row 968 rfl)) (pcs_pool (hm.pool 969 rfl) hfn5.2)).mono fun _ _ h => ⟨h.1.trans (congrArg Ending.returned (bool_as (decide_eq_true ⟨rfl, hfn1.1.trans hfn5.1.symm⟩))), h.2⟩) (by kernel_rfl) ?_
          refine G_step [4, 5, 6, 7, 8, 9, 10, 11] 12 [] (by kernel_rfl) (allM (all_cons (q_run (.bool true) rfl rfl (wv_n rfl) rfl (fun _ _ hρ _ => r_move (hρ _ _ rfl))) (all_cons (q_run (.slice n3.a n3.l.length n3.cap) rfl rfl (wv_y rfl rfl) rfl (fun _ _ hρ _ => r_move (hρ _ _ rfl))) (all_cons (q_run (.agg #[.slice n3.a n3.l.length n3.cap, .int .u64 0]) rfl rfl (wv_y rfl rfl) rfl (fun _ _ hρ _ => r_build (vs := [(0, .slice n3.a n3.l.length n3.cap)]) (by kernel_rfl) (cons2 (pair2 (hρ _ _ rfl)) rfl))) (all_cons (q_run (.slice c zs.length capc) rfl rfl (wv_y rfl rfl) rfl (fun _ _ hρ _ => r_move (hρ _ _ rfl))) (all_cons (q_run (.slice c zs.length capc) rfl rfl (wv_y rfl rfl) rfl (fun _ _ hρ _ => r_move (hρ _ _ rfl))) (all_cons (q_run (.int .i64 ((zs.length : Nat) : Int)) rfl rfl (wv_y rfl rfl) rfl (fun _ _ hρ _ => r_len sl22 (hρ _ _ rfl))) (all_cons (q_run (.int .i64 ((min zs.length 10 : Nat) : Int)) rfl rfl (wv_y rfl rfl) rfl (fun _ _ hρ _ => r_as (r_min (hρ _ _ rfl) (hρ _ _ rfl)) (int_as (minI _ 10)))) (all_cons (q_run (.slice c l53.length capc) rfl rfl (wv_y rfl rfl) rfl (fun ρ _ hρ _ => r_as (r_sliceO sl22 sz36 (hρ _ _ rfl) (bd_none ρ _) (bd_some (n := min zs.length 10) (hρ _ _ rfl)) (bd_none ρ _) (by simp) (by omega) (by omega) (by omega)) (by rw [hn53]; exact slo_zero _ _ _ _))) all_nil))))))))) (allM (all_cons ?_ all_nil))
          refine LOb_callN (fun ((n6, b6) : NetR × List (RowG By)) => pvs n6.l = fewV (pvs l53) ∧ InB b6 n6.l) (fun (n6, b6) => .slice n6.a n6.l.length n6.cap) (fun (n6, b6) => [(972, .row (.slice n6.a n6.l.length n6.cap) 36 3 n6.l.length (n6.l.flatMap Pcl.cells)), (973, .pool 5 1 byc b6)]) (fun (n6, b6) => [(13, .agg #[.slice n6.a n6.l.length n6.cap, .int .u64 0])]) rfl (wv_y rfl rfl) rfl rfl (fun _ _ hρ _ => r_call (args := [.slice c l53.length capc]) (enters_of Try.func12 (by kernel_rfl) rfl) (hρ _ _ rfl) ((cons2 (hρ _ _ rfl) rfl)) rfl) (fun w hm => (few_c l53 c capc w (hs53.keep hm.ext) (by omega) (fun p hp => (fun h9 => ⟨(hz9 p h9).1.keep hm.ext, (hz9 p h9).2⟩) (by rw [hl53] at hp; exact List.mem_of_mem_take hp))).mono fun e w' ⟨n, bs, hf, hi, he, hb, r1, r2, hs⟩ => ⟨(n, bs), ⟨hf, hi⟩, he, hb, newOk2 972 973 r1 r2 hs⟩) (fun (n6, b6) => by kernel_rfl) ?_
          rintro ⟨n6, b6⟩ hfn6
          refine G_step [5, 6, 13] 14 [] (by kernel_rfl) (allM (all_cons (q_run (.slice n3.a n3.l.length n3.cap) rfl rfl (wv_y rfl rfl) rfl (fun _ _ hρ _ => r_move (hρ _ _ rfl))) (all_cons (q_run (.agg #[.slice n3.a n3.l.length n3.cap, .int .u64 0]) rfl rfl (wv_y rfl rfl) rfl (fun _ _ hρ _ => r_build (vs := [(0, .slice n3.a n3.l.length n3.cap)]) (by kernel_rfl) (cons2 (pair2 (hρ _ _ rfl)) rfl))) (all_cons (q_run (.agg #[.slice n6.a n6.l.length n6.cap, .int .u64 0]) rfl rfl (wv_y rfl rfl) rfl (fun _ _ hρ _ => r_build (vs := [(0, .slice n6.a n6.l.length n6.cap)]) (by kernel_rfl) (cons2 (pair2 (hρ _ _ rfl)) rfl))) all_nil)))) (allM (all_cons ?_ all_nil))
          refine LOb_call (.bool true) [(15, .bool true), (16, .bool true)] rfl (wv_y rfl rfl) rfl rfl (fun _ _ hρ _ => r_call (args := [.agg #[.slice n3.a n3.l.length n3.cap, .int .u64 0], .agg #[.slice n6.a n6.l.length n6.cap, .int .u64 0]]) (enters_of Try.func25 (by kernel_rfl) rfl) (hρ _ _ rfl) ((cons2 (hρ _ _ rfl) (cons2 (hρ _ _ rfl) rfl))) rfl) (fun w hm => (nrsame_c n3.l n3.a n3.cap (0 : Int) n6.l n6.a n6.cap (0 : Int) w (hm.netAt 960 rfl hC).1 (hm.netAt 960 rfl hC).2.1 (hm.netAt 960 rfl hC).2.2 (SliceAt.own Pcl.cells_len (hm.row 972 rfl) rfl rfl) (row_cap (hm.row 972 rfl)) (pcs_pool (hm.pool 973 rfl) hfn6.2)).mono fun _ _ h => ⟨h.1.trans (congrArg Ending.returned (bool_as (decide_eq_true ⟨rfl, few_eq hfn3.1 hfn6.1 (hl3.trans hl53.symm)⟩))), h.2⟩) (by kernel_rfl) ?_
          refine G_last [15, 16] [(6, .bool true)] (by kernel_rfl) (allM (all_cons (q_run (.bool true) rfl rfl (wv_n rfl) rfl (fun _ _ hρ _ => r_pick_t (hρ _ _ rfl) (hρ _ _ rfl))) (all_cons (q_run (.bool true) rfl rfl (wv_n rfl) rfl (fun _ _ hρ _ => r_assign (hρ _ _ rfl))) all_nil))) (end_new 16 rfl rfl end_nil) ?_
          refine T_ret' ?_
          refine ret_of rfl (.bool true) (fun tmps w hk hm => res1 rfl (res_tmp (hk 6 _ rfl))) (fun w hm => ?_)
          exact ⟨rfl, hm.ext⟩
end Go.Proofs.Ytcidgbjgeegepaa
