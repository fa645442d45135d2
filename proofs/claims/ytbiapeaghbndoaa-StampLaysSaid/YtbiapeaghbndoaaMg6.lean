/- Texts of this seat, merged: part 6. -/
import Derived.Test.YtbiapeaghbndoaaMg5
/- canvas: the walk of StampLays. Printed by a program of this seat's prover. -/
namespace Go.Proofs.Ytbiapeaghbndoaa
open Go Go.RowKit
set_option maxRecDepth 10000
theorem layN_len (wd hg p q : Nat) (px : List C4) : ∀ (l : List Pt) (ts : List T64), (layN wd hg p q px ts l).length = ts.length
 | [], _ => rfl
 | u :: l, ts => (layN_len wd hg p q px l _).trans (lay1_len u)
theorem rowB_both {ts0 ts1 ts2 : List T64} {t1 t2 : Bool} {a a1 a2 : Option Addr} {c c1 c2 : Nat} (h1 : t1 = false → a1 = a ∧ c1 = c ∧ ts1 = ts0) (h2 : t2 = false → a2 = a1 ∧ c2 = c1 ∧ ts2 = ts1) : (t1 || t2) = false → a2 = a ∧ c2 = c ∧ ts2 = ts0 := by
 intro h
 rw [Bool.or_eq_false_iff] at h
 obtain ⟨rfl, rfl, e1⟩ := h1 h.1
 obtain ⟨rfl, rfl, e2⟩ := h2 h.2
 exact ⟨rfl, rfl, e2.trans e1⟩
theorem Pt.cells_one (x : Pt) : ∀ u ∈ x.cells, u.oneCell' = true := by simp [Pt.cells, Value.oneCell']

theorem clone_ptl {α : Type} (f : α → List Value) (hf : ∀ x, (f x).length = 2) (ho : ∀ x, ∀ u ∈ f x, u.oneCell' = true) (l : List α) (a : Option Addr) (cap : Nat) (w : World) (hv : SliceAt w a cap 2 f l) (hlen : l.length * 16 ≤ 140737488355328) :
  Calls Try.prog 62 #[.slice a l.length cap] w fun e w' => ∃ a' cap', e = .returned (.slice a' l.length cap') ∧ Below w.heap.size w w' ∧ w'.ownsRow w.heap.size 47 2 (.slice a' l.length cap') l.length (l.flatMap f) := by
 refine calls_of_T (l := [.slice a l.length cap]) 8 Try.func62 rfl rfl rfl ?_
 show T _ _ _ [(0, .slice a l.length cap)] []
 refine T_seq (T_region ?_)
 refine TL_v (.slice none 0 0) (s_as rfl) rfl rfl ?_
 refine TL_seq ?_
 refine T_seq ?_
 refine T_seq (T_region ?_)
 refine TL_v (.slice a l.length cap) (s_mv rfl) rfl rfl ?_
 refine TL_v (.bool a.isNone) (fun _ _ j _ => r_eqlSn sl44 (j _ _ rfl) (j _ _ rfl)) rfl rfl ?_
 refine TL_seq ?_
 refine T_cond rfl (fun h1 => ?_) (fun h1 => ?_)
 ·skip
  refine T_seq (T_region ?_)
  refine TL_v (.slice none 0 0) (s_as rfl) rfl rfl ?_
  refine TL_seq ?_
  refine T_ret' ?_
  refine p_then_r ?_
  refine ret_of rfl (.slice none 0 0) (fun tmps w hk hm => res1 rfl (res_tmp (hk 2 _ rfl))) (fun w hm => ?_)
  have e0 : a = none := Option.isNone_iff_eq_none.1 h1
  subst e0
  have e1 : l = [] := by have := hv.2.1 rfl; have := hv.1; exact List.eq_nil_of_length_eq_zero (by omega)
  subst e1
  exact ⟨none, 0, rfl, hm.ext, World.ownsRow_nil _ _ _ _⟩
 ·skip
  refine T_skip' ?_
  refine p_seq ?_
  refine T_seq (T_region ?_)
  refine TL_new 1 (.cells #[] 47) (fun B => .slice (some ⟨B, 0, none⟩) 0 0) (fun _ _ _ _ => r_buildSlice (vs := []) (by kernel_rfl) rfl) rfl rfl rfl (w_n rfl) ?_
  intro B1
  refine TL_v (.slice a l.length cap) (s_mv rfl) rfl rfl ?_
  refine TL_mem ([(1, .row (.slice (some ⟨B1, 0, none⟩) 0 0) 47 2 0 [])]) (fun _ hm => MemOk.sub (hm.toRow (n := 0) (cap := 0) (s := 2) 1 rfl rfl (by omega) rfl _ rfl) (sc rfl sub_nil)) ?_
  refine TL_append (n := 0) (m := l.length) (xs := []) (news := (l.flatMap f)) (z := .agg #[.int .i64 0, .int .i64 0]) 1 rfl rfl rfl sl44 sz47 by47 (by kernel_rfl) rfl rfl (.inl rfl) (fun _ hm => by have := src_of hf (hv.keep hm.ext); simpa using this) (by intro u hu; obtain ⟨x, _, hx⟩ := List.mem_flatMap.1 hu; exact ho x u hx) (by omega) (by omega) rfl (w_n rfl) ?_
  intro a2 cap2
  refine TL_v (.slice a2 (0 + l.length) cap2) (s_as rfl) rfl rfl ?_
  refine TL_seq ?_
  refine T_ret' ?_
  refine ret_of rfl (.slice a2 (0 + l.length) cap2) (fun tmps w hk hm => res1 rfl (res_tmp (hk 2 _ rfl))) (fun w hm => ?_)
  have hrow := hm.row 1 rfl
  simp only [Nat.zero_add, List.nil_append] at hrow ⊢
  exact ⟨a2, cap2, rfl, hm.ext, hrow⟩

set_option maxHeartbeats 1000000 in
theorem slays_no (x y : Int) (ts : List T64) (at1 : Option Addr) (ct : Nat) (x2 y2 : Int) (px : List C4) (a : Option Addr) (cap : Nat) (xi yi wi hi : Int) (l : List Pt) (al : Option Addr) (cl : Nat) (w : World) (ht : SliceAt w at1 ct 256 T64.cells ts) (hct : ct ≤ Go.maxLen) (hv : SliceAt w a cap 4 C4.cells px) (hcap : cap ≤ Go.maxLen) (hl : SliceAt w al cl 2 Pt.cells l) (hcl : cl ≤ Go.maxLen) (hnc : ¬ rightI x y (ts.take 17).length = true) : Calls Try.prog 11 #[.agg #[.int .i64 x, .int .i64 y, .slice at1 ts.length ct], .agg #[.int .i64 x2, .int .i64 y2, .slice a px.length cap], .agg #[.int .i64 xi, .int .i64 yi, .int .i64 wi, .int .i64 hi, .slice al l.length cl]] w fun e w' => e = .returned (.bool true) ∧ Below w.heap.size w w' := by
 have hvl := hv.1
 have htl := ht.1
 have hll := hl.1
 unfold Go.maxLen at hcap hct hcl
 have h66 : (px.take 66).length ≤ 66 := by rw [List.length_take]; omega
 refine calls_of_T (l := [.agg #[.int .i64 x, .int .i64 y, .slice at1 ts.length ct], .agg #[.int .i64 x2, .int .i64 y2, .slice a px.length cap], .agg #[.int .i64 xi, .int .i64 yi, .int .i64 wi, .int .i64 hi, .slice al l.length cl]]) 170 Try.func11 rfl rfl rfl ?_
 show T _ _ _ [(0, .agg #[.int .i64 x, .int .i64 y, .slice at1 ts.length ct]), (1, .agg #[.int .i64 x2, .int .i64 y2, .slice a px.length cap]), (2, .agg #[.int .i64 xi, .int .i64 yi, .int .i64 wi, .int .i64 hi, .slice al l.length cl])] []
 refine T_seq (T_region ?_)
 refine TL_new 1 (.cells #[.int .i64 x, .int .i64 y, .slice at1 ts.length ct] 24) (fun B => pt B 0) (fun _ _ j _ => r_box (j _ _ rfl) rfl) rfl rfl rfl (w_n rfl) ?_
 intro B1
 refine TL_new 2 (.cells #[.int .i64 x2, .int .i64 y2, .slice a px.length cap] 75) (fun B => pt B 0) (fun _ _ j _ => r_box (j _ _ rfl) rfl) rfl rfl rfl (w_n rfl) ?_
 intro B2
 refine TL_new 3 (.cells #[.int .i64 xi, .int .i64 yi, .int .i64 wi, .int .i64 hi, .slice al l.length cl] 94) (fun B => pt B 0) (fun _ _ j _ => r_box (j _ _ rfl) rfl) rfl rfl rfl (w_n rfl) ?_
 intro B3
 refine TL_v (.bool false) (s_as rfl) rfl rfl ?_
 refine TL_seq ?_
 refine T_seq ?_
 refine T_mem (_ :: _) (fun _ hm => hm.cvs0 960) ?_
 refine T_seq (T_region ?_)
 refine TL_call (.bool true) (fun _ _ j _ => r_call (args := []) (enters_of Try.func39 (by kernel_rfl) rfl) (j _ _ rfl) (by rfl) rfl) (fun w _ => swakes_c w) rfl rfl rfl (w_n rfl) ?_
 refine TL_v (.bool false) (fun _ _ j _ => r_not (b := true) (j _ _ rfl)) rfl rfl ?_
 refine TL_seq ?_
 refine T_cond_f rfl ?_
 refine T_skip' ?_
 refine p_seq ?_
 refine T_join (ι := (Option Addr) × Nat × Nat × Nat) (fun _ => True) (fun (z : (Option Addr) × Nat × Nat × Nat) => match z with | (ar4, cr4, Bx3, Bx4) => [(4, pt B2 0), (5, pt B3 0), (6, .bool false), (7, pt Bx3 0), (8, pt Bx4 0)]) (fun (z : (Option Addr) × Nat × Nat × Nat) => match z with | (ar4, cr4, Bx3, Bx4) => [(1, .blk B1 (.cells #[.int .i64 x, .int .i64 y, .slice at1 ts.length ct] 24)), (2, .blk B2 (.cells #[.int .i64 x2, .int .i64 y2, .slice a px.length cap] 75)), (3, .blk B3 (.cells #[.int .i64 xi, .int .i64 yi, .int .i64 wi, .int .i64 hi, .slice al l.length cl] 94)), (4, .row (.slice ar4 ((px.take 66).length) cr4) 37 4 ((px.take 66).length) ((px.take 66).flatMap C4.cells)), (5, .blk Bx3 (.cells #[.int .i64 x, .int .i64 y, .slice at1 ts.length ct] 24)), (6, .blk Bx4 (.cells #[.int .i64 x2, .int .i64 y2, .slice ar4 ((px.take 66).length) cr4] 75)), (960, .cvs [])]) (T_draw (V := [(0, .agg #[.int .i64 x, .int .i64 y, .slice at1 ts.length ct]), (1, .agg #[.int .i64 x2, .int .i64 y2, .slice a px.length cap])]) [0, 0, 2, 0, 0, 31, 63] [[(3, none)], [(4, none)], [(26, some 1)], [], [], [(7, some 3), (25, some 0)], [(8, some 4), (27, some 2)]] 124 mixed (by kernel_rfl) ?_) (fun z hz => ?_)
 ·skip
  refine G_step [0, 1] 2 [3, 4] (by kernel_rfl) (allM (all_cons (q_r (.agg #[.int .i64 x, .int .i64 y, .slice at1 ts.length ct]) rfl rfl rfl (s_la ag24 sz24 rfl 1 rfl rfl rfl)) (all_cons (q_r (.agg #[.int .i64 x2, .int .i64 y2, .slice a px.length cap]) rfl rfl rfl (s_la ag75 sz75 rfl 2 rfl rfl rfl)) all_nil))) (allM (all_cons ?_ (all_cons ?_ (all_cons ?_ all_nil))))
  ·skip
   refine LOb_callN (fun (_ : Option Addr × Nat) => True) (fun (ar5, cr5) => .agg #[.int .i64 x2, .int .i64 y2, .slice ar5 ((px.take 66).length) cr5]) (fun (ar5, cr5) => [(4, .row (.slice ar5 ((px.take 66).length) cr5) 37 4 ((px.take 66).length) ((px.take 66).flatMap C4.cells))]) (fun (ar5, cr5) => []) rfl (wv_n rfl) rfl rfl (fun _ _ j _ => r_call (args := [.agg #[.int .i64 x2, .int .i64 y2, .slice a px.length cap]]) (enters_of Try.func47 (by kernel_rfl) rfl) (j _ _ rfl) ((cons2 (j _ _ rfl) rfl)) rfl) (fun w hm => (sown_c x2 y2 px a cap w (hv.keep hm.ext) hcap).mono fun e w' ⟨a', cap', he, hb, hr⟩ => ⟨(a', cap'), trivial, he, hb, newOk1 4 hr⟩) (fun (ar5, cr5) => by kernel_rfl) ?_
   rintro ⟨ar5, cr5⟩ -
   refine G_step [0] 3 [4] (by kernel_rfl) (allM (all_cons (q_r (.agg #[.int .i64 x, .int .i64 y, .slice at1 ts.length ct]) rfl rfl rfl (s_la ag24 sz24 rfl 1 rfl rfl rfl)) all_nil)) (allM (all_cons ?_ (all_cons ?_ all_nil)))
   ·skip
    refine LOb_new 5 (.cells #[.int .i64 0, .int .i64 0, .slice none 0 0] 24) (fun B => pt B 0) (fun B => []) rfl (wv_n rfl) rfl rfl (fun _ _ _ _ => r_alloc (v := .agg #[.int .i64 0, .int .i64 0, .slice none 0 0]) (by kernel_rfl) rfl) (fun B => by kernel_rfl) ?_
    intro B6
    refine G_step [0] 4 [] (by kernel_rfl) (allM (all_cons (q_r (.agg #[.int .i64 x, .int .i64 y, .slice at1 ts.length ct]) rfl rfl rfl (s_la ag24 sz24 rfl 1 rfl rfl rfl)) all_nil)) (allM (all_cons ?_ all_nil))
    refine LOb_new 6 (.cells #[.int .i64 0, .int .i64 0, .slice none 0 0] 75) (fun B => pt B 0) (fun B => []) rfl (wv_n rfl) rfl rfl (fun _ _ _ _ => r_alloc (v := .agg #[.int .i64 0, .int .i64 0, .slice none 0 0]) (by kernel_rfl) rfl) (fun B => by kernel_rfl) ?_
    intro B7
    refine G_step [0] 5 [] (by kernel_rfl) (allM (all_cons (q_r (.agg #[.int .i64 x, .int .i64 y, .slice at1 ts.length ct]) rfl rfl rfl (s_la ag24 sz24 rfl 1 rfl rfl rfl)) all_nil)) (allM (all_cons ?_ all_nil))
    refine LOb_store 5 (.cells #[.int .i64 x, .int .i64 y, .slice at1 ts.length ct] 24) [] rfl (wv_n rfl) rfl rfl rfl (s_st sz24 rfl rfl 5 rfl rfl rfl rfl rfl) (by kernel_rfl) ?_
    refine G_step [] 6 [] (by kernel_rfl) (allM all_nil) (allM (all_cons ?_ all_nil))
    refine LOb_store 6 (.cells #[.int .i64 x2, .int .i64 y2, .slice ar5 ((px.take 66).length) cr5] 75) [] rfl (wv_n rfl) rfl rfl rfl (s_st sz75 rfl rfl 6 rfl rfl rfl rfl rfl) (by kernel_rfl) ?_
    exact G_lastQ [] [(4, pt B2 0), (5, pt B3 0), (6, .bool false), (7, pt B6 0), (8, pt B7 0)] (by kernel_rfl) (allM all_nil) (end_old rfl rfl (end_old rfl rfl (end_old rfl rfl (end_new 3 rfl rfl (end_new 4 rfl rfl end_nil))))) (fun a w hf hm => At_intro (ar5, cr5, B6, B7) trivial hf hm (sc4 rfl rfl rfl rfl (sc rfl sub_nil)) (sc4 rfl rfl rfl rfl (sc rfl (sc rfl (sc rfl sub_nil)))))
   ·skip
    refine LOb_new 6 (.cells #[.int .i64 0, .int .i64 0, .slice none 0 0] 75) (fun B => pt B 0) (fun B => []) rfl (wv_n rfl) rfl rfl (fun _ _ _ _ => r_alloc (v := .agg #[.int .i64 0, .int .i64 0, .slice none 0 0]) (by kernel_rfl) rfl) (fun B => by kernel_rfl) ?_
    intro B8
    refine G_step [0] 3 [] (by kernel_rfl) (allM (all_cons (q_r (.agg #[.int .i64 x, .int .i64 y, .slice at1 ts.length ct]) rfl rfl rfl (s_la ag24 sz24 rfl 1 rfl rfl rfl)) all_nil)) (allM (all_cons ?_ all_nil))
    refine LOb_new 5 (.cells #[.int .i64 0, .int .i64 0, .slice none 0 0] 24) (fun B => pt B 0) (fun B => []) rfl (wv_n rfl) rfl rfl (fun _ _ _ _ => r_alloc (v := .agg #[.int .i64 0, .int .i64 0, .slice none 0 0]) (by kernel_rfl) rfl) (fun B => by kernel_rfl) ?_
    intro B9
    refine G_step [0] 5 [] (by kernel_rfl) (allM (all_cons (q_r (.agg #[.int .i64 x, .int .i64 y, .slice at1 ts.length ct]) rfl rfl rfl (s_la ag24 sz24 rfl 1 rfl rfl rfl)) all_nil)) (allM (all_cons ?_ all_nil))
    refine LOb_store 5 (.cells #[.int .i64 x, .int .i64 y, .slice at1 ts.length ct] 24) [] rfl (wv_n rfl) rfl rfl rfl (s_st sz24 rfl rfl 5 rfl rfl rfl rfl rfl) (by kernel_rfl) ?_
    refine G_step [] 6 [] (by kernel_rfl) (allM all_nil) (allM (all_cons ?_ all_nil))
    refine LOb_store 6 (.cells #[.int .i64 x2, .int .i64 y2, .slice ar5 ((px.take 66).length) cr5] 75) [] rfl (wv_n rfl) rfl rfl rfl (s_st sz75 rfl rfl 6 rfl rfl rfl rfl rfl) (by kernel_rfl) ?_
    exact G_lastQ [] [(4, pt B2 0), (5, pt B3 0), (6, .bool false), (7, pt B9 0), (8, pt B8 0)] (by kernel_rfl) (allM all_nil) (end_old rfl rfl (end_old rfl rfl (end_old rfl rfl (end_new 3 rfl rfl (end_new 4 rfl rfl end_nil))))) (fun a w hf hm => At_intro (ar5, cr5, B9, B8) trivial hf hm (sc4 rfl rfl rfl rfl (sc rfl sub_nil)) (sc4 rfl rfl rfl rfl (sc rfl (sc rfl (sc rfl sub_nil)))))
  ·skip
   refine LOb_new 5 (.cells #[.int .i64 0, .int .i64 0, .slice none 0 0] 24) (fun B => pt B 0) (fun B => []) rfl (wv_n rfl) rfl rfl (fun _ _ _ _ => r_alloc (v := .agg #[.int .i64 0, .int .i64 0, .slice none 0 0]) (by kernel_rfl) rfl) (fun B => by kernel_rfl) ?_
   intro B10
   refine G_step [0, 1] 2 [4] (by kernel_rfl) (allM (all_cons (q_r (.agg #[.int .i64 x, .int .i64 y, .slice at1 ts.length ct]) rfl rfl rfl (s_la ag24 sz24 rfl 1 rfl rfl rfl)) (all_cons (q_r (.agg #[.int .i64 x2, .int .i64 y2, .slice a px.length cap]) rfl rfl rfl (s_la ag75 sz75 rfl 2 rfl rfl rfl)) all_nil))) (allM (all_cons ?_ (all_cons ?_ all_nil)))
   ·skip
    refine LOb_callN (fun (_ : Option Addr × Nat) => True) (fun (ar11, cr11) => .agg #[.int .i64 x2, .int .i64 y2, .slice ar11 ((px.take 66).length) cr11]) (fun (ar11, cr11) => [(4, .row (.slice ar11 ((px.take 66).length) cr11) 37 4 ((px.take 66).length) ((px.take 66).flatMap C4.cells))]) (fun (ar11, cr11) => []) rfl (wv_n rfl) rfl rfl (fun _ _ j _ => r_call (args := [.agg #[.int .i64 x2, .int .i64 y2, .slice a px.length cap]]) (enters_of Try.func47 (by kernel_rfl) rfl) (j _ _ rfl) ((cons2 (j _ _ rfl) rfl)) rfl) (fun w hm => (sown_c x2 y2 px a cap w (hv.keep hm.ext) hcap).mono fun e w' ⟨a', cap', he, hb, hr⟩ => ⟨(a', cap'), trivial, he, hb, newOk1 4 hr⟩) (fun (ar11, cr11) => by kernel_rfl) ?_
    rintro ⟨ar11, cr11⟩ -
    refine G_step [0] 4 [] (by kernel_rfl) (allM (all_cons (q_r (.agg #[.int .i64 x, .int .i64 y, .slice at1 ts.length ct]) rfl rfl rfl (s_la ag24 sz24 rfl 1 rfl rfl rfl)) all_nil)) (allM (all_cons ?_ all_nil))
    refine LOb_new 6 (.cells #[.int .i64 0, .int .i64 0, .slice none 0 0] 75) (fun B => pt B 0) (fun B => []) rfl (wv_n rfl) rfl rfl (fun _ _ _ _ => r_alloc (v := .agg #[.int .i64 0, .int .i64 0, .slice none 0 0]) (by kernel_rfl) rfl) (fun B => by kernel_rfl) ?_
    intro B12
    refine G_step [0] 5 [] (by kernel_rfl) (allM (all_cons (q_r (.agg #[.int .i64 x, .int .i64 y, .slice at1 ts.length ct]) rfl rfl rfl (s_la ag24 sz24 rfl 1 rfl rfl rfl)) all_nil)) (allM (all_cons ?_ all_nil))
    refine LOb_store 5 (.cells #[.int .i64 x, .int .i64 y, .slice at1 ts.length ct] 24) [] rfl (wv_n rfl) rfl rfl rfl (s_st sz24 rfl rfl 5 rfl rfl rfl rfl rfl) (by kernel_rfl) ?_
    refine G_step [] 6 [] (by kernel_rfl) (allM all_nil) (allM (all_cons ?_ all_nil))
    refine LOb_store 6 (.cells #[.int .i64 x2, .int .i64 y2, .slice ar11 ((px.take 66).length) cr11] 75) [] rfl (wv_n rfl) rfl rfl rfl (s_st sz75 rfl rfl 6 rfl rfl rfl rfl rfl) (by kernel_rfl) ?_
    exact G_lastQ [] [(4, pt B2 0), (5, pt B3 0), (6, .bool false), (7, pt B10 0), (8, pt B12 0)] (by kernel_rfl) (allM all_nil) (end_old rfl rfl (end_old rfl rfl (end_old rfl rfl (end_new 3 rfl rfl (end_new 4 rfl rfl end_nil))))) (fun a w hf hm => At_intro (ar11, cr11, B10, B12) trivial hf hm (sc4 rfl rfl rfl rfl (sc rfl sub_nil)) (sc4 rfl rfl rfl rfl (sc rfl (sc rfl (sc rfl sub_nil)))))
   ·skip
    refine LOb_new 6 (.cells #[.int .i64 0, .int .i64 0, .slice none 0 0] 75) (fun B => pt B 0) (fun B => []) rfl (wv_n rfl) rfl rfl (fun _ _ _ _ => r_alloc (v := .agg #[.int .i64 0, .int .i64 0, .slice none 0 0]) (by kernel_rfl) rfl) (fun B => by kernel_rfl) ?_
    intro B13
    refine G_step [0, 1] 2 [] (by kernel_rfl) (allM (all_cons (q_r (.agg #[.int .i64 x, .int .i64 y, .slice at1 ts.length ct]) rfl rfl rfl (s_la ag24 sz24 rfl 1 rfl rfl rfl)) (all_cons (q_r (.agg #[.int .i64 x2, .int .i64 y2, .slice a px.length cap]) rfl rfl rfl (s_la ag75 sz75 rfl 2 rfl rfl rfl)) all_nil))) (allM (all_cons ?_ all_nil))
    refine LOb_callN (fun (_ : Option Addr × Nat) => True) (fun (ar14, cr14) => .agg #[.int .i64 x2, .int .i64 y2, .slice ar14 ((px.take 66).length) cr14]) (fun (ar14, cr14) => [(4, .row (.slice ar14 ((px.take 66).length) cr14) 37 4 ((px.take 66).length) ((px.take 66).flatMap C4.cells))]) (fun (ar14, cr14) => []) rfl (wv_n rfl) rfl rfl (fun _ _ j _ => r_call (args := [.agg #[.int .i64 x2, .int .i64 y2, .slice a px.length cap]]) (enters_of Try.func47 (by kernel_rfl) rfl) (j _ _ rfl) ((cons2 (j _ _ rfl) rfl)) rfl) (fun w hm => (sown_c x2 y2 px a cap w (hv.keep hm.ext) hcap).mono fun e w' ⟨a', cap', he, hb, hr⟩ => ⟨(a', cap'), trivial, he, hb, newOk1 4 hr⟩) (fun (ar14, cr14) => by kernel_rfl) ?_
    rintro ⟨ar14, cr14⟩ -
    refine G_step [0] 5 [] (by kernel_rfl) (allM (all_cons (q_r (.agg #[.int .i64 x, .int .i64 y, .slice at1 ts.length ct]) rfl rfl rfl (s_la ag24 sz24 rfl 1 rfl rfl rfl)) all_nil)) (allM (all_cons ?_ all_nil))
    refine LOb_store 5 (.cells #[.int .i64 x, .int .i64 y, .slice at1 ts.length ct] 24) [] rfl (wv_n rfl) rfl rfl rfl (s_st sz24 rfl rfl 5 rfl rfl rfl rfl rfl) (by kernel_rfl) ?_
    refine G_step [] 6 [] (by kernel_rfl) (allM all_nil) (allM (all_cons ?_ all_nil))
    refine LOb_store 6 (.cells #[.int .i64 x2, .int .i64 y2, .slice ar14 ((px.take 66).length) cr14] 75) [] rfl (wv_n rfl) rfl rfl rfl (s_st sz75 rfl rfl 6 rfl rfl rfl rfl rfl) (by kernel_rfl) ?_
    exact G_lastQ [] [(4, pt B2 0), (5, pt B3 0), (6, .bool false), (7, pt B10 0), (8, pt B13 0)] (by kernel_rfl) (allM all_nil) (end_old rfl rfl (end_old rfl rfl (end_old rfl rfl (end_new 3 rfl rfl (end_new 4 rfl rfl end_nil))))) (fun a w hf hm => At_intro (ar14, cr14, B10, B13) trivial hf hm (sc4 rfl rfl rfl rfl (sc rfl sub_nil)) (sc4 rfl rfl rfl rfl (sc rfl (sc rfl (sc rfl sub_nil)))))
  ·skip
   refine LOb_new 6 (.cells #[.int .i64 0, .int .i64 0, .slice none 0 0] 75) (fun B => pt B 0) (fun B => []) rfl (wv_n rfl) rfl rfl (fun _ _ _ _ => r_alloc (v := .agg #[.int .i64 0, .int .i64 0, .slice none 0 0]) (by kernel_rfl) rfl) (fun B => by kernel_rfl) ?_
   intro B15
   refine G_step [0, 1] 2 [3] (by kernel_rfl) (allM (all_cons (q_r (.agg #[.int .i64 x, .int .i64 y, .slice at1 ts.length ct]) rfl rfl rfl (s_la ag24 sz24 rfl 1 rfl rfl rfl)) (all_cons (q_r (.agg #[.int .i64 x2, .int .i64 y2, .slice a px.length cap]) rfl rfl rfl (s_la ag75 sz75 rfl 2 rfl rfl rfl)) all_nil))) (allM (all_cons ?_ (all_cons ?_ all_nil)))
   ·skip
    refine LOb_callN (fun (_ : Option Addr × Nat) => True) (fun (ar16, cr16) => .agg #[.int .i64 x2, .int .i64 y2, .slice ar16 ((px.take 66).length) cr16]) (fun (ar16, cr16) => [(4, .row (.slice ar16 ((px.take 66).length) cr16) 37 4 ((px.take 66).length) ((px.take 66).flatMap C4.cells))]) (fun (ar16, cr16) => []) rfl (wv_n rfl) rfl rfl (fun _ _ j _ => r_call (args := [.agg #[.int .i64 x2, .int .i64 y2, .slice a px.length cap]]) (enters_of Try.func47 (by kernel_rfl) rfl) (j _ _ rfl) ((cons2 (j _ _ rfl) rfl)) rfl) (fun w hm => (sown_c x2 y2 px a cap w (hv.keep hm.ext) hcap).mono fun e w' ⟨a', cap', he, hb, hr⟩ => ⟨(a', cap'), trivial, he, hb, newOk1 4 hr⟩) (fun (ar16, cr16) => by kernel_rfl) ?_
    rintro ⟨ar16, cr16⟩ -
    refine G_step [0] 3 [] (by kernel_rfl) (allM (all_cons (q_r (.agg #[.int .i64 x, .int .i64 y, .slice at1 ts.length ct]) rfl rfl rfl (s_la ag24 sz24 rfl 1 rfl rfl rfl)) all_nil)) (allM (all_cons ?_ all_nil))
    refine LOb_new 5 (.cells #[.int .i64 0, .int .i64 0, .slice none 0 0] 24) (fun B => pt B 0) (fun B => []) rfl (wv_n rfl) rfl rfl (fun _ _ _ _ => r_alloc (v := .agg #[.int .i64 0, .int .i64 0, .slice none 0 0]) (by kernel_rfl) rfl) (fun B => by kernel_rfl) ?_
    intro B17
    refine G_step [0] 5 [] (by kernel_rfl) (allM (all_cons (q_r (.agg #[.int .i64 x, .int .i64 y, .slice at1 ts.length ct]) rfl rfl rfl (s_la ag24 sz24 rfl 1 rfl rfl rfl)) all_nil)) (allM (all_cons ?_ all_nil))
    refine LOb_store 5 (.cells #[.int .i64 x, .int .i64 y, .slice at1 ts.length ct] 24) [] rfl (wv_n rfl) rfl rfl rfl (s_st sz24 rfl rfl 5 rfl rfl rfl rfl rfl) (by kernel_rfl) ?_
    refine G_step [] 6 [] (by kernel_rfl) (allM all_nil) (allM (all_cons ?_ all_nil))
    refine LOb_store 6 (.cells #[.int .i64 x2, .int .i64 y2, .slice ar16 ((px.take 66).length) cr16] 75) [] rfl (wv_n rfl) rfl rfl rfl (s_st sz75 rfl rfl 6 rfl rfl rfl rfl rfl) (by kernel_rfl) ?_
    exact G_lastQ [] [(4, pt B2 0), (5, pt B3 0), (6, .bool false), (7, pt B17 0), (8, pt B15 0)] (by kernel_rfl) (allM all_nil) (end_old rfl rfl (end_old rfl rfl (end_old rfl rfl (end_new 3 rfl rfl (end_new 4 rfl rfl end_nil))))) (fun a w hf hm => At_intro (ar16, cr16, B17, B15) trivial hf hm (sc4 rfl rfl rfl rfl (sc rfl sub_nil)) (sc4 rfl rfl rfl rfl (sc rfl (sc rfl (sc rfl sub_nil)))))
   ·skip
    refine LOb_new 5 (.cells #[.int .i64 0, .int .i64 0, .slice none 0 0] 24) (fun B => pt B 0) (fun B => []) rfl (wv_n rfl) rfl rfl (fun _ _ _ _ => r_alloc (v := .agg #[.int .i64 0, .int .i64 0, .slice none 0 0]) (by kernel_rfl) rfl) (fun B => by kernel_rfl) ?_
    intro B18
    refine G_step [0, 1] 2 [] (by kernel_rfl) (allM (all_cons (q_r (.agg #[.int .i64 x, .int .i64 y, .slice at1 ts.length ct]) rfl rfl rfl (s_la ag24 sz24 rfl 1 rfl rfl rfl)) (all_cons (q_r (.agg #[.int .i64 x2, .int .i64 y2, .slice a px.length cap]) rfl rfl rfl (s_la ag75 sz75 rfl 2 rfl rfl rfl)) all_nil))) (allM (all_cons ?_ all_nil))
    refine LOb_callN (fun (_ : Option Addr × Nat) => True) (fun (ar19, cr19) => .agg #[.int .i64 x2, .int .i64 y2, .slice ar19 ((px.take 66).length) cr19]) (fun (ar19, cr19) => [(4, .row (.slice ar19 ((px.take 66).length) cr19) 37 4 ((px.take 66).length) ((px.take 66).flatMap C4.cells))]) (fun (ar19, cr19) => []) rfl (wv_n rfl) rfl rfl (fun _ _ j _ => r_call (args := [.agg #[.int .i64 x2, .int .i64 y2, .slice a px.length cap]]) (enters_of Try.func47 (by kernel_rfl) rfl) (j _ _ rfl) ((cons2 (j _ _ rfl) rfl)) rfl) (fun w hm => (sown_c x2 y2 px a cap w (hv.keep hm.ext) hcap).mono fun e w' ⟨a', cap', he, hb, hr⟩ => ⟨(a', cap'), trivial, he, hb, newOk1 4 hr⟩) (fun (ar19, cr19) => by kernel_rfl) ?_
    rintro ⟨ar19, cr19⟩ -
    refine G_step [0] 5 [] (by kernel_rfl) (allM (all_cons (q_r (.agg #[.int .i64 x, .int .i64 y, .slice at1 ts.length ct]) rfl rfl rfl (s_la ag24 sz24 rfl 1 rfl rfl rfl)) all_nil)) (allM (all_cons ?_ all_nil))
    refine LOb_store 5 (.cells #[.int .i64 x, .int .i64 y, .slice at1 ts.length ct] 24) [] rfl (wv_n rfl) rfl rfl rfl (s_st sz24 rfl rfl 5 rfl rfl rfl rfl rfl) (by kernel_rfl) ?_
    refine G_step [] 6 [] (by kernel_rfl) (allM all_nil) (allM (all_cons ?_ all_nil))
    refine LOb_store 6 (.cells #[.int .i64 x2, .int .i64 y2, .slice ar19 ((px.take 66).length) cr19] 75) [] rfl (wv_n rfl) rfl rfl rfl (s_st sz75 rfl rfl 6 rfl rfl rfl rfl rfl) (by kernel_rfl) ?_
    exact G_lastQ [] [(4, pt B2 0), (5, pt B3 0), (6, .bool false), (7, pt B18 0), (8, pt B15 0)] (by kernel_rfl) (allM all_nil) (end_old rfl rfl (end_old rfl rfl (end_old rfl rfl (end_new 3 rfl rfl (end_new 4 rfl rfl end_nil))))) (fun a w hf hm => At_intro (ar19, cr19, B18, B15) trivial hf hm (sc4 rfl rfl rfl rfl (sc rfl sub_nil)) (sc4 rfl rfl rfl rfl (sc rfl (sc rfl (sc rfl sub_nil)))))
 ·skip
  obtain ⟨ar4, cr4, Bx3, Bx4⟩ := z
  show T _ _ _ [(4, pt B2 0), (5, pt B3 0), (6, .bool false), (7, pt Bx3 0), (8, pt Bx4 0)] [(1, .blk B1 (.cells #[.int .i64 x, .int .i64 y, .slice at1 ts.length ct] 24)), (2, .blk B2 (.cells #[.int .i64 x2, .int .i64 y2, .slice a px.length cap] 75)), (3, .blk B3 (.cells #[.int .i64 xi, .int .i64 yi, .int .i64 wi, .int .i64 hi, .slice al l.length cl] 94)), (4, .row (.slice ar4 ((px.take 66).length) cr4) 37 4 ((px.take 66).length) ((px.take 66).flatMap C4.cells)), (5, .blk Bx3 (.cells #[.int .i64 x, .int .i64 y, .slice at1 ts.length ct] 24)), (6, .blk Bx4 (.cells #[.int .i64 x2, .int .i64 y2, .slice ar4 ((px.take 66).length) cr4] 75)), (960, .cvs [])]
  refine T_seq (T_region ?_)
  refine TL_v (pt Bx3 2) (s_fa fl24_2 sz22 rfl) rfl rfl ?_
  refine TL_v (.slice at1 ts.length ct) (s_ld ag22 rfl 5 rfl rfl) rfl rfl ?_
  refine TL_v (pt Bx3 2) (s_fa fl24_2 sz22 rfl) rfl rfl ?_
  refine TL_v (.slice at1 ts.length ct) (s_ld ag22 rfl 5 rfl rfl) rfl rfl ?_
  refine TL_v (iN ts.length) (fun _ _ j _ => r_len sl22 (j _ _ rfl)) rfl rfl ?_
  refine TL_v (iN (min ts.length 17)) (s_op r_min rfl rfl (int_as (minI _ 17))) rfl rfl ?_
  obtain ⟨l20, hl20, hn20⟩ : ∃ lz, lz = ts.take (min ts.length 17) ∧ lz.length = min ts.length 17 := ⟨_, rfl, by rw [List.length_take]; omega⟩
  have hs20 := SliceAt.front ht (n := min ts.length 17) (m := ct) (by omega) (by omega) (by omega)
  rw [← hl20] at hs20
  refine TL_v (.slice at1 l20.length ct) (fun ρ _ j _ => r_as (r_sliceO sl22 sz39 (j _ _ rfl) (bd_none ρ _) (bd_some (n := min ts.length 17) (j _ _ rfl)) (bd_none ρ _) (by simp) (by omega) (by omega) (by omega)) (by rw [hn20]; exact slo_zero _ _ _ _)) rfl rfl ?_
  refine TL_callN (fun (_ : Option Addr × Nat) => True) (fun (ar21, cr21) => .slice ar21 ((l20).length) cr21) (fun (ar21, cr21) => [(7, .row (.slice ar21 ((l20).length) cr21) 39 256 ((l20).length) ((l20).flatMap T64.cells))]) (fun _ _ j _ => r_call (args := [.slice at1 l20.length ct]) (enters_of Try.func58 (by kernel_rfl) rfl) (j _ _ rfl) ((cons2 (j _ _ rfl) rfl)) rfl) (fun w hm => (clone_til T64.cells T64.cells_len T64.cells_one l20 at1 ct w (hs20.keep hm.ext) (by omega)).mono fun e w' ⟨a', cap', he, hb, hr⟩ => ⟨(a', cap'), trivial, he, hb, newOk1 7 hr⟩) rfl rfl rfl (w_n rfl) ?_
  rintro ⟨ar21, cr21⟩ -
  refine TL_v (pt Bx3 2) (s_fa fl24_2 sz22 rfl) rfl rfl ?_
  refine TL_store 5 (.cells #[.int .i64 x, .int .i64 y, .slice ar21 ((l20).length) cr21] 24) rfl (s_st sz22 rfl rfl 5 rfl rfl rfl rfl rfl) rfl rfl (w_n rfl) ?_
  refine TL_seq ?_
  have e17 : l20 = ts.take 17 := by rw [hl20]; exact take_min ts 17
  have hT : l20.length ≤ 17 := by omega
  clear hn20 hl20
  refine T_seq (T_region ?_)
  refine TL_call (.tuple #[.agg #[.int .i64 0, .int .i64 0, .slice none 0 0], .int .i64 1]) (fun _ _ j _ => r_call (args := [.pointer none, .int .i64 0, .int .i64 0, .int .i64 1, .int .i64 1]) (enters_of Try.func59 (by kernel_rfl) rfl) (j _ _ rfl) ((cons2 (j _ _ rfl) (cons2 (j _ _ rfl) (cons2 (j _ _ rfl) (cons2 (j _ _ rfl) (cons2 (j _ _ rfl) rfl)))))) rfl) (fun w _ => cut_nil 0 0 1 1 w) rfl rfl rfl (w_n rfl) ?_
  refine TL_v (.tuple #[.agg #[.int .i64 0, .int .i64 0, .slice none 0 0], .int .i64 1]) (s_mv rfl) rfl rfl ?_
  refine TL_v (.agg #[.int .i64 0, .int .i64 0, .slice none 0 0]) (s_ex rfl rfl) rfl rfl ?_
  refine TL_v (.int .i64 1) (s_ex rfl rfl) rfl rfl ?_
  refine TL_new 8 (.cells #[.int .i64 0, .int .i64 0, .slice none 0 0] 75) (fun B => pt B 0) (fun _ _ _ _ => r_alloc (v := .agg #[.int .i64 0, .int .i64 0, .slice none 0 0]) (by kernel_rfl) rfl) rfl rfl rfl (w_n rfl) ?_
  intro B22
  refine TL_store 8 (.cells #[.int .i64 0, .int .i64 0, .slice none 0 0] 75) rfl (s_st sz75 rfl rfl 8 rfl rfl rfl rfl rfl) rfl rfl (w_n rfl) ?_
  refine TL_v (.int .i64 1) (s_as rfl) rfl rfl ?_
  refine TL_seq ?_
  refine T_seq (T_region ?_)
  refine TL_v (.agg #[.int .i64 x2, .int .i64 y2, .slice ar4 ((px.take 66).length) cr4]) (s_la ag75 sz75 rfl 6 rfl rfl rfl) rfl rfl ?_
  refine TL_call (.tuple #[.pointer none, .int .i64 1]) (fun _ _ j _ => r_call (args := [.pointer none, .agg #[.int .i64 x2, .int .i64 y2, .slice ar4 ((px.take 66).length) cr4], .slice none 0 0]) (enters_of Try.func60 (by kernel_rfl) rfl) (j _ _ rfl) ((cons2 (j _ _ rfl) (cons2 (j _ _ rfl) (cons2 (j _ _ rfl) rfl)))) rfl) (fun w _ => lay_nil x2 y2 ar4 ((px.take 66).length) cr4 none 0 0 w) rfl rfl rfl (w_n rfl) ?_
  refine TL_v (.tuple #[.pointer none, .int .i64 1]) (s_mv rfl) rfl rfl ?_
  refine TL_v (.pointer none) (s_ex rfl rfl) rfl rfl ?_
  refine TL_v (.int .i64 1) (s_ex rfl rfl) rfl rfl ?_
  refine TL_v (.pointer none) (s_as rfl) rfl rfl ?_
  refine TL_v (.int .i64 1) (s_as rfl) rfl rfl ?_
  refine TL_seq ?_
  refine T_seq ?_
  refine T_seq (T_region ?_)
  refine TL_v (.int .i64 1) (s_mv rfl) rfl rfl ?_
  refine TL_v (.bool false) (s_op r_neq rfl rfl (by rfl)) rfl rfl ?_
  refine TL_v (.bool false) (s_mv rfl) rfl rfl ?_
  refine TL_q (.int .i64 1) (s_mv rfl) rfl rfl rfl (want_y 48 rfl rfl rfl) ?_
  refine TL_q (.bool false) (s_op r_neq rfl rfl (by rfl)) rfl rfl rfl (want_y 48 rfl rfl rfl) ?_
  refine TL_v (.bool false) (s_pf rfl rfl) rfl rfl ?_
  refine TL_v (.bool false) (s_mv rfl) rfl rfl ?_
  refine TL_q (.pointer none) (s_mv rfl) rfl rfl rfl (want_y 52 rfl rfl rfl) ?_
  refine TL_q (.bool false) (fun _ _ j _ => r_as (r_neqPn po28 (j _ _ rfl) (j _ _ rfl)) (by rfl)) rfl rfl rfl (want_y 52 rfl rfl rfl) ?_
  refine TL_v (.bool false) (s_pf rfl rfl) rfl rfl ?_
  refine TL_seq ?_
  refine T_sub [(4, pt B2 0), (5, pt B3 0), (6, .bool false), (7, pt Bx3 0), (8, pt Bx4 0), (55, .bool false)] [(7, .row (.slice ar21 ((l20).length) cr21) 39 256 ((l20).length) ((l20).flatMap T64.cells)), (1, .blk B1 (.cells #[.int .i64 x, .int .i64 y, .slice at1 ts.length ct] 24)), (2, .blk B2 (.cells #[.int .i64 x2, .int .i64 y2, .slice a px.length cap] 75)), (3, .blk B3 (.cells #[.int .i64 xi, .int .i64 yi, .int .i64 wi, .int .i64 hi, .slice al l.length cl] 94)), (4, .row (.slice ar4 ((px.take 66).length) cr4) 37 4 ((px.take 66).length) ((px.take 66).flatMap C4.cells)), (6, .blk Bx4 (.cells #[.int .i64 x2, .int .i64 y2, .slice ar4 ((px.take 66).length) cr4] 75)), (960, .cvs []), (5, .blk Bx3 (.cells #[.int .i64 x, .int .i64 y, .slice ar21 ((l20).length) cr21] 24)), (8, .blk B22 (.cells #[.int .i64 0, .int .i64 0, .slice none 0 0] 75))] (sc4 rfl rfl rfl rfl (sc rfl (sc rfl sub_nil))) (sc4 rfl rfl rfl rfl (sc4 rfl rfl rfl rfl (sc rfl sub_nil))) ?_
  refine T_cond_f rfl ?_
  refine T_skip' ?_
  refine p_seq ?_
  refine T_seq (T_region ?_)
  refine TL_v (.agg #[.int .i64 x, .int .i64 y, .slice ar21 ((l20).length) cr21]) (s_la ag24 sz24 rfl 5 rfl rfl rfl) rfl rfl ?_
  refine TL_call (.tuple #[.pointer none, .int .i64 150]) (fun _ _ j _ => r_call (args := [.agg #[.int .i64 x, .int .i64 y, .slice ar21 ((l20).length) cr21]]) (enters_of Try.func15 (by kernel_rfl) rfl) (j _ _ rfl) ((cons2 (j _ _ rfl) rfl)) rfl) (fun w _ => of_no x y ar21 ((l20).length) cr21 w (by rw [e17]; exact hnc)) rfl rfl rfl (w_n rfl) ?_
  refine TL_v (.tuple #[.pointer none, .int .i64 150]) (s_mv rfl) rfl rfl ?_
  refine TL_v (.pointer none) (s_ex rfl rfl) rfl rfl ?_
  refine TL_v (.int .i64 150) (s_ex rfl rfl) rfl rfl ?_
  refine TL_v (.pointer none) (s_as rfl) rfl rfl ?_
  refine TL_v (.int .i64 150) (s_as rfl) rfl rfl ?_
  refine TL_seq ?_
  refine T_seq ?_
  refine T_seq (T_region ?_)
  refine TL_v (.int .i64 150) (s_mv rfl) rfl rfl ?_
  refine TL_v (.bool true) (s_op r_neq rfl rfl (by rfl)) rfl rfl ?_
  refine TL_seq ?_
  refine T_cond_t rfl ?_
  refine T_seq (T_region ?_)
  refine TL_v (.agg #[.int .i64 x, .int .i64 y, .slice ar21 ((l20).length) cr21]) (s_la ag24 sz24 rfl 5 rfl rfl rfl) rfl rfl ?_
  refine TL_call (.bool false) (fun _ _ j _ => r_call (args := [.agg #[.int .i64 x, .int .i64 y, .slice ar21 ((l20).length) cr21]]) (enters_of Try.func16 (by kernel_rfl) rfl) (j _ _ rfl) ((cons2 (j _ _ rfl) rfl)) rfl) (fun w _ => (right_c x y ar21 ((l20).length) cr21 w).mono fun _ _ h => ⟨h.1.trans (congrArg Ending.returned (bool_as (eq_false_of_ne_true (by rw [e17]; exact hnc)))), h.2⟩) rfl rfl rfl (w_n rfl) ?_
  refine TL_v (.bool true) (fun _ _ j _ => r_not (b := false) (j _ _ rfl)) rfl rfl ?_
  refine TL_v (.bool true) (s_as rfl) rfl rfl ?_
  refine TL_seq ?_
  refine T_ret' ?_
  refine p_then_r ?_
  refine ret_of rfl (.bool true) (fun tmps w hk hm => res1 rfl (res_tmp (hk 6 _ rfl))) (fun w hm => ?_)
  exact ⟨rfl, hm.ext⟩

set_option maxHeartbeats 2000000 in
theorem slays_ns (wd hg : Nat) (ts : List T64) (at1 : Option Addr) (ct : Nat) (x2 y2 : Int) (px : List C4) (a : Option Addr) (cap : Nat) (xi yi wi hi : Int) (l : List Pt) (al : Option Addr) (cl : Nat) (w : World) (ht : SliceAt w at1 ct 256 T64.cells ts) (hct : ct ≤ Go.maxLen) (hts : TsOk ts) (hv : SliceAt w a cap 4 C4.cells px) (hcap : cap ≤ Go.maxLen) (hR : inI xi ∧ inI yi ∧ inI wi ∧ inI hi) (hl : SliceAt w al cl 2 Pt.cells l) (hcl : cl ≤ Go.maxLen) (hlb : ∀ u ∈ l, inI u.x ∧ inI u.y) (hwd : 1 ≤ wd ∧ wd ≤ 4) (hhg : 1 ≤ hg ∧ hg ≤ 4) (hlenT : (ts.take 17).length = wd * hg) (hno : ¬ rightS x2 y2 (px.take 66).length = true) : Calls Try.prog 11 #[.agg #[.int .i64 (wd : Int), .int .i64 (hg : Int), .slice at1 ts.length ct], .agg #[.int .i64 x2, .int .i64 y2, .slice a px.length cap], .agg #[.int .i64 xi, .int .i64 yi, .int .i64 wi, .int .i64 hi, .slice al l.length cl]] w fun e w' => e = .returned (.bool true) ∧ Below w.heap.size w w' := by
 have hvl := hv.1
 have htl := ht.1
 have hll := hl.1
 unfold Go.maxLen at hcap hct hcl
 have h66 : (px.take 66).length ≤ 66 := by rw [List.length_take]; omega
 have h16 := size4 hwd hhg
 obtain ⟨⟨b1, b2⟩, ⟨b3, b4⟩, ⟨b5, b6⟩, ⟨b7, b8⟩⟩ := hR
 refine calls_of_T (l := [.agg #[iN wd, iN hg, .slice at1 ts.length ct], .agg #[.int .i64 x2, .int .i64 y2, .slice a px.length cap], .agg #[.int .i64 xi, .int .i64 yi, .int .i64 wi, .int .i64 hi, .slice al l.length cl]]) 170 Try.func11 rfl rfl rfl ?_
 show T _ _ _ [(0, .agg #[iN wd, iN hg, .slice at1 ts.length ct]), (1, .agg #[.int .i64 x2, .int .i64 y2, .slice a px.length cap]), (2, .agg #[.int .i64 xi, .int .i64 yi, .int .i64 wi, .int .i64 hi, .slice al l.length cl])] []
 refine T_seq (T_region ?_)
 refine TL_new 1 (.cells #[iN wd, iN hg, .slice at1 ts.length ct] 24) (fun B => pt B 0) (fun _ _ j _ => r_box (j _ _ rfl) rfl) rfl rfl rfl (w_n rfl) ?_
 intro B1
 refine TL_new 2 (.cells #[.int .i64 x2, .int .i64 y2, .slice a px.length cap] 75) (fun B => pt B 0) (fun _ _ j _ => r_box (j _ _ rfl) rfl) rfl rfl rfl (w_n rfl) ?_
 intro B2
 refine TL_new 3 (.cells #[.int .i64 xi, .int .i64 yi, .int .i64 wi, .int .i64 hi, .slice al l.length cl] 94) (fun B => pt B 0) (fun _ _ j _ => r_box (j _ _ rfl) rfl) rfl rfl rfl (w_n rfl) ?_
 intro B3
 refine TL_v (.bool false) (s_as rfl) rfl rfl ?_
 refine TL_seq ?_
 refine T_seq ?_
 refine T_mem (_ :: _) (fun _ hm => hm.cvs0 960) ?_
 refine T_seq (T_region ?_)
 refine TL_call (.bool true) (fun _ _ j _ => r_call (args := []) (enters_of Try.func39 (by kernel_rfl) rfl) (j _ _ rfl) (by rfl) rfl) (fun w _ => swakes_c w) rfl rfl rfl (w_n rfl) ?_
 refine TL_v (.bool false) (fun _ _ j _ => r_not (b := true) (j _ _ rfl)) rfl rfl ?_
 refine TL_seq ?_
 refine T_cond_f rfl ?_
 refine T_skip' ?_
 refine p_seq ?_
 refine T_join (ι := (Option Addr) × Nat × Nat × Nat) (fun _ => True) (fun (z : (Option Addr) × Nat × Nat × Nat) => match z with | (ar4, cr4, Bx3, Bx4) => [(4, pt B2 0), (5, pt B3 0), (6, .bool false), (7, pt Bx3 0), (8, pt Bx4 0)]) (fun (z : (Option Addr) × Nat × Nat × Nat) => match z with | (ar4, cr4, Bx3, Bx4) => [(1, .blk B1 (.cells #[iN wd, iN hg, .slice at1 ts.length ct] 24)), (2, .blk B2 (.cells #[.int .i64 x2, .int .i64 y2, .slice a px.length cap] 75)), (3, .blk B3 (.cells #[.int .i64 xi, .int .i64 yi, .int .i64 wi, .int .i64 hi, .slice al l.length cl] 94)), (4, .row (.slice ar4 ((px.take 66).length) cr4) 37 4 ((px.take 66).length) ((px.take 66).flatMap C4.cells)), (5, .blk Bx3 (.cells #[iN wd, iN hg, .slice at1 ts.length ct] 24)), (6, .blk Bx4 (.cells #[.int .i64 x2, .int .i64 y2, .slice ar4 ((px.take 66).length) cr4] 75)), (960, .cvs [])]) (T_draw (V := [(0, .agg #[iN wd, iN hg, .slice at1 ts.length ct]), (1, .agg #[.int .i64 x2, .int .i64 y2, .slice a px.length cap])]) [0, 0, 2, 0, 0, 31, 63] [[(3, none)], [(4, none)], [(26, some 1)], [], [], [(7, some 3), (25, some 0)], [(8, some 4), (27, some 2)]] 124 mixed (by kernel_rfl) ?_) (fun z hz => ?_)
 ·skip
  refine G_step [0, 1] 2 [3, 4] (by kernel_rfl) (allM (all_cons (q_r (.agg #[iN wd, iN hg, .slice at1 ts.length ct]) rfl rfl rfl (s_la ag24 sz24 rfl 1 rfl rfl rfl)) (all_cons (q_r (.agg #[.int .i64 x2, .int .i64 y2, .slice a px.length cap]) rfl rfl rfl (s_la ag75 sz75 rfl 2 rfl rfl rfl)) all_nil))) (allM (all_cons ?_ (all_cons ?_ (all_cons ?_ all_nil))))
  ·skip
   refine LOb_callN (fun (_ : Option Addr × Nat) => True) (fun (ar5, cr5) => .agg #[.int .i64 x2, .int .i64 y2, .slice ar5 ((px.take 66).length) cr5]) (fun (ar5, cr5) => [(4, .row (.slice ar5 ((px.take 66).length) cr5) 37 4 ((px.take 66).length) ((px.take 66).flatMap C4.cells))]) (fun (ar5, cr5) => []) rfl (wv_n rfl) rfl rfl (fun _ _ j _ => r_call (args := [.agg #[.int .i64 x2, .int .i64 y2, .slice a px.length cap]]) (enters_of Try.func47 (by kernel_rfl) rfl) (j _ _ rfl) ((cons2 (j _ _ rfl) rfl)) rfl) (fun w hm => (sown_c x2 y2 px a cap w (hv.keep hm.ext) hcap).mono fun e w' ⟨a', cap', he, hb, hr⟩ => ⟨(a', cap'), trivial, he, hb, newOk1 4 hr⟩) (fun (ar5, cr5) => by kernel_rfl) ?_
   rintro ⟨ar5, cr5⟩ -
   refine G_step [0] 3 [4] (by kernel_rfl) (allM (all_cons (q_r (.agg #[iN wd, iN hg, .slice at1 ts.length ct]) rfl rfl rfl (s_la ag24 sz24 rfl 1 rfl rfl rfl)) all_nil)) (allM (all_cons ?_ (all_cons ?_ all_nil)))
   ·skip
    refine LOb_new 5 (.cells #[.int .i64 0, .int .i64 0, .slice none 0 0] 24) (fun B => pt B 0) (fun B => []) rfl (wv_n rfl) rfl rfl (fun _ _ _ _ => r_alloc (v := .agg #[.int .i64 0, .int .i64 0, .slice none 0 0]) (by kernel_rfl) rfl) (fun B => by kernel_rfl) ?_
    intro B6
    refine G_step [0] 4 [] (by kernel_rfl) (allM (all_cons (q_r (.agg #[iN wd, iN hg, .slice at1 ts.length ct]) rfl rfl rfl (s_la ag24 sz24 rfl 1 rfl rfl rfl)) all_nil)) (allM (all_cons ?_ all_nil))
    refine LOb_new 6 (.cells #[.int .i64 0, .int .i64 0, .slice none 0 0] 75) (fun B => pt B 0) (fun B => []) rfl (wv_n rfl) rfl rfl (fun _ _ _ _ => r_alloc (v := .agg #[.int .i64 0, .int .i64 0, .slice none 0 0]) (by kernel_rfl) rfl) (fun B => by kernel_rfl) ?_
    intro B7
    refine G_step [0] 5 [] (by kernel_rfl) (allM (all_cons (q_r (.agg #[iN wd, iN hg, .slice at1 ts.length ct]) rfl rfl rfl (s_la ag24 sz24 rfl 1 rfl rfl rfl)) all_nil)) (allM (all_cons ?_ all_nil))
    refine LOb_store 5 (.cells #[iN wd, iN hg, .slice at1 ts.length ct] 24) [] rfl (wv_n rfl) rfl rfl rfl (s_st sz24 rfl rfl 5 rfl rfl rfl rfl rfl) (by kernel_rfl) ?_
    refine G_step [] 6 [] (by kernel_rfl) (allM all_nil) (allM (all_cons ?_ all_nil))
    refine LOb_store 6 (.cells #[.int .i64 x2, .int .i64 y2, .slice ar5 ((px.take 66).length) cr5] 75) [] rfl (wv_n rfl) rfl rfl rfl (s_st sz75 rfl rfl 6 rfl rfl rfl rfl rfl) (by kernel_rfl) ?_
    exact G_lastQ [] [(4, pt B2 0), (5, pt B3 0), (6, .bool false), (7, pt B6 0), (8, pt B7 0)] (by kernel_rfl) (allM all_nil) (end_old rfl rfl (end_old rfl rfl (end_old rfl rfl (end_new 3 rfl rfl (end_new 4 rfl rfl end_nil))))) (fun a w hf hm => At_intro (ar5, cr5, B6, B7) trivial hf hm (sc4 rfl rfl rfl rfl (sc rfl sub_nil)) (sc4 rfl rfl rfl rfl (sc rfl (sc rfl (sc rfl sub_nil)))))
   ·skip
    refine LOb_new 6 (.cells #[.int .i64 0, .int .i64 0, .slice none 0 0] 75) (fun B => pt B 0) (fun B => []) rfl (wv_n rfl) rfl rfl (fun _ _ _ _ => r_alloc (v := .agg #[.int .i64 0, .int .i64 0, .slice none 0 0]) (by kernel_rfl) rfl) (fun B => by kernel_rfl) ?_
    intro B8
    refine G_step [0] 3 [] (by kernel_rfl) (allM (all_cons (q_r (.agg #[iN wd, iN hg, .slice at1 ts.length ct]) rfl rfl rfl (s_la ag24 sz24 rfl 1 rfl rfl rfl)) all_nil)) (allM (all_cons ?_ all_nil))
    refine LOb_new 5 (.cells #[.int .i64 0, .int .i64 0, .slice none 0 0] 24) (fun B => pt B 0) (fun B => []) rfl (wv_n rfl) rfl rfl (fun _ _ _ _ => r_alloc (v := .agg #[.int .i64 0, .int .i64 0, .slice none 0 0]) (by kernel_rfl) rfl) (fun B => by kernel_rfl) ?_
    intro B9
    refine G_step [0] 5 [] (by kernel_rfl) (allM (all_cons (q_r (.agg #[iN wd, iN hg, .slice at1 ts.length ct]) rfl rfl rfl (s_la ag24 sz24 rfl 1 rfl rfl rfl)) all_nil)) (allM (all_cons ?_ all_nil))
    refine LOb_store 5 (.cells #[iN wd, iN hg, .slice at1 ts.length ct] 24) [] rfl (wv_n rfl) rfl rfl rfl (s_st sz24 rfl rfl 5 rfl rfl rfl rfl rfl) (by kernel_rfl) ?_
    refine G_step [] 6 [] (by kernel_rfl) (allM all_nil) (allM (all_cons ?_ all_nil))
    refine LOb_store 6 (.cells #[.int .i64 x2, .int .i64 y2, .slice ar5 ((px.take 66).length) cr5] 75) [] rfl (wv_n rfl) rfl rfl rfl (s_st sz75 rfl rfl 6 rfl rfl rfl rfl rfl) (by kernel_rfl) ?_
    exact G_lastQ [] [(4, pt B2 0), (5, pt B3 0), (6, .bool false), (7, pt B9 0), (8, pt B8 0)] (by kernel_rfl) (allM all_nil) (end_old rfl rfl (end_old rfl rfl (end_old rfl rfl (end_new 3 rfl rfl (end_new 4 rfl rfl end_nil))))) (fun a w hf hm => At_intro (ar5, cr5, B9, B8) trivial hf hm (sc4 rfl rfl rfl rfl (sc rfl sub_nil)) (sc4 rfl rfl rfl rfl (sc rfl (sc rfl (sc rfl sub_nil)))))
  ·skip
   refine LOb_new 5 (.cells #[.int .i64 0, .int .i64 0, .slice none 0 0] 24) (fun B => pt B 0) (fun B => []) rfl (wv_n rfl) rfl rfl (fun _ _ _ _ => r_alloc (v := .agg #[.int .i64 0, .int .i64 0, .slice none 0 0]) (by kernel_rfl) rfl) (fun B => by kernel_rfl) ?_
   intro B10
   refine G_step [0, 1] 2 [4] (by kernel_rfl) (allM (all_cons (q_r (.agg #[iN wd, iN hg, .slice at1 ts.length ct]) rfl rfl rfl (s_la ag24 sz24 rfl 1 rfl rfl rfl)) (all_cons (q_r (.agg #[.int .i64 x2, .int .i64 y2, .slice a px.length cap]) rfl rfl rfl (s_la ag75 sz75 rfl 2 rfl rfl rfl)) all_nil))) (allM (all_cons ?_ (all_cons ?_ all_nil)))
   ·skip
    refine LOb_callN (fun (_ : Option Addr × Nat) => True) (fun (ar11, cr11) => .agg #[.int .i64 x2, .int .i64 y2, .slice ar11 ((px.take 66).length) cr11]) (fun (ar11, cr11) => [(4, .row (.slice ar11 ((px.take 66).length) cr11) 37 4 ((px.take 66).length) ((px.take 66).flatMap C4.cells))]) (fun (ar11, cr11) => []) rfl (wv_n rfl) rfl rfl (fun _ _ j _ => r_call (args := [.agg #[.int .i64 x2, .int .i64 y2, .slice a px.length cap]]) (enters_of Try.func47 (by kernel_rfl) rfl) (j _ _ rfl) ((cons2 (j _ _ rfl) rfl)) rfl) (fun w hm => (sown_c x2 y2 px a cap w (hv.keep hm.ext) hcap).mono fun e w' ⟨a', cap', he, hb, hr⟩ => ⟨(a', cap'), trivial, he, hb, newOk1 4 hr⟩) (fun (ar11, cr11) => by kernel_rfl) ?_
    rintro ⟨ar11, cr11⟩ -
    refine G_step [0] 4 [] (by kernel_rfl) (allM (all_cons (q_r (.agg #[iN wd, iN hg, .slice at1 ts.length ct]) rfl rfl rfl (s_la ag24 sz24 rfl 1 rfl rfl rfl)) all_nil)) (allM (all_cons ?_ all_nil))
    refine LOb_new 6 (.cells #[.int .i64 0, .int .i64 0, .slice none 0 0] 75) (fun B => pt B 0) (fun B => []) rfl (wv_n rfl) rfl rfl (fun _ _ _ _ => r_alloc (v := .agg #[.int .i64 0, .int .i64 0, .slice none 0 0]) (by kernel_rfl) rfl) (fun B => by kernel_rfl) ?_
    intro B12
    refine G_step [0] 5 [] (by kernel_rfl) (allM (all_cons (q_r (.agg #[iN wd, iN hg, .slice at1 ts.length ct]) rfl rfl rfl (s_la ag24 sz24 rfl 1 rfl rfl rfl)) all_nil)) (allM (all_cons ?_ all_nil))
    refine LOb_store 5 (.cells #[iN wd, iN hg, .slice at1 ts.length ct] 24) [] rfl (wv_n rfl) rfl rfl rfl (s_st sz24 rfl rfl 5 rfl rfl rfl rfl rfl) (by kernel_rfl) ?_
    refine G_step [] 6 [] (by kernel_rfl) (allM all_nil) (allM (all_cons ?_ all_nil))
    refine LOb_store 6 (.cells #[.int .i64 x2, .int .i64 y2, .slice ar11 ((px.take 66).length) cr11] 75) [] rfl (wv_n rfl) rfl rfl rfl (s_st sz75 rfl rfl 6 rfl rfl rfl rfl rfl) (by kernel_rfl) ?_
    exact G_lastQ [] [(4, pt B2 0), (5, pt B3 0), (6, .bool false), (7, pt B10 0), (8, pt B12 0)] (by kernel_rfl) (allM all_nil) (end_old rfl rfl (end_old rfl rfl (end_old rfl rfl (end_new 3 rfl rfl (end_new 4 rfl rfl end_nil))))) (fun a w hf hm => At_intro (ar11, cr11, B10, B12) trivial hf hm (sc4 rfl rfl rfl rfl (sc rfl sub_nil)) (sc4 rfl rfl rfl rfl (sc rfl (sc rfl (sc rfl sub_nil)))))
   ·skip
    refine LOb_new 6 (.cells #[.int .i64 0, .int .i64 0, .slice none 0 0] 75) (fun B => pt B 0) (fun B => []) rfl (wv_n rfl) rfl rfl (fun _ _ _ _ => r_alloc (v := .agg #[.int .i64 0, .int .i64 0, .slice none 0 0]) (by kernel_rfl) rfl) (fun B => by kernel_rfl) ?_
    intro B13
    refine G_step [0, 1] 2 [] (by kernel_rfl) (allM (all_cons (q_r (.agg #[iN wd, iN hg, .slice at1 ts.length ct]) rfl rfl rfl (s_la ag24 sz24 rfl 1 rfl rfl rfl)) (all_cons (q_r (.agg #[.int .i64 x2, .int .i64 y2, .slice a px.length cap]) rfl rfl rfl (s_la ag75 sz75 rfl 2 rfl rfl rfl)) all_nil))) (allM (all_cons ?_ all_nil))
    refine LOb_callN (fun (_ : Option Addr × Nat) => True) (fun (ar14, cr14) => .agg #[.int .i64 x2, .int .i64 y2, .slice ar14 ((px.take 66).length) cr14]) (fun (ar14, cr14) => [(4, .row (.slice ar14 ((px.take 66).length) cr14) 37 4 ((px.take 66).length) ((px.take 66).flatMap C4.cells))]) (fun (ar14, cr14) => []) rfl (wv_n rfl) rfl rfl (fun _ _ j _ => r_call (args := [.agg #[.int .i64 x2, .int .i64 y2, .slice a px.length cap]]) (enters_of Try.func47 (by kernel_rfl) rfl) (j _ _ rfl) ((cons2 (j _ _ rfl) rfl)) rfl) (fun w hm => (sown_c x2 y2 px a cap w (hv.keep hm.ext) hcap).mono fun e w' ⟨a', cap', he, hb, hr⟩ => ⟨(a', cap'), trivial, he, hb, newOk1 4 hr⟩) (fun (ar14, cr14) => by kernel_rfl) ?_
    rintro ⟨ar14, cr14⟩ -
    refine G_step [0] 5 [] (by kernel_rfl) (allM (all_cons (q_r (.agg #[iN wd, iN hg, .slice at1 ts.length ct]) rfl rfl rfl (s_la ag24 sz24 rfl 1 rfl rfl rfl)) all_nil)) (allM (all_cons ?_ all_nil))
    refine LOb_store 5 (.cells #[iN wd, iN hg, .slice at1 ts.length ct] 24) [] rfl (wv_n rfl) rfl rfl rfl (s_st sz24 rfl rfl 5 rfl rfl rfl rfl rfl) (by kernel_rfl) ?_
    refine G_step [] 6 [] (by kernel_rfl) (allM all_nil) (allM (all_cons ?_ all_nil))
    refine LOb_store 6 (.cells #[.int .i64 x2, .int .i64 y2, .slice ar14 ((px.take 66).length) cr14] 75) [] rfl (wv_n rfl) rfl rfl rfl (s_st sz75 rfl rfl 6 rfl rfl rfl rfl rfl) (by kernel_rfl) ?_
    exact G_lastQ [] [(4, pt B2 0), (5, pt B3 0), (6, .bool false), (7, pt B10 0), (8, pt B13 0)] (by kernel_rfl) (allM all_nil) (end_old rfl rfl (end_old rfl rfl (end_old rfl rfl (end_new 3 rfl rfl (end_new 4 rfl rfl end_nil))))) (fun a w hf hm => At_intro (ar14, cr14, B10, B13) trivial hf hm (sc4 rfl rfl rfl rfl (sc rfl sub_nil)) (sc4 rfl rfl rfl rfl (sc rfl (sc rfl (sc rfl sub_nil)))))
  ·skip
   refine LOb_new 6 (.cells #[.int .i64 0, .int .i64 0, .slice none 0 0] 75) (fun B => pt B 0) (fun B => []) rfl (wv_n rfl) rfl rfl (fun _ _ _ _ => r_alloc (v := .agg #[.int .i64 0, .int .i64 0, .slice none 0 0]) (by kernel_rfl) rfl) (fun B => by kernel_rfl) ?_
   intro B15
   refine G_step [0, 1] 2 [3] (by kernel_rfl) (allM (all_cons (q_r (.agg #[iN wd, iN hg, .slice at1 ts.length ct]) rfl rfl rfl (s_la ag24 sz24 rfl 1 rfl rfl rfl)) (all_cons (q_r (.agg #[.int .i64 x2, .int .i64 y2, .slice a px.length cap]) rfl rfl rfl (s_la ag75 sz75 rfl 2 rfl rfl rfl)) all_nil))) (allM (all_cons ?_ (all_cons ?_ all_nil)))
   ·skip
    refine LOb_callN (fun (_ : Option Addr × Nat) => True) (fun (ar16, cr16) => .agg #[.int .i64 x2, .int .i64 y2, .slice ar16 ((px.take 66).length) cr16]) (fun (ar16, cr16) => [(4, .row (.slice ar16 ((px.take 66).length) cr16) 37 4 ((px.take 66).length) ((px.take 66).flatMap C4.cells))]) (fun (ar16, cr16) => []) rfl (wv_n rfl) rfl rfl (fun _ _ j _ => r_call (args := [.agg #[.int .i64 x2, .int .i64 y2, .slice a px.length cap]]) (enters_of Try.func47 (by kernel_rfl) rfl) (j _ _ rfl) ((cons2 (j _ _ rfl) rfl)) rfl) (fun w hm => (sown_c x2 y2 px a cap w (hv.keep hm.ext) hcap).mono fun e w' ⟨a', cap', he, hb, hr⟩ => ⟨(a', cap'), trivial, he, hb, newOk1 4 hr⟩) (fun (ar16, cr16) => by kernel_rfl) ?_
    rintro ⟨ar16, cr16⟩ -
    refine G_step [0] 3 [] (by kernel_rfl) (allM (all_cons (q_r (.agg #[iN wd, iN hg, .slice at1 ts.length ct]) rfl rfl rfl (s_la ag24 sz24 rfl 1 rfl rfl rfl)) all_nil)) (allM (all_cons ?_ all_nil))
    refine LOb_new 5 (.cells #[.int .i64 0, .int .i64 0, .slice none 0 0] 24) (fun B => pt B 0) (fun B => []) rfl (wv_n rfl) rfl rfl (fun _ _ _ _ => r_alloc (v := .agg #[.int .i64 0, .int .i64 0, .slice none 0 0]) (by kernel_rfl) rfl) (fun B => by kernel_rfl) ?_
    intro B17
    refine G_step [0] 5 [] (by kernel_rfl) (allM (all_cons (q_r (.agg #[iN wd, iN hg, .slice at1 ts.length ct]) rfl rfl rfl (s_la ag24 sz24 rfl 1 rfl rfl rfl)) all_nil)) (allM (all_cons ?_ all_nil))
    refine LOb_store 5 (.cells #[iN wd, iN hg, .slice at1 ts.length ct] 24) [] rfl (wv_n rfl) rfl rfl rfl (s_st sz24 rfl rfl 5 rfl rfl rfl rfl rfl) (by kernel_rfl) ?_
    refine G_step [] 6 [] (by kernel_rfl) (allM all_nil) (allM (all_cons ?_ all_nil))
    refine LOb_store 6 (.cells #[.int .i64 x2, .int .i64 y2, .slice ar16 ((px.take 66).length) cr16] 75) [] rfl (wv_n rfl) rfl rfl rfl (s_st sz75 rfl rfl 6 rfl rfl rfl rfl rfl) (by kernel_rfl) ?_
    exact G_lastQ [] [(4, pt B2 0), (5, pt B3 0), (6, .bool false), (7, pt B17 0), (8, pt B15 0)] (by kernel_rfl) (allM all_nil) (end_old rfl rfl (end_old rfl rfl (end_old rfl rfl (end_new 3 rfl rfl (end_new 4 rfl rfl end_nil))))) (fun a w hf hm => At_intro (ar16, cr16, B17, B15) trivial hf hm (sc4 rfl rfl rfl rfl (sc rfl sub_nil)) (sc4 rfl rfl rfl rfl (sc rfl (sc rfl (sc rfl sub_nil)))))
   ·skip
    refine LOb_new 5 (.cells #[.int .i64 0, .int .i64 0, .slice none 0 0] 24) (fun B => pt B 0) (fun B => []) rfl (wv_n rfl) rfl rfl (fun _ _ _ _ => r_alloc (v := .agg #[.int .i64 0, .int .i64 0, .slice none 0 0]) (by kernel_rfl) rfl) (fun B => by kernel_rfl) ?_
    intro B18
    refine G_step [0, 1] 2 [] (by kernel_rfl) (allM (all_cons (q_r (.agg #[iN wd, iN hg, .slice at1 ts.length ct]) rfl rfl rfl (s_la ag24 sz24 rfl 1 rfl rfl rfl)) (all_cons (q_r (.agg #[.int .i64 x2, .int .i64 y2, .slice a px.length cap]) rfl rfl rfl (s_la ag75 sz75 rfl 2 rfl rfl rfl)) all_nil))) (allM (all_cons ?_ all_nil))
    refine LOb_callN (fun (_ : Option Addr × Nat) => True) (fun (ar19, cr19) => .agg #[.int .i64 x2, .int .i64 y2, .slice ar19 ((px.take 66).length) cr19]) (fun (ar19, cr19) => [(4, .row (.slice ar19 ((px.take 66).length) cr19) 37 4 ((px.take 66).length) ((px.take 66).flatMap C4.cells))]) (fun (ar19, cr19) => []) rfl (wv_n rfl) rfl rfl (fun _ _ j _ => r_call (args := [.agg #[.int .i64 x2, .int .i64 y2, .slice a px.length cap]]) (enters_of Try.func47 (by kernel_rfl) rfl) (j _ _ rfl) ((cons2 (j _ _ rfl) rfl)) rfl) (fun w hm => (sown_c x2 y2 px a cap w (hv.keep hm.ext) hcap).mono fun e w' ⟨a', cap', he, hb, hr⟩ => ⟨(a', cap'), trivial, he, hb, newOk1 4 hr⟩) (fun (ar19, cr19) => by kernel_rfl) ?_
    rintro ⟨ar19, cr19⟩ -
    refine G_step [0] 5 [] (by kernel_rfl) (allM (all_cons (q_r (.agg #[iN wd, iN hg, .slice at1 ts.length ct]) rfl rfl rfl (s_la ag24 sz24 rfl 1 rfl rfl rfl)) all_nil)) (allM (all_cons ?_ all_nil))
    refine LOb_store 5 (.cells #[iN wd, iN hg, .slice at1 ts.length ct] 24) [] rfl (wv_n rfl) rfl rfl rfl (s_st sz24 rfl rfl 5 rfl rfl rfl rfl rfl) (by kernel_rfl) ?_
    refine G_step [] 6 [] (by kernel_rfl) (allM all_nil) (allM (all_cons ?_ all_nil))
    refine LOb_store 6 (.cells #[.int .i64 x2, .int .i64 y2, .slice ar19 ((px.take 66).length) cr19] 75) [] rfl (wv_n rfl) rfl rfl rfl (s_st sz75 rfl rfl 6 rfl rfl rfl rfl rfl) (by kernel_rfl) ?_
    exact G_lastQ [] [(4, pt B2 0), (5, pt B3 0), (6, .bool false), (7, pt B18 0), (8, pt B15 0)] (by kernel_rfl) (allM all_nil) (end_old rfl rfl (end_old rfl rfl (end_old rfl rfl (end_new 3 rfl rfl (end_new 4 rfl rfl end_nil))))) (fun a w hf hm => At_intro (ar19, cr19, B18, B15) trivial hf hm (sc4 rfl rfl rfl rfl (sc rfl sub_nil)) (sc4 rfl rfl rfl rfl (sc rfl (sc rfl (sc rfl sub_nil)))))
 ·skip
  obtain ⟨ar4, cr4, Bx3, Bx4⟩ := z
  show T _ _ _ [(4, pt B2 0), (5, pt B3 0), (6, .bool false), (7, pt Bx3 0), (8, pt Bx4 0)] [(1, .blk B1 (.cells #[iN wd, iN hg, .slice at1 ts.length ct] 24)), (2, .blk B2 (.cells #[.int .i64 x2, .int .i64 y2, .slice a px.length cap] 75)), (3, .blk B3 (.cells #[.int .i64 xi, .int .i64 yi, .int .i64 wi, .int .i64 hi, .slice al l.length cl] 94)), (4, .row (.slice ar4 ((px.take 66).length) cr4) 37 4 ((px.take 66).length) ((px.take 66).flatMap C4.cells)), (5, .blk Bx3 (.cells #[iN wd, iN hg, .slice at1 ts.length ct] 24)), (6, .blk Bx4 (.cells #[.int .i64 x2, .int .i64 y2, .slice ar4 ((px.take 66).length) cr4] 75)), (960, .cvs [])]
  refine T_seq (T_region ?_)
  refine TL_v (pt Bx3 2) (s_fa fl24_2 sz22 rfl) rfl rfl ?_
  refine TL_v (.slice at1 ts.length ct) (s_ld ag22 rfl 5 rfl rfl) rfl rfl ?_
  refine TL_v (pt Bx3 2) (s_fa fl24_2 sz22 rfl) rfl rfl ?_
  refine TL_v (.slice at1 ts.length ct) (s_ld ag22 rfl 5 rfl rfl) rfl rfl ?_
  refine TL_v (iN ts.length) (fun _ _ j _ => r_len sl22 (j _ _ rfl)) rfl rfl ?_
  refine TL_v (iN (min ts.length 17)) (s_op r_min rfl rfl (int_as (minI _ 17))) rfl rfl ?_
  obtain ⟨l20, hl20, hn20⟩ : ∃ lz, lz = ts.take (min ts.length 17) ∧ lz.length = min ts.length 17 := ⟨_, rfl, by rw [List.length_take]; omega⟩
  have hs20 := SliceAt.front ht (n := min ts.length 17) (m := ct) (by omega) (by omega) (by omega)
  rw [← hl20] at hs20
  refine TL_v (.slice at1 l20.length ct) (fun ρ _ j _ => r_as (r_sliceO sl22 sz39 (j _ _ rfl) (bd_none ρ _) (bd_some (n := min ts.length 17) (j _ _ rfl)) (bd_none ρ _) (by simp) (by omega) (by omega) (by omega)) (by rw [hn20]; exact slo_zero _ _ _ _)) rfl rfl ?_
  refine TL_callN (fun (_ : Option Addr × Nat) => True) (fun (ar21, cr21) => .slice ar21 ((l20).length) cr21) (fun (ar21, cr21) => [(7, .row (.slice ar21 ((l20).length) cr21) 39 256 ((l20).length) ((l20).flatMap T64.cells))]) (fun _ _ j _ => r_call (args := [.slice at1 l20.length ct]) (enters_of Try.func58 (by kernel_rfl) rfl) (j _ _ rfl) ((cons2 (j _ _ rfl) rfl)) rfl) (fun w hm => (clone_til T64.cells T64.cells_len T64.cells_one l20 at1 ct w (hs20.keep hm.ext) (by omega)).mono fun e w' ⟨a', cap', he, hb, hr⟩ => ⟨(a', cap'), trivial, he, hb, newOk1 7 hr⟩) rfl rfl rfl (w_n rfl) ?_
  rintro ⟨ar21, cr21⟩ -
  refine TL_v (pt Bx3 2) (s_fa fl24_2 sz22 rfl) rfl rfl ?_
  refine TL_store 5 (.cells #[iN wd, iN hg, .slice ar21 ((l20).length) cr21] 24) rfl (s_st sz22 rfl rfl 5 rfl rfl rfl rfl rfl) rfl rfl (w_n rfl) ?_
  refine TL_seq ?_
  have e17 : l20 = ts.take 17 := by rw [hl20]; exact take_min ts 17
  have hT : l20.length ≤ 17 := by omega
  clear hn20 hl20
  have hlt1 : l20.length = wd * hg := by rw [e17]; exact hlenT
  have htok : TsOk l20 := by rw [e17]; exact fun t ht => hts t (List.mem_of_mem_take ht)
  refine T_seq (T_region ?_)
  refine TL_call (.tuple #[.agg #[.int .i64 0, .int .i64 0, .slice none 0 0], .int .i64 1]) (fun _ _ j _ => r_call (args := [.pointer none, .int .i64 0, .int .i64 0, .int .i64 1, .int .i64 1]) (enters_of Try.func59 (by kernel_rfl) rfl) (j _ _ rfl) ((cons2 (j _ _ rfl) (cons2 (j _ _ rfl) (cons2 (j _ _ rfl) (cons2 (j _ _ rfl) (cons2 (j _ _ rfl) rfl)))))) rfl) (fun w _ => cut_nil 0 0 1 1 w) rfl rfl rfl (w_n rfl) ?_
  refine TL_v (.tuple #[.agg #[.int .i64 0, .int .i64 0, .slice none 0 0], .int .i64 1]) (s_mv rfl) rfl rfl ?_
  refine TL_v (.agg #[.int .i64 0, .int .i64 0, .slice none 0 0]) (s_ex rfl rfl) rfl rfl ?_
  refine TL_v (.int .i64 1) (s_ex rfl rfl) rfl rfl ?_
  refine TL_new 8 (.cells #[.int .i64 0, .int .i64 0, .slice none 0 0] 75) (fun B => pt B 0) (fun _ _ _ _ => r_alloc (v := .agg #[.int .i64 0, .int .i64 0, .slice none 0 0]) (by kernel_rfl) rfl) rfl rfl rfl (w_n rfl) ?_
  intro B22
  refine TL_store 8 (.cells #[.int .i64 0, .int .i64 0, .slice none 0 0] 75) rfl (s_st sz75 rfl rfl 8 rfl rfl rfl rfl rfl) rfl rfl (w_n rfl) ?_
  refine TL_v (.int .i64 1) (s_as rfl) rfl rfl ?_
  refine TL_seq ?_
  refine T_seq (T_region ?_)
  refine TL_v (.agg #[.int .i64 x2, .int .i64 y2, .slice ar4 ((px.take 66).length) cr4]) (s_la ag75 sz75 rfl 6 rfl rfl rfl) rfl rfl ?_
  refine TL_call (.tuple #[.pointer none, .int .i64 1]) (fun _ _ j _ => r_call (args := [.pointer none, .agg #[.int .i64 x2, .int .i64 y2, .slice ar4 ((px.take 66).length) cr4], .slice none 0 0]) (enters_of Try.func60 (by kernel_rfl) rfl) (j _ _ rfl) ((cons2 (j _ _ rfl) (cons2 (j _ _ rfl) (cons2 (j _ _ rfl) rfl)))) rfl) (fun w _ => lay_nil x2 y2 ar4 ((px.take 66).length) cr4 none 0 0 w) rfl rfl rfl (w_n rfl) ?_
  refine TL_v (.tuple #[.pointer none, .int .i64 1]) (s_mv rfl) rfl rfl ?_
  refine TL_v (.pointer none) (s_ex rfl rfl) rfl rfl ?_
  refine TL_v (.int .i64 1) (s_ex rfl rfl) rfl rfl ?_
  refine TL_v (.pointer none) (s_as rfl) rfl rfl ?_
  refine TL_v (.int .i64 1) (s_as rfl) rfl rfl ?_
  refine TL_seq ?_
  refine T_seq ?_
  refine T_seq (T_region ?_)
  refine TL_v (.int .i64 1) (s_mv rfl) rfl rfl ?_
  refine TL_v (.bool false) (s_op r_neq rfl rfl (by rfl)) rfl rfl ?_
  refine TL_v (.bool false) (s_mv rfl) rfl rfl ?_
  refine TL_q (.int .i64 1) (s_mv rfl) rfl rfl rfl (want_y 48 rfl rfl rfl) ?_
  refine TL_q (.bool false) (s_op r_neq rfl rfl (by rfl)) rfl rfl rfl (want_y 48 rfl rfl rfl) ?_
  refine TL_v (.bool false) (s_pf rfl rfl) rfl rfl ?_
  refine TL_v (.bool false) (s_mv rfl) rfl rfl ?_
  refine TL_q (.pointer none) (s_mv rfl) rfl rfl rfl (want_y 52 rfl rfl rfl) ?_
  refine TL_q (.bool false) (fun _ _ j _ => r_as (r_neqPn po28 (j _ _ rfl) (j _ _ rfl)) (by rfl)) rfl rfl rfl (want_y 52 rfl rfl rfl) ?_
  refine TL_v (.bool false) (s_pf rfl rfl) rfl rfl ?_
  refine TL_seq ?_
  refine T_sub [(4, pt B2 0), (5, pt B3 0), (6, .bool false), (7, pt Bx3 0), (8, pt Bx4 0), (55, .bool false)] [(7, .row (.slice ar21 ((l20).length) cr21) 39 256 ((l20).length) ((l20).flatMap T64.cells)), (1, .blk B1 (.cells #[iN wd, iN hg, .slice at1 ts.length ct] 24)), (2, .blk B2 (.cells #[.int .i64 x2, .int .i64 y2, .slice a px.length cap] 75)), (3, .blk B3 (.cells #[.int .i64 xi, .int .i64 yi, .int .i64 wi, .int .i64 hi, .slice al l.length cl] 94)), (4, .row (.slice ar4 ((px.take 66).length) cr4) 37 4 ((px.take 66).length) ((px.take 66).flatMap C4.cells)), (6, .blk Bx4 (.cells #[.int .i64 x2, .int .i64 y2, .slice ar4 ((px.take 66).length) cr4] 75)), (960, .cvs []), (5, .blk Bx3 (.cells #[iN wd, iN hg, .slice ar21 ((l20).length) cr21] 24)), (8, .blk B22 (.cells #[.int .i64 0, .int .i64 0, .slice none 0 0] 75))] (sc4 rfl rfl rfl rfl (sc rfl (sc rfl sub_nil))) (sc4 rfl rfl rfl rfl (sc4 rfl rfl rfl rfl (sc rfl sub_nil))) ?_
  refine T_cond_f rfl ?_
  refine T_skip' ?_
  refine p_seq ?_
  refine T_seq (T_region ?_)
  refine TL_v (.agg #[iN wd, iN hg, .slice ar21 ((l20).length) cr21]) (s_la ag24 sz24 rfl 5 rfl rfl rfl) rfl rfl ?_
  refine TL_callX (ι := Cv) (fun (c1 : Cv) e w w' => e = .returned (.tuple #[pt c1.p 0, .int .i64 0]) ∧ CvNew w w' [] c1 ∧ (∀ x ∈ ([] : List Cv), ∀ q ∈ x.ps, q < w.heap.size) ∧ c1.wd = wd ∧ c1.hg = hg ∧ c1.ts = (l20)) (fun c1 => .tuple #[pt c1.p 0, .int .i64 0]) _ (fun _ _ j _ => r_call (args := [.agg #[iN wd, iN hg, .slice ar21 ((l20).length) cr21]]) (enters_of Try.func15 (by kernel_rfl) rfl) (j _ _ rfl) ((cons2 (j _ _ rfl) rfl)) rfl) (fun w hm => (of_ok wd hg (l20) ar21 cr21 w (SliceAt.own T64.cells_len (hm.row 7 rfl) rfl rfl) hwd hhg hlt1).mono fun e w' ⟨d, he, hn, hf⟩ => ⟨d, he, hn, hm.cvUnder 960 rfl, hf⟩) (fun _ e w w' hm h => ⟨h.1, hm.cvGet 960 rfl h.2.1 (fun _ hx => nomatch hx)⟩) rfl rfl rfl (w_n rfl) ?_
  rintro c1 ⟨_, w1_c1, w2_c1, _, hn_c1, hu_c1, hwd_c1, hhg_c1, hts_c1⟩
  refine TL_v (.tuple #[pt c1.p 0, .int .i64 0]) (s_mv rfl) rfl rfl ?_
  refine TL_v (pt c1.p 0) (s_ex rfl rfl) rfl rfl ?_
  refine TL_v (.int .i64 0) (s_ex rfl rfl) rfl rfl ?_
  refine TL_v (pt c1.p 0) (s_as rfl) rfl rfl ?_
  refine TL_v (.int .i64 0) (s_as rfl) rfl rfl ?_
  refine TL_seq ?_
  refine T_seq ?_
  refine T_seq (T_region ?_)
  refine TL_v (.int .i64 0) (s_mv rfl) rfl rfl ?_
  refine TL_v (.bool false) (s_op r_neq rfl rfl (by rfl)) rfl rfl ?_
  refine TL_seq ?_
  refine T_cond_f rfl ?_
  refine T_skip' ?_
  refine p_seq ?_
  by_cases hin : sideI wi = true ∧ sideI hi = true ∧ 0 ≤ xi ∧ 0 ≤ yi ∧ xi ≤ ((8 * wd : Nat) : Int) - wi ∧ yi ≤ ((8 * hg : Nat) : Int) - hi
  ·skip
   obtain ⟨r1, r2, r3, r4, r5, r6⟩ := hin
   obtain ⟨wr, rfl, hwr⟩ := sideI_nat r1
   obtain ⟨hr, rfl, hhr⟩ := sideI_nat r2
   obtain ⟨xr, rfl⟩ := Int.eq_ofNat_of_zero_le r3
   obtain ⟨yr, rfl⟩ := Int.eq_ofNat_of_zero_le r4
   have rx : xr + wr ≤ 8 * wd := by omega
   have ry : yr + hr ≤ 8 * hg := by omega
   refine T_seq (T_region ?_)
   refine TL_v (pt c1.p 0) (s_mv rfl) rfl rfl ?_
   refine TL_v (pt B3 0) (s_fa fl94_0 sz3 rfl) rfl rfl ?_
   refine TL_v (iN xr) (s_ld ag3 rfl 3 rfl rfl) rfl rfl ?_
   refine TL_v (pt B3 1) (s_fa fl94_1 sz3 rfl) rfl rfl ?_
   refine TL_v (iN yr) (s_ld ag3 rfl 3 rfl rfl) rfl rfl ?_
   refine TL_v (pt B3 2) (s_fa fl94_2 sz3 rfl) rfl rfl ?_
   refine TL_v (iN wr) (s_ld ag3 rfl 3 rfl rfl) rfl rfl ?_
   refine TL_v (pt B3 3) (s_fa fl94_3 sz3 rfl) rfl rfl ?_
   refine TL_v (iN hr) (s_ld ag3 rfl 3 rfl rfl) rfl rfl ?_
   refine TL_callN (fun (_ : Option Addr × Nat) => True) (fun (ar23, cr23) => .tuple #[.agg #[iN wr, iN hr, .slice ar23 ((cutL c1.wd c1.ts xr yr wr hr).length) cr23], .int .i64 0]) (fun (ar23, cr23) => [(9, .row (.slice ar23 ((cutL c1.wd c1.ts xr yr wr hr).length) cr23) 37 4 ((cutL c1.wd c1.ts xr yr wr hr).length) ((cutL c1.wd c1.ts xr yr wr hr).flatMap C4.cells))]) (fun _ _ j _ => r_call (args := [pt c1.p 0, iN xr, iN yr, iN wr, iN hr]) (enters_of Try.func59 (by kernel_rfl) rfl) (j _ _ rfl) ((cons2 (j _ _ rfl) (cons2 (j _ _ rfl) (cons2 (j _ _ rfl) (cons2 (j _ _ rfl) (cons2 (j _ _ rfl) rfl)))))) rfl) (fun w hm => (cut_ok c1 xr yr wr hr w (hm.cv 960 rfl (List.Mem.head _)) hwr hhr (by rw [hwd_c1]; exact rx) (by rw [hhg_c1]; exact ry)).mono fun e w' ⟨a', cap', he, hb, hr⟩ => ⟨(a', cap'), trivial, he, hb, newOk1 9 hr⟩) rfl rfl rfl (w_n rfl) ?_
   rintro ⟨ar23, cr23⟩ -
   refine TL_v (.tuple #[.agg #[iN wr, iN hr, .slice ar23 ((cutL c1.wd c1.ts xr yr wr hr).length) cr23], .int .i64 0]) (s_mv rfl) rfl rfl ?_
   refine TL_v (.agg #[iN wr, iN hr, .slice ar23 ((cutL c1.wd c1.ts xr yr wr hr).length) cr23]) (s_ex rfl rfl) rfl rfl ?_
   refine TL_v (.int .i64 0) (s_ex rfl rfl) rfl rfl ?_
   refine TL_new 10 (.cells #[.int .i64 0, .int .i64 0, .slice none 0 0] 75) (fun B => pt B 0) (fun _ _ _ _ => r_alloc (v := .agg #[.int .i64 0, .int .i64 0, .slice none 0 0]) (by kernel_rfl) rfl) rfl rfl rfl (w_n rfl) ?_
   intro B24
   refine TL_store 10 (.cells #[iN wr, iN hr, .slice ar23 ((cutL c1.wd c1.ts xr yr wr hr).length) cr23] 75) rfl (s_st sz75 rfl rfl 10 rfl rfl rfl rfl rfl) rfl rfl (w_n rfl) ?_
   refine TL_v (.int .i64 0) (s_as rfl) rfl rfl ?_
   refine TL_seq ?_
   refine T_seq (T_region ?_)
   refine TL_v (.agg #[iN wd, iN hg, .slice ar21 ((l20).length) cr21]) (s_la ag24 sz24 rfl 5 rfl rfl rfl) rfl rfl ?_
   refine TL_v (pt B3 0) (s_fa fl94_0 sz3 rfl) rfl rfl ?_
   refine TL_v (iN xr) (s_ld ag3 rfl 3 rfl rfl) rfl rfl ?_
   refine TL_v (pt B3 1) (s_fa fl94_1 sz3 rfl) rfl rfl ?_
   refine TL_v (iN yr) (s_ld ag3 rfl 3 rfl rfl) rfl rfl ?_
   refine TL_v (pt B3 2) (s_fa fl94_2 sz3 rfl) rfl rfl ?_
   refine TL_v (iN wr) (s_ld ag3 rfl 3 rfl rfl) rfl rfl ?_
   refine TL_v (pt B3 3) (s_fa fl94_3 sz3 rfl) rfl rfl ?_
   refine TL_v (iN hr) (s_ld ag3 rfl 3 rfl rfl) rfl rfl ?_
   refine TL_callN (fun (_ : Option Addr × Nat) => True) (fun (ar25, cr25) => .tuple #[.agg #[iN wr, iN hr, .slice ar25 ((cutL wd l20 xr yr wr hr).length) cr25], .bool true]) (fun (ar25, cr25) => [(11, .row (.slice ar25 ((cutL wd l20 xr yr wr hr).length) cr25) 37 4 ((cutL wd l20 xr yr wr hr).length) ((cutL wd l20 xr yr wr hr).flatMap C4.cells))]) (fun _ _ j _ => r_call (args := [.agg #[iN wd, iN hg, .slice ar21 ((l20).length) cr21], iN xr, iN yr, iN wr, iN hr]) (enters_of Try.func61 (by kernel_rfl) rfl) (j _ _ rfl) ((cons2 (j _ _ rfl) (cons2 (j _ _ rfl) (cons2 (j _ _ rfl) (cons2 (j _ _ rfl) (cons2 (j _ _ rfl) rfl)))))) rfl) (fun w hm => (rcut_ok wd hg xr yr wr hr (l20) ar21 cr21 w (SliceAt.own T64.cells_len (hm.row 7 rfl) rfl rfl) (row_cap (hm.row 7 rfl)) hwd hhg hlt1 hwr hhr rx ry).mono fun e w' ⟨a', cap', he, hb, hr⟩ => ⟨(a', cap'), trivial, he, hb, newOk1 11 hr⟩) rfl rfl rfl (w_n rfl) ?_
   rintro ⟨ar25, cr25⟩ -
   refine TL_v (.tuple #[.agg #[iN wr, iN hr, .slice ar25 ((cutL wd l20 xr yr wr hr).length) cr25], .bool true]) (s_mv rfl) rfl rfl ?_
   refine TL_v (.agg #[iN wr, iN hr, .slice ar25 ((cutL wd l20 xr yr wr hr).length) cr25]) (s_ex rfl rfl) rfl rfl ?_
   refine TL_v (.bool true) (s_ex rfl rfl) rfl rfl ?_
   refine TL_new 12 (.cells #[.int .i64 0, .int .i64 0, .slice none 0 0] 75) (fun B => pt B 0) (fun _ _ _ _ => r_alloc (v := .agg #[.int .i64 0, .int .i64 0, .slice none 0 0]) (by kernel_rfl) rfl) rfl rfl rfl (w_n rfl) ?_
   intro B26
   refine TL_store 12 (.cells #[iN wr, iN hr, .slice ar25 ((cutL wd l20 xr yr wr hr).length) cr25] 75) rfl (s_st sz75 rfl rfl 12 rfl rfl rfl rfl rfl) rfl rfl (w_n rfl) ?_
   refine TL_v (.bool true) (s_as rfl) rfl rfl ?_
   refine TL_seq ?_
   refine T_sub [(4, pt B2 0), (5, pt B3 0), (6, .bool false), (7, pt Bx3 0), (8, pt Bx4 0), (13, pt c1.p 0), (15, pt B24 0), (14, .int .i64 0), (16, pt B26 0), (17, .bool true)] [(11, .row (.slice ar25 ((cutL wd l20 xr yr wr hr).length) cr25) 37 4 ((cutL wd l20 xr yr wr hr).length) ((cutL wd l20 xr yr wr hr).flatMap C4.cells)), (9, .row (.slice ar23 ((cutL c1.wd c1.ts xr yr wr hr).length) cr23) 37 4 ((cutL c1.wd c1.ts xr yr wr hr).length) ((cutL c1.wd c1.ts xr yr wr hr).flatMap C4.cells)), (960, .cvs [c1]), (7, .row (.slice ar21 ((l20).length) cr21) 39 256 ((l20).length) ((l20).flatMap T64.cells)), (1, .blk B1 (.cells #[iN wd, iN hg, .slice at1 ts.length ct] 24)), (2, .blk B2 (.cells #[.int .i64 x2, .int .i64 y2, .slice a px.length cap] 75)), (3, .blk B3 (.cells #[iN xr, iN yr, iN wr, iN hr, .slice al l.length cl] 94)), (4, .row (.slice ar4 ((px.take 66).length) cr4) 37 4 ((px.take 66).length) ((px.take 66).flatMap C4.cells)), (6, .blk Bx4 (.cells #[.int .i64 x2, .int .i64 y2, .slice ar4 ((px.take 66).length) cr4] 75)), (5, .blk Bx3 (.cells #[iN wd, iN hg, .slice ar21 ((l20).length) cr21] 24)), (8, .blk B22 (.cells #[.int .i64 0, .int .i64 0, .slice none 0 0] 75)), (10, .blk B24 (.cells #[iN wr, iN hr, .slice ar23 ((cutL c1.wd c1.ts xr yr wr hr).length) cr23] 75)), (12, .blk B26 (.cells #[iN wr, iN hr, .slice ar25 ((cutL wd l20 xr yr wr hr).length) cr25] 75))] (sc4 rfl rfl rfl rfl (sc4 rfl rfl rfl rfl (sc rfl (sc rfl sub_nil)))) (sc4 rfl rfl rfl rfl (sc4 rfl rfl rfl rfl (sc4 rfl rfl rfl rfl (sc rfl sub_nil)))) ?_
   refine T_seq ?_
   refine T_seq (T_region ?_)
   refine TL_v (.int .i64 0) (s_mv rfl) rfl rfl ?_
   refine TL_v (.bool true) (s_op r_eql rfl rfl (by rfl)) rfl rfl ?_
   refine TL_v (.bool true) (s_mv rfl) rfl rfl ?_
   refine TL_v (.bool false) (fun _ _ j _ => r_as (r_neqB (by kernel_rfl) (j _ _ rfl) (j _ _ rfl)) (by rfl)) rfl rfl ?_
   refine TL_v (.bool false) (s_mv rfl) rfl rfl ?_
   refine TL_q (.bool true) (s_mv rfl) rfl rfl rfl (want_y 96 rfl rfl rfl) ?_
   refine TL_q (.bool false) (fun _ _ j _ => r_not (b := true) (j _ _ rfl)) rfl rfl rfl (want_y 96 rfl rfl rfl) ?_
   refine TL_q (.bool false) (s_mv rfl) rfl rfl rfl (want_y 96 rfl rfl rfl) ?_
   refine TL_x 99 rfl rfl rfl rfl rfl ?_
   refine TL_x 99 rfl rfl rfl rfl rfl ?_
   refine TL_q (.bool false) (s_pf rfl rfl) rfl rfl rfl (want_y 96 rfl rfl rfl) ?_
   refine TL_v (.bool false) (s_pf rfl rfl) rfl rfl ?_
   refine TL_v (.bool false) (s_mv rfl) rfl rfl ?_
   refine TL_q (.agg #[iN wr, iN hr, .slice ar23 ((cutL c1.wd c1.ts xr yr wr hr).length) cr23]) (s_la ag75 sz75 rfl 10 rfl rfl rfl) rfl rfl rfl (want_y 104 rfl rfl rfl) ?_
   refine TL_q (.agg #[iN wr, iN hr, .slice ar25 ((cutL wd l20 xr yr wr hr).length) cr25]) (s_la ag75 sz75 rfl 12 rfl rfl rfl) rfl rfl rfl (want_y 104 rfl rfl rfl) ?_
   refine TL_call (.bool true) (fun _ _ j _ => r_call (args := [.agg #[iN wr, iN hr, .slice ar23 ((cutL c1.wd c1.ts xr yr wr hr).length) cr23], .agg #[iN wr, iN hr, .slice ar25 ((cutL wd l20 xr yr wr hr).length) cr25]]) (enters_of Try.func43 (by kernel_rfl) rfl) (j _ _ rfl) ((cons2 (j _ _ rfl) (cons2 (j _ _ rfl) rfl))) rfl) (fun w hm => (srsame_n ((wr : Nat) : Int) ((hr : Nat) : Int) (cutL c1.wd c1.ts xr yr wr hr) ar23 cr23 w (SliceAt.own C4.cells_len (hm.row 9 rfl) rfl rfl) (row_cap (hm.row 9 rfl)) ((wr : Nat) : Int) ((hr : Nat) : Int) (cutL wd l20 xr yr wr hr) ar25 cr25 (SliceAt.own C4.cells_len (hm.row 11 rfl) rfl rfl) (row_cap (hm.row 11 rfl)) (px64b hwr hhr (by simp [cutL])) (px64b hwr hhr (by simp [cutL])) ((cutL c1.wd c1.ts xr yr wr hr).length) rfl ((cutL wd l20 xr yr wr hr).length) rfl).mono fun _ _ h => ⟨h.1.trans (congrArg Ending.returned (bool_as (decide_eq_true ⟨rfl, rfl, by rw [hwd_c1, hts_c1]⟩))), h.2⟩) rfl rfl rfl (want_y 104 rfl rfl rfl) ?_
   refine TL_q (.bool false) (fun _ _ j _ => r_not (b := true) (j _ _ rfl)) rfl rfl rfl (want_y 104 rfl rfl rfl) ?_
   refine TL_v (.bool false) (s_pf rfl rfl) rfl rfl ?_
   refine TL_seq ?_
   refine T_cond_f rfl ?_
   refine T_skip' ?_
   refine p_seq ?_
   refine T_seq (T_region ?_)
   refine TL_v (pt B3 4) (s_fa fl94_4 sz44 rfl) rfl rfl ?_
   refine TL_v (.slice al l.length cl) (s_ld ag44 rfl 3 rfl rfl) rfl rfl ?_
   refine TL_v (pt B3 4) (s_fa fl94_4 sz44 rfl) rfl rfl ?_
   refine TL_v (.slice al l.length cl) (s_ld ag44 rfl 3 rfl rfl) rfl rfl ?_
   refine TL_v (iN l.length) (fun _ _ j _ => r_len sl44 (j _ _ rfl)) rfl rfl ?_
   refine TL_v (iN (min l.length 4)) (s_op r_min rfl rfl (int_as (minI _ 4))) rfl rfl ?_
   obtain ⟨l27, hl27, hn27⟩ : ∃ lz, lz = l.take (min l.length 4) ∧ lz.length = min l.length 4 := ⟨_, rfl, by rw [List.length_take]; omega⟩
   have hs27 := SliceAt.front hl (n := min l.length 4) (m := cl) (by omega) (by omega) (by omega)
   rw [← hl27] at hs27
   refine TL_v (.slice al l27.length cl) (fun ρ _ j _ => r_as (r_sliceO sl44 sz47 (j _ _ rfl) (bd_none ρ _) (bd_some (n := min l.length 4) (j _ _ rfl)) (bd_none ρ _) (by simp) (by omega) (by omega) (by omega)) (by rw [hn27]; exact slo_zero _ _ _ _)) rfl rfl ?_
   refine TL_callN (fun (_ : Option Addr × Nat) => True) (fun (ar28, cr28) => .slice ar28 ((l27).length) cr28) (fun (ar28, cr28) => [(13, .row (.slice ar28 ((l27).length) cr28) 47 2 ((l27).length) ((l27).flatMap Pt.cells))]) (fun _ _ j _ => r_call (args := [.slice al l27.length cl]) (enters_of Try.func62 (by kernel_rfl) rfl) (j _ _ rfl) ((cons2 (j _ _ rfl) rfl)) rfl) (fun w hm => (clone_ptl Pt.cells Pt.cells_len Pt.cells_one l27 al cl w (hs27.keep hm.ext) (by omega)).mono fun e w' ⟨a', cap', he, hb, hr⟩ => ⟨(a', cap'), trivial, he, hb, newOk1 13 hr⟩) rfl rfl rfl (w_n rfl) ?_
   rintro ⟨ar28, cr28⟩ -
   refine TL_v (.slice ar28 ((l27).length) cr28) (s_as rfl) rfl rfl ?_
   refine TL_seq ?_
   have e4p : l27 = l.take 4 := by rw [hl27]; exact take_min l 4
   have hP : l27.length ≤ 4 := by omega
   have hPb : ∀ u ∈ l27, inI u.x ∧ inI u.y := by rw [e4p]; exact fun u hu => hlb u (List.mem_of_mem_take hu)
   clear hn27 hl27
   refine T_seq (T_region ?_)
   refine TL_v (pt c1.p 0) (s_mv rfl) rfl rfl ?_
   refine TL_v (.agg #[.int .i64 x2, .int .i64 y2, .slice ar4 ((px.take 66).length) cr4]) (s_la ag75 sz75 rfl 6 rfl rfl rfl) rfl rfl ?_
   refine TL_v (.slice ar28 ((l27).length) cr28) (s_mv rfl) rfl rfl ?_
   refine TL_call (.tuple #[.pointer none, .int .i64 190]) (fun _ _ j _ => r_call (args := [pt c1.p 0, .agg #[.int .i64 x2, .int .i64 y2, .slice ar4 ((px.take 66).length) cr4], .slice ar28 ((l27).length) cr28]) (enters_of Try.func60 (by kernel_rfl) rfl) (j _ _ rfl) ((cons2 (j _ _ rfl) (cons2 (j _ _ rfl) (cons2 (j _ _ rfl) rfl)))) rfl) (fun w hm => lay_no c1 x2 y2 ar4 ((px.take 66).length) cr4 (l27) ar28 cr28 w (hm.cv 960 rfl (List.Mem.head _)) hno) rfl rfl rfl (w_n rfl) ?_
   refine TL_v (.tuple #[.pointer none, .int .i64 190]) (s_mv rfl) rfl rfl ?_
   refine TL_v (.pointer none) (s_ex rfl rfl) rfl rfl ?_
   refine TL_v (.int .i64 190) (s_ex rfl rfl) rfl rfl ?_
   refine TL_v (.pointer none) (s_as rfl) rfl rfl ?_
   refine TL_v (.int .i64 190) (s_as rfl) rfl rfl ?_
   refine TL_seq ?_
   refine T_sub [(4, pt B2 0), (6, .bool false), (7, pt Bx3 0), (8, pt Bx4 0), (13, pt c1.p 0), (18, .slice ar28 ((l27).length) cr28), (19, .pointer none), (14, .int .i64 190)] [(13, .row (.slice ar28 ((l27).length) cr28) 47 2 ((l27).length) ((l27).flatMap Pt.cells)), (11, .row (.slice ar25 ((cutL wd l20 xr yr wr hr).length) cr25) 37 4 ((cutL wd l20 xr yr wr hr).length) ((cutL wd l20 xr yr wr hr).flatMap C4.cells)), (9, .row (.slice ar23 ((cutL c1.wd c1.ts xr yr wr hr).length) cr23) 37 4 ((cutL c1.wd c1.ts xr yr wr hr).length) ((cutL c1.wd c1.ts xr yr wr hr).flatMap C4.cells)), (960, .cvs [c1]), (7, .row (.slice ar21 ((l20).length) cr21) 39 256 ((l20).length) ((l20).flatMap T64.cells)), (1, .blk B1 (.cells #[iN wd, iN hg, .slice at1 ts.length ct] 24)), (2, .blk B2 (.cells #[.int .i64 x2, .int .i64 y2, .slice a px.length cap] 75)), (3, .blk B3 (.cells #[iN xr, iN yr, iN wr, iN hr, .slice al l.length cl] 94)), (4, .row (.slice ar4 ((px.take 66).length) cr4) 37 4 ((px.take 66).length) ((px.take 66).flatMap C4.cells)), (6, .blk Bx4 (.cells #[.int .i64 x2, .int .i64 y2, .slice ar4 ((px.take 66).length) cr4] 75)), (5, .blk Bx3 (.cells #[iN wd, iN hg, .slice ar21 ((l20).length) cr21] 24)), (8, .blk B22 (.cells #[.int .i64 0, .int .i64 0, .slice none 0 0] 75)), (10, .blk B24 (.cells #[iN wr, iN hr, .slice ar23 ((cutL c1.wd c1.ts xr yr wr hr).length) cr23] 75)), (12, .blk B26 (.cells #[iN wr, iN hr, .slice ar25 ((cutL wd l20 xr yr wr hr).length) cr25] 75))] (sc4 rfl rfl rfl rfl (sc4 rfl rfl rfl rfl sub_nil)) (sc4 rfl rfl rfl rfl (sc4 rfl rfl rfl rfl (sc4 rfl rfl rfl rfl (sc rfl (sc rfl sub_nil))))) ?_
   refine T_seq ?_
   refine T_seq (T_region ?_)
   refine TL_v (.agg #[.int .i64 x2, .int .i64 y2, .slice ar4 ((px.take 66).length) cr4]) (s_la ag75 sz75 rfl 6 rfl rfl rfl) rfl rfl ?_
   refine TL_call (.bool false) (fun _ _ j _ => r_call (args := [.agg #[.int .i64 x2, .int .i64 y2, .slice ar4 ((px.take 66).length) cr4]]) (enters_of Try.func45 (by kernel_rfl) rfl) (j _ _ rfl) ((cons2 (j _ _ rfl) rfl)) rfl) (fun w _ => (rright_c x2 y2 ar4 ((px.take 66).length) cr4 w).mono fun _ _ h => ⟨h.1.trans (congrArg Ending.returned (bool_as (eq_false_of_ne_true hno))), h.2⟩) rfl rfl rfl (w_n rfl) ?_
   refine TL_v (.bool true) (fun _ _ j _ => r_not (b := false) (j _ _ rfl)) rfl rfl ?_
   refine TL_seq ?_
   refine T_cond_t rfl ?_
   refine T_seq (T_region ?_)
   refine TL_v (.int .i64 190) (s_mv rfl) rfl rfl ?_
   refine TL_v (.bool true) (s_op r_eql rfl rfl (by rfl)) rfl rfl ?_
   refine TL_v (.bool true) (s_mv rfl) rfl rfl ?_
   refine TL_q (.pointer none) (s_mv rfl) rfl rfl rfl (want_y 130 rfl rfl rfl) ?_
   refine TL_q (.bool true) (fun _ _ j _ => r_as (r_eqlPn po28 (j _ _ rfl) (j _ _ rfl)) (by rfl)) rfl rfl rfl (want_y 130 rfl rfl rfl) ?_
   refine TL_v (.bool true) (s_pt rfl rfl) rfl rfl ?_
   refine TL_v (.bool true) (s_as rfl) rfl rfl ?_
   refine TL_seq ?_
   refine T_ret' ?_
   refine p_then_r ?_
   refine ret_of rfl (.bool true) (fun tmps w hk hm => res1 rfl (res_tmp (hk 6 _ rfl))) (fun w hm => ?_)
   exact ⟨rfl, hm.ext⟩
  ·skip
   refine T_seq (T_region ?_)
   refine TL_v (pt c1.p 0) (s_mv rfl) rfl rfl ?_
   refine TL_v (pt B3 0) (s_fa fl94_0 sz3 rfl) rfl rfl ?_
   refine TL_v (.int .i64 xi) (s_ld ag3 rfl 3 rfl rfl) rfl rfl ?_
   refine TL_v (pt B3 1) (s_fa fl94_1 sz3 rfl) rfl rfl ?_
   refine TL_v (.int .i64 yi) (s_ld ag3 rfl 3 rfl rfl) rfl rfl ?_
   refine TL_v (pt B3 2) (s_fa fl94_2 sz3 rfl) rfl rfl ?_
   refine TL_v (.int .i64 wi) (s_ld ag3 rfl 3 rfl rfl) rfl rfl ?_
   refine TL_v (pt B3 3) (s_fa fl94_3 sz3 rfl) rfl rfl ?_
   refine TL_v (.int .i64 hi) (s_ld ag3 rfl 3 rfl rfl) rfl rfl ?_
   refine TL_call (.tuple #[.agg #[.int .i64 0, .int .i64 0, .slice none 0 0], .int .i64 2]) (fun _ _ j _ => r_call (args := [pt c1.p 0, .int .i64 xi, .int .i64 yi, .int .i64 wi, .int .i64 hi]) (enters_of Try.func59 (by kernel_rfl) rfl) (j _ _ rfl) ((cons2 (j _ _ rfl) (cons2 (j _ _ rfl) (cons2 (j _ _ rfl) (cons2 (j _ _ rfl) (cons2 (j _ _ rfl) rfl)))))) rfl) (fun w hm => cut_no c1 xi yi wi hi w (hm.cv 960 rfl (List.Mem.head _)) (by rw [hwd_c1, hhg_c1]; exact hin)) rfl rfl rfl (w_n rfl) ?_
   refine TL_v (.tuple #[.agg #[.int .i64 0, .int .i64 0, .slice none 0 0], .int .i64 2]) (s_mv rfl) rfl rfl ?_
   refine TL_v (.agg #[.int .i64 0, .int .i64 0, .slice none 0 0]) (s_ex rfl rfl) rfl rfl ?_
   refine TL_v (.int .i64 2) (s_ex rfl rfl) rfl rfl ?_
   refine TL_new 14 (.cells #[.int .i64 0, .int .i64 0, .slice none 0 0] 75) (fun B => pt B 0) (fun _ _ _ _ => r_alloc (v := .agg #[.int .i64 0, .int .i64 0, .slice none 0 0]) (by kernel_rfl) rfl) rfl rfl rfl (w_n rfl) ?_
   intro B29
   refine TL_store 14 (.cells #[.int .i64 0, .int .i64 0, .slice none 0 0] 75) rfl (s_st sz75 rfl rfl 14 rfl rfl rfl rfl rfl) rfl rfl (w_n rfl) ?_
   refine TL_v (.int .i64 2) (s_as rfl) rfl rfl ?_
   refine TL_seq ?_
   refine T_seq (T_region ?_)
   refine TL_v (.agg #[iN wd, iN hg, .slice ar21 ((l20).length) cr21]) (s_la ag24 sz24 rfl 5 rfl rfl rfl) rfl rfl ?_
   refine TL_v (pt B3 0) (s_fa fl94_0 sz3 rfl) rfl rfl ?_
   refine TL_v (.int .i64 xi) (s_ld ag3 rfl 3 rfl rfl) rfl rfl ?_
   refine TL_v (pt B3 1) (s_fa fl94_1 sz3 rfl) rfl rfl ?_
   refine TL_v (.int .i64 yi) (s_ld ag3 rfl 3 rfl rfl) rfl rfl ?_
   refine TL_v (pt B3 2) (s_fa fl94_2 sz3 rfl) rfl rfl ?_
   refine TL_v (.int .i64 wi) (s_ld ag3 rfl 3 rfl rfl) rfl rfl ?_
   refine TL_v (pt B3 3) (s_fa fl94_3 sz3 rfl) rfl rfl ?_
   refine TL_v (.int .i64 hi) (s_ld ag3 rfl 3 rfl rfl) rfl rfl ?_
   refine TL_call (.tuple #[.agg #[.int .i64 0, .int .i64 0, .slice none 0 0], .bool false]) (fun _ _ j _ => r_call (args := [.agg #[iN wd, iN hg, .slice ar21 ((l20).length) cr21], .int .i64 xi, .int .i64 yi, .int .i64 wi, .int .i64 hi]) (enters_of Try.func61 (by kernel_rfl) rfl) (j _ _ rfl) ((cons2 (j _ _ rfl) (cons2 (j _ _ rfl) (cons2 (j _ _ rfl) (cons2 (j _ _ rfl) (cons2 (j _ _ rfl) rfl)))))) rfl) (fun w _ => rcut_no wd hg (l20) ar21 cr21 xi yi wi hi w hwd hhg hin) rfl rfl rfl (w_n rfl) ?_
   refine TL_v (.tuple #[.agg #[.int .i64 0, .int .i64 0, .slice none 0 0], .bool false]) (s_mv rfl) rfl rfl ?_
   refine TL_v (.agg #[.int .i64 0, .int .i64 0, .slice none 0 0]) (s_ex rfl rfl) rfl rfl ?_
   refine TL_v (.bool false) (s_ex rfl rfl) rfl rfl ?_
   refine TL_new 15 (.cells #[.int .i64 0, .int .i64 0, .slice none 0 0] 75) (fun B => pt B 0) (fun _ _ _ _ => r_alloc (v := .agg #[.int .i64 0, .int .i64 0, .slice none 0 0]) (by kernel_rfl) rfl) rfl rfl rfl (w_n rfl) ?_
   intro B30
   refine TL_store 15 (.cells #[.int .i64 0, .int .i64 0, .slice none 0 0] 75) rfl (s_st sz75 rfl rfl 15 rfl rfl rfl rfl rfl) rfl rfl (w_n rfl) ?_
   refine TL_v (.bool false) (s_as rfl) rfl rfl ?_
   refine TL_seq ?_
   refine T_sub [(4, pt B2 0), (5, pt B3 0), (6, .bool false), (7, pt Bx3 0), (8, pt Bx4 0), (13, pt c1.p 0), (15, pt B29 0), (14, .int .i64 2), (16, pt B30 0), (17, .bool false)] [(960, .cvs [c1]), (7, .row (.slice ar21 ((l20).length) cr21) 39 256 ((l20).length) ((l20).flatMap T64.cells)), (1, .blk B1 (.cells #[iN wd, iN hg, .slice at1 ts.length ct] 24)), (2, .blk B2 (.cells #[.int .i64 x2, .int .i64 y2, .slice a px.length cap] 75)), (3, .blk B3 (.cells #[.int .i64 xi, .int .i64 yi, .int .i64 wi, .int .i64 hi, .slice al l.length cl] 94)), (4, .row (.slice ar4 ((px.take 66).length) cr4) 37 4 ((px.take 66).length) ((px.take 66).flatMap C4.cells)), (6, .blk Bx4 (.cells #[.int .i64 x2, .int .i64 y2, .slice ar4 ((px.take 66).length) cr4] 75)), (5, .blk Bx3 (.cells #[iN wd, iN hg, .slice ar21 ((l20).length) cr21] 24)), (8, .blk B22 (.cells #[.int .i64 0, .int .i64 0, .slice none 0 0] 75)), (14, .blk B29 (.cells #[.int .i64 0, .int .i64 0, .slice none 0 0] 75)), (15, .blk B30 (.cells #[.int .i64 0, .int .i64 0, .slice none 0 0] 75))] (sc4 rfl rfl rfl rfl (sc4 rfl rfl rfl rfl (sc rfl (sc rfl sub_nil)))) (sc4 rfl rfl rfl rfl (sc4 rfl rfl rfl rfl (sc rfl (sc rfl (sc rfl sub_nil))))) ?_
   refine T_seq ?_
   refine T_seq (T_region ?_)
   refine TL_v (.int .i64 2) (s_mv rfl) rfl rfl ?_
   refine TL_v (.bool false) (s_op r_eql rfl rfl (by rfl)) rfl rfl ?_
   refine TL_v (.bool false) (s_mv rfl) rfl rfl ?_
   refine TL_v (.bool false) (fun _ _ j _ => r_as (r_neqB (by kernel_rfl) (j _ _ rfl) (j _ _ rfl)) (by rfl)) rfl rfl ?_
   refine TL_v (.bool false) (s_mv rfl) rfl rfl ?_
   refine TL_q (.bool false) (s_mv rfl) rfl rfl rfl (want_y 96 rfl rfl rfl) ?_
   refine TL_q (.bool true) (fun _ _ j _ => r_not (b := false) (j _ _ rfl)) rfl rfl rfl (want_y 96 rfl rfl rfl) ?_
   refine TL_q (.bool true) (s_mv rfl) rfl rfl rfl (want_y 96 rfl rfl rfl) ?_
   refine TL_q (.int .i64 2) (s_mv rfl) rfl rfl rfl (want_y 99 rfl rfl rfl) ?_
   refine TL_q (.bool false) (s_op r_neq rfl rfl (by rfl)) rfl rfl rfl (want_y 99 rfl rfl rfl) ?_
   refine TL_q (.bool false) (s_pt rfl rfl) rfl rfl rfl (want_y 96 rfl rfl rfl) ?_
   refine TL_v (.bool false) (s_pf rfl rfl) rfl rfl ?_
   refine TL_v (.bool false) (s_mv rfl) rfl rfl ?_
   refine TL_q (.agg #[.int .i64 0, .int .i64 0, .slice none 0 0]) (s_la ag75 sz75 rfl 14 rfl rfl rfl) rfl rfl rfl (want_y 104 rfl rfl rfl) ?_
   refine TL_q (.agg #[.int .i64 0, .int .i64 0, .slice none 0 0]) (s_la ag75 sz75 rfl 15 rfl rfl rfl) rfl rfl rfl (want_y 104 rfl rfl rfl) ?_
   refine TL_call (.bool true) (fun _ _ j _ => r_call (args := [.agg #[.int .i64 0, .int .i64 0, .slice none 0 0], .agg #[.int .i64 0, .int .i64 0, .slice none 0 0]]) (enters_of Try.func43 (by kernel_rfl) rfl) (j _ _ rfl) ((cons2 (j _ _ rfl) (cons2 (j _ _ rfl) rfl))) rfl) (fun w _ => (srsame_n (0 : Int) (0 : Int) [] none 0 w (sliceNil w) (by decide) (0 : Int) (0 : Int) [] none 0 (sliceNil w) (by decide) (by first | omega | (simp; done) | (simp; omega)) (by first | omega | (simp; done) | (simp; omega)) 0 rfl 0 rfl).mono fun _ _ h => ⟨h.1.trans (congrArg Ending.returned (bool_as (decide_eq_true ⟨rfl, rfl, rfl⟩))), h.2⟩) rfl rfl rfl (want_y 104 rfl rfl rfl) ?_
   refine TL_q (.bool false) (fun _ _ j _ => r_not (b := true) (j _ _ rfl)) rfl rfl rfl (want_y 104 rfl rfl rfl) ?_
   refine TL_v (.bool false) (s_pf rfl rfl) rfl rfl ?_
   refine TL_seq ?_
   refine T_cond_f rfl ?_
   refine T_skip' ?_
   refine p_seq ?_
   refine T_seq (T_region ?_)
   refine TL_v (pt B3 4) (s_fa fl94_4 sz44 rfl) rfl rfl ?_
   refine TL_v (.slice al l.length cl) (s_ld ag44 rfl 3 rfl rfl) rfl rfl ?_
   refine TL_v (pt B3 4) (s_fa fl94_4 sz44 rfl) rfl rfl ?_
   refine TL_v (.slice al l.length cl) (s_ld ag44 rfl 3 rfl rfl) rfl rfl ?_
   refine TL_v (iN l.length) (fun _ _ j _ => r_len sl44 (j _ _ rfl)) rfl rfl ?_
   refine TL_v (iN (min l.length 4)) (s_op r_min rfl rfl (int_as (minI _ 4))) rfl rfl ?_
   obtain ⟨l31, hl31, hn31⟩ : ∃ lz, lz = l.take (min l.length 4) ∧ lz.length = min l.length 4 := ⟨_, rfl, by rw [List.length_take]; omega⟩
   have hs31 := SliceAt.front hl (n := min l.length 4) (m := cl) (by omega) (by omega) (by omega)
   rw [← hl31] at hs31
   refine TL_v (.slice al l31.length cl) (fun ρ _ j _ => r_as (r_sliceO sl44 sz47 (j _ _ rfl) (bd_none ρ _) (bd_some (n := min l.length 4) (j _ _ rfl)) (bd_none ρ _) (by simp) (by omega) (by omega) (by omega)) (by rw [hn31]; exact slo_zero _ _ _ _)) rfl rfl ?_
   refine TL_callN (fun (_ : Option Addr × Nat) => True) (fun (ar32, cr32) => .slice ar32 ((l31).length) cr32) (fun (ar32, cr32) => [(16, .row (.slice ar32 ((l31).length) cr32) 47 2 ((l31).length) ((l31).flatMap Pt.cells))]) (fun _ _ j _ => r_call (args := [.slice al l31.length cl]) (enters_of Try.func62 (by kernel_rfl) rfl) (j _ _ rfl) ((cons2 (j _ _ rfl) rfl)) rfl) (fun w hm => (clone_ptl Pt.cells Pt.cells_len Pt.cells_one l31 al cl w (hs31.keep hm.ext) (by omega)).mono fun e w' ⟨a', cap', he, hb, hr⟩ => ⟨(a', cap'), trivial, he, hb, newOk1 16 hr⟩) rfl rfl rfl (w_n rfl) ?_
   rintro ⟨ar32, cr32⟩ -
   refine TL_v (.slice ar32 ((l31).length) cr32) (s_as rfl) rfl rfl ?_
   refine TL_seq ?_
   have e4p : l31 = l.take 4 := by rw [hl31]; exact take_min l 4
   have hP : l31.length ≤ 4 := by omega
   have hPb : ∀ u ∈ l31, inI u.x ∧ inI u.y := by rw [e4p]; exact fun u hu => hlb u (List.mem_of_mem_take hu)
   clear hn31 hl31
   refine T_seq (T_region ?_)
   refine TL_v (pt c1.p 0) (s_mv rfl) rfl rfl ?_
   refine TL_v (.agg #[.int .i64 x2, .int .i64 y2, .slice ar4 ((px.take 66).length) cr4]) (s_la ag75 sz75 rfl 6 rfl rfl rfl) rfl rfl ?_
   refine TL_v (.slice ar32 ((l31).length) cr32) (s_mv rfl) rfl rfl ?_
   refine TL_call (.tuple #[.pointer none, .int .i64 190]) (fun _ _ j _ => r_call (args := [pt c1.p 0, .agg #[.int .i64 x2, .int .i64 y2, .slice ar4 ((px.take 66).length) cr4], .slice ar32 ((l31).length) cr32]) (enters_of Try.func60 (by kernel_rfl) rfl) (j _ _ rfl) ((cons2 (j _ _ rfl) (cons2 (j _ _ rfl) (cons2 (j _ _ rfl) rfl)))) rfl) (fun w hm => lay_no c1 x2 y2 ar4 ((px.take 66).length) cr4 (l31) ar32 cr32 w (hm.cv 960 rfl (List.Mem.head _)) hno) rfl rfl rfl (w_n rfl) ?_
   refine TL_v (.tuple #[.pointer none, .int .i64 190]) (s_mv rfl) rfl rfl ?_
   refine TL_v (.pointer none) (s_ex rfl rfl) rfl rfl ?_
   refine TL_v (.int .i64 190) (s_ex rfl rfl) rfl rfl ?_
   refine TL_v (.pointer none) (s_as rfl) rfl rfl ?_
   refine TL_v (.int .i64 190) (s_as rfl) rfl rfl ?_
   refine TL_seq ?_
   refine T_sub [(4, pt B2 0), (6, .bool false), (7, pt Bx3 0), (8, pt Bx4 0), (13, pt c1.p 0), (18, .slice ar32 ((l31).length) cr32), (19, .pointer none), (14, .int .i64 190)] [(16, .row (.slice ar32 ((l31).length) cr32) 47 2 ((l31).length) ((l31).flatMap Pt.cells)), (960, .cvs [c1]), (7, .row (.slice ar21 ((l20).length) cr21) 39 256 ((l20).length) ((l20).flatMap T64.cells)), (1, .blk B1 (.cells #[iN wd, iN hg, .slice at1 ts.length ct] 24)), (2, .blk B2 (.cells #[.int .i64 x2, .int .i64 y2, .slice a px.length cap] 75)), (3, .blk B3 (.cells #[.int .i64 xi, .int .i64 yi, .int .i64 wi, .int .i64 hi, .slice al l.length cl] 94)), (4, .row (.slice ar4 ((px.take 66).length) cr4) 37 4 ((px.take 66).length) ((px.take 66).flatMap C4.cells)), (6, .blk Bx4 (.cells #[.int .i64 x2, .int .i64 y2, .slice ar4 ((px.take 66).length) cr4] 75)), (5, .blk Bx3 (.cells #[iN wd, iN hg, .slice ar21 ((l20).length) cr21] 24)), (8, .blk B22 (.cells #[.int .i64 0, .int .i64 0, .slice none 0 0] 75)), (14, .blk B29 (.cells #[.int .i64 0, .int .i64 0, .slice none 0 0] 75)), (15, .blk B30 (.cells #[.int .i64 0, .int .i64 0, .slice none 0 0] 75))] (sc4 rfl rfl rfl rfl (sc4 rfl rfl rfl rfl sub_nil)) (sc4 rfl rfl rfl rfl (sc4 rfl rfl rfl rfl (sc4 rfl rfl rfl rfl sub_nil))) ?_
   refine T_seq ?_
   refine T_seq (T_region ?_)
   refine TL_v (.agg #[.int .i64 x2, .int .i64 y2, .slice ar4 ((px.take 66).length) cr4]) (s_la ag75 sz75 rfl 6 rfl rfl rfl) rfl rfl ?_
   refine TL_call (.bool false) (fun _ _ j _ => r_call (args := [.agg #[.int .i64 x2, .int .i64 y2, .slice ar4 ((px.take 66).length) cr4]]) (enters_of Try.func45 (by kernel_rfl) rfl) (j _ _ rfl) ((cons2 (j _ _ rfl) rfl)) rfl) (fun w _ => (rright_c x2 y2 ar4 ((px.take 66).length) cr4 w).mono fun _ _ h => ⟨h.1.trans (congrArg Ending.returned (bool_as (eq_false_of_ne_true hno))), h.2⟩) rfl rfl rfl (w_n rfl) ?_
   refine TL_v (.bool true) (fun _ _ j _ => r_not (b := false) (j _ _ rfl)) rfl rfl ?_
   refine TL_seq ?_
   refine T_cond_t rfl ?_
   refine T_seq (T_region ?_)
   refine TL_v (.int .i64 190) (s_mv rfl) rfl rfl ?_
   refine TL_v (.bool true) (s_op r_eql rfl rfl (by rfl)) rfl rfl ?_
   refine TL_v (.bool true) (s_mv rfl) rfl rfl ?_
   refine TL_q (.pointer none) (s_mv rfl) rfl rfl rfl (want_y 130 rfl rfl rfl) ?_
   refine TL_q (.bool true) (fun _ _ j _ => r_as (r_eqlPn po28 (j _ _ rfl) (j _ _ rfl)) (by rfl)) rfl rfl rfl (want_y 130 rfl rfl rfl) ?_
   refine TL_v (.bool true) (s_pt rfl rfl) rfl rfl ?_
   refine TL_v (.bool true) (s_as rfl) rfl rfl ?_
   refine TL_seq ?_
   refine T_ret' ?_
   refine p_then_r ?_
   refine ret_of rfl (.bool true) (fun tmps w hk hm => res1 rfl (res_tmp (hk 6 _ rfl))) (fun w hm => ?_)
   exact ⟨rfl, hm.ext⟩

set_option maxHeartbeats 4000000 in
theorem slays_ok (wd hg : Nat) (ts : List T64) (at1 : Option Addr) (ct : Nat) (p q : Nat) (px : List C4) (a : Option Addr) (cap : Nat) (xi yi wi hi : Int) (l : List Pt) (al : Option Addr) (cl : Nat) (w : World) (ht : SliceAt w at1 ct 256 T64.cells ts) (hct : ct ≤ Go.maxLen) (hts : TsOk ts) (hv : SliceAt w a cap 4 C4.cells px) (hcap : cap ≤ Go.maxLen) (hpx : ∀ c ∈ px, c.ok) (hR : inI xi ∧ inI yi ∧ inI wi ∧ inI hi) (hl : SliceAt w al cl 2 Pt.cells l) (hcl : cl ≤ Go.maxLen) (hlb : ∀ u ∈ l, inI u.x ∧ inI u.y) (hwd : 1 ≤ wd ∧ wd ≤ 4) (hhg : 1 ≤ hg ∧ hg ≤ 4) (hlenT : (ts.take 17).length = wd * hg) (hp8 : 1 ≤ p ∧ p ≤ 8) (hq8 : 1 ≤ q ∧ q ≤ 8) (hlen : (px.take 66).length = p * q) : Calls Try.prog 11 #[.agg #[.int .i64 (wd : Int), .int .i64 (hg : Int), .slice at1 ts.length ct], .agg #[.int .i64 (p : Int), .int .i64 (q : Int), .slice a px.length cap], .agg #[.int .i64 xi, .int .i64 yi, .int .i64 wi, .int .i64 hi, .slice al l.length cl]] w fun e w' => e = .returned (.bool true) ∧ Below w.heap.size w w' := by
 have hvl := hv.1
 have htl := ht.1
 have hll := hl.1
 unfold Go.maxLen at hcap hct hcl
 have h66 : (px.take 66).length ≤ 66 := by rw [List.length_take]; omega
 have h64 := size8 hp8 hq8
 have h16 := size4 hwd hhg
 obtain ⟨⟨b1, b2⟩, ⟨b3, b4⟩, ⟨b5, b6⟩, ⟨b7, b8⟩⟩ := hR
 refine calls_of_T (l := [.agg #[iN wd, iN hg, .slice at1 ts.length ct], .agg #[iN p, iN q, .slice a px.length cap], .agg #[.int .i64 xi, .int .i64 yi, .int .i64 wi, .int .i64 hi, .slice al l.length cl]]) 170 Try.func11 rfl rfl rfl ?_
 show T _ _ _ [(0, .agg #[iN wd, iN hg, .slice at1 ts.length ct]), (1, .agg #[iN p, iN q, .slice a px.length cap]), (2, .agg #[.int .i64 xi, .int .i64 yi, .int .i64 wi, .int .i64 hi, .slice al l.length cl])] []
 refine T_seq (T_region ?_)
 refine TL_new 1 (.cells #[iN wd, iN hg, .slice at1 ts.length ct] 24) (fun B => pt B 0) (fun _ _ j _ => r_box (j _ _ rfl) rfl) rfl rfl rfl (w_n rfl) ?_
 intro B1
 refine TL_new 2 (.cells #[iN p, iN q, .slice a px.length cap] 75) (fun B => pt B 0) (fun _ _ j _ => r_box (j _ _ rfl) rfl) rfl rfl rfl (w_n rfl) ?_
 intro B2
 refine TL_new 3 (.cells #[.int .i64 xi, .int .i64 yi, .int .i64 wi, .int .i64 hi, .slice al l.length cl] 94) (fun B => pt B 0) (fun _ _ j _ => r_box (j _ _ rfl) rfl) rfl rfl rfl (w_n rfl) ?_
 intro B3
 refine TL_v (.bool false) (s_as rfl) rfl rfl ?_
 refine TL_seq ?_
 refine T_seq ?_
 refine T_mem (_ :: _) (fun _ hm => hm.cvs0 960) ?_
 refine T_seq (T_region ?_)
 refine TL_call (.bool true) (fun _ _ j _ => r_call (args := []) (enters_of Try.func39 (by kernel_rfl) rfl) (j _ _ rfl) (by rfl) rfl) (fun w _ => swakes_c w) rfl rfl rfl (w_n rfl) ?_
 refine TL_v (.bool false) (fun _ _ j _ => r_not (b := true) (j _ _ rfl)) rfl rfl ?_
 refine TL_seq ?_
 refine T_cond_f rfl ?_
 refine T_skip' ?_
 refine p_seq ?_
 refine T_join (ι := (Option Addr) × Nat × Nat × Nat) (fun _ => True) (fun (z : (Option Addr) × Nat × Nat × Nat) => match z with | (ar4, cr4, Bx3, Bx4) => [(4, pt B2 0), (5, pt B3 0), (6, .bool false), (7, pt Bx3 0), (8, pt Bx4 0)]) (fun (z : (Option Addr) × Nat × Nat × Nat) => match z with | (ar4, cr4, Bx3, Bx4) => [(1, .blk B1 (.cells #[iN wd, iN hg, .slice at1 ts.length ct] 24)), (2, .blk B2 (.cells #[iN p, iN q, .slice a px.length cap] 75)), (3, .blk B3 (.cells #[.int .i64 xi, .int .i64 yi, .int .i64 wi, .int .i64 hi, .slice al l.length cl] 94)), (4, .row (.slice ar4 ((px.take 66).length) cr4) 37 4 ((px.take 66).length) ((px.take 66).flatMap C4.cells)), (5, .blk Bx3 (.cells #[iN wd, iN hg, .slice at1 ts.length ct] 24)), (6, .blk Bx4 (.cells #[iN p, iN q, .slice ar4 ((px.take 66).length) cr4] 75)), (960, .cvs [])]) (T_draw (V := [(0, .agg #[iN wd, iN hg, .slice at1 ts.length ct]), (1, .agg #[iN p, iN q, .slice a px.length cap])]) [0, 0, 2, 0, 0, 31, 63] [[(3, none)], [(4, none)], [(26, some 1)], [], [], [(7, some 3), (25, some 0)], [(8, some 4), (27, some 2)]] 124 mixed (by kernel_rfl) ?_) (fun z hz => ?_)
 ·skip
  refine G_step [0, 1] 2 [3, 4] (by kernel_rfl) (allM (all_cons (q_r (.agg #[iN wd, iN hg, .slice at1 ts.length ct]) rfl rfl rfl (s_la ag24 sz24 rfl 1 rfl rfl rfl)) (all_cons (q_r (.agg #[iN p, iN q, .slice a px.length cap]) rfl rfl rfl (s_la ag75 sz75 rfl 2 rfl rfl rfl)) all_nil))) (allM (all_cons ?_ (all_cons ?_ (all_cons ?_ all_nil))))
  ·skip
   refine LOb_callN (fun (_ : Option Addr × Nat) => True) (fun (ar5, cr5) => .agg #[iN p, iN q, .slice ar5 ((px.take 66).length) cr5]) (fun (ar5, cr5) => [(4, .row (.slice ar5 ((px.take 66).length) cr5) 37 4 ((px.take 66).length) ((px.take 66).flatMap C4.cells))]) (fun (ar5, cr5) => []) rfl (wv_n rfl) rfl rfl (fun _ _ j _ => r_call (args := [.agg #[iN p, iN q, .slice a px.length cap]]) (enters_of Try.func47 (by kernel_rfl) rfl) (j _ _ rfl) ((cons2 (j _ _ rfl) rfl)) rfl) (fun w hm => (sown_c ((p : Nat) : Int) ((q : Nat) : Int) px a cap w (hv.keep hm.ext) hcap).mono fun e w' ⟨a', cap', he, hb, hr⟩ => ⟨(a', cap'), trivial, he, hb, newOk1 4 hr⟩) (fun (ar5, cr5) => by kernel_rfl) ?_
   rintro ⟨ar5, cr5⟩ -
   refine G_step [0] 3 [4] (by kernel_rfl) (allM (all_cons (q_r (.agg #[iN wd, iN hg, .slice at1 ts.length ct]) rfl rfl rfl (s_la ag24 sz24 rfl 1 rfl rfl rfl)) all_nil)) (allM (all_cons ?_ (all_cons ?_ all_nil)))
   ·skip
    refine LOb_new 5 (.cells #[.int .i64 0, .int .i64 0, .slice none 0 0] 24) (fun B => pt B 0) (fun B => []) rfl (wv_n rfl) rfl rfl (fun _ _ _ _ => r_alloc (v := .agg #[.int .i64 0, .int .i64 0, .slice none 0 0]) (by kernel_rfl) rfl) (fun B => by kernel_rfl) ?_
    intro B6
    refine G_step [0] 4 [] (by kernel_rfl) (allM (all_cons (q_r (.agg #[iN wd, iN hg, .slice at1 ts.length ct]) rfl rfl rfl (s_la ag24 sz24 rfl 1 rfl rfl rfl)) all_nil)) (allM (all_cons ?_ all_nil))
    refine LOb_new 6 (.cells #[.int .i64 0, .int .i64 0, .slice none 0 0] 75) (fun B => pt B 0) (fun B => []) rfl (wv_n rfl) rfl rfl (fun _ _ _ _ => r_alloc (v := .agg #[.int .i64 0, .int .i64 0, .slice none 0 0]) (by kernel_rfl) rfl) (fun B => by kernel_rfl) ?_
    intro B7
    refine G_step [0] 5 [] (by kernel_rfl) (allM (all_cons (q_r (.agg #[iN wd, iN hg, .slice at1 ts.length ct]) rfl rfl rfl (s_la ag24 sz24 rfl 1 rfl rfl rfl)) all_nil)) (allM (all_cons ?_ all_nil))
    refine LOb_store 5 (.cells #[iN wd, iN hg, .slice at1 ts.length ct] 24) [] rfl (wv_n rfl) rfl rfl rfl (s_st sz24 rfl rfl 5 rfl rfl rfl rfl rfl) (by kernel_rfl) ?_
    refine G_step [] 6 [] (by kernel_rfl) (allM all_nil) (allM (all_cons ?_ all_nil))
    refine LOb_store 6 (.cells #[iN p, iN q, .slice ar5 ((px.take 66).length) cr5] 75) [] rfl (wv_n rfl) rfl rfl rfl (s_st sz75 rfl rfl 6 rfl rfl rfl rfl rfl) (by kernel_rfl) ?_
    exact G_lastQ [] [(4, pt B2 0), (5, pt B3 0), (6, .bool false), (7, pt B6 0), (8, pt B7 0)] (by kernel_rfl) (allM all_nil) (end_old rfl rfl (end_old rfl rfl (end_old rfl rfl (end_new 3 rfl rfl (end_new 4 rfl rfl end_nil))))) (fun a w hf hm => At_intro (ar5, cr5, B6, B7) trivial hf hm (sc4 rfl rfl rfl rfl (sc rfl sub_nil)) (sc4 rfl rfl rfl rfl (sc rfl (sc rfl (sc rfl sub_nil)))))
   ·skip
    refine LOb_new 6 (.cells #[.int .i64 0, .int .i64 0, .slice none 0 0] 75) (fun B => pt B 0) (fun B => []) rfl (wv_n rfl) rfl rfl (fun _ _ _ _ => r_alloc (v := .agg #[.int .i64 0, .int .i64 0, .slice none 0 0]) (by kernel_rfl) rfl) (fun B => by kernel_rfl) ?_
    intro B8
    refine G_step [0] 3 [] (by kernel_rfl) (allM (all_cons (q_r (.agg #[iN wd, iN hg, .slice at1 ts.length ct]) rfl rfl rfl (s_la ag24 sz24 rfl 1 rfl rfl rfl)) all_nil)) (allM (all_cons ?_ all_nil))
    refine LOb_new 5 (.cells #[.int .i64 0, .int .i64 0, .slice none 0 0] 24) (fun B => pt B 0) (fun B => []) rfl (wv_n rfl) rfl rfl (fun _ _ _ _ => r_alloc (v := .agg #[.int .i64 0, .int .i64 0, .slice none 0 0]) (by kernel_rfl) rfl) (fun B => by kernel_rfl) ?_
    intro B9
    refine G_step [0] 5 [] (by kernel_rfl) (allM (all_cons (q_r (.agg #[iN wd, iN hg, .slice at1 ts.length ct]) rfl rfl rfl (s_la ag24 sz24 rfl 1 rfl rfl rfl)) all_nil)) (allM (all_cons ?_ all_nil))
    refine LOb_store 5 (.cells #[iN wd, iN hg, .slice at1 ts.length ct] 24) [] rfl (wv_n rfl) rfl rfl rfl (s_st sz24 rfl rfl 5 rfl rfl rfl rfl rfl) (by kernel_rfl) ?_
    refine G_step [] 6 [] (by kernel_rfl) (allM all_nil) (allM (all_cons ?_ all_nil))
    refine LOb_store 6 (.cells #[iN p, iN q, .slice ar5 ((px.take 66).length) cr5] 75) [] rfl (wv_n rfl) rfl rfl rfl (s_st sz75 rfl rfl 6 rfl rfl rfl rfl rfl) (by kernel_rfl) ?_
    exact G_lastQ [] [(4, pt B2 0), (5, pt B3 0), (6, .bool false), (7, pt B9 0), (8, pt B8 0)] (by kernel_rfl) (allM all_nil) (end_old rfl rfl (end_old rfl rfl (end_old rfl rfl (end_new 3 rfl rfl (end_new 4 rfl rfl end_nil))))) (fun a w hf hm => At_intro (ar5, cr5, B9, B8) trivial hf hm (sc4 rfl rfl rfl rfl (sc rfl sub_nil)) (sc4 rfl rfl rfl rfl (sc rfl (sc rfl (sc rfl sub_nil)))))
  ·skip
   refine LOb_new 5 (.cells #[.int .i64 0, .int .i64 0, .slice none 0 0] 24) (fun B => pt B 0) (fun B => []) rfl (wv_n rfl) rfl rfl (fun _ _ _ _ => r_alloc (v := .agg #[.int .i64 0, .int .i64 0, .slice none 0 0]) (by kernel_rfl) rfl) (fun B => by kernel_rfl) ?_
   intro B10
   refine G_step [0, 1] 2 [4] (by kernel_rfl) (allM (all_cons (q_r (.agg #[iN wd, iN hg, .slice at1 ts.length ct]) rfl rfl rfl (s_la ag24 sz24 rfl 1 rfl rfl rfl)) (all_cons (q_r (.agg #[iN p, iN q, .slice a px.length cap]) rfl rfl rfl (s_la ag75 sz75 rfl 2 rfl rfl rfl)) all_nil))) (allM (all_cons ?_ (all_cons ?_ all_nil)))
   ·skip
    refine LOb_callN (fun (_ : Option Addr × Nat) => True) (fun (ar11, cr11) => .agg #[iN p, iN q, .slice ar11 ((px.take 66).length) cr11]) (fun (ar11, cr11) => [(4, .row (.slice ar11 ((px.take 66).length) cr11) 37 4 ((px.take 66).length) ((px.take 66).flatMap C4.cells))]) (fun (ar11, cr11) => []) rfl (wv_n rfl) rfl rfl (fun _ _ j _ => r_call (args := [.agg #[iN p, iN q, .slice a px.length cap]]) (enters_of Try.func47 (by kernel_rfl) rfl) (j _ _ rfl) ((cons2 (j _ _ rfl) rfl)) rfl) (fun w hm => (sown_c ((p : Nat) : Int) ((q : Nat) : Int) px a cap w (hv.keep hm.ext) hcap).mono fun e w' ⟨a', cap', he, hb, hr⟩ => ⟨(a', cap'), trivial, he, hb, newOk1 4 hr⟩) (fun (ar11, cr11) => by kernel_rfl) ?_
    rintro ⟨ar11, cr11⟩ -
    refine G_step [0] 4 [] (by kernel_rfl) (allM (all_cons (q_r (.agg #[iN wd, iN hg, .slice at1 ts.length ct]) rfl rfl rfl (s_la ag24 sz24 rfl 1 rfl rfl rfl)) all_nil)) (allM (all_cons ?_ all_nil))
    refine LOb_new 6 (.cells #[.int .i64 0, .int .i64 0, .slice none 0 0] 75) (fun B => pt B 0) (fun B => []) rfl (wv_n rfl) rfl rfl (fun _ _ _ _ => r_alloc (v := .agg #[.int .i64 0, .int .i64 0, .slice none 0 0]) (by kernel_rfl) rfl) (fun B => by kernel_rfl) ?_
    intro B12
    refine G_step [0] 5 [] (by kernel_rfl) (allM (all_cons (q_r (.agg #[iN wd, iN hg, .slice at1 ts.length ct]) rfl rfl rfl (s_la ag24 sz24 rfl 1 rfl rfl rfl)) all_nil)) (allM (all_cons ?_ all_nil))
    refine LOb_store 5 (.cells #[iN wd, iN hg, .slice at1 ts.length ct] 24) [] rfl (wv_n rfl) rfl rfl rfl (s_st sz24 rfl rfl 5 rfl rfl rfl rfl rfl) (by kernel_rfl) ?_
    refine G_step [] 6 [] (by kernel_rfl) (allM all_nil) (allM (all_cons ?_ all_nil))
    refine LOb_store 6 (.cells #[iN p, iN q, .slice ar11 ((px.take 66).length) cr11] 75) [] rfl (wv_n rfl) rfl rfl rfl (s_st sz75 rfl rfl 6 rfl rfl rfl rfl rfl) (by kernel_rfl) ?_
    exact G_lastQ [] [(4, pt B2 0), (5, pt B3 0), (6, .bool false), (7, pt B10 0), (8, pt B12 0)] (by kernel_rfl) (allM all_nil) (end_old rfl rfl (end_old rfl rfl (end_old rfl rfl (end_new 3 rfl rfl (end_new 4 rfl rfl end_nil))))) (fun a w hf hm => At_intro (ar11, cr11, B10, B12) trivial hf hm (sc4 rfl rfl rfl rfl (sc rfl sub_nil)) (sc4 rfl rfl rfl rfl (sc rfl (sc rfl (sc rfl sub_nil)))))
   ·skip
    refine LOb_new 6 (.cells #[.int .i64 0, .int .i64 0, .slice none 0 0] 75) (fun B => pt B 0) (fun B => []) rfl (wv_n rfl) rfl rfl (fun _ _ _ _ => r_alloc (v := .agg #[.int .i64 0, .int .i64 0, .slice none 0 0]) (by kernel_rfl) rfl) (fun B => by kernel_rfl) ?_
    intro B13
    refine G_step [0, 1] 2 [] (by kernel_rfl) (allM (all_cons (q_r (.agg #[iN wd, iN hg, .slice at1 ts.length ct]) rfl rfl rfl (s_la ag24 sz24 rfl 1 rfl rfl rfl)) (all_cons (q_r (.agg #[iN p, iN q, .slice a px.length cap]) rfl rfl rfl (s_la ag75 sz75 rfl 2 rfl rfl rfl)) all_nil))) (allM (all_cons ?_ all_nil))
    refine LOb_callN (fun (_ : Option Addr × Nat) => True) (fun (ar14, cr14) => .agg #[iN p, iN q, .slice ar14 ((px.take 66).length) cr14]) (fun (ar14, cr14) => [(4, .row (.slice ar14 ((px.take 66).length) cr14) 37 4 ((px.take 66).length) ((px.take 66).flatMap C4.cells))]) (fun (ar14, cr14) => []) rfl (wv_n rfl) rfl rfl (fun _ _ j _ => r_call (args := [.agg #[iN p, iN q, .slice a px.length cap]]) (enters_of Try.func47 (by kernel_rfl) rfl) (j _ _ rfl) ((cons2 (j _ _ rfl) rfl)) rfl) (fun w hm => (sown_c ((p : Nat) : Int) ((q : Nat) : Int) px a cap w (hv.keep hm.ext) hcap).mono fun e w' ⟨a', cap', he, hb, hr⟩ => ⟨(a', cap'), trivial, he, hb, newOk1 4 hr⟩) (fun (ar14, cr14) => by kernel_rfl) ?_
    rintro ⟨ar14, cr14⟩ -
    refine G_step [0] 5 [] (by kernel_rfl) (allM (all_cons (q_r (.agg #[iN wd, iN hg, .slice at1 ts.length ct]) rfl rfl rfl (s_la ag24 sz24 rfl 1 rfl rfl rfl)) all_nil)) (allM (all_cons ?_ all_nil))
    refine LOb_store 5 (.cells #[iN wd, iN hg, .slice at1 ts.length ct] 24) [] rfl (wv_n rfl) rfl rfl rfl (s_st sz24 rfl rfl 5 rfl rfl rfl rfl rfl) (by kernel_rfl) ?_
    refine G_step [] 6 [] (by kernel_rfl) (allM all_nil) (allM (all_cons ?_ all_nil))
    refine LOb_store 6 (.cells #[iN p, iN q, .slice ar14 ((px.take 66).length) cr14] 75) [] rfl (wv_n rfl) rfl rfl rfl (s_st sz75 rfl rfl 6 rfl rfl rfl rfl rfl) (by kernel_rfl) ?_
    exact G_lastQ [] [(4, pt B2 0), (5, pt B3 0), (6, .bool false), (7, pt B10 0), (8, pt B13 0)] (by kernel_rfl) (allM all_nil) (end_old rfl rfl (end_old rfl rfl (end_old rfl rfl (end_new 3 rfl rfl (end_new 4 rfl rfl end_nil))))) (fun a w hf hm => At_intro (ar14, cr14, B10, B13) trivial hf hm (sc4 rfl rfl rfl rfl (sc rfl sub_nil)) (sc4 rfl rfl rfl rfl (sc rfl (sc rfl (sc rfl sub_nil)))))
  ·skip
   refine LOb_new 6 (.cells #[.int .i64 0, .int .i64 0, .slice none 0 0] 75) (fun B => pt B 0) (fun B => []) rfl (wv_n rfl) rfl rfl (fun _ _ _ _ => r_alloc (v := .agg #[.int .i64 0, .int .i64 0, .slice none 0 0]) (by kernel_rfl) rfl) (fun B => by kernel_rfl) ?_
   intro B15
   refine G_step [0, 1] 2 [3] (by kernel_rfl) (allM (all_cons (q_r (.agg #[iN wd, iN hg, .slice at1 ts.length ct]) rfl rfl rfl (s_la ag24 sz24 rfl 1 rfl rfl rfl)) (all_cons (q_r (.agg #[iN p, iN q, .slice a px.length cap]) rfl rfl rfl (s_la ag75 sz75 rfl 2 rfl rfl rfl)) all_nil))) (allM (all_cons ?_ (all_cons ?_ all_nil)))
   ·skip
    refine LOb_callN (fun (_ : Option Addr × Nat) => True) (fun (ar16, cr16) => .agg #[iN p, iN q, .slice ar16 ((px.take 66).length) cr16]) (fun (ar16, cr16) => [(4, .row (.slice ar16 ((px.take 66).length) cr16) 37 4 ((px.take 66).length) ((px.take 66).flatMap C4.cells))]) (fun (ar16, cr16) => []) rfl (wv_n rfl) rfl rfl (fun _ _ j _ => r_call (args := [.agg #[iN p, iN q, .slice a px.length cap]]) (enters_of Try.func47 (by kernel_rfl) rfl) (j _ _ rfl) ((cons2 (j _ _ rfl) rfl)) rfl) (fun w hm => (sown_c ((p : Nat) : Int) ((q : Nat) : Int) px a cap w (hv.keep hm.ext) hcap).mono fun e w' ⟨a', cap', he, hb, hr⟩ => ⟨(a', cap'), trivial, he, hb, newOk1 4 hr⟩) (fun (ar16, cr16) => by kernel_rfl) ?_
    rintro ⟨ar16, cr16⟩ -
    refine G_step [0] 3 [] (by kernel_rfl) (allM (all_cons (q_r (.agg #[iN wd, iN hg, .slice at1 ts.length ct]) rfl rfl rfl (s_la ag24 sz24 rfl 1 rfl rfl rfl)) all_nil)) (allM (all_cons ?_ all_nil))
    refine LOb_new 5 (.cells #[.int .i64 0, .int .i64 0, .slice none 0 0] 24) (fun B => pt B 0) (fun B => []) rfl (wv_n rfl) rfl rfl (fun _ _ _ _ => r_alloc (v := .agg #[.int .i64 0, .int .i64 0, .slice none 0 0]) (by kernel_rfl) rfl) (fun B => by kernel_rfl) ?_
    intro B17
    refine G_step [0] 5 [] (by kernel_rfl) (allM (all_cons (q_r (.agg #[iN wd, iN hg, .slice at1 ts.length ct]) rfl rfl rfl (s_la ag24 sz24 rfl 1 rfl rfl rfl)) all_nil)) (allM (all_cons ?_ all_nil))
    refine LOb_store 5 (.cells #[iN wd, iN hg, .slice at1 ts.length ct] 24) [] rfl (wv_n rfl) rfl rfl rfl (s_st sz24 rfl rfl 5 rfl rfl rfl rfl rfl) (by kernel_rfl) ?_
    refine G_step [] 6 [] (by kernel_rfl) (allM all_nil) (allM (all_cons ?_ all_nil))
    refine LOb_store 6 (.cells #[iN p, iN q, .slice ar16 ((px.take 66).length) cr16] 75) [] rfl (wv_n rfl) rfl rfl rfl (s_st sz75 rfl rfl 6 rfl rfl rfl rfl rfl) (by kernel_rfl) ?_
    exact G_lastQ [] [(4, pt B2 0), (5, pt B3 0), (6, .bool false), (7, pt B17 0), (8, pt B15 0)] (by kernel_rfl) (allM all_nil) (end_old rfl rfl (end_old rfl rfl (end_old rfl rfl (end_new 3 rfl rfl (end_new 4 rfl rfl end_nil))))) (fun a w hf hm => At_intro (ar16, cr16, B17, B15) trivial hf hm (sc4 rfl rfl rfl rfl (sc rfl sub_nil)) (sc4 rfl rfl rfl rfl (sc rfl (sc rfl (sc rfl sub_nil)))))
   ·skip
    refine LOb_new 5 (.cells #[.int .i64 0, .int .i64 0, .slice none 0 0] 24) (fun B => pt B 0) (fun B => []) rfl (wv_n rfl) rfl rfl (fun _ _ _ _ => r_alloc (v := .agg #[.int .i64 0, .int .i64 0, .slice none 0 0]) (by kernel_rfl) rfl) (fun B => by kernel_rfl) ?_
    intro B18
    refine G_step [0, 1] 2 [] (by kernel_rfl) (allM (all_cons (q_r (.agg #[iN wd, iN hg, .slice at1 ts.length ct]) rfl rfl rfl (s_la ag24 sz24 rfl 1 rfl rfl rfl)) (all_cons (q_r (.agg #[iN p, iN q, .slice a px.length cap]) rfl rfl rfl (s_la ag75 sz75 rfl 2 rfl rfl rfl)) all_nil))) (allM (all_cons ?_ all_nil))
    refine LOb_callN (fun (_ : Option Addr × Nat) => True) (fun (ar19, cr19) => .agg #[iN p, iN q, .slice ar19 ((px.take 66).length) cr19]) (fun (ar19, cr19) => [(4, .row (.slice ar19 ((px.take 66).length) cr19) 37 4 ((px.take 66).length) ((px.take 66).flatMap C4.cells))]) (fun (ar19, cr19) => []) rfl (wv_n rfl) rfl rfl (fun _ _ j _ => r_call (args := [.agg #[iN p, iN q, .slice a px.length cap]]) (enters_of Try.func47 (by kernel_rfl) rfl) (j _ _ rfl) ((cons2 (j _ _ rfl) rfl)) rfl) (fun w hm => (sown_c ((p : Nat) : Int) ((q : Nat) : Int) px a cap w (hv.keep hm.ext) hcap).mono fun e w' ⟨a', cap', he, hb, hr⟩ => ⟨(a', cap'), trivial, he, hb, newOk1 4 hr⟩) (fun (ar19, cr19) => by kernel_rfl) ?_
    rintro ⟨ar19, cr19⟩ -
    refine G_step [0] 5 [] (by kernel_rfl) (allM (all_cons (q_r (.agg #[iN wd, iN hg, .slice at1 ts.length ct]) rfl rfl rfl (s_la ag24 sz24 rfl 1 rfl rfl rfl)) all_nil)) (allM (all_cons ?_ all_nil))
    refine LOb_store 5 (.cells #[iN wd, iN hg, .slice at1 ts.length ct] 24) [] rfl (wv_n rfl) rfl rfl rfl (s_st sz24 rfl rfl 5 rfl rfl rfl rfl rfl) (by kernel_rfl) ?_
    refine G_step [] 6 [] (by kernel_rfl) (allM all_nil) (allM (all_cons ?_ all_nil))
    refine LOb_store 6 (.cells #[iN p, iN q, .slice ar19 ((px.take 66).length) cr19] 75) [] rfl (wv_n rfl) rfl rfl rfl (s_st sz75 rfl rfl 6 rfl rfl rfl rfl rfl) (by kernel_rfl) ?_
    exact G_lastQ [] [(4, pt B2 0), (5, pt B3 0), (6, .bool false), (7, pt B18 0), (8, pt B15 0)] (by kernel_rfl) (allM all_nil) (end_old rfl rfl (end_old rfl rfl (end_old rfl rfl (end_new 3 rfl rfl (end_new 4 rfl rfl end_nil))))) (fun a w hf hm => At_intro (ar19, cr19, B18, B15) trivial hf hm (sc4 rfl rfl rfl rfl (sc rfl sub_nil)) (sc4 rfl rfl rfl rfl (sc rfl (sc rfl (sc rfl sub_nil)))))
 ·skip
  obtain ⟨ar4, cr4, Bx3, Bx4⟩ := z
  show T _ _ _ [(4, pt B2 0), (5, pt B3 0), (6, .bool false), (7, pt Bx3 0), (8, pt Bx4 0)] [(1, .blk B1 (.cells #[iN wd, iN hg, .slice at1 ts.length ct] 24)), (2, .blk B2 (.cells #[iN p, iN q, .slice a px.length cap] 75)), (3, .blk B3 (.cells #[.int .i64 xi, .int .i64 yi, .int .i64 wi, .int .i64 hi, .slice al l.length cl] 94)), (4, .row (.slice ar4 ((px.take 66).length) cr4) 37 4 ((px.take 66).length) ((px.take 66).flatMap C4.cells)), (5, .blk Bx3 (.cells #[iN wd, iN hg, .slice at1 ts.length ct] 24)), (6, .blk Bx4 (.cells #[iN p, iN q, .slice ar4 ((px.take 66).length) cr4] 75)), (960, .cvs [])]
  refine T_seq (T_region ?_)
  refine TL_v (pt Bx3 2) (s_fa fl24_2 sz22 rfl) rfl rfl ?_
  refine TL_v (.slice at1 ts.length ct) (s_ld ag22 rfl 5 rfl rfl) rfl rfl ?_
  refine TL_v (pt Bx3 2) (s_fa fl24_2 sz22 rfl) rfl rfl ?_
  refine TL_v (.slice at1 ts.length ct) (s_ld ag22 rfl 5 rfl rfl) rfl rfl ?_
  refine TL_v (iN ts.length) (fun _ _ j _ => r_len sl22 (j _ _ rfl)) rfl rfl ?_
  refine TL_v (iN (min ts.length 17)) (s_op r_min rfl rfl (int_as (minI _ 17))) rfl rfl ?_
  obtain ⟨l20, hl20, hn20⟩ : ∃ lz, lz = ts.take (min ts.length 17) ∧ lz.length = min ts.length 17 := ⟨_, rfl, by rw [List.length_take]; omega⟩
  have hs20 := SliceAt.front ht (n := min ts.length 17) (m := ct) (by omega) (by omega) (by omega)
  rw [← hl20] at hs20
  refine TL_v (.slice at1 l20.length ct) (fun ρ _ j _ => r_as (r_sliceO sl22 sz39 (j _ _ rfl) (bd_none ρ _) (bd_some (n := min ts.length 17) (j _ _ rfl)) (bd_none ρ _) (by simp) (by omega) (by omega) (by omega)) (by rw [hn20]; exact slo_zero _ _ _ _)) rfl rfl ?_
  refine TL_callN (fun (_ : Option Addr × Nat) => True) (fun (ar21, cr21) => .slice ar21 ((l20).length) cr21) (fun (ar21, cr21) => [(7, .row (.slice ar21 ((l20).length) cr21) 39 256 ((l20).length) ((l20).flatMap T64.cells))]) (fun _ _ j _ => r_call (args := [.slice at1 l20.length ct]) (enters_of Try.func58 (by kernel_rfl) rfl) (j _ _ rfl) ((cons2 (j _ _ rfl) rfl)) rfl) (fun w hm => (clone_til T64.cells T64.cells_len T64.cells_one l20 at1 ct w (hs20.keep hm.ext) (by omega)).mono fun e w' ⟨a', cap', he, hb, hr⟩ => ⟨(a', cap'), trivial, he, hb, newOk1 7 hr⟩) rfl rfl rfl (w_n rfl) ?_
  rintro ⟨ar21, cr21⟩ -
  refine TL_v (pt Bx3 2) (s_fa fl24_2 sz22 rfl) rfl rfl ?_
  refine TL_store 5 (.cells #[iN wd, iN hg, .slice ar21 ((l20).length) cr21] 24) rfl (s_st sz22 rfl rfl 5 rfl rfl rfl rfl rfl) rfl rfl (w_n rfl) ?_
  refine TL_seq ?_
  have e17 : l20 = ts.take 17 := by rw [hl20]; exact take_min ts 17
  have hT : l20.length ≤ 17 := by omega
  clear hn20 hl20
  have hlt1 : l20.length = wd * hg := by rw [e17]; exact hlenT
  have htok : TsOk l20 := by rw [e17]; exact fun t ht => hts t (List.mem_of_mem_take ht)
  refine T_seq (T_region ?_)
  refine TL_call (.tuple #[.agg #[.int .i64 0, .int .i64 0, .slice none 0 0], .int .i64 1]) (fun _ _ j _ => r_call (args := [.pointer none, .int .i64 0, .int .i64 0, .int .i64 1, .int .i64 1]) (enters_of Try.func59 (by kernel_rfl) rfl) (j _ _ rfl) ((cons2 (j _ _ rfl) (cons2 (j _ _ rfl) (cons2 (j _ _ rfl) (cons2 (j _ _ rfl) (cons2 (j _ _ rfl) rfl)))))) rfl) (fun w _ => cut_nil 0 0 1 1 w) rfl rfl rfl (w_n rfl) ?_
  refine TL_v (.tuple #[.agg #[.int .i64 0, .int .i64 0, .slice none 0 0], .int .i64 1]) (s_mv rfl) rfl rfl ?_
  refine TL_v (.agg #[.int .i64 0, .int .i64 0, .slice none 0 0]) (s_ex rfl rfl) rfl rfl ?_
  refine TL_v (.int .i64 1) (s_ex rfl rfl) rfl rfl ?_
  refine TL_new 8 (.cells #[.int .i64 0, .int .i64 0, .slice none 0 0] 75) (fun B => pt B 0) (fun _ _ _ _ => r_alloc (v := .agg #[.int .i64 0, .int .i64 0, .slice none 0 0]) (by kernel_rfl) rfl) rfl rfl rfl (w_n rfl) ?_
  intro B22
  refine TL_store 8 (.cells #[.int .i64 0, .int .i64 0, .slice none 0 0] 75) rfl (s_st sz75 rfl rfl 8 rfl rfl rfl rfl rfl) rfl rfl (w_n rfl) ?_
  refine TL_v (.int .i64 1) (s_as rfl) rfl rfl ?_
  refine TL_seq ?_
  refine T_seq (T_region ?_)
  refine TL_v (.agg #[iN p, iN q, .slice ar4 ((px.take 66).length) cr4]) (s_la ag75 sz75 rfl 6 rfl rfl rfl) rfl rfl ?_
  refine TL_call (.tuple #[.pointer none, .int .i64 1]) (fun _ _ j _ => r_call (args := [.pointer none, .agg #[iN p, iN q, .slice ar4 ((px.take 66).length) cr4], .slice none 0 0]) (enters_of Try.func60 (by kernel_rfl) rfl) (j _ _ rfl) ((cons2 (j _ _ rfl) (cons2 (j _ _ rfl) (cons2 (j _ _ rfl) rfl)))) rfl) (fun w _ => lay_nil ((p : Nat) : Int) ((q : Nat) : Int) ar4 ((px.take 66).length) cr4 none 0 0 w) rfl rfl rfl (w_n rfl) ?_
  refine TL_v (.tuple #[.pointer none, .int .i64 1]) (s_mv rfl) rfl rfl ?_
  refine TL_v (.pointer none) (s_ex rfl rfl) rfl rfl ?_
  refine TL_v (.int .i64 1) (s_ex rfl rfl) rfl rfl ?_
  refine TL_v (.pointer none) (s_as rfl) rfl rfl ?_
  refine TL_v (.int .i64 1) (s_as rfl) rfl rfl ?_
  refine TL_seq ?_
  refine T_seq ?_
  refine T_seq (T_region ?_)
  refine TL_v (.int .i64 1) (s_mv rfl) rfl rfl ?_
  refine TL_v (.bool false) (s_op r_neq rfl rfl (by rfl)) rfl rfl ?_
  refine TL_v (.bool false) (s_mv rfl) rfl rfl ?_
  refine TL_q (.int .i64 1) (s_mv rfl) rfl rfl rfl (want_y 48 rfl rfl rfl) ?_
  refine TL_q (.bool false) (s_op r_neq rfl rfl (by rfl)) rfl rfl rfl (want_y 48 rfl rfl rfl) ?_
  refine TL_v (.bool false) (s_pf rfl rfl) rfl rfl ?_
  refine TL_v (.bool false) (s_mv rfl) rfl rfl ?_
  refine TL_q (.pointer none) (s_mv rfl) rfl rfl rfl (want_y 52 rfl rfl rfl) ?_
  refine TL_q (.bool false) (fun _ _ j _ => r_as (r_neqPn po28 (j _ _ rfl) (j _ _ rfl)) (by rfl)) rfl rfl rfl (want_y 52 rfl rfl rfl) ?_
  refine TL_v (.bool false) (s_pf rfl rfl) rfl rfl ?_
  refine TL_seq ?_
  refine T_sub [(4, pt B2 0), (5, pt B3 0), (6, .bool false), (7, pt Bx3 0), (8, pt Bx4 0), (55, .bool false)] [(7, .row (.slice ar21 ((l20).length) cr21) 39 256 ((l20).length) ((l20).flatMap T64.cells)), (1, .blk B1 (.cells #[iN wd, iN hg, .slice at1 ts.length ct] 24)), (2, .blk B2 (.cells #[iN p, iN q, .slice a px.length cap] 75)), (3, .blk B3 (.cells #[.int .i64 xi, .int .i64 yi, .int .i64 wi, .int .i64 hi, .slice al l.length cl] 94)), (4, .row (.slice ar4 ((px.take 66).length) cr4) 37 4 ((px.take 66).length) ((px.take 66).flatMap C4.cells)), (6, .blk Bx4 (.cells #[iN p, iN q, .slice ar4 ((px.take 66).length) cr4] 75)), (960, .cvs []), (5, .blk Bx3 (.cells #[iN wd, iN hg, .slice ar21 ((l20).length) cr21] 24)), (8, .blk B22 (.cells #[.int .i64 0, .int .i64 0, .slice none 0 0] 75))] (sc4 rfl rfl rfl rfl (sc rfl (sc rfl sub_nil))) (sc4 rfl rfl rfl rfl (sc4 rfl rfl rfl rfl (sc rfl sub_nil))) ?_
  refine T_cond_f rfl ?_
  refine T_skip' ?_
  refine p_seq ?_
  refine T_seq (T_region ?_)
  refine TL_v (.agg #[iN wd, iN hg, .slice ar21 ((l20).length) cr21]) (s_la ag24 sz24 rfl 5 rfl rfl rfl) rfl rfl ?_
  refine TL_callX (ι := Cv) (fun (c1 : Cv) e w w' => e = .returned (.tuple #[pt c1.p 0, .int .i64 0]) ∧ CvNew w w' [] c1 ∧ (∀ x ∈ ([] : List Cv), ∀ q ∈ x.ps, q < w.heap.size) ∧ c1.wd = wd ∧ c1.hg = hg ∧ c1.ts = (l20)) (fun c1 => .tuple #[pt c1.p 0, .int .i64 0]) _ (fun _ _ j _ => r_call (args := [.agg #[iN wd, iN hg, .slice ar21 ((l20).length) cr21]]) (enters_of Try.func15 (by kernel_rfl) rfl) (j _ _ rfl) ((cons2 (j _ _ rfl) rfl)) rfl) (fun w hm => (of_ok wd hg (l20) ar21 cr21 w (SliceAt.own T64.cells_len (hm.row 7 rfl) rfl rfl) hwd hhg hlt1).mono fun e w' ⟨d, he, hn, hf⟩ => ⟨d, he, hn, hm.cvUnder 960 rfl, hf⟩) (fun _ e w w' hm h => ⟨h.1, hm.cvGet 960 rfl h.2.1 (fun _ hx => nomatch hx)⟩) rfl rfl rfl (w_n rfl) ?_
  rintro c1 ⟨_, w1_c1, w2_c1, _, hn_c1, hu_c1, hwd_c1, hhg_c1, hts_c1⟩
  refine TL_v (.tuple #[pt c1.p 0, .int .i64 0]) (s_mv rfl) rfl rfl ?_
  refine TL_v (pt c1.p 0) (s_ex rfl rfl) rfl rfl ?_
  refine TL_v (.int .i64 0) (s_ex rfl rfl) rfl rfl ?_
  refine TL_v (pt c1.p 0) (s_as rfl) rfl rfl ?_
  refine TL_v (.int .i64 0) (s_as rfl) rfl rfl ?_
  refine TL_seq ?_
  refine T_seq ?_
  refine T_seq (T_region ?_)
  refine TL_v (.int .i64 0) (s_mv rfl) rfl rfl ?_
  refine TL_v (.bool false) (s_op r_neq rfl rfl (by rfl)) rfl rfl ?_
  refine TL_seq ?_
  refine T_cond_f rfl ?_
  refine T_skip' ?_
  refine p_seq ?_
  by_cases hin : sideI wi = true ∧ sideI hi = true ∧ 0 ≤ xi ∧ 0 ≤ yi ∧ xi ≤ ((8 * wd : Nat) : Int) - wi ∧ yi ≤ ((8 * hg : Nat) : Int) - hi
  ·skip
   obtain ⟨r1, r2, r3, r4, r5, r6⟩ := hin
   obtain ⟨wr, rfl, hwr⟩ := sideI_nat r1
   obtain ⟨hr, rfl, hhr⟩ := sideI_nat r2
   obtain ⟨xr, rfl⟩ := Int.eq_ofNat_of_zero_le r3
   obtain ⟨yr, rfl⟩ := Int.eq_ofNat_of_zero_le r4
   have rx : xr + wr ≤ 8 * wd := by omega
   have ry : yr + hr ≤ 8 * hg := by omega
   refine T_seq (T_region ?_)
   refine TL_v (pt c1.p 0) (s_mv rfl) rfl rfl ?_
   refine TL_v (pt B3 0) (s_fa fl94_0 sz3 rfl) rfl rfl ?_
   refine TL_v (iN xr) (s_ld ag3 rfl 3 rfl rfl) rfl rfl ?_
   refine TL_v (pt B3 1) (s_fa fl94_1 sz3 rfl) rfl rfl ?_
   refine TL_v (iN yr) (s_ld ag3 rfl 3 rfl rfl) rfl rfl ?_
   refine TL_v (pt B3 2) (s_fa fl94_2 sz3 rfl) rfl rfl ?_
   refine TL_v (iN wr) (s_ld ag3 rfl 3 rfl rfl) rfl rfl ?_
   refine TL_v (pt B3 3) (s_fa fl94_3 sz3 rfl) rfl rfl ?_
   refine TL_v (iN hr) (s_ld ag3 rfl 3 rfl rfl) rfl rfl ?_
   refine TL_callN (fun (_ : Option Addr × Nat) => True) (fun (ar23, cr23) => .tuple #[.agg #[iN wr, iN hr, .slice ar23 ((cutL c1.wd c1.ts xr yr wr hr).length) cr23], .int .i64 0]) (fun (ar23, cr23) => [(9, .row (.slice ar23 ((cutL c1.wd c1.ts xr yr wr hr).length) cr23) 37 4 ((cutL c1.wd c1.ts xr yr wr hr).length) ((cutL c1.wd c1.ts xr yr wr hr).flatMap C4.cells))]) (fun _ _ j _ => r_call (args := [pt c1.p 0, iN xr, iN yr, iN wr, iN hr]) (enters_of Try.func59 (by kernel_rfl) rfl) (j _ _ rfl) ((cons2 (j _ _ rfl) (cons2 (j _ _ rfl) (cons2 (j _ _ rfl) (cons2 (j _ _ rfl) (cons2 (j _ _ rfl) rfl)))))) rfl) (fun w hm => (cut_ok c1 xr yr wr hr w (hm.cv 960 rfl (List.Mem.head _)) hwr hhr (by rw [hwd_c1]; exact rx) (by rw [hhg_c1]; exact ry)).mono fun e w' ⟨a', cap', he, hb, hr⟩ => ⟨(a', cap'), trivial, he, hb, newOk1 9 hr⟩) rfl rfl rfl (w_n rfl) ?_
   rintro ⟨ar23, cr23⟩ -
   refine TL_v (.tuple #[.agg #[iN wr, iN hr, .slice ar23 ((cutL c1.wd c1.ts xr yr wr hr).length) cr23], .int .i64 0]) (s_mv rfl) rfl rfl ?_
   refine TL_v (.agg #[iN wr, iN hr, .slice ar23 ((cutL c1.wd c1.ts xr yr wr hr).length) cr23]) (s_ex rfl rfl) rfl rfl ?_
   refine TL_v (.int .i64 0) (s_ex rfl rfl) rfl rfl ?_
   refine TL_new 10 (.cells #[.int .i64 0, .int .i64 0, .slice none 0 0] 75) (fun B => pt B 0) (fun _ _ _ _ => r_alloc (v := .agg #[.int .i64 0, .int .i64 0, .slice none 0 0]) (by kernel_rfl) rfl) rfl rfl rfl (w_n rfl) ?_
   intro B24
   refine TL_store 10 (.cells #[iN wr, iN hr, .slice ar23 ((cutL c1.wd c1.ts xr yr wr hr).length) cr23] 75) rfl (s_st sz75 rfl rfl 10 rfl rfl rfl rfl rfl) rfl rfl (w_n rfl) ?_
   refine TL_v (.int .i64 0) (s_as rfl) rfl rfl ?_
   refine TL_seq ?_
   refine T_seq (T_region ?_)
   refine TL_v (.agg #[iN wd, iN hg, .slice ar21 ((l20).length) cr21]) (s_la ag24 sz24 rfl 5 rfl rfl rfl) rfl rfl ?_
   refine TL_v (pt B3 0) (s_fa fl94_0 sz3 rfl) rfl rfl ?_
   refine TL_v (iN xr) (s_ld ag3 rfl 3 rfl rfl) rfl rfl ?_
   refine TL_v (pt B3 1) (s_fa fl94_1 sz3 rfl) rfl rfl ?_
   refine TL_v (iN yr) (s_ld ag3 rfl 3 rfl rfl) rfl rfl ?_
   refine TL_v (pt B3 2) (s_fa fl94_2 sz3 rfl) rfl rfl ?_
   refine TL_v (iN wr) (s_ld ag3 rfl 3 rfl rfl) rfl rfl ?_
   refine TL_v (pt B3 3) (s_fa fl94_3 sz3 rfl) rfl rfl ?_
   refine TL_v (iN hr) (s_ld ag3 rfl 3 rfl rfl) rfl rfl ?_
   refine TL_callN (fun (_ : Option Addr × Nat) => True) (fun (ar25, cr25) => .tuple #[.agg #[iN wr, iN hr, .slice ar25 ((cutL wd l20 xr yr wr hr).length) cr25], .bool true]) (fun (ar25, cr25) => [(11, .row (.slice ar25 ((cutL wd l20 xr yr wr hr).length) cr25) 37 4 ((cutL wd l20 xr yr wr hr).length) ((cutL wd l20 xr yr wr hr).flatMap C4.cells))]) (fun _ _ j _ => r_call (args := [.agg #[iN wd, iN hg, .slice ar21 ((l20).length) cr21], iN xr, iN yr, iN wr, iN hr]) (enters_of Try.func61 (by kernel_rfl) rfl) (j _ _ rfl) ((cons2 (j _ _ rfl) (cons2 (j _ _ rfl) (cons2 (j _ _ rfl) (cons2 (j _ _ rfl) (cons2 (j _ _ rfl) rfl)))))) rfl) (fun w hm => (rcut_ok wd hg xr yr wr hr (l20) ar21 cr21 w (SliceAt.own T64.cells_len (hm.row 7 rfl) rfl rfl) (row_cap (hm.row 7 rfl)) hwd hhg hlt1 hwr hhr rx ry).mono fun e w' ⟨a', cap', he, hb, hr⟩ => ⟨(a', cap'), trivial, he, hb, newOk1 11 hr⟩) rfl rfl rfl (w_n rfl) ?_
   rintro ⟨ar25, cr25⟩ -
   refine TL_v (.tuple #[.agg #[iN wr, iN hr, .slice ar25 ((cutL wd l20 xr yr wr hr).length) cr25], .bool true]) (s_mv rfl) rfl rfl ?_
   refine TL_v (.agg #[iN wr, iN hr, .slice ar25 ((cutL wd l20 xr yr wr hr).length) cr25]) (s_ex rfl rfl) rfl rfl ?_
   refine TL_v (.bool true) (s_ex rfl rfl) rfl rfl ?_
   refine TL_new 12 (.cells #[.int .i64 0, .int .i64 0, .slice none 0 0] 75) (fun B => pt B 0) (fun _ _ _ _ => r_alloc (v := .agg #[.int .i64 0, .int .i64 0, .slice none 0 0]) (by kernel_rfl) rfl) rfl rfl rfl (w_n rfl) ?_
   intro B26
   refine TL_store 12 (.cells #[iN wr, iN hr, .slice ar25 ((cutL wd l20 xr yr wr hr).length) cr25] 75) rfl (s_st sz75 rfl rfl 12 rfl rfl rfl rfl rfl) rfl rfl (w_n rfl) ?_
   refine TL_v (.bool true) (s_as rfl) rfl rfl ?_
   refine TL_seq ?_
   refine T_sub [(4, pt B2 0), (5, pt B3 0), (6, .bool false), (7, pt Bx3 0), (8, pt Bx4 0), (13, pt c1.p 0), (15, pt B24 0), (14, .int .i64 0), (16, pt B26 0), (17, .bool true)] [(11, .row (.slice ar25 ((cutL wd l20 xr yr wr hr).length) cr25) 37 4 ((cutL wd l20 xr yr wr hr).length) ((cutL wd l20 xr yr wr hr).flatMap C4.cells)), (9, .row (.slice ar23 ((cutL c1.wd c1.ts xr yr wr hr).length) cr23) 37 4 ((cutL c1.wd c1.ts xr yr wr hr).length) ((cutL c1.wd c1.ts xr yr wr hr).flatMap C4.cells)), (960, .cvs [c1]), (7, .row (.slice ar21 ((l20).length) cr21) 39 256 ((l20).length) ((l20).flatMap T64.cells)), (1, .blk B1 (.cells #[iN wd, iN hg, .slice at1 ts.length ct] 24)), (2, .blk B2 (.cells #[iN p, iN q, .slice a px.length cap] 75)), (3, .blk B3 (.cells #[iN xr, iN yr, iN wr, iN hr, .slice al l.length cl] 94)), (4, .row (.slice ar4 ((px.take 66).length) cr4) 37 4 ((px.take 66).length) ((px.take 66).flatMap C4.cells)), (6, .blk Bx4 (.cells #[iN p, iN q, .slice ar4 ((px.take 66).length) cr4] 75)), (5, .blk Bx3 (.cells #[iN wd, iN hg, .slice ar21 ((l20).length) cr21] 24)), (8, .blk B22 (.cells #[.int .i64 0, .int .i64 0, .slice none 0 0] 75)), (10, .blk B24 (.cells #[iN wr, iN hr, .slice ar23 ((cutL c1.wd c1.ts xr yr wr hr).length) cr23] 75)), (12, .blk B26 (.cells #[iN wr, iN hr, .slice ar25 ((cutL wd l20 xr yr wr hr).length) cr25] 75))] (sc4 rfl rfl rfl rfl (sc4 rfl rfl rfl rfl (sc rfl (sc rfl sub_nil)))) (sc4 rfl rfl rfl rfl (sc4 rfl rfl rfl rfl (sc4 rfl rfl rfl rfl (sc rfl sub_nil)))) ?_
   refine T_seq ?_
   refine T_seq (T_region ?_)
   refine TL_v (.int .i64 0) (s_mv rfl) rfl rfl ?_
   refine TL_v (.bool true) (s_op r_eql rfl rfl (by rfl)) rfl rfl ?_
   refine TL_v (.bool true) (s_mv rfl) rfl rfl ?_
   refine TL_v (.bool false) (fun _ _ j _ => r_as (r_neqB (by kernel_rfl) (j _ _ rfl) (j _ _ rfl)) (by rfl)) rfl rfl ?_
   refine TL_v (.bool false) (s_mv rfl) rfl rfl ?_
   refine TL_q (.bool true) (s_mv rfl) rfl rfl rfl (want_y 96 rfl rfl rfl) ?_
   refine TL_q (.bool false) (fun _ _ j _ => r_not (b := true) (j _ _ rfl)) rfl rfl rfl (want_y 96 rfl rfl rfl) ?_
   refine TL_q (.bool false) (s_mv rfl) rfl rfl rfl (want_y 96 rfl rfl rfl) ?_
   refine TL_x 99 rfl rfl rfl rfl rfl ?_
   refine TL_x 99 rfl rfl rfl rfl rfl ?_
   refine TL_q (.bool false) (s_pf rfl rfl) rfl rfl rfl (want_y 96 rfl rfl rfl) ?_
   refine TL_v (.bool false) (s_pf rfl rfl) rfl rfl ?_
   refine TL_v (.bool false) (s_mv rfl) rfl rfl ?_
   refine TL_q (.agg #[iN wr, iN hr, .slice ar23 ((cutL c1.wd c1.ts xr yr wr hr).length) cr23]) (s_la ag75 sz75 rfl 10 rfl rfl rfl) rfl rfl rfl (want_y 104 rfl rfl rfl) ?_
   refine TL_q (.agg #[iN wr, iN hr, .slice ar25 ((cutL wd l20 xr yr wr hr).length) cr25]) (s_la ag75 sz75 rfl 12 rfl rfl rfl) rfl rfl rfl (want_y 104 rfl rfl rfl) ?_
   refine TL_call (.bool true) (fun _ _ j _ => r_call (args := [.agg #[iN wr, iN hr, .slice ar23 ((cutL c1.wd c1.ts xr yr wr hr).length) cr23], .agg #[iN wr, iN hr, .slice ar25 ((cutL wd l20 xr yr wr hr).length) cr25]]) (enters_of Try.func43 (by kernel_rfl) rfl) (j _ _ rfl) ((cons2 (j _ _ rfl) (cons2 (j _ _ rfl) rfl))) rfl) (fun w hm => (srsame_n ((wr : Nat) : Int) ((hr : Nat) : Int) (cutL c1.wd c1.ts xr yr wr hr) ar23 cr23 w (SliceAt.own C4.cells_len (hm.row 9 rfl) rfl rfl) (row_cap (hm.row 9 rfl)) ((wr : Nat) : Int) ((hr : Nat) : Int) (cutL wd l20 xr yr wr hr) ar25 cr25 (SliceAt.own C4.cells_len (hm.row 11 rfl) rfl rfl) (row_cap (hm.row 11 rfl)) (px64b hwr hhr (by simp [cutL])) (px64b hwr hhr (by simp [cutL])) ((cutL c1.wd c1.ts xr yr wr hr).length) rfl ((cutL wd l20 xr yr wr hr).length) rfl).mono fun _ _ h => ⟨h.1.trans (congrArg Ending.returned (bool_as (decide_eq_true ⟨rfl, rfl, by rw [hwd_c1, hts_c1]⟩))), h.2⟩) rfl rfl rfl (want_y 104 rfl rfl rfl) ?_
   refine TL_q (.bool false) (fun _ _ j _ => r_not (b := true) (j _ _ rfl)) rfl rfl rfl (want_y 104 rfl rfl rfl) ?_
   refine TL_v (.bool false) (s_pf rfl rfl) rfl rfl ?_
   refine TL_seq ?_
   refine T_cond_f rfl ?_
   refine T_skip' ?_
   refine p_seq ?_
   refine T_seq (T_region ?_)
   refine TL_v (pt B3 4) (s_fa fl94_4 sz44 rfl) rfl rfl ?_
   refine TL_v (.slice al l.length cl) (s_ld ag44 rfl 3 rfl rfl) rfl rfl ?_
   refine TL_v (pt B3 4) (s_fa fl94_4 sz44 rfl) rfl rfl ?_
   refine TL_v (.slice al l.length cl) (s_ld ag44 rfl 3 rfl rfl) rfl rfl ?_
   refine TL_v (iN l.length) (fun _ _ j _ => r_len sl44 (j _ _ rfl)) rfl rfl ?_
   refine TL_v (iN (min l.length 4)) (s_op r_min rfl rfl (int_as (minI _ 4))) rfl rfl ?_
   obtain ⟨l27, hl27, hn27⟩ : ∃ lz, lz = l.take (min l.length 4) ∧ lz.length = min l.length 4 := ⟨_, rfl, by rw [List.length_take]; omega⟩
   have hs27 := SliceAt.front hl (n := min l.length 4) (m := cl) (by omega) (by omega) (by omega)
   rw [← hl27] at hs27
   refine TL_v (.slice al l27.length cl) (fun ρ _ j _ => r_as (r_sliceO sl44 sz47 (j _ _ rfl) (bd_none ρ _) (bd_some (n := min l.length 4) (j _ _ rfl)) (bd_none ρ _) (by simp) (by omega) (by omega) (by omega)) (by rw [hn27]; exact slo_zero _ _ _ _)) rfl rfl ?_
   refine TL_callN (fun (_ : Option Addr × Nat) => True) (fun (ar28, cr28) => .slice ar28 ((l27).length) cr28) (fun (ar28, cr28) => [(13, .row (.slice ar28 ((l27).length) cr28) 47 2 ((l27).length) ((l27).flatMap Pt.cells))]) (fun _ _ j _ => r_call (args := [.slice al l27.length cl]) (enters_of Try.func62 (by kernel_rfl) rfl) (j _ _ rfl) ((cons2 (j _ _ rfl) rfl)) rfl) (fun w hm => (clone_ptl Pt.cells Pt.cells_len Pt.cells_one l27 al cl w (hs27.keep hm.ext) (by omega)).mono fun e w' ⟨a', cap', he, hb, hr⟩ => ⟨(a', cap'), trivial, he, hb, newOk1 13 hr⟩) rfl rfl rfl (w_n rfl) ?_
   rintro ⟨ar28, cr28⟩ -
   refine TL_v (.slice ar28 ((l27).length) cr28) (s_as rfl) rfl rfl ?_
   refine TL_seq ?_
   have e4p : l27 = l.take 4 := by rw [hl27]; exact take_min l 4
   have hP : l27.length ≤ 4 := by omega
   have hPb : ∀ u ∈ l27, inI u.x ∧ inI u.y := by rw [e4p]; exact fun u hu => hlb u (List.mem_of_mem_take hu)
   clear hn27 hl27
   refine T_seq (T_region ?_)
   refine TL_v (pt c1.p 0) (s_mv rfl) rfl rfl ?_
   refine TL_v (.agg #[iN p, iN q, .slice ar4 ((px.take 66).length) cr4]) (s_la ag75 sz75 rfl 6 rfl rfl rfl) rfl rfl ?_
   refine TL_v (.slice ar28 ((l27).length) cr28) (s_mv rfl) rfl rfl ?_
   refine TL_callX (ι := Cv) (fun (c2 : Cv) e w w' => e = .returned (.tuple #[pt c2.p 0, .int .i64 0]) ∧ CvNew w w' [c1] c2 ∧ (∀ x ∈ [c1], ∀ q ∈ x.ps, q < w.heap.size) ∧ c2.wd = c1.wd ∧ c2.hg = c1.hg ∧ c2.ts = layN c1.wd c1.hg p q (px.take 66) c1.ts (l27)) (fun c2 => .tuple #[pt c2.p 0, .int .i64 0]) _ (fun _ _ j _ => r_call (args := [pt c1.p 0, .agg #[iN p, iN q, .slice ar4 ((px.take 66).length) cr4], .slice ar28 ((l27).length) cr28]) (enters_of Try.func60 (by kernel_rfl) rfl) (j _ _ rfl) ((cons2 (j _ _ rfl) (cons2 (j _ _ rfl) (cons2 (j _ _ rfl) rfl)))) rfl) (fun w hm => (lay_ok c1 p q (px.take 66) ar4 cr4 (l27) ar28 cr28 w (hm.cv 960 rfl (List.Mem.head _)) (SliceAt.own C4.cells_len (hm.row 4 rfl) rfl rfl) (row_cap (hm.row 4 rfl)) (SliceAt.own Pt.cells_len (hm.row 13 rfl) rfl rfl) (row_cap (hm.row 13 rfl)) hp8 hq8 hlen (fun c hc => hpx c (List.mem_of_mem_take hc)) (by rw [hts_c1]; exact htok)).mono fun e w' ⟨d, he, hn, hf⟩ => ⟨d, he, hn, hm.cvUnder 960 rfl, hf⟩) (fun _ e w w' hm h => ⟨h.1, hm.cvGet 960 rfl h.2.1 (fun x hx => by rw [List.mem_singleton.1 hx]; exact (List.Mem.head _))⟩) rfl rfl rfl (w_n rfl) ?_
   rintro c2 ⟨_, w1_c2, w2_c2, _, hn_c2, hu_c2, hwd_c2, hhg_c2, hts_c2⟩
   refine TL_v (.tuple #[pt c2.p 0, .int .i64 0]) (s_mv rfl) rfl rfl ?_
   refine TL_v (pt c2.p 0) (s_ex rfl rfl) rfl rfl ?_
   refine TL_v (.int .i64 0) (s_ex rfl rfl) rfl rfl ?_
   refine TL_v (pt c2.p 0) (s_as rfl) rfl rfl ?_
   refine TL_v (.int .i64 0) (s_as rfl) rfl rfl ?_
   refine TL_seq ?_
   refine T_sub [(4, pt B2 0), (6, .bool false), (7, pt Bx3 0), (8, pt Bx4 0), (13, pt c1.p 0), (18, .slice ar28 ((l27).length) cr28), (19, pt c2.p 0), (14, .int .i64 0)] [(960, .cvs [c2, c1]), (13, .row (.slice ar28 ((l27).length) cr28) 47 2 ((l27).length) ((l27).flatMap Pt.cells)), (11, .row (.slice ar25 ((cutL wd l20 xr yr wr hr).length) cr25) 37 4 ((cutL wd l20 xr yr wr hr).length) ((cutL wd l20 xr yr wr hr).flatMap C4.cells)), (9, .row (.slice ar23 ((cutL c1.wd c1.ts xr yr wr hr).length) cr23) 37 4 ((cutL c1.wd c1.ts xr yr wr hr).length) ((cutL c1.wd c1.ts xr yr wr hr).flatMap C4.cells)), (7, .row (.slice ar21 ((l20).length) cr21) 39 256 ((l20).length) ((l20).flatMap T64.cells)), (1, .blk B1 (.cells #[iN wd, iN hg, .slice at1 ts.length ct] 24)), (2, .blk B2 (.cells #[iN p, iN q, .slice a px.length cap] 75)), (3, .blk B3 (.cells #[iN xr, iN yr, iN wr, iN hr, .slice al l.length cl] 94)), (4, .row (.slice ar4 ((px.take 66).length) cr4) 37 4 ((px.take 66).length) ((px.take 66).flatMap C4.cells)), (6, .blk Bx4 (.cells #[iN p, iN q, .slice ar4 ((px.take 66).length) cr4] 75)), (5, .blk Bx3 (.cells #[iN wd, iN hg, .slice ar21 ((l20).length) cr21] 24)), (8, .blk B22 (.cells #[.int .i64 0, .int .i64 0, .slice none 0 0] 75)), (10, .blk B24 (.cells #[iN wr, iN hr, .slice ar23 ((cutL c1.wd c1.ts xr yr wr hr).length) cr23] 75)), (12, .blk B26 (.cells #[iN wr, iN hr, .slice ar25 ((cutL wd l20 xr yr wr hr).length) cr25] 75))] (sc4 rfl rfl rfl rfl (sc4 rfl rfl rfl rfl sub_nil)) (sc4 rfl rfl rfl rfl (sc4 rfl rfl rfl rfl (sc4 rfl rfl rfl rfl (sc rfl (sc rfl sub_nil))))) ?_
   refine T_seq ?_
   refine T_seq (T_region ?_)
   refine TL_v (.agg #[iN p, iN q, .slice ar4 ((px.take 66).length) cr4]) (s_la ag75 sz75 rfl 6 rfl rfl rfl) rfl rfl ?_
   refine TL_call (.bool true) (fun _ _ j _ => r_call (args := [.agg #[iN p, iN q, .slice ar4 ((px.take 66).length) cr4]]) (enters_of Try.func45 (by kernel_rfl) rfl) (j _ _ rfl) ((cons2 (j _ _ rfl) rfl)) rfl) (fun w _ => (rright_c ((p : Nat) : Int) ((q : Nat) : Int) ar4 ((px.take 66).length) cr4 w).mono fun _ _ h => ⟨h.1.trans (congrArg Ending.returned (bool_as (rightS_of hp8 hq8 hlen))), h.2⟩) rfl rfl rfl (w_n rfl) ?_
   refine TL_v (.bool false) (fun _ _ j _ => r_not (b := true) (j _ _ rfl)) rfl rfl ?_
   refine TL_seq ?_
   refine T_cond_f rfl ?_
   refine T_skip' ?_
   refine p_seq ?_
   refine T_seq (T_region ?_)
   refine TL_v (.agg #[iN wd, iN hg, .slice ar21 ((l20).length) cr21]) (s_la ag24 sz24 rfl 5 rfl rfl rfl) rfl rfl ?_
   refine TL_new 14 (.cells #[.int .i64 0, .int .i64 0, .slice none 0 0] 24) (fun B => pt B 0) (fun _ _ _ _ => r_alloc (v := .agg #[.int .i64 0, .int .i64 0, .slice none 0 0]) (by kernel_rfl) rfl) rfl rfl rfl (w_n rfl) ?_
   intro B29
   refine TL_store 14 (.cells #[iN wd, iN hg, .slice ar21 ((l20).length) cr21] 24) rfl (s_st sz24 rfl rfl 14 rfl rfl rfl rfl rfl) rfl rfl (w_n rfl) ?_
   refine TL_seq ?_
   refine T_seq ?_
   refine T_seq (T_region ?_)
   refine TL_v (.slice ar28 ((l27).length) cr28) (s_mv rfl) rfl rfl ?_
   refine TL_v (iN ((l27).length)) (fun _ _ j _ => r_len sl44 (j _ _ rfl)) rfl rfl ?_
   refine TL_v (.int .i64 0) (s_mv rfl) rfl rfl ?_
   refine TL_seq ?_
   refine T_block ?_
   refine T_mem (_ :: _) (fun _ hm => hm.rowB0 905 (.slice ar21 ((l20).length) cr21) 39 256 l20.length (l20.flatMap T64.cells)) ?_
   refine T_loop (ι := Nat × Bool × Option Addr × Nat) (fun (z : Nat × Bool × Option Addr × Nat) => match z with | (k, tB, a2, cap2) => k ≤ l27.length ∧ (tB = false → a2 = ar21 ∧ cap2 = cr21 ∧ (layN wd hg p q (px.take 66) l20 (l27.take k)) = l20)) (fun (z : Nat × Bool × Option Addr × Nat) => match z with | (k, tB, a2, cap2) => [(4, pt B2 0), (6, .bool false), (7, pt Bx3 0), (8, pt Bx4 0), (13, pt c1.p 0), (19, pt c2.p 0), (14, .int .i64 0), (20, pt B29 0), (135, .slice ar28 ((l27).length) cr28), (136, iN ((l27).length)), (137, iN k)]) (fun (z : Nat × Bool × Option Addr × Nat) => match z with | (k, tB, a2, cap2) => [(960, .cvs [c2, c1]), (13, .row (.slice ar28 ((l27).length) cr28) 47 2 ((l27).length) ((l27).flatMap Pt.cells)), (11, .row (.slice ar25 ((cutL wd l20 xr yr wr hr).length) cr25) 37 4 ((cutL wd l20 xr yr wr hr).length) ((cutL wd l20 xr yr wr hr).flatMap C4.cells)), (9, .row (.slice ar23 ((cutL c1.wd c1.ts xr yr wr hr).length) cr23) 37 4 ((cutL c1.wd c1.ts xr yr wr hr).length) ((cutL c1.wd c1.ts xr yr wr hr).flatMap C4.cells)), (7, .row (.slice ar21 ((l20).length) cr21) 39 256 ((l20).length) ((l20).flatMap T64.cells)), (1, .blk B1 (.cells #[iN wd, iN hg, .slice at1 ts.length ct] 24)), (2, .blk B2 (.cells #[iN p, iN q, .slice a px.length cap] 75)), (3, .blk B3 (.cells #[iN xr, iN yr, iN wr, iN hr, .slice al l.length cl] 94)), (4, .row (.slice ar4 ((px.take 66).length) cr4) 37 4 ((px.take 66).length) ((px.take 66).flatMap C4.cells)), (6, .blk Bx4 (.cells #[iN p, iN q, .slice ar4 ((px.take 66).length) cr4] 75)), (5, .blk Bx3 (.cells #[iN wd, iN hg, .slice ar21 ((l20).length) cr21] 24)), (8, .blk B22 (.cells #[.int .i64 0, .int .i64 0, .slice none 0 0] 75)), (10, .blk B24 (.cells #[iN wr, iN hr, .slice ar23 ((cutL c1.wd c1.ts xr yr wr hr).length) cr23] 75)), (12, .blk B26 (.cells #[iN wr, iN hr, .slice ar25 ((cutL wd l20 xr yr wr hr).length) cr25] 75)), (14, .blk B29 (.cells #[iN wd, iN hg, .slice a2 ((layN wd hg p q (px.take 66) l20 (l27.take k)).length) cap2] 24)), (905, .rowB tB (.slice a2 ((layN wd hg p q (px.take 66) l20 (l27.take k)).length) cap2) 39 256 (layN wd hg p q (px.take 66) l20 (l27.take k)).length ((layN wd hg p q (px.take 66) l20 (l27.take k)).flatMap T64.cells))]) (fun (z : Nat × Bool × Option Addr × Nat) => match z with | (k, tB, a2, cap2) => l27.length - k) (0, false, ar21, cr21) ⟨Nat.zero_le _, fun _ => ⟨rfl, rfl, rfl⟩⟩ (sc4 rfl rfl rfl rfl (sc4 rfl rfl rfl rfl (sc rfl (sc rfl (sc rfl sub_nil))))) (sc4 rfl rfl rfl rfl (sc4 rfl rfl rfl rfl (sc4 rfl rfl rfl rfl (sc4 rfl rfl rfl rfl sub_nil)))) ?_
   rintro ⟨k, tB, a2, cap2⟩ hp
   obtain ⟨hk, hbf⟩ := hp
   show T _ _ _ [(4, pt B2 0), (6, .bool false), (7, pt Bx3 0), (8, pt Bx4 0), (13, pt c1.p 0), (19, pt c2.p 0), (14, .int .i64 0), (20, pt B29 0), (135, .slice ar28 ((l27).length) cr28), (136, iN ((l27).length)), (137, iN k)] [(960, .cvs [c2, c1]), (13, .row (.slice ar28 ((l27).length) cr28) 47 2 ((l27).length) ((l27).flatMap Pt.cells)), (11, .row (.slice ar25 ((cutL wd l20 xr yr wr hr).length) cr25) 37 4 ((cutL wd l20 xr yr wr hr).length) ((cutL wd l20 xr yr wr hr).flatMap C4.cells)), (9, .row (.slice ar23 ((cutL c1.wd c1.ts xr yr wr hr).length) cr23) 37 4 ((cutL c1.wd c1.ts xr yr wr hr).length) ((cutL c1.wd c1.ts xr yr wr hr).flatMap C4.cells)), (7, .row (.slice ar21 ((l20).length) cr21) 39 256 ((l20).length) ((l20).flatMap T64.cells)), (1, .blk B1 (.cells #[iN wd, iN hg, .slice at1 ts.length ct] 24)), (2, .blk B2 (.cells #[iN p, iN q, .slice a px.length cap] 75)), (3, .blk B3 (.cells #[iN xr, iN yr, iN wr, iN hr, .slice al l.length cl] 94)), (4, .row (.slice ar4 ((px.take 66).length) cr4) 37 4 ((px.take 66).length) ((px.take 66).flatMap C4.cells)), (6, .blk Bx4 (.cells #[iN p, iN q, .slice ar4 ((px.take 66).length) cr4] 75)), (5, .blk Bx3 (.cells #[iN wd, iN hg, .slice ar21 ((l20).length) cr21] 24)), (8, .blk B22 (.cells #[.int .i64 0, .int .i64 0, .slice none 0 0] 75)), (10, .blk B24 (.cells #[iN wr, iN hr, .slice ar23 ((cutL c1.wd c1.ts xr yr wr hr).length) cr23] 75)), (12, .blk B26 (.cells #[iN wr, iN hr, .slice ar25 ((cutL wd l20 xr yr wr hr).length) cr25] 75)), (14, .blk B29 (.cells #[iN wd, iN hg, .slice a2 ((layN wd hg p q (px.take 66) l20 (l27.take k)).length) cap2] 24)), (905, .rowB tB (.slice a2 ((layN wd hg p q (px.take 66) l20 (l27.take k)).length) cap2) 39 256 (layN wd hg p q (px.take 66) l20 (l27.take k)).length ((layN wd hg p q (px.take 66) l20 (l27.take k)).flatMap T64.cells))]
   refine T_seq (T_region ?_)
   refine TL_v (.bool (decide (((k : Nat) : Int) < (((l27).length : Nat) : Int)))) (fun _ _ j _ => r_lss (j _ _ rfl) (j _ _ rfl)) rfl rfl ?_
   refine TL_seq ?_
   refine T_seq ?_
   refine T_cond rfl (fun h1 => ?_) (fun h1 => ?_)
   ·replace h1 := of_decide_eq_true h1
    refine T_skip' ?_
    refine p_seq ?_
    refine T_seq ?_
    refine T_block ?_
    obtain ⟨⟨ux, uy⟩, hu⟩ : ∃ x, l27[k]? = some x := ⟨_, List.getElem?_eq_getElem (by omega)⟩
    obtain ⟨hux, huy⟩ := hPb _ (List.mem_of_getElem? hu)
    refine T_row 13 rfl (by omega) (fun g30 ha30 => ?_)
    subst ha30
    refine T_rowcap 13 rfl (fun hrc30 => ?_)
    refine T_seq (T_region ?_)
    refine TL_v (pt g30 (0 + k * 2)) (fun _ _ j _ => r_indexAddrS (i := k) sl44 sz47 (j _ _ rfl) (j _ _ rfl) (by omega)) rfl rfl ?_
    refine TL_v (.agg #[.int .i64 ux, .int .i64 uy]) (fun _ _ j hm => r_loadOwn (f := Pt.cells) (u := (⟨ux, uy⟩ : Pt)) (l := (l27)) ag47 sz47 (j _ _ rfl) (hm.row 13 rfl) rfl rfl Pt.cells_len hu) rfl rfl ?_
    refine TL_new 15 (.cells #[.int .i64 0, .int .i64 0] 47) (fun B => pt B 0) (fun _ _ _ _ => r_alloc (v := .agg #[.int .i64 0, .int .i64 0]) (by kernel_rfl) rfl) rfl rfl rfl (w_n rfl) ?_
    intro B31
    refine TL_store 15 (.cells #[.int .i64 ux, .int .i64 uy] 47) rfl (s_st sz47 rfl rfl 15 rfl rfl rfl rfl rfl) rfl rfl (w_n rfl) ?_
    refine TL_seq ?_
    refine T_region ?_
    refine TL_v (.agg #[iN wd, iN hg, .slice a2 ((layN wd hg p q (px.take 66) l20 (l27.take k)).length) cap2]) (s_la ag24 sz24 rfl 14 rfl rfl rfl) rfl rfl ?_
    refine TL_v (.agg #[iN p, iN q, .slice ar4 ((px.take 66).length) cr4]) (s_la ag75 sz75 rfl 6 rfl rfl rfl) rfl rfl ?_
    refine TL_v (.agg #[.int .i64 ux, .int .i64 uy]) (s_la ag47 sz47 rfl 15 rfl rfl rfl) rfl rfl ?_
    refine TL_callN (fun (z : Bool × Option Addr × Nat) => z.1 = false → z.2.1 = a2 ∧ z.2.2 = cap2 ∧ (lay1 wd hg p q (px.take 66) (layN wd hg p q (px.take 66) l20 (l27.take k)) ⟨ux, uy⟩) = (layN wd hg p q (px.take 66) l20 (l27.take k))) (fun (tb32, ab32, cb32) => .agg #[iN wd, iN hg, .slice ab32 ((lay1 wd hg p q (px.take 66) (layN wd hg p q (px.take 66) l20 (l27.take k)) ⟨ux, uy⟩).length) cb32]) (fun (tb32, ab32, cb32) => [(16, .rowB tb32 (.slice ab32 ((lay1 wd hg p q (px.take 66) (layN wd hg p q (px.take 66) l20 (l27.take k)) ⟨ux, uy⟩).length) cb32) 39 256 (lay1 wd hg p q (px.take 66) (layN wd hg p q (px.take 66) l20 (l27.take k)) ⟨ux, uy⟩).length ((lay1 wd hg p q (px.take 66) (layN wd hg p q (px.take 66) l20 (l27.take k)) ⟨ux, uy⟩).flatMap T64.cells))]) (fun _ _ j _ => r_call (args := [.agg #[iN wd, iN hg, .slice a2 ((layN wd hg p q (px.take 66) l20 (l27.take k)).length) cap2], .agg #[iN p, iN q, .slice ar4 ((px.take 66).length) cr4], .agg #[.int .i64 ux, .int .i64 uy]]) (enters_of Try.func63 (by kernel_rfl) rfl) (j _ _ rfl) ((cons2 (j _ _ rfl) (cons2 (j _ _ rfl) (cons2 (j _ _ rfl) rfl)))) rfl) (fun w hm => (rlay_c wd hg (layN wd hg p q (px.take 66) l20 (l27.take k)) a2 cap2 w (rowB_at T64.cells_len (hm.rowB 905 rfl) rfl hbf (SliceAt.own T64.cells_len (hm.row 7 rfl) rfl rfl)) (rowB_cap (hm.rowB 905 rfl) (fun h => ⟨(hbf h).1, (hbf h).2.1⟩) (row_cap (hm.row 7 rfl))) (by rw [layN_len, hlt1]) hwd hhg p q (px.take 66) ar4 cr4 (SliceAt.own C4.cells_len (hm.row 4 rfl) rfl rfl) (row_cap (hm.row 4 rfl)) hp8 hq8 hlen ux uy hux huy (fun c hc => hpx c (List.mem_of_mem_take hc)) (layN_ok (fun c hc => hpx c (List.mem_of_mem_take hc)) htok)).mono fun e w' ⟨tB, a', cap', he, hb, h1, h2⟩ => ⟨(tB, a', cap'), hb, he, h1, newOk1 16 h2⟩) rfl rfl rfl (w_n rfl) ?_
    rintro ⟨tb32, ab32, cb32⟩ hrb32
    dsimp only at hrb32
    refine TL_store 14 (.cells #[iN wd, iN hg, .slice ab32 ((lay1 wd hg p q (px.take 66) (layN wd hg p q (px.take 66) l20 (l27.take k)) ⟨ux, uy⟩).length) cb32] 24) rfl (s_st sz24 rfl rfl 14 rfl rfl rfl rfl rfl) rfl rfl (w_n rfl) ?_
    refine TL_nil ?_
    refine p_blk_n ?_
    refine p_seq ?_
    refine T_region ?_
    refine TL_v (iN (k + 1)) (s_op r_add rfl rfl (iw (by omega) (by omega) (by omega))) rfl rfl ?_
    refine TL_v (iN (k + 1)) (s_mv rfl) rfl rfl ?_
    refine TL_nil ?_
    refine p_mem (_ :: _) (fun _ hm => hm.rowB2 905 16 rfl rfl (fun h => by obtain ⟨h1, h2, h3⟩ := hrb32 h; rw [h1, h2, h3]; exact ⟨rfl, rfl, rfl⟩) rfl) ?_
    exact p_at (k + 1, tB || tb32, ab32, cb32) ⟨⟨by omega, by rw [layN_step hu]; exact rowB_both hbf hrb32⟩, by dsimp only; omega⟩ (sc4 rfl rfl rfl rfl (sc4 rfl rfl rfl rfl (sc rfl (sc rfl (sc rfl sub_nil))))) (sc4 rfl rfl rfl rfl (sc4 rfl rfl rfl rfl (sc4 rfl rfl rfl rfl (sc rfl (sc rfl (sub_cons (by rw [layN_step hu]; rfl) (sub_cons (by rw [layN_step hu]; rfl) sub_nil)))))))
   ·replace h1 := of_decide_eq_false h1
    refine T_exit' ?_
    refine p_then_x ?_
    refine p_then_x ?_
    refine p_blk_x ?_
    refine p_seq ?_
    have hke : k = l27.length := by omega
    subst hke
    have g1 : c2.ts = (layN wd hg p q (px.take 66) l20 (l27.take l27.length)) := by rw [hts_c2, hwd_c1, hhg_c1, hts_c1, List.take_length]
    have z1 : c2.ts.length ≤ 64 := by rw [g1, layN_len]; omega
    have z2 : (layN wd hg p q (px.take 66) l20 (l27.take l27.length)).length ≤ 64 := by rw [layN_len]; omega
    have z3 : c1.ts.length ≤ 64 := by rw [hts_c1]; omega
    refine T_seq (T_draw (V := [(0, .int .i64 0), (1, .bool true), (2, .bool true), (3, pt c2.p 0), (4, .bool true), (5, .bool true), (6, .bool true), (7, pt c2.p 0), (9, .agg #[iN wd, iN hg, .slice a2 ((layN wd hg p q (px.take 66) l20 (l27.take l27.length)).length) cap2])]) [0, 1, 3, 7, 15, 31, 63, 127, 255, 127, 1023, 2047, 4095, 8191, 16383, 8191, 65535, 131071, 262143, 524287, 524287, 1572863, 4194303, 8388607, 16777215] [[(14, none)], [(146, some 0)], [(147, some 1)], [(19, none)], [(149, some 3)], [(150, some 4), (148, some 2)], [(151, some 5)], [(19, none)], [(153, some 7)], [(20, none)], [(154, some 8), (155, some 9)], [(156, some 10), (152, some 6)], [(157, some 11)], [(13, none)], [(159, some 13)], [(7, none)], [(160, some 14), (161, some 15)], [(162, some 16), (158, some 12)], [(163, some 17)], [(8, none)], [(4, none)], [(166, some 20)], [(165, some 19), (167, some 21)], [(168, some 22), (164, some 18)], [(169, some 23)]] 6374656 mixed (by kernel_rfl) ?_)
    refine G_step [0, 1, 2, 3, 4, 5, 6, 7, 9] 8 [] (by kernel_rfl) (allM (all_cons (q_r (.int .i64 0) rfl rfl rfl (s_mv rfl)) (all_cons (q_r (.bool true) rfl rfl rfl (s_op r_eql rfl rfl (by rfl))) (all_cons (q_r (.bool true) rfl rfl rfl (s_mv rfl)) (all_cons (q_run (pt c2.p 0) rfl rfl (wv_y rfl rfl) rfl (s_mv rfl)) (all_cons (q_run (.bool true) rfl rfl (wv_y rfl rfl) rfl (fun _ _ j _ => r_as (r_neqPn po28 (j _ _ rfl) (j _ _ rfl)) (by rfl))) (all_cons (q_r (.bool true) rfl rfl rfl (s_pt rfl rfl)) (all_cons (q_r (.bool true) rfl rfl rfl (s_mv rfl)) (all_cons (q_run (pt c2.p 0) rfl rfl (wv_y rfl rfl) rfl (s_mv rfl)) (all_cons (q_run (.agg #[iN wd, iN hg, .slice a2 ((layN wd hg p q (px.take 66) l20 (l27.take l27.length)).length) cap2]) rfl rfl (wv_y rfl rfl) rfl (s_la ag24 sz24 rfl 14 rfl rfl rfl)) all_nil)))))))))) (allM (all_cons ?_ all_nil))
    refine LOb_callN (fun (_ : Option Addr × Nat) => True) (fun (ar36, cr36) => .agg #[iN c2.wd, iN c2.hg, .slice ar36 ((c2.ts).length) cr36]) (fun (ar36, cr36) => [(17, .row (.slice ar36 ((c2.ts).length) cr36) 39 256 ((c2.ts).length) ((c2.ts).flatMap T64.cells))]) (fun (ar36, cr36) => []) rfl (wv_y rfl rfl) rfl rfl (fun _ _ j _ => r_call (args := [pt c2.p 0]) (enters_of Try.func24 (by kernel_rfl) rfl) (j _ _ rfl) ((cons2 (j _ _ rfl) rfl)) rfl) (fun w hm => (show_c c2 w (hm.cv 960 rfl (List.Mem.head _))).mono fun e w' ⟨a', cap', he, hb, hr⟩ => ⟨(a', cap'), trivial, he, hb, newOk1 17 hr⟩) (fun (ar36, cr36) => by kernel_rfl) ?_
    rintro ⟨ar36, cr36⟩ -
    refine G_step [9] 10 [] (by kernel_rfl) (allM (all_cons (q_run (.agg #[iN wd, iN hg, .slice a2 ((layN wd hg p q (px.take 66) l20 (l27.take l27.length)).length) cap2]) rfl rfl (wv_y rfl rfl) rfl (s_la ag24 sz24 rfl 14 rfl rfl rfl)) all_nil)) (allM (all_cons ?_ all_nil))
    refine LOb_call (.bool true) [(11, .bool true), (12, .bool true), (13, pt c1.p 0), (15, .agg #[iN wd, iN hg, .slice ar21 ((l20).length) cr21])] rfl (wv_y rfl rfl) rfl rfl (fun _ _ j _ => r_call (args := [.agg #[iN c2.wd, iN c2.hg, .slice ar36 ((c2.ts).length) cr36], .agg #[iN wd, iN hg, .slice a2 ((layN wd hg p q (px.take 66) l20 (l27.take l27.length)).length) cap2]]) (enters_of Try.func28 (by kernel_rfl) rfl) (j _ _ rfl) ((cons2 (j _ _ rfl) (cons2 (j _ _ rfl) rfl))) rfl) (fun w hm => (rsame_c ((c2.wd : Nat) : Int) ((c2.hg : Nat) : Int) (c2.ts) ar36 cr36 w (SliceAt.own T64.cells_len (hm.row 17 rfl) rfl rfl) (row_cap (hm.row 17 rfl)) ((wd : Nat) : Int) ((hg : Nat) : Int) (layN wd hg p q (px.take 66) l20 (l27.take l27.length)) a2 cap2 (rowB_at T64.cells_len (hm.rowB 905 rfl) rfl hbf (SliceAt.own T64.cells_len (hm.row 7 rfl) rfl rfl)) (rowB_cap (hm.rowB 905 rfl) (fun h => ⟨(hbf h).1, (hbf h).2.1⟩) (row_cap (hm.row 7 rfl))) (by first | omega | simp) (by first | omega | simp)).mono fun _ _ h => ⟨h.1.trans (congrArg Ending.returned (bool_as (decide_eq_true ⟨by rw [hwd_c2, hwd_c1], by rw [hhg_c2, hhg_c1], g1⟩))), h.2⟩) (by kernel_rfl) ?_
    refine G_step [11, 12, 13, 15] 14 [] (by kernel_rfl) (allM (all_cons (q_r (.bool true) rfl rfl rfl (s_pt rfl rfl)) (all_cons (q_r (.bool true) rfl rfl rfl (s_mv rfl)) (all_cons (q_run (pt c1.p 0) rfl rfl (wv_y rfl rfl) rfl (s_mv rfl)) (all_cons (q_run (.agg #[iN wd, iN hg, .slice ar21 ((l20).length) cr21]) rfl rfl (wv_y rfl rfl) rfl (s_la ag24 sz24 rfl 5 rfl rfl rfl)) all_nil))))) (allM (all_cons ?_ all_nil))
    refine LOb_callN (fun (_ : Option Addr × Nat) => True) (fun (ar37, cr37) => .agg #[iN c1.wd, iN c1.hg, .slice ar37 ((c1.ts).length) cr37]) (fun (ar37, cr37) => [(18, .row (.slice ar37 ((c1.ts).length) cr37) 39 256 ((c1.ts).length) ((c1.ts).flatMap T64.cells))]) (fun (ar37, cr37) => []) rfl (wv_y rfl rfl) rfl rfl (fun _ _ j _ => r_call (args := [pt c1.p 0]) (enters_of Try.func24 (by kernel_rfl) rfl) (j _ _ rfl) ((cons2 (j _ _ rfl) rfl)) rfl) (fun w hm => (show_c c1 w (hm.cv 960 rfl (List.Mem.tail _ (List.Mem.head _)))).mono fun e w' ⟨a', cap', he, hb, hr⟩ => ⟨(a', cap'), trivial, he, hb, newOk1 18 hr⟩) (fun (ar37, cr37) => by kernel_rfl) ?_
    rintro ⟨ar37, cr37⟩ -
    refine G_step [15] 16 [] (by kernel_rfl) (allM (all_cons (q_run (.agg #[iN wd, iN hg, .slice ar21 ((l20).length) cr21]) rfl rfl (wv_y rfl rfl) rfl (s_la ag24 sz24 rfl 5 rfl rfl rfl)) all_nil)) (allM (all_cons ?_ all_nil))
    refine LOb_call (.bool true) [(17, .bool true), (18, .bool true), (19, .agg #[iN p, iN q, .slice ar4 ((px.take 66).length) cr4]), (20, .agg #[iN p, iN q, .slice a px.length cap])] rfl (wv_y rfl rfl) rfl rfl (fun _ _ j _ => r_call (args := [.agg #[iN c1.wd, iN c1.hg, .slice ar37 ((c1.ts).length) cr37], .agg #[iN wd, iN hg, .slice ar21 ((l20).length) cr21]]) (enters_of Try.func28 (by kernel_rfl) rfl) (j _ _ rfl) ((cons2 (j _ _ rfl) (cons2 (j _ _ rfl) rfl))) rfl) (fun w hm => (rsame_c ((c1.wd : Nat) : Int) ((c1.hg : Nat) : Int) (c1.ts) ar37 cr37 w (SliceAt.own T64.cells_len (hm.row 18 rfl) rfl rfl) (row_cap (hm.row 18 rfl)) ((wd : Nat) : Int) ((hg : Nat) : Int) (l20) ar21 cr21 (SliceAt.own T64.cells_len (hm.row 7 rfl) rfl rfl) (row_cap (hm.row 7 rfl)) (by first | omega | simp) (by first | omega | simp)).mono fun _ _ h => ⟨h.1.trans (congrArg Ending.returned (bool_as (decide_eq_true ⟨by rw [hwd_c1], by rw [hhg_c1], hts_c1⟩))), h.2⟩) (by kernel_rfl) ?_
    refine G_step [17, 18, 19, 20] 21 [] (by kernel_rfl) (allM (all_cons (q_r (.bool true) rfl rfl rfl (s_pt rfl rfl)) (all_cons (q_r (.bool true) rfl rfl rfl (s_mv rfl)) (all_cons (q_run (.agg #[iN p, iN q, .slice ar4 ((px.take 66).length) cr4]) rfl rfl (wv_y rfl rfl) rfl (s_la ag75 sz75 rfl 6 rfl rfl rfl)) (all_cons (q_run (.agg #[iN p, iN q, .slice a px.length cap]) rfl rfl (wv_y rfl rfl) rfl (s_la ag75 sz75 rfl 2 rfl rfl rfl)) all_nil))))) (allM (all_cons ?_ all_nil))
    refine LOb_callN (fun (_ : Option Addr × Nat) => True) (fun (ar38, cr38) => .agg #[iN p, iN q, .slice ar38 ((px.take 66).length) cr38]) (fun (ar38, cr38) => [(19, .row (.slice ar38 ((px.take 66).length) cr38) 37 4 ((px.take 66).length) ((px.take 66).flatMap C4.cells))]) (fun (ar38, cr38) => []) rfl (wv_y rfl rfl) rfl rfl (fun _ _ j _ => r_call (args := [.agg #[iN p, iN q, .slice a px.length cap]]) (enters_of Try.func47 (by kernel_rfl) rfl) (j _ _ rfl) ((cons2 (j _ _ rfl) rfl)) rfl) (fun w hm => (sown_c ((p : Nat) : Int) ((q : Nat) : Int) px a cap w (hv.keep hm.ext) hcap).mono fun e w' ⟨a', cap', he, hb, hr⟩ => ⟨(a', cap'), trivial, he, hb, newOk1 19 hr⟩) (fun (ar38, cr38) => by kernel_rfl) ?_
    rintro ⟨ar38, cr38⟩ -
    refine G_step [19] 22 [] (by kernel_rfl) (allM (all_cons (q_run (.agg #[iN p, iN q, .slice ar4 ((px.take 66).length) cr4]) rfl rfl (wv_y rfl rfl) rfl (s_la ag75 sz75 rfl 6 rfl rfl rfl)) all_nil)) (allM (all_cons ?_ all_nil))
    refine LOb_call (.bool true) [(23, .bool true), (24, .bool true)] rfl (wv_y rfl rfl) rfl rfl (fun _ _ j _ => r_call (args := [.agg #[iN p, iN q, .slice ar4 ((px.take 66).length) cr4], .agg #[iN p, iN q, .slice ar38 ((px.take 66).length) cr38]]) (enters_of Try.func43 (by kernel_rfl) rfl) (j _ _ rfl) ((cons2 (j _ _ rfl) (cons2 (j _ _ rfl) rfl))) rfl) (fun w hm => (srsame_n ((p : Nat) : Int) ((q : Nat) : Int) (px.take 66) ar4 cr4 w (SliceAt.own C4.cells_len (hm.row 4 rfl) rfl rfl) (row_cap (hm.row 4 rfl)) ((p : Nat) : Int) ((q : Nat) : Int) (px.take 66) ar38 cr38 (SliceAt.own C4.cells_len (hm.row 19 rfl) rfl rfl) (row_cap (hm.row 19 rfl)) (px64b hp8 hq8 hlen) (px64b hp8 hq8 hlen) ((px.take 66).length) rfl ((px.take 66).length) rfl).mono fun _ _ h => ⟨h.1.trans (congrArg Ending.returned (bool_as (decide_eq_true ⟨rfl, rfl, rfl⟩))), h.2⟩) (by kernel_rfl) ?_
    refine G_last [23, 24] [(6, .bool true)] (by kernel_rfl) (allM (all_cons (q_r (.bool true) rfl rfl rfl (s_pt rfl rfl)) (all_cons (q_r (.bool true) rfl rfl rfl (s_as rfl)) all_nil))) (end_new 24 rfl rfl end_nil) ?_
    refine T_ret' ?_
    refine ret_of rfl (.bool true) (fun tmps w hk hm => res1 rfl (res_tmp (hk 6 _ rfl))) (fun w hm => ?_)
    exact ⟨rfl, hm.ext⟩
  ·skip
   refine T_seq (T_region ?_)
   refine TL_v (pt c1.p 0) (s_mv rfl) rfl rfl ?_
   refine TL_v (pt B3 0) (s_fa fl94_0 sz3 rfl) rfl rfl ?_
   refine TL_v (.int .i64 xi) (s_ld ag3 rfl 3 rfl rfl) rfl rfl ?_
   refine TL_v (pt B3 1) (s_fa fl94_1 sz3 rfl) rfl rfl ?_
   refine TL_v (.int .i64 yi) (s_ld ag3 rfl 3 rfl rfl) rfl rfl ?_
   refine TL_v (pt B3 2) (s_fa fl94_2 sz3 rfl) rfl rfl ?_
   refine TL_v (.int .i64 wi) (s_ld ag3 rfl 3 rfl rfl) rfl rfl ?_
   refine TL_v (pt B3 3) (s_fa fl94_3 sz3 rfl) rfl rfl ?_
   refine TL_v (.int .i64 hi) (s_ld ag3 rfl 3 rfl rfl) rfl rfl ?_
   refine TL_call (.tuple #[.agg #[.int .i64 0, .int .i64 0, .slice none 0 0], .int .i64 2]) (fun _ _ j _ => r_call (args := [pt c1.p 0, .int .i64 xi, .int .i64 yi, .int .i64 wi, .int .i64 hi]) (enters_of Try.func59 (by kernel_rfl) rfl) (j _ _ rfl) ((cons2 (j _ _ rfl) (cons2 (j _ _ rfl) (cons2 (j _ _ rfl) (cons2 (j _ _ rfl) (cons2 (j _ _ rfl) rfl)))))) rfl) (fun w hm => cut_no c1 xi yi wi hi w (hm.cv 960 rfl (List.Mem.head _)) (by rw [hwd_c1, hhg_c1]; exact hin)) rfl rfl rfl (w_n rfl) ?_
   refine TL_v (.tuple #[.agg #[.int .i64 0, .int .i64 0, .slice none 0 0], .int .i64 2]) (s_mv rfl) rfl rfl ?_
   refine TL_v (.agg #[.int .i64 0, .int .i64 0, .slice none 0 0]) (s_ex rfl rfl) rfl rfl ?_
   refine TL_v (.int .i64 2) (s_ex rfl rfl) rfl rfl ?_
   refine TL_new 20 (.cells #[.int .i64 0, .int .i64 0, .slice none 0 0] 75) (fun B => pt B 0) (fun _ _ _ _ => r_alloc (v := .agg #[.int .i64 0, .int .i64 0, .slice none 0 0]) (by kernel_rfl) rfl) rfl rfl rfl (w_n rfl) ?_
   intro B39
   refine TL_store 20 (.cells #[.int .i64 0, .int .i64 0, .slice none 0 0] 75) rfl (s_st sz75 rfl rfl 20 rfl rfl rfl rfl rfl) rfl rfl (w_n rfl) ?_
   refine TL_v (.int .i64 2) (s_as rfl) rfl rfl ?_
   refine TL_seq ?_
   refine T_seq (T_region ?_)
   refine TL_v (.agg #[iN wd, iN hg, .slice ar21 ((l20).length) cr21]) (s_la ag24 sz24 rfl 5 rfl rfl rfl) rfl rfl ?_
   refine TL_v (pt B3 0) (s_fa fl94_0 sz3 rfl) rfl rfl ?_
   refine TL_v (.int .i64 xi) (s_ld ag3 rfl 3 rfl rfl) rfl rfl ?_
   refine TL_v (pt B3 1) (s_fa fl94_1 sz3 rfl) rfl rfl ?_
   refine TL_v (.int .i64 yi) (s_ld ag3 rfl 3 rfl rfl) rfl rfl ?_
   refine TL_v (pt B3 2) (s_fa fl94_2 sz3 rfl) rfl rfl ?_
   refine TL_v (.int .i64 wi) (s_ld ag3 rfl 3 rfl rfl) rfl rfl ?_
   refine TL_v (pt B3 3) (s_fa fl94_3 sz3 rfl) rfl rfl ?_
   refine TL_v (.int .i64 hi) (s_ld ag3 rfl 3 rfl rfl) rfl rfl ?_
   refine TL_call (.tuple #[.agg #[.int .i64 0, .int .i64 0, .slice none 0 0], .bool false]) (fun _ _ j _ => r_call (args := [.agg #[iN wd, iN hg, .slice ar21 ((l20).length) cr21], .int .i64 xi, .int .i64 yi, .int .i64 wi, .int .i64 hi]) (enters_of Try.func61 (by kernel_rfl) rfl) (j _ _ rfl) ((cons2 (j _ _ rfl) (cons2 (j _ _ rfl) (cons2 (j _ _ rfl) (cons2 (j _ _ rfl) (cons2 (j _ _ rfl) rfl)))))) rfl) (fun w _ => rcut_no wd hg (l20) ar21 cr21 xi yi wi hi w hwd hhg hin) rfl rfl rfl (w_n rfl) ?_
   refine TL_v (.tuple #[.agg #[.int .i64 0, .int .i64 0, .slice none 0 0], .bool false]) (s_mv rfl) rfl rfl ?_
   refine TL_v (.agg #[.int .i64 0, .int .i64 0, .slice none 0 0]) (s_ex rfl rfl) rfl rfl ?_
   refine TL_v (.bool false) (s_ex rfl rfl) rfl rfl ?_
   refine TL_new 21 (.cells #[.int .i64 0, .int .i64 0, .slice none 0 0] 75) (fun B => pt B 0) (fun _ _ _ _ => r_alloc (v := .agg #[.int .i64 0, .int .i64 0, .slice none 0 0]) (by kernel_rfl) rfl) rfl rfl rfl (w_n rfl) ?_
   intro B40
   refine TL_store 21 (.cells #[.int .i64 0, .int .i64 0, .slice none 0 0] 75) rfl (s_st sz75 rfl rfl 21 rfl rfl rfl rfl rfl) rfl rfl (w_n rfl) ?_
   refine TL_v (.bool false) (s_as rfl) rfl rfl ?_
   refine TL_seq ?_
   refine T_sub [(4, pt B2 0), (5, pt B3 0), (6, .bool false), (7, pt Bx3 0), (8, pt Bx4 0), (13, pt c1.p 0), (15, pt B39 0), (14, .int .i64 2), (16, pt B40 0), (17, .bool false)] [(960, .cvs [c1]), (7, .row (.slice ar21 ((l20).length) cr21) 39 256 ((l20).length) ((l20).flatMap T64.cells)), (1, .blk B1 (.cells #[iN wd, iN hg, .slice at1 ts.length ct] 24)), (2, .blk B2 (.cells #[iN p, iN q, .slice a px.length cap] 75)), (3, .blk B3 (.cells #[.int .i64 xi, .int .i64 yi, .int .i64 wi, .int .i64 hi, .slice al l.length cl] 94)), (4, .row (.slice ar4 ((px.take 66).length) cr4) 37 4 ((px.take 66).length) ((px.take 66).flatMap C4.cells)), (6, .blk Bx4 (.cells #[iN p, iN q, .slice ar4 ((px.take 66).length) cr4] 75)), (5, .blk Bx3 (.cells #[iN wd, iN hg, .slice ar21 ((l20).length) cr21] 24)), (8, .blk B22 (.cells #[.int .i64 0, .int .i64 0, .slice none 0 0] 75)), (20, .blk B39 (.cells #[.int .i64 0, .int .i64 0, .slice none 0 0] 75)), (21, .blk B40 (.cells #[.int .i64 0, .int .i64 0, .slice none 0 0] 75))] (sc4 rfl rfl rfl rfl (sc4 rfl rfl rfl rfl (sc rfl (sc rfl sub_nil)))) (sc4 rfl rfl rfl rfl (sc4 rfl rfl rfl rfl (sc rfl (sc rfl (sc rfl sub_nil))))) ?_
   refine T_seq ?_
   refine T_seq (T_region ?_)
   refine TL_v (.int .i64 2) (s_mv rfl) rfl rfl ?_
   refine TL_v (.bool false) (s_op r_eql rfl rfl (by rfl)) rfl rfl ?_
   refine TL_v (.bool false) (s_mv rfl) rfl rfl ?_
   refine TL_v (.bool false) (fun _ _ j _ => r_as (r_neqB (by kernel_rfl) (j _ _ rfl) (j _ _ rfl)) (by rfl)) rfl rfl ?_
   refine TL_v (.bool false) (s_mv rfl) rfl rfl ?_
   refine TL_q (.bool false) (s_mv rfl) rfl rfl rfl (want_y 96 rfl rfl rfl) ?_
   refine TL_q (.bool true) (fun _ _ j _ => r_not (b := false) (j _ _ rfl)) rfl rfl rfl (want_y 96 rfl rfl rfl) ?_
   refine TL_q (.bool true) (s_mv rfl) rfl rfl rfl (want_y 96 rfl rfl rfl) ?_
   refine TL_q (.int .i64 2) (s_mv rfl) rfl rfl rfl (want_y 99 rfl rfl rfl) ?_
   refine TL_q (.bool false) (s_op r_neq rfl rfl (by rfl)) rfl rfl rfl (want_y 99 rfl rfl rfl) ?_
   refine TL_q (.bool false) (s_pt rfl rfl) rfl rfl rfl (want_y 96 rfl rfl rfl) ?_
   refine TL_v (.bool false) (s_pf rfl rfl) rfl rfl ?_
   refine TL_v (.bool false) (s_mv rfl) rfl rfl ?_
   refine TL_q (.agg #[.int .i64 0, .int .i64 0, .slice none 0 0]) (s_la ag75 sz75 rfl 20 rfl rfl rfl) rfl rfl rfl (want_y 104 rfl rfl rfl) ?_
   refine TL_q (.agg #[.int .i64 0, .int .i64 0, .slice none 0 0]) (s_la ag75 sz75 rfl 21 rfl rfl rfl) rfl rfl rfl (want_y 104 rfl rfl rfl) ?_
   refine TL_call (.bool true) (fun _ _ j _ => r_call (args := [.agg #[.int .i64 0, .int .i64 0, .slice none 0 0], .agg #[.int .i64 0, .int .i64 0, .slice none 0 0]]) (enters_of Try.func43 (by kernel_rfl) rfl) (j _ _ rfl) ((cons2 (j _ _ rfl) (cons2 (j _ _ rfl) rfl))) rfl) (fun w _ => (srsame_n (0 : Int) (0 : Int) [] none 0 w (sliceNil w) (by decide) (0 : Int) (0 : Int) [] none 0 (sliceNil w) (by decide) (by first | omega | (simp; done) | (simp; omega)) (by first | omega | (simp; done) | (simp; omega)) 0 rfl 0 rfl).mono fun _ _ h => ⟨h.1.trans (congrArg Ending.returned (bool_as (decide_eq_true ⟨rfl, rfl, rfl⟩))), h.2⟩) rfl rfl rfl (want_y 104 rfl rfl rfl) ?_
   refine TL_q (.bool false) (fun _ _ j _ => r_not (b := true) (j _ _ rfl)) rfl rfl rfl (want_y 104 rfl rfl rfl) ?_
   refine TL_v (.bool false) (s_pf rfl rfl) rfl rfl ?_
   refine TL_seq ?_
   refine T_cond_f rfl ?_
   refine T_skip' ?_
   refine p_seq ?_
   refine T_seq (T_region ?_)
   refine TL_v (pt B3 4) (s_fa fl94_4 sz44 rfl) rfl rfl ?_
   refine TL_v (.slice al l.length cl) (s_ld ag44 rfl 3 rfl rfl) rfl rfl ?_
   refine TL_v (pt B3 4) (s_fa fl94_4 sz44 rfl) rfl rfl ?_
   refine TL_v (.slice al l.length cl) (s_ld ag44 rfl 3 rfl rfl) rfl rfl ?_
   refine TL_v (iN l.length) (fun _ _ j _ => r_len sl44 (j _ _ rfl)) rfl rfl ?_
   refine TL_v (iN (min l.length 4)) (s_op r_min rfl rfl (int_as (minI _ 4))) rfl rfl ?_
   obtain ⟨l41, hl41, hn41⟩ : ∃ lz, lz = l.take (min l.length 4) ∧ lz.length = min l.length 4 := ⟨_, rfl, by rw [List.length_take]; omega⟩
   have hs41 := SliceAt.front hl (n := min l.length 4) (m := cl) (by omega) (by omega) (by omega)
   rw [← hl41] at hs41
   refine TL_v (.slice al l41.length cl) (fun ρ _ j _ => r_as (r_sliceO sl44 sz47 (j _ _ rfl) (bd_none ρ _) (bd_some (n := min l.length 4) (j _ _ rfl)) (bd_none ρ _) (by simp) (by omega) (by omega) (by omega)) (by rw [hn41]; exact slo_zero _ _ _ _)) rfl rfl ?_
   refine TL_callN (fun (_ : Option Addr × Nat) => True) (fun (ar42, cr42) => .slice ar42 ((l41).length) cr42) (fun (ar42, cr42) => [(22, .row (.slice ar42 ((l41).length) cr42) 47 2 ((l41).length) ((l41).flatMap Pt.cells))]) (fun _ _ j _ => r_call (args := [.slice al l41.length cl]) (enters_of Try.func62 (by kernel_rfl) rfl) (j _ _ rfl) ((cons2 (j _ _ rfl) rfl)) rfl) (fun w hm => (clone_ptl Pt.cells Pt.cells_len Pt.cells_one l41 al cl w (hs41.keep hm.ext) (by omega)).mono fun e w' ⟨a', cap', he, hb, hr⟩ => ⟨(a', cap'), trivial, he, hb, newOk1 22 hr⟩) rfl rfl rfl (w_n rfl) ?_
   rintro ⟨ar42, cr42⟩ -
   refine TL_v (.slice ar42 ((l41).length) cr42) (s_as rfl) rfl rfl ?_
   refine TL_seq ?_
   have e4p : l41 = l.take 4 := by rw [hl41]; exact take_min l 4
   have hP : l41.length ≤ 4 := by omega
   have hPb : ∀ u ∈ l41, inI u.x ∧ inI u.y := by rw [e4p]; exact fun u hu => hlb u (List.mem_of_mem_take hu)
   clear hn41 hl41
   refine T_seq (T_region ?_)
   refine TL_v (pt c1.p 0) (s_mv rfl) rfl rfl ?_
   refine TL_v (.agg #[iN p, iN q, .slice ar4 ((px.take 66).length) cr4]) (s_la ag75 sz75 rfl 6 rfl rfl rfl) rfl rfl ?_
   refine TL_v (.slice ar42 ((l41).length) cr42) (s_mv rfl) rfl rfl ?_
   refine TL_callX (ι := Cv) (fun (c2 : Cv) e w w' => e = .returned (.tuple #[pt c2.p 0, .int .i64 0]) ∧ CvNew w w' [c1] c2 ∧ (∀ x ∈ [c1], ∀ q ∈ x.ps, q < w.heap.size) ∧ c2.wd = c1.wd ∧ c2.hg = c1.hg ∧ c2.ts = layN c1.wd c1.hg p q (px.take 66) c1.ts (l41)) (fun c2 => .tuple #[pt c2.p 0, .int .i64 0]) _ (fun _ _ j _ => r_call (args := [pt c1.p 0, .agg #[iN p, iN q, .slice ar4 ((px.take 66).length) cr4], .slice ar42 ((l41).length) cr42]) (enters_of Try.func60 (by kernel_rfl) rfl) (j _ _ rfl) ((cons2 (j _ _ rfl) (cons2 (j _ _ rfl) (cons2 (j _ _ rfl) rfl)))) rfl) (fun w hm => (lay_ok c1 p q (px.take 66) ar4 cr4 (l41) ar42 cr42 w (hm.cv 960 rfl (List.Mem.head _)) (SliceAt.own C4.cells_len (hm.row 4 rfl) rfl rfl) (row_cap (hm.row 4 rfl)) (SliceAt.own Pt.cells_len (hm.row 22 rfl) rfl rfl) (row_cap (hm.row 22 rfl)) hp8 hq8 hlen (fun c hc => hpx c (List.mem_of_mem_take hc)) (by rw [hts_c1]; exact htok)).mono fun e w' ⟨d, he, hn, hf⟩ => ⟨d, he, hn, hm.cvUnder 960 rfl, hf⟩) (fun _ e w w' hm h => ⟨h.1, hm.cvGet 960 rfl h.2.1 (fun x hx => by rw [List.mem_singleton.1 hx]; exact (List.Mem.head _))⟩) rfl rfl rfl (w_n rfl) ?_
   rintro c2 ⟨_, w1_c2, w2_c2, _, hn_c2, hu_c2, hwd_c2, hhg_c2, hts_c2⟩
   refine TL_v (.tuple #[pt c2.p 0, .int .i64 0]) (s_mv rfl) rfl rfl ?_
   refine TL_v (pt c2.p 0) (s_ex rfl rfl) rfl rfl ?_
   refine TL_v (.int .i64 0) (s_ex rfl rfl) rfl rfl ?_
   refine TL_v (pt c2.p 0) (s_as rfl) rfl rfl ?_
   refine TL_v (.int .i64 0) (s_as rfl) rfl rfl ?_
   refine TL_seq ?_
   refine T_sub [(4, pt B2 0), (6, .bool false), (7, pt Bx3 0), (8, pt Bx4 0), (13, pt c1.p 0), (18, .slice ar42 ((l41).length) cr42), (19, pt c2.p 0), (14, .int .i64 0)] [(960, .cvs [c2, c1]), (22, .row (.slice ar42 ((l41).length) cr42) 47 2 ((l41).length) ((l41).flatMap Pt.cells)), (7, .row (.slice ar21 ((l20).length) cr21) 39 256 ((l20).length) ((l20).flatMap T64.cells)), (1, .blk B1 (.cells #[iN wd, iN hg, .slice at1 ts.length ct] 24)), (2, .blk B2 (.cells #[iN p, iN q, .slice a px.length cap] 75)), (3, .blk B3 (.cells #[.int .i64 xi, .int .i64 yi, .int .i64 wi, .int .i64 hi, .slice al l.length cl] 94)), (4, .row (.slice ar4 ((px.take 66).length) cr4) 37 4 ((px.take 66).length) ((px.take 66).flatMap C4.cells)), (6, .blk Bx4 (.cells #[iN p, iN q, .slice ar4 ((px.take 66).length) cr4] 75)), (5, .blk Bx3 (.cells #[iN wd, iN hg, .slice ar21 ((l20).length) cr21] 24)), (8, .blk B22 (.cells #[.int .i64 0, .int .i64 0, .slice none 0 0] 75)), (20, .blk B39 (.cells #[.int .i64 0, .int .i64 0, .slice none 0 0] 75)), (21, .blk B40 (.cells #[.int .i64 0, .int .i64 0, .slice none 0 0] 75))] (sc4 rfl rfl rfl rfl (sc4 rfl rfl rfl rfl sub_nil)) (sc4 rfl rfl rfl rfl (sc4 rfl rfl rfl rfl (sc4 rfl rfl rfl rfl sub_nil))) ?_
   refine T_seq ?_
   refine T_seq (T_region ?_)
   refine TL_v (.agg #[iN p, iN q, .slice ar4 ((px.take 66).length) cr4]) (s_la ag75 sz75 rfl 6 rfl rfl rfl) rfl rfl ?_
   refine TL_call (.bool true) (fun _ _ j _ => r_call (args := [.agg #[iN p, iN q, .slice ar4 ((px.take 66).length) cr4]]) (enters_of Try.func45 (by kernel_rfl) rfl) (j _ _ rfl) ((cons2 (j _ _ rfl) rfl)) rfl) (fun w _ => (rright_c ((p : Nat) : Int) ((q : Nat) : Int) ar4 ((px.take 66).length) cr4 w).mono fun _ _ h => ⟨h.1.trans (congrArg Ending.returned (bool_as (rightS_of hp8 hq8 hlen))), h.2⟩) rfl rfl rfl (w_n rfl) ?_
   refine TL_v (.bool false) (fun _ _ j _ => r_not (b := true) (j _ _ rfl)) rfl rfl ?_
   refine TL_seq ?_
   refine T_cond_f rfl ?_
   refine T_skip' ?_
   refine p_seq ?_
   refine T_seq (T_region ?_)
   refine TL_v (.agg #[iN wd, iN hg, .slice ar21 ((l20).length) cr21]) (s_la ag24 sz24 rfl 5 rfl rfl rfl) rfl rfl ?_
   refine TL_new 23 (.cells #[.int .i64 0, .int .i64 0, .slice none 0 0] 24) (fun B => pt B 0) (fun _ _ _ _ => r_alloc (v := .agg #[.int .i64 0, .int .i64 0, .slice none 0 0]) (by kernel_rfl) rfl) rfl rfl rfl (w_n rfl) ?_
   intro B43
   refine TL_store 23 (.cells #[iN wd, iN hg, .slice ar21 ((l20).length) cr21] 24) rfl (s_st sz24 rfl rfl 23 rfl rfl rfl rfl rfl) rfl rfl (w_n rfl) ?_
   refine TL_seq ?_
   refine T_seq ?_
   refine T_seq (T_region ?_)
   refine TL_v (.slice ar42 ((l41).length) cr42) (s_mv rfl) rfl rfl ?_
   refine TL_v (iN ((l41).length)) (fun _ _ j _ => r_len sl44 (j _ _ rfl)) rfl rfl ?_
   refine TL_v (.int .i64 0) (s_mv rfl) rfl rfl ?_
   refine TL_seq ?_
   refine T_block ?_
   refine T_mem (_ :: _) (fun _ hm => hm.rowB0 905 (.slice ar21 ((l20).length) cr21) 39 256 l20.length (l20.flatMap T64.cells)) ?_
   refine T_loop (ι := Nat × Bool × Option Addr × Nat) (fun (z : Nat × Bool × Option Addr × Nat) => match z with | (k, tB, a2, cap2) => k ≤ l41.length ∧ (tB = false → a2 = ar21 ∧ cap2 = cr21 ∧ (layN wd hg p q (px.take 66) l20 (l41.take k)) = l20)) (fun (z : Nat × Bool × Option Addr × Nat) => match z with | (k, tB, a2, cap2) => [(4, pt B2 0), (6, .bool false), (7, pt Bx3 0), (8, pt Bx4 0), (13, pt c1.p 0), (19, pt c2.p 0), (14, .int .i64 0), (20, pt B43 0), (135, .slice ar42 ((l41).length) cr42), (136, iN ((l41).length)), (137, iN k)]) (fun (z : Nat × Bool × Option Addr × Nat) => match z with | (k, tB, a2, cap2) => [(960, .cvs [c2, c1]), (22, .row (.slice ar42 ((l41).length) cr42) 47 2 ((l41).length) ((l41).flatMap Pt.cells)), (7, .row (.slice ar21 ((l20).length) cr21) 39 256 ((l20).length) ((l20).flatMap T64.cells)), (1, .blk B1 (.cells #[iN wd, iN hg, .slice at1 ts.length ct] 24)), (2, .blk B2 (.cells #[iN p, iN q, .slice a px.length cap] 75)), (3, .blk B3 (.cells #[.int .i64 xi, .int .i64 yi, .int .i64 wi, .int .i64 hi, .slice al l.length cl] 94)), (4, .row (.slice ar4 ((px.take 66).length) cr4) 37 4 ((px.take 66).length) ((px.take 66).flatMap C4.cells)), (6, .blk Bx4 (.cells #[iN p, iN q, .slice ar4 ((px.take 66).length) cr4] 75)), (5, .blk Bx3 (.cells #[iN wd, iN hg, .slice ar21 ((l20).length) cr21] 24)), (8, .blk B22 (.cells #[.int .i64 0, .int .i64 0, .slice none 0 0] 75)), (20, .blk B39 (.cells #[.int .i64 0, .int .i64 0, .slice none 0 0] 75)), (21, .blk B40 (.cells #[.int .i64 0, .int .i64 0, .slice none 0 0] 75)), (23, .blk B43 (.cells #[iN wd, iN hg, .slice a2 ((layN wd hg p q (px.take 66) l20 (l41.take k)).length) cap2] 24)), (905, .rowB tB (.slice a2 ((layN wd hg p q (px.take 66) l20 (l41.take k)).length) cap2) 39 256 (layN wd hg p q (px.take 66) l20 (l41.take k)).length ((layN wd hg p q (px.take 66) l20 (l41.take k)).flatMap T64.cells))]) (fun (z : Nat × Bool × Option Addr × Nat) => match z with | (k, tB, a2, cap2) => l41.length - k) (0, false, ar21, cr21) ⟨Nat.zero_le _, fun _ => ⟨rfl, rfl, rfl⟩⟩ (sc4 rfl rfl rfl rfl (sc4 rfl rfl rfl rfl (sc rfl (sc rfl (sc rfl sub_nil))))) (sc4 rfl rfl rfl rfl (sc4 rfl rfl rfl rfl (sc4 rfl rfl rfl rfl (sc rfl (sc rfl sub_nil))))) ?_
   rintro ⟨k, tB, a2, cap2⟩ hp
   obtain ⟨hk, hbf⟩ := hp
   show T _ _ _ [(4, pt B2 0), (6, .bool false), (7, pt Bx3 0), (8, pt Bx4 0), (13, pt c1.p 0), (19, pt c2.p 0), (14, .int .i64 0), (20, pt B43 0), (135, .slice ar42 ((l41).length) cr42), (136, iN ((l41).length)), (137, iN k)] [(960, .cvs [c2, c1]), (22, .row (.slice ar42 ((l41).length) cr42) 47 2 ((l41).length) ((l41).flatMap Pt.cells)), (7, .row (.slice ar21 ((l20).length) cr21) 39 256 ((l20).length) ((l20).flatMap T64.cells)), (1, .blk B1 (.cells #[iN wd, iN hg, .slice at1 ts.length ct] 24)), (2, .blk B2 (.cells #[iN p, iN q, .slice a px.length cap] 75)), (3, .blk B3 (.cells #[.int .i64 xi, .int .i64 yi, .int .i64 wi, .int .i64 hi, .slice al l.length cl] 94)), (4, .row (.slice ar4 ((px.take 66).length) cr4) 37 4 ((px.take 66).length) ((px.take 66).flatMap C4.cells)), (6, .blk Bx4 (.cells #[iN p, iN q, .slice ar4 ((px.take 66).length) cr4] 75)), (5, .blk Bx3 (.cells #[iN wd, iN hg, .slice ar21 ((l20).length) cr21] 24)), (8, .blk B22 (.cells #[.int .i64 0, .int .i64 0, .slice none 0 0] 75)), (20, .blk B39 (.cells #[.int .i64 0, .int .i64 0, .slice none 0 0] 75)), (21, .blk B40 (.cells #[.int .i64 0, .int .i64 0, .slice none 0 0] 75)), (23, .blk B43 (.cells #[iN wd, iN hg, .slice a2 ((layN wd hg p q (px.take 66) l20 (l41.take k)).length) cap2] 24)), (905, .rowB tB (.slice a2 ((layN wd hg p q (px.take 66) l20 (l41.take k)).length) cap2) 39 256 (layN wd hg p q (px.take 66) l20 (l41.take k)).length ((layN wd hg p q (px.take 66) l20 (l41.take k)).flatMap T64.cells))]
   refine T_seq (T_region ?_)
   refine TL_v (.bool (decide (((k : Nat) : Int) < (((l41).length : Nat) : Int)))) (fun _ _ j _ => r_lss (j _ _ rfl) (j _ _ rfl)) rfl rfl ?_
   refine TL_seq ?_
   refine T_seq ?_
   refine T_cond rfl (fun h2 => ?_) (fun h2 => ?_)
   ·replace h2 := of_decide_eq_true h2
    refine T_skip' ?_
    refine p_seq ?_
    refine T_seq ?_
    refine T_block ?_
    obtain ⟨⟨ux, uy⟩, hu⟩ : ∃ x, l41[k]? = some x := ⟨_, List.getElem?_eq_getElem (by omega)⟩
    obtain ⟨hux, huy⟩ := hPb _ (List.mem_of_getElem? hu)
    refine T_row 22 rfl (by omega) (fun g44 ha44 => ?_)
    subst ha44
    refine T_rowcap 22 rfl (fun hrc44 => ?_)
    refine T_seq (T_region ?_)
    refine TL_v (pt g44 (0 + k * 2)) (fun _ _ j _ => r_indexAddrS (i := k) sl44 sz47 (j _ _ rfl) (j _ _ rfl) (by omega)) rfl rfl ?_
    refine TL_v (.agg #[.int .i64 ux, .int .i64 uy]) (fun _ _ j hm => r_loadOwn (f := Pt.cells) (u := (⟨ux, uy⟩ : Pt)) (l := (l41)) ag47 sz47 (j _ _ rfl) (hm.row 22 rfl) rfl rfl Pt.cells_len hu) rfl rfl ?_
    refine TL_new 24 (.cells #[.int .i64 0, .int .i64 0] 47) (fun B => pt B 0) (fun _ _ _ _ => r_alloc (v := .agg #[.int .i64 0, .int .i64 0]) (by kernel_rfl) rfl) rfl rfl rfl (w_n rfl) ?_
    intro B45
    refine TL_store 24 (.cells #[.int .i64 ux, .int .i64 uy] 47) rfl (s_st sz47 rfl rfl 24 rfl rfl rfl rfl rfl) rfl rfl (w_n rfl) ?_
    refine TL_seq ?_
    refine T_region ?_
    refine TL_v (.agg #[iN wd, iN hg, .slice a2 ((layN wd hg p q (px.take 66) l20 (l41.take k)).length) cap2]) (s_la ag24 sz24 rfl 23 rfl rfl rfl) rfl rfl ?_
    refine TL_v (.agg #[iN p, iN q, .slice ar4 ((px.take 66).length) cr4]) (s_la ag75 sz75 rfl 6 rfl rfl rfl) rfl rfl ?_
    refine TL_v (.agg #[.int .i64 ux, .int .i64 uy]) (s_la ag47 sz47 rfl 24 rfl rfl rfl) rfl rfl ?_
    refine TL_callN (fun (z : Bool × Option Addr × Nat) => z.1 = false → z.2.1 = a2 ∧ z.2.2 = cap2 ∧ (lay1 wd hg p q (px.take 66) (layN wd hg p q (px.take 66) l20 (l41.take k)) ⟨ux, uy⟩) = (layN wd hg p q (px.take 66) l20 (l41.take k))) (fun (tb46, ab46, cb46) => .agg #[iN wd, iN hg, .slice ab46 ((lay1 wd hg p q (px.take 66) (layN wd hg p q (px.take 66) l20 (l41.take k)) ⟨ux, uy⟩).length) cb46]) (fun (tb46, ab46, cb46) => [(25, .rowB tb46 (.slice ab46 ((lay1 wd hg p q (px.take 66) (layN wd hg p q (px.take 66) l20 (l41.take k)) ⟨ux, uy⟩).length) cb46) 39 256 (lay1 wd hg p q (px.take 66) (layN wd hg p q (px.take 66) l20 (l41.take k)) ⟨ux, uy⟩).length ((lay1 wd hg p q (px.take 66) (layN wd hg p q (px.take 66) l20 (l41.take k)) ⟨ux, uy⟩).flatMap T64.cells))]) (fun _ _ j _ => r_call (args := [.agg #[iN wd, iN hg, .slice a2 ((layN wd hg p q (px.take 66) l20 (l41.take k)).length) cap2], .agg #[iN p, iN q, .slice ar4 ((px.take 66).length) cr4], .agg #[.int .i64 ux, .int .i64 uy]]) (enters_of Try.func63 (by kernel_rfl) rfl) (j _ _ rfl) ((cons2 (j _ _ rfl) (cons2 (j _ _ rfl) (cons2 (j _ _ rfl) rfl)))) rfl) (fun w hm => (rlay_c wd hg (layN wd hg p q (px.take 66) l20 (l41.take k)) a2 cap2 w (rowB_at T64.cells_len (hm.rowB 905 rfl) rfl hbf (SliceAt.own T64.cells_len (hm.row 7 rfl) rfl rfl)) (rowB_cap (hm.rowB 905 rfl) (fun h => ⟨(hbf h).1, (hbf h).2.1⟩) (row_cap (hm.row 7 rfl))) (by rw [layN_len, hlt1]) hwd hhg p q (px.take 66) ar4 cr4 (SliceAt.own C4.cells_len (hm.row 4 rfl) rfl rfl) (row_cap (hm.row 4 rfl)) hp8 hq8 hlen ux uy hux huy (fun c hc => hpx c (List.mem_of_mem_take hc)) (layN_ok (fun c hc => hpx c (List.mem_of_mem_take hc)) htok)).mono fun e w' ⟨tB, a', cap', he, hb, h1, h2⟩ => ⟨(tB, a', cap'), hb, he, h1, newOk1 25 h2⟩) rfl rfl rfl (w_n rfl) ?_
    rintro ⟨tb46, ab46, cb46⟩ hrb46
    dsimp only at hrb46
    refine TL_store 23 (.cells #[iN wd, iN hg, .slice ab46 ((lay1 wd hg p q (px.take 66) (layN wd hg p q (px.take 66) l20 (l41.take k)) ⟨ux, uy⟩).length) cb46] 24) rfl (s_st sz24 rfl rfl 23 rfl rfl rfl rfl rfl) rfl rfl (w_n rfl) ?_
    refine TL_nil ?_
    refine p_blk_n ?_
    refine p_seq ?_
    refine T_region ?_
    refine TL_v (iN (k + 1)) (s_op r_add rfl rfl (iw (by omega) (by omega) (by omega))) rfl rfl ?_
    refine TL_v (iN (k + 1)) (s_mv rfl) rfl rfl ?_
    refine TL_nil ?_
    refine p_mem (_ :: _) (fun _ hm => hm.rowB2 905 25 rfl rfl (fun h => by obtain ⟨h1, h2, h3⟩ := hrb46 h; rw [h1, h2, h3]; exact ⟨rfl, rfl, rfl⟩) rfl) ?_
    exact p_at (k + 1, tB || tb46, ab46, cb46) ⟨⟨by omega, by rw [layN_step hu]; exact rowB_both hbf hrb46⟩, by dsimp only; omega⟩ (sc4 rfl rfl rfl rfl (sc4 rfl rfl rfl rfl (sc rfl (sc rfl (sc rfl sub_nil))))) (sc4 rfl rfl rfl rfl (sc4 rfl rfl rfl rfl (sc4 rfl rfl rfl rfl (sub_cons (by rw [layN_step hu]; rfl) (sub_cons (by rw [layN_step hu]; rfl) sub_nil)))))
   ·replace h2 := of_decide_eq_false h2
    refine T_exit' ?_
    refine p_then_x ?_
    refine p_then_x ?_
    refine p_blk_x ?_
    refine p_seq ?_
    have hke : k = l41.length := by omega
    subst hke
    have g1 : c2.ts = (layN wd hg p q (px.take 66) l20 (l41.take l41.length)) := by rw [hts_c2, hwd_c1, hhg_c1, hts_c1, List.take_length]
    have z1 : c2.ts.length ≤ 64 := by rw [g1, layN_len]; omega
    have z2 : (layN wd hg p q (px.take 66) l20 (l41.take l41.length)).length ≤ 64 := by rw [layN_len]; omega
    have z3 : c1.ts.length ≤ 64 := by rw [hts_c1]; omega
    refine T_seq (T_draw (V := [(0, .int .i64 0), (1, .bool true), (2, .bool true), (3, pt c2.p 0), (4, .bool true), (5, .bool true), (6, .bool true), (7, pt c2.p 0), (9, .agg #[iN wd, iN hg, .slice a2 ((layN wd hg p q (px.take 66) l20 (l41.take l41.length)).length) cap2])]) [0, 1, 3, 7, 15, 31, 63, 127, 255, 127, 1023, 2047, 4095, 8191, 16383, 8191, 65535, 131071, 262143, 524287, 524287, 1572863, 4194303, 8388607, 16777215] [[(14, none)], [(146, some 0)], [(147, some 1)], [(19, none)], [(149, some 3)], [(150, some 4), (148, some 2)], [(151, some 5)], [(19, none)], [(153, some 7)], [(20, none)], [(154, some 8), (155, some 9)], [(156, some 10), (152, some 6)], [(157, some 11)], [(13, none)], [(159, some 13)], [(7, none)], [(160, some 14), (161, some 15)], [(162, some 16), (158, some 12)], [(163, some 17)], [(8, none)], [(4, none)], [(166, some 20)], [(165, some 19), (167, some 21)], [(168, some 22), (164, some 18)], [(169, some 23)]] 6374656 mixed (by kernel_rfl) ?_)
    refine G_step [0, 1, 2, 3, 4, 5, 6, 7, 9] 8 [] (by kernel_rfl) (allM (all_cons (q_r (.int .i64 0) rfl rfl rfl (s_mv rfl)) (all_cons (q_r (.bool true) rfl rfl rfl (s_op r_eql rfl rfl (by rfl))) (all_cons (q_r (.bool true) rfl rfl rfl (s_mv rfl)) (all_cons (q_run (pt c2.p 0) rfl rfl (wv_y rfl rfl) rfl (s_mv rfl)) (all_cons (q_run (.bool true) rfl rfl (wv_y rfl rfl) rfl (fun _ _ j _ => r_as (r_neqPn po28 (j _ _ rfl) (j _ _ rfl)) (by rfl))) (all_cons (q_r (.bool true) rfl rfl rfl (s_pt rfl rfl)) (all_cons (q_r (.bool true) rfl rfl rfl (s_mv rfl)) (all_cons (q_run (pt c2.p 0) rfl rfl (wv_y rfl rfl) rfl (s_mv rfl)) (all_cons (q_run (.agg #[iN wd, iN hg, .slice a2 ((layN wd hg p q (px.take 66) l20 (l41.take l41.length)).length) cap2]) rfl rfl (wv_y rfl rfl) rfl (s_la ag24 sz24 rfl 23 rfl rfl rfl)) all_nil)))))))))) (allM (all_cons ?_ all_nil))
    refine LOb_callN (fun (_ : Option Addr × Nat) => True) (fun (ar50, cr50) => .agg #[iN c2.wd, iN c2.hg, .slice ar50 ((c2.ts).length) cr50]) (fun (ar50, cr50) => [(26, .row (.slice ar50 ((c2.ts).length) cr50) 39 256 ((c2.ts).length) ((c2.ts).flatMap T64.cells))]) (fun (ar50, cr50) => []) rfl (wv_y rfl rfl) rfl rfl (fun _ _ j _ => r_call (args := [pt c2.p 0]) (enters_of Try.func24 (by kernel_rfl) rfl) (j _ _ rfl) ((cons2 (j _ _ rfl) rfl)) rfl) (fun w hm => (show_c c2 w (hm.cv 960 rfl (List.Mem.head _))).mono fun e w' ⟨a', cap', he, hb, hr⟩ => ⟨(a', cap'), trivial, he, hb, newOk1 26 hr⟩) (fun (ar50, cr50) => by kernel_rfl) ?_
    rintro ⟨ar50, cr50⟩ -
    refine G_step [9] 10 [] (by kernel_rfl) (allM (all_cons (q_run (.agg #[iN wd, iN hg, .slice a2 ((layN wd hg p q (px.take 66) l20 (l41.take l41.length)).length) cap2]) rfl rfl (wv_y rfl rfl) rfl (s_la ag24 sz24 rfl 23 rfl rfl rfl)) all_nil)) (allM (all_cons ?_ all_nil))
    refine LOb_call (.bool true) [(11, .bool true), (12, .bool true), (13, pt c1.p 0), (15, .agg #[iN wd, iN hg, .slice ar21 ((l20).length) cr21])] rfl (wv_y rfl rfl) rfl rfl (fun _ _ j _ => r_call (args := [.agg #[iN c2.wd, iN c2.hg, .slice ar50 ((c2.ts).length) cr50], .agg #[iN wd, iN hg, .slice a2 ((layN wd hg p q (px.take 66) l20 (l41.take l41.length)).length) cap2]]) (enters_of Try.func28 (by kernel_rfl) rfl) (j _ _ rfl) ((cons2 (j _ _ rfl) (cons2 (j _ _ rfl) rfl))) rfl) (fun w hm => (rsame_c ((c2.wd : Nat) : Int) ((c2.hg : Nat) : Int) (c2.ts) ar50 cr50 w (SliceAt.own T64.cells_len (hm.row 26 rfl) rfl rfl) (row_cap (hm.row 26 rfl)) ((wd : Nat) : Int) ((hg : Nat) : Int) (layN wd hg p q (px.take 66) l20 (l41.take l41.length)) a2 cap2 (rowB_at T64.cells_len (hm.rowB 905 rfl) rfl hbf (SliceAt.own T64.cells_len (hm.row 7 rfl) rfl rfl)) (rowB_cap (hm.rowB 905 rfl) (fun h => ⟨(hbf h).1, (hbf h).2.1⟩) (row_cap (hm.row 7 rfl))) (by first | omega | simp) (by first | omega | simp)).mono fun _ _ h => ⟨h.1.trans (congrArg Ending.returned (bool_as (decide_eq_true ⟨by rw [hwd_c2, hwd_c1], by rw [hhg_c2, hhg_c1], g1⟩))), h.2⟩) (by kernel_rfl) ?_
    refine G_step [11, 12, 13, 15] 14 [] (by kernel_rfl) (allM (all_cons (q_r (.bool true) rfl rfl rfl (s_pt rfl rfl)) (all_cons (q_r (.bool true) rfl rfl rfl (s_mv rfl)) (all_cons (q_run (pt c1.p 0) rfl rfl (wv_y rfl rfl) rfl (s_mv rfl)) (all_cons (q_run (.agg #[iN wd, iN hg, .slice ar21 ((l20).length) cr21]) rfl rfl (wv_y rfl rfl) rfl (s_la ag24 sz24 rfl 5 rfl rfl rfl)) all_nil))))) (allM (all_cons ?_ all_nil))
    refine LOb_callN (fun (_ : Option Addr × Nat) => True) (fun (ar51, cr51) => .agg #[iN c1.wd, iN c1.hg, .slice ar51 ((c1.ts).length) cr51]) (fun (ar51, cr51) => [(27, .row (.slice ar51 ((c1.ts).length) cr51) 39 256 ((c1.ts).length) ((c1.ts).flatMap T64.cells))]) (fun (ar51, cr51) => []) rfl (wv_y rfl rfl) rfl rfl (fun _ _ j _ => r_call (args := [pt c1.p 0]) (enters_of Try.func24 (by kernel_rfl) rfl) (j _ _ rfl) ((cons2 (j _ _ rfl) rfl)) rfl) (fun w hm => (show_c c1 w (hm.cv 960 rfl (List.Mem.tail _ (List.Mem.head _)))).mono fun e w' ⟨a', cap', he, hb, hr⟩ => ⟨(a', cap'), trivial, he, hb, newOk1 27 hr⟩) (fun (ar51, cr51) => by kernel_rfl) ?_
    rintro ⟨ar51, cr51⟩ -
    refine G_step [15] 16 [] (by kernel_rfl) (allM (all_cons (q_run (.agg #[iN wd, iN hg, .slice ar21 ((l20).length) cr21]) rfl rfl (wv_y rfl rfl) rfl (s_la ag24 sz24 rfl 5 rfl rfl rfl)) all_nil)) (allM (all_cons ?_ all_nil))
    refine LOb_call (.bool true) [(17, .bool true), (18, .bool true), (19, .agg #[iN p, iN q, .slice ar4 ((px.take 66).length) cr4]), (20, .agg #[iN p, iN q, .slice a px.length cap])] rfl (wv_y rfl rfl) rfl rfl (fun _ _ j _ => r_call (args := [.agg #[iN c1.wd, iN c1.hg, .slice ar51 ((c1.ts).length) cr51], .agg #[iN wd, iN hg, .slice ar21 ((l20).length) cr21]]) (enters_of Try.func28 (by kernel_rfl) rfl) (j _ _ rfl) ((cons2 (j _ _ rfl) (cons2 (j _ _ rfl) rfl))) rfl) (fun w hm => (rsame_c ((c1.wd : Nat) : Int) ((c1.hg : Nat) : Int) (c1.ts) ar51 cr51 w (SliceAt.own T64.cells_len (hm.row 27 rfl) rfl rfl) (row_cap (hm.row 27 rfl)) ((wd : Nat) : Int) ((hg : Nat) : Int) (l20) ar21 cr21 (SliceAt.own T64.cells_len (hm.row 7 rfl) rfl rfl) (row_cap (hm.row 7 rfl)) (by first | omega | simp) (by first | omega | simp)).mono fun _ _ h => ⟨h.1.trans (congrArg Ending.returned (bool_as (decide_eq_true ⟨by rw [hwd_c1], by rw [hhg_c1], hts_c1⟩))), h.2⟩) (by kernel_rfl) ?_
    refine G_step [17, 18, 19, 20] 21 [] (by kernel_rfl) (allM (all_cons (q_r (.bool true) rfl rfl rfl (s_pt rfl rfl)) (all_cons (q_r (.bool true) rfl rfl rfl (s_mv rfl)) (all_cons (q_run (.agg #[iN p, iN q, .slice ar4 ((px.take 66).length) cr4]) rfl rfl (wv_y rfl rfl) rfl (s_la ag75 sz75 rfl 6 rfl rfl rfl)) (all_cons (q_run (.agg #[iN p, iN q, .slice a px.length cap]) rfl rfl (wv_y rfl rfl) rfl (s_la ag75 sz75 rfl 2 rfl rfl rfl)) all_nil))))) (allM (all_cons ?_ all_nil))
    refine LOb_callN (fun (_ : Option Addr × Nat) => True) (fun (ar52, cr52) => .agg #[iN p, iN q, .slice ar52 ((px.take 66).length) cr52]) (fun (ar52, cr52) => [(28, .row (.slice ar52 ((px.take 66).length) cr52) 37 4 ((px.take 66).length) ((px.take 66).flatMap C4.cells))]) (fun (ar52, cr52) => []) rfl (wv_y rfl rfl) rfl rfl (fun _ _ j _ => r_call (args := [.agg #[iN p, iN q, .slice a px.length cap]]) (enters_of Try.func47 (by kernel_rfl) rfl) (j _ _ rfl) ((cons2 (j _ _ rfl) rfl)) rfl) (fun w hm => (sown_c ((p : Nat) : Int) ((q : Nat) : Int) px a cap w (hv.keep hm.ext) hcap).mono fun e w' ⟨a', cap', he, hb, hr⟩ => ⟨(a', cap'), trivial, he, hb, newOk1 28 hr⟩) (fun (ar52, cr52) => by kernel_rfl) ?_
    rintro ⟨ar52, cr52⟩ -
    refine G_step [19] 22 [] (by kernel_rfl) (allM (all_cons (q_run (.agg #[iN p, iN q, .slice ar4 ((px.take 66).length) cr4]) rfl rfl (wv_y rfl rfl) rfl (s_la ag75 sz75 rfl 6 rfl rfl rfl)) all_nil)) (allM (all_cons ?_ all_nil))
    refine LOb_call (.bool true) [(23, .bool true), (24, .bool true)] rfl (wv_y rfl rfl) rfl rfl (fun _ _ j _ => r_call (args := [.agg #[iN p, iN q, .slice ar4 ((px.take 66).length) cr4], .agg #[iN p, iN q, .slice ar52 ((px.take 66).length) cr52]]) (enters_of Try.func43 (by kernel_rfl) rfl) (j _ _ rfl) ((cons2 (j _ _ rfl) (cons2 (j _ _ rfl) rfl))) rfl) (fun w hm => (srsame_n ((p : Nat) : Int) ((q : Nat) : Int) (px.take 66) ar4 cr4 w (SliceAt.own C4.cells_len (hm.row 4 rfl) rfl rfl) (row_cap (hm.row 4 rfl)) ((p : Nat) : Int) ((q : Nat) : Int) (px.take 66) ar52 cr52 (SliceAt.own C4.cells_len (hm.row 28 rfl) rfl rfl) (row_cap (hm.row 28 rfl)) (px64b hp8 hq8 hlen) (px64b hp8 hq8 hlen) ((px.take 66).length) rfl ((px.take 66).length) rfl).mono fun _ _ h => ⟨h.1.trans (congrArg Ending.returned (bool_as (decide_eq_true ⟨rfl, rfl, rfl⟩))), h.2⟩) (by kernel_rfl) ?_
    refine G_last [23, 24] [(6, .bool true)] (by kernel_rfl) (allM (all_cons (q_r (.bool true) rfl rfl rfl (s_pt rfl rfl)) (all_cons (q_r (.bool true) rfl rfl rfl (s_as rfl)) all_nil))) (end_new 24 rfl rfl end_nil) ?_
    refine T_ret' ?_
    refine ret_of rfl (.bool true) (fun tmps w hk hm => res1 rfl (res_tmp (hk 6 _ rfl))) (fun w hm => ?_)
    exact ⟨rfl, hm.ext⟩

theorem slays_any (x y : Int) (ts : List T64) (at1 : Option Addr) (ct : Nat) (x2 y2 : Int) (px : List C4) (a : Option Addr) (cap : Nat) (xi yi wi hi : Int) (l : List Pt) (al : Option Addr) (cl : Nat) (w : World) (ht : SliceAt w at1 ct 256 T64.cells ts) (hct : ct ≤ Go.maxLen) (hts : TsOk ts) (hv : SliceAt w a cap 4 C4.cells px) (hcap : cap ≤ Go.maxLen) (hpx : ∀ c ∈ px, c.ok) (hR : inI xi ∧ inI yi ∧ inI wi ∧ inI hi) (hl : SliceAt w al cl 2 Pt.cells l) (hcl : cl ≤ Go.maxLen) (hlb : ∀ u ∈ l, inI u.x ∧ inI u.y) : Calls Try.prog 11 #[.agg #[.int .i64 x, .int .i64 y, .slice at1 ts.length ct], .agg #[.int .i64 x2, .int .i64 y2, .slice a px.length cap], .agg #[.int .i64 xi, .int .i64 yi, .int .i64 wi, .int .i64 hi, .slice al l.length cl]] w fun e w' => e = .returned (.bool true) ∧ Below w.heap.size w w' := by
 by_cases h : rightI x y (ts.take 17).length = true
 ·obtain ⟨wd, hg, rfl, rfl, h1, h2, h3⟩ := rightI_nat h
  by_cases h' : rightS x2 y2 (px.take 66).length = true
  ·obtain ⟨p, q, rfl, rfl, g1, g2, g3⟩ := rightS_nat h'
   exact slays_ok wd hg ts at1 ct p q px a cap xi yi wi hi l al cl w ht hct hts hv hcap hpx hR hl hcl hlb h1 h2 h3 g1 g2 g3
  ·exact slays_ns wd hg ts at1 ct x2 y2 px a cap xi yi wi hi l al cl w ht hct hts hv hcap hR hl hcl hlb h1 h2 h3 h'
 ·exact slays_no x y ts at1 ct x2 y2 px a cap xi yi wi hi l al cl w ht hct hv hcap hl hcl h
end Go.Proofs.Ytbiapeaghbndoaa
/- stamp: arguments of the laws, read. -/
namespace Go.Proofs.Ytbiapeaghbndoaa
open Go Go.RowKit Go.ChangeShapes Go.WideShapes
theorem rds_colb : Rds Try.prog 37 C4.cells C4.ok :=
  Rds.map (rds4 fl37_0 fl37_1 fl37_2 fl37_3 sz5 sz5 sz5 sz5 sz37 (rds_int io5) (rds_int io5) (rds_int io5) (rds_int io5)) (fun p => ⟨p.1, p.2.1, p.2.2.1, p.2.2.2⟩) (fun _ => rfl) (fun _ h => ⟨wf_u8 h.1, wf_u8 h.2.1, wf_u8 h.2.2.1, wf_u8 h.2.2.2⟩)
structure Stm where
  x : Int
  y : Int
  r : RowG C4
abbrev Stm.cells (p : Stm) : List Value := [.int .i64 p.x, .int .i64 p.y, .slice p.r.a p.r.l.length p.r.cap]
def Stm.ok (w : World) (p : Stm) : Prop := inI p.x ∧ inI p.y ∧ p.r.ok 4 C4.cells w ∧ p.r.cap ≤ Go.maxLen ∧ ∀ c ∈ p.r.l, c.ok
theorem rds_stm (w : World) : RdsAt Try.prog w 75 Stm.cells (Stm.ok w) :=
  RdsAt.mapIf (rdsA3 fl75_0 fl75_1 fl75_2 sz3 sz3 sz71 sz75 ((rds_int io3).at w) ((rds_int io3).at w) (rds_slice sl71 sz37 C4.cells_len (by decide) (rds_colb.at w))) (fun p => ⟨p.1, p.2.1, p.2.2⟩) (fun _ _ => rfl)
    (fun _ h => ⟨wf_i64 h.1, wf_i64 h.2.1, h.2.2.1, h.2.2.2.2, h.2.2.2.1⟩)
theorem rds_t64b (w : World) : RdsAt Try.prog w 39 T64.cells (fun t => ∀ c ∈ t.l, c.ok) :=
  RdsAt.mapIf ((rds_arr ar39 sz37 sz39 C4.cells_len rds_colb).at w) T64.of (fun l h => by show l.flatMap C4.cells = (T64.of l).l.flatMap C4.cells; rw [T64.of_l h.1]) (fun l h => by rw [T64.of_l h.1]; exact h.2)
def Pic.okb (w : World) (p : Pic) : Prop := inI p.x ∧ inI p.y ∧ p.r.ok 256 T64.cells w ∧ p.r.cap ≤ Go.maxLen ∧ TsOk p.r.l
theorem rds_picb (w : World) : RdsAt Try.prog w 24 Pic.cells (Pic.okb w) :=
  RdsAt.mapIf (rdsA3 fl24_0 fl24_1 fl24_2 sz3 sz3 sz22 sz24 ((rds_int io3).at w) ((rds_int io3).at w) (rds_slice sl22 sz39 T64.cells_len (by decide) (rds_t64b w))) (fun p => ⟨p.1, p.2.1, p.2.2⟩) (fun _ _ => rfl)
    (fun p h => show Pic.okb w ⟨p.1, p.2.1, p.2.2⟩ from ⟨wf_i64 h.1, wf_i64 h.2.1, h.2.2.1, h.2.2.2.2, fun t ht => h.2.2.2.1 t ht⟩)
structure Rct where
  x : Int
  y : Int
  wi : Int
  hi : Int
  r : RowG Pt
abbrev Rct.cells (p : Rct) : List Value := [.int .i64 p.x, .int .i64 p.y, .int .i64 p.wi, .int .i64 p.hi, .slice p.r.a p.r.l.length p.r.cap]
def Rct.ok (w : World) (p : Rct) : Prop := inI p.x ∧ inI p.y ∧ inI p.wi ∧ inI p.hi ∧ p.r.ok 2 Pt.cells w ∧ p.r.cap ≤ Go.maxLen ∧ ∀ u ∈ p.r.l, inI u.x ∧ inI u.y
theorem rds_rct (w : World) : RdsAt Try.prog w 94 Rct.cells (Rct.ok w) :=
  RdsAt.mapIf (rdsA5 fl94_0 fl94_1 fl94_2 fl94_3 fl94_4 sz3 sz3 sz3 sz3 sz44 sz94 ((rds_int io3).at w) ((rds_int io3).at w) ((rds_int io3).at w) ((rds_int io3).at w) (rds_slice sl44 sz47 Pt.cells_len (by decide) (rds_pt w))) (fun p => ⟨p.1, p.2.1, p.2.2.1, p.2.2.2.1, p.2.2.2.2⟩) (fun _ _ => rfl)
    (fun _ h => ⟨wf_i64 h.1, wf_i64 h.2.1, wf_i64 h.2.2.1, wf_i64 h.2.2.2.1, h.2.2.2.2.1, h.2.2.2.2.2.2, h.2.2.2.2.2.1⟩)
end Go.Proofs.Ytbiapeaghbndoaa
