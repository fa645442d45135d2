/- Texts of this seat, merged: part 2. -/
import Derived.Test.YtbiapeaghbndoaaMg1
import Derived.Defers
import Derived.Laws.LoneSync
import Derived.ScopeJumps
import Derived.Recover
import Derived.Laws.Build
import Derived.WideLaws
/- canvas: Show, Same, Shared. Printed by a program of this seat's prover. -/
namespace Go.Proofs.Ytbiapeaghbndoaa
open Go Go.RowKit
set_option maxRecDepth 10000
theorem clone_til {α : Type} (f : α → List Value) (hf : ∀ x, (f x).length = 256) (ho : ∀ x, ∀ u ∈ f x, u.oneCell' = true) (l : List α) (a : Option Addr) (cap : Nat) (w : World) (hv : SliceAt w a cap 256 f l) (hlen : l.length * 256 ≤ 140737488355328) :
  Calls Try.prog 58 #[.slice a l.length cap] w fun e w' => ∃ a' cap', e = .returned (.slice a' l.length cap') ∧ Below w.heap.size w w' ∧ w'.ownsRow w.heap.size 39 256 (.slice a' l.length cap') l.length (l.flatMap f) := by
 refine calls_of_T (l := [.slice a l.length cap]) 8 Try.func58 rfl rfl rfl ?_
 show T _ _ _ [(0, .slice a l.length cap)] []
 refine T_seq (T_region ?_)
 refine TL_v (.slice none 0 0) (s_as rfl) rfl rfl ?_
 refine TL_seq ?_
 refine T_seq ?_
 refine T_seq (T_region ?_)
 refine TL_v (.slice a l.length cap) (s_mv rfl) rfl rfl ?_
 refine TL_v (.bool a.isNone) (fun _ _ j _ => r_eqlSn sl22 (j _ _ rfl) (j _ _ rfl)) rfl rfl ?_
 refine TL_seq ?_
 refine T_cond rfl (fun h1 => ?_) (fun h1 => ?_)
 ·skip
  refine T_seq (T_region ?_)
  refine TL_v (.slice none 0 0) (s_as rfl) rfl rfl ?_
  refine TL_seq ?_
  refine T_ret' ?_
  refine p_then_r ?_
  refine ret_of rfl (.slice none 0 0) (fun tmps w hk hm => res1 rfl (res_tmp (hk 2 _ rfl))) (fun w hm => ?_)
  have e0 : a = none := Option.isNone_iff_eq_none.1 h1
  subst e0
  have e1 : l = [] := by have := hv.2.1 rfl; have := hv.1; exact List.eq_nil_of_length_eq_zero (by omega)
  subst e1
  exact ⟨none, 0, rfl, hm.ext, World.ownsRow_nil _ _ _ _⟩
 ·skip
  refine T_skip' ?_
  refine p_seq ?_
  refine T_seq (T_region ?_)
  refine TL_new 1 (.cells #[] 39) (fun B => .slice (some ⟨B, 0, none⟩) 0 0) (fun _ _ _ _ => r_buildSlice (vs := []) (by kernel_rfl) rfl) rfl rfl rfl (w_n rfl) ?_
  intro B1
  refine TL_v (.slice a l.length cap) (s_mv rfl) rfl rfl ?_
  refine TL_mem ([(1, .row (.slice (some ⟨B1, 0, none⟩) 0 0) 39 256 0 [])]) (fun _ hm => MemOk.sub (hm.toRow (n := 0) (cap := 0) (s := 256) 1 rfl rfl (by omega) rfl _ rfl) (sc rfl sub_nil)) ?_
  refine TL_append (n := 0) (m := l.length) (xs := []) (news := (l.flatMap f)) (z := .agg #[z8, z8, z8, z8, z8, z8, z8, z8, z8, z8, z8, z8, z8, z8, z8, z8, z8, z8, z8, z8, z8, z8, z8, z8, z8, z8, z8, z8, z8, z8, z8, z8, z8, z8, z8, z8, z8, z8, z8, z8, z8, z8, z8, z8, z8, z8, z8, z8, z8, z8, z8, z8, z8, z8, z8, z8, z8, z8, z8, z8, z8, z8, z8, z8, z8, z8, z8, z8, z8, z8, z8, z8, z8, z8, z8, z8, z8, z8, z8, z8, z8, z8, z8, z8, z8, z8, z8, z8, z8, z8, z8, z8, z8, z8, z8, z8, z8, z8, z8, z8, z8, z8, z8, z8, z8, z8, z8, z8, z8, z8, z8, z8, z8, z8, z8, z8, z8, z8, z8, z8, z8, z8, z8, z8, z8, z8, z8, z8, z8, z8, z8, z8, z8, z8, z8, z8, z8, z8, z8, z8, z8, z8, z8, z8, z8, z8, z8, z8, z8, z8, z8, z8, z8, z8, z8, z8, z8, z8, z8, z8, z8, z8, z8, z8, z8, z8, z8, z8, z8, z8, z8, z8, z8, z8, z8, z8, z8, z8, z8, z8, z8, z8, z8, z8, z8, z8, z8, z8, z8, z8, z8, z8, z8, z8, z8, z8, z8, z8, z8, z8, z8, z8, z8, z8, z8, z8, z8, z8, z8, z8, z8, z8, z8, z8, z8, z8, z8, z8, z8, z8, z8, z8, z8, z8, z8, z8, z8, z8, z8, z8, z8, z8, z8, z8, z8, z8, z8, z8, z8, z8, z8, z8, z8, z8, z8, z8, z8, z8, z8, z8, z8, z8, z8, z8, z8, z8]) 1 rfl rfl rfl sl22 sz39 by39 (by kernel_rfl) rfl rfl (.inl rfl) (fun _ hm => by have := src_of hf (hv.keep hm.ext); simpa using this) (by intro u hu; obtain ⟨x, _, hx⟩ := List.mem_flatMap.1 hu; exact ho x u hx) (by omega) (by omega) rfl (w_n rfl) ?_
  intro a2 cap2
  refine TL_v (.slice a2 (0 + l.length) cap2) (s_as rfl) rfl rfl ?_
  refine TL_seq ?_
  refine T_ret' ?_
  refine ret_of rfl (.slice a2 (0 + l.length) cap2) (fun tmps w hk hm => res1 rfl (res_tmp (hk 2 _ rfl))) (fun w hm => ?_)
  have hrow := hm.row 1 rfl
  simp only [Nat.zero_add, List.nil_append] at hrow ⊢
  exact ⟨a2, cap2, rfl, hm.ext, hrow⟩

theorem show1_c (q : Nat) (t : T64) (w : World) (hq : hp w q = some (tilO t)) : Calls Try.prog 74 #[.pointer (some ⟨q, 0, none⟩)] w fun e w' => e = .returned (til t.l) ∧ Below w.heap.size w w' := by
 refine calls_of_T (l := [pt q 0]) 6 Try.func74 rfl rfl rfl ?_
 show T _ _ _ [(0, pt q 0)] []
 refine T_seq (T_region ?_)
 refine TL_new 1 (.cells (lst C4.cells zero64) 39) (fun B => pt B 0) (fun _ _ _ _ => r_alloc (v := .agg (lst C4.cells zero64)) (by kernel_rfl) rfl) rfl rfl rfl (w_n rfl) ?_
 intro B1
 refine TL_seq ?_
 refine T_seq (T_region ?_)
 refine TL_v (pt q 0) (s_mv rfl) rfl rfl ?_
 refine TL_v (pt q 0) (s_nc rfl rfl) rfl rfl ?_
 refine TL_v (.agg (lst C4.cells t.l)) (fun _ _ j hm => r_loadW ag39 sz39 (j _ _ rfl) (hm.old hq) (tsz t.h)) rfl rfl ?_
 refine TL_store 1 (.cells (lst C4.cells t.l) 39) rfl (fun _ _ j hm => r_storeAll sz39 (j _ _ rfl) (j _ _ rfl) (hm.at 1 rfl) (tsz zero64_len) (tsz t.h) (lst_one C4.cells_all _)) rfl rfl (w_n rfl) ?_
 refine TL_seq ?_
 refine T_ret' ?_
 refine ret_of rfl (.agg (lst C4.cells t.l)) (fun tmps w hk hm => res1 rfl (res_cell (hk 2 _ rfl) (run_loadVar_agg ag39 sz39 (hm.at 1 rfl) (le64 t.h) (ex64 t.h)))) (fun w hm => ?_)
 exact ⟨rfl, hm.ext⟩

set_option maxHeartbeats 1000000 in
theorem made_show (c : Cv) (w : World) (hc : CvAt w c) : Calls Try.prog 73 #[.slice c.a c.ps.length c.cap, .func (.func 74) #[] #[]] w fun e w' => ∃ a' cap', e = .returned (.slice a' c.ts.length cap') ∧ Below w.heap.size w w' ∧ w'.ownsRow w.heap.size 39 256 (.slice a' c.ts.length cap') c.ts.length (c.ts.flatMap T64.cells) := by
 obtain ⟨p, a, cap, ps, wd, hg, ts⟩ := c
 have hblk : hp w p = some (.cells #[.int .i64 (wd : Int), .int .i64 (hg : Int), .slice a ps.length cap] 111) := hc.blk
 have hrow : SliceAt w a cap 1 ptrc ps := hc.row
 have hcap : cap ≤ Go.maxLen := hc.capok
 unfold Go.maxLen at hcap
 have htl : ∀ (i q : Nat) (t : T64), ps[i]? = some q → ts[i]? = some t → hp w q = some (tilO t) := hc.tl
 have hlen : ps.length = wd * hg := hc.len
 have hlt : ts.length = ps.length := hc.len2
 have hwd : 1 ≤ wd ∧ wd ≤ 4 := hc.wd4
 have hhg : 1 ≤ hg ∧ hg ≤ 4 := hc.hg4
 have h16 := size4 hwd hhg
 have hrl := hrow.1
 obtain ⟨b, of, cs, TY, fz, ha, hcr, hrr⟩ := hrow.open (i := 0) (by omega)
 subst ha
 refine calls_of_T (l := [.slice (some ⟨b, of, none⟩) ps.length cap, .func (.func 74) #[] #[]]) 22 Try.func73 rfl rfl rfl ?_
 show T _ _ _ [(0, .slice (some ⟨b, of, none⟩) ps.length cap), (1, .func (.func 74) #[] #[])] []
 refine T_seq (T_region ?_)
 refine TL_v (.slice none 0 0) (s_as rfl) rfl rfl ?_
 refine TL_seq ?_
 refine T_seq (T_region ?_)
 refine TL_v (.slice none 0 0) (s_as rfl) rfl rfl ?_
 refine TL_seq ?_
 refine T_seq ?_
 refine T_seq (T_region ?_)
 refine TL_v (.slice (some ⟨b, of, none⟩) ps.length cap) (s_mv rfl) rfl rfl ?_
 refine TL_v (iN ps.length) (fun _ _ j _ => r_len sl104 (j _ _ rfl)) rfl rfl ?_
 refine TL_v (.int .i64 0) (s_mv rfl) rfl rfl ?_
 refine TL_seq ?_
 refine T_block ?_
 refine T_mem [(950, .row (.slice none 0 0) 39 256 0 [])] (fun _ hm => hm.nilRow 950 39 256) ?_
 refine T_loop (ι := Nat × Option Addr × Nat) (fun (z : Nat × Option Addr × Nat) => match z with | (k, a2, cap2) => k ≤ ts.length) (fun (z : Nat × Option Addr × Nat) => match z with | (k, a2, cap2) => [(1, .func (.func 74) #[] #[]), (4, .slice none 0 0), (8, .slice (some ⟨b, of, none⟩) ps.length cap), (9, iN ps.length), (10, iN k), (5, .slice a2 k cap2)]) (fun (z : Nat × Option Addr × Nat) => match z with | (k, a2, cap2) => [(950, .row (.slice a2 k cap2) 39 256 k ((ts.take k).flatMap T64.cells))]) (fun (z : Nat × Option Addr × Nat) => match z with | (k, a2, cap2) => ts.length - k) (0, none, 0) (Nat.zero_le _) (sc4 rfl rfl rfl rfl (sc rfl (sc rfl sub_nil))) (sc rfl sub_nil) ?_
 rintro ⟨k, a2, cap2⟩ hp
 show T _ _ _ [(1, .func (.func 74) #[] #[]), (4, .slice none 0 0), (8, .slice (some ⟨b, of, none⟩) ps.length cap), (9, iN ps.length), (10, iN k), (5, .slice a2 k cap2)] [(950, .row (.slice a2 k cap2) 39 256 k ((ts.take k).flatMap T64.cells))]
 refine T_seq (T_region ?_)
 refine TL_v (.bool (decide (((k : Nat) : Int) < ((ps.length : Nat) : Int)))) (fun _ _ j _ => r_lss (j _ _ rfl) (j _ _ rfl)) rfl rfl ?_
 refine TL_seq ?_
 refine T_seq ?_
 refine T_cond rfl (fun h1 => ?_) (fun h1 => ?_)
 ·replace h1 := of_decide_eq_true h1
  refine T_skip' ?_
  refine p_seq ?_
  refine T_seq ?_
  refine T_block ?_
  obtain ⟨q, hqq⟩ : ∃ x, ps[k]? = some x := ⟨_, List.getElem?_eq_getElem (by omega)⟩
  obtain ⟨t, hqt⟩ : ∃ x, ts[k]? = some x := ⟨_, List.getElem?_eq_getElem (by omega)⟩
  have hbq := htl _ _ _ hqq hqt
  refine T_seq (T_region ?_)
  refine TL_v (pt b (of + k * 1)) (fun _ _ j _ => r_indexAddrS (i := k) sl104 sz106 (j _ _ rfl) (j _ _ rfl) (by omega)) rfl rfl ?_
  refine TL_v (pt q 0) (fun _ _ j hm => r_loadRow1 (f := ptrc) (u := q) ag106 (j _ _ rfl) (hm.old hcr) hrr hqq rfl) rfl rfl ?_
  refine TL_v (pt q 0) (s_as rfl) rfl rfl ?_
  refine TL_seq ?_
  refine T_region ?_
  refine TL_v (.slice a2 k cap2) (s_mv rfl) rfl rfl ?_
  refine TL_v (.func (.func 74) #[] #[]) (s_mv rfl) rfl rfl ?_
  refine TL_v (pt q 0) (s_mv rfl) rfl rfl ?_
  refine TL_call (.agg (lst C4.cells t.l)) (fun _ _ j _ => r_call (args := [pt q 0]) (enters_of Try.func74 (by kernel_rfl) rfl) (j _ _ rfl) ((cons2 (j _ _ rfl) rfl)) rfl) (fun w hm => show1_c q t w (hm.old hbq)) rfl rfl rfl (w_n rfl) ?_
  refine TL_new 1 (.cells (lst C4.cells t.l) 39) (fun B => .slice (some ⟨B, 0, none⟩) 1 1) (fun _ w j _ => r_buildSlice (vs := [(0, .agg (lst C4.cells t.l))]) (build_one w) (cons2 (pair2 (j _ _ rfl)) rfl)) rfl rfl rfl (w_n rfl) ?_
  intro B1
  refine TL_append (n := k) (m := 1) (xs := ((ts.take k).flatMap T64.cells)) (news := t.cells) (z := .agg #[z8, z8, z8, z8, z8, z8, z8, z8, z8, z8, z8, z8, z8, z8, z8, z8, z8, z8, z8, z8, z8, z8, z8, z8, z8, z8, z8, z8, z8, z8, z8, z8, z8, z8, z8, z8, z8, z8, z8, z8, z8, z8, z8, z8, z8, z8, z8, z8, z8, z8, z8, z8, z8, z8, z8, z8, z8, z8, z8, z8, z8, z8, z8, z8, z8, z8, z8, z8, z8, z8, z8, z8, z8, z8, z8, z8, z8, z8, z8, z8, z8, z8, z8, z8, z8, z8, z8, z8, z8, z8, z8, z8, z8, z8, z8, z8, z8, z8, z8, z8, z8, z8, z8, z8, z8, z8, z8, z8, z8, z8, z8, z8, z8, z8, z8, z8, z8, z8, z8, z8, z8, z8, z8, z8, z8, z8, z8, z8, z8, z8, z8, z8, z8, z8, z8, z8, z8, z8, z8, z8, z8, z8, z8, z8, z8, z8, z8, z8, z8, z8, z8, z8, z8, z8, z8, z8, z8, z8, z8, z8, z8, z8, z8, z8, z8, z8, z8, z8, z8, z8, z8, z8, z8, z8, z8, z8, z8, z8, z8, z8, z8, z8, z8, z8, z8, z8, z8, z8, z8, z8, z8, z8, z8, z8, z8, z8, z8, z8, z8, z8, z8, z8, z8, z8, z8, z8, z8, z8, z8, z8, z8, z8, z8, z8, z8, z8, z8, z8, z8, z8, z8, z8, z8, z8, z8, z8, z8, z8, z8, z8, z8, z8, z8, z8, z8, z8, z8, z8, z8, z8, z8, z8, z8, z8, z8, z8, z8, z8, z8, z8, z8, z8, z8, z8, z8, z8]) 950 rfl rfl rfl sl22 sz39 by39 (by kernel_rfl) rfl rfl (.inl rfl) (fun _ hm => src_blk (news := t.cells) (hm.at 1 rfl) ((T64.cells_len _))) (by first | exact T64.cells_one _ | simp [Value.oneCell']) (by omega) (by omega) rfl (w_n rfl) ?_
  intro a2 cap2
  refine TL_v (.slice a2 (k + 1) cap2) (s_as rfl) rfl rfl ?_
  refine TL_nil ?_
  refine p_blk_n ?_
  refine p_seq ?_
  refine T_region ?_
  refine TL_v (iN (k + 1)) (s_op r_add rfl rfl (iw (by omega) (by omega) (by omega))) rfl rfl ?_
  refine TL_v (iN (k + 1)) (s_mv rfl) rfl rfl ?_
  refine TL_nil ?_
  rw [show (((ts.take k).flatMap T64.cells) ++ t.cells) = (ts.take (k + 1)).flatMap T64.cells from by rw [List.take_add_one, hqt]; simp]
  exact p_at (k + 1, a2, cap2) ⟨by omega, by dsimp only; omega⟩ (sc4 rfl rfl rfl rfl (sc rfl (sc rfl sub_nil))) (sc rfl sub_nil)
 ·replace h1 := of_decide_eq_false h1
  refine T_exit' ?_
  refine p_then_x ?_
  refine p_then_x ?_
  refine p_blk_x ?_
  refine p_seq ?_
  refine T_seq (T_region ?_)
  refine TL_v (.slice a2 k cap2) (s_mv rfl) rfl rfl ?_
  refine TL_v (.slice a2 k cap2) (s_as rfl) rfl rfl ?_
  refine TL_seq ?_
  refine T_ret' ?_
  refine ret_of rfl (.slice a2 k cap2) (fun tmps w hk hm => res1 rfl (res_tmp (hk 4 _ rfl))) (fun w hm => ?_)
  have hk : k = ts.length := by omega
  subst hk
  have hrow := hm.row 950 rfl
  rw [List.take_length] at hrow
  exact ⟨a2, cap2, rfl, hm.ext, hrow⟩

set_option maxHeartbeats 1000000 in
theorem show_c (c : Cv) (w : World) (hc : CvAt w c) : Calls Try.prog 24 #[.pointer (some ⟨c.p, 0, none⟩)] w fun e w' => ∃ a' cap', e = .returned (.agg #[.int .i64 (c.wd : Int), .int .i64 (c.hg : Int), .slice a' c.ts.length cap']) ∧ Below w.heap.size w w' ∧ w'.ownsRow w.heap.size 39 256 (.slice a' c.ts.length cap') c.ts.length (c.ts.flatMap T64.cells) := by
 obtain ⟨p, a, cap, ps, wd, hg, ts⟩ := c
 have hblk : hp w p = some (.cells #[.int .i64 (wd : Int), .int .i64 (hg : Int), .slice a ps.length cap] 111) := hc.blk
 have hrow : SliceAt w a cap 1 ptrc ps := hc.row
 have hcap : cap ≤ Go.maxLen := hc.capok
 unfold Go.maxLen at hcap
 have htl : ∀ (i q : Nat) (t : T64), ps[i]? = some q → ts[i]? = some t → hp w q = some (tilO t) := hc.tl
 have hlen : ps.length = wd * hg := hc.len
 have hlt : ts.length = ps.length := hc.len2
 have hwd : 1 ≤ wd ∧ wd ≤ 4 := hc.wd4
 have hhg : 1 ≤ hg ∧ hg ≤ 4 := hc.hg4
 have h16 := size4 hwd hhg
 have hrl := hrow.1
 obtain ⟨b, of, cs, TY, fz, ha, hcr, hrr⟩ := hrow.open (i := 0) (by omega)
 subst ha
 refine calls_of_T (l := [pt p 0]) 22 Try.func24 rfl rfl rfl ?_
 show T _ _ _ [(0, pt p 0)] []
 refine T_seq (T_region ?_)
 refine TL_new 1 (.cells #[.int .i64 0, .int .i64 0, .slice none 0 0] 24) (fun B => pt B 0) (fun _ _ _ _ => r_alloc (v := .agg #[.int .i64 0, .int .i64 0, .slice none 0 0]) (by kernel_rfl) rfl) rfl rfl rfl (w_n rfl) ?_
 intro B1
 refine TL_seq ?_
 refine T_seq ?_
 refine T_seq (T_region ?_)
 refine TL_v (pt p 0) (s_mv rfl) rfl rfl ?_
 refine TL_v (.bool false) (fun _ _ j _ => r_as (r_eqlPn po28 (j _ _ rfl) (j _ _ rfl)) (by rfl)) rfl rfl ?_
 refine TL_seq ?_
 refine T_cond_f rfl ?_
 refine T_skip' ?_
 refine p_seq ?_
 refine T_seq (T_draw (V := [(0, pt p 0), (1, pt p 0), (2, pt p 0), (3, pt p 0), (4, iN wd), (5, pt p 0), (6, pt p 0), (7, pt p 0), (8, pt p 1), (9, iN hg), (10, pt p 0), (11, pt p 0), (12, pt p 2), (13, .slice (some ⟨b, of, none⟩) ps.length cap)]) [0, 1, 3, 7, 15, 0, 32, 96, 224, 480, 0, 1024, 3072, 7168, 15360, 32767, 65535] [[(0, none)], [(6, some 0)], [(7, some 1)], [(8, some 2)], [(9, some 3)], [(0, none)], [(11, some 5)], [(12, some 6)], [(13, some 7)], [(14, some 8)], [(0, none)], [(16, some 10)], [(17, some 11)], [(18, some 12)], [(19, some 13)], [(10, some 4), (15, some 9), (20, some 14)], [(2, none), (21, some 15)]] 81920 mixed (by kernel_rfl) ?_)
 refine G_step [0, 1, 2, 3, 4, 5, 6, 7, 8, 9, 10, 11, 12, 13] 14 [] (by kernel_rfl) (allM (all_cons (q_r (pt p 0) rfl rfl rfl (s_mv rfl)) (all_cons (q_r (pt p 0) rfl rfl rfl (s_nc rfl rfl)) (all_cons (q_r (pt p 0) rfl rfl rfl (s_fa fl111_0 sz109 rfl)) (all_cons (q_r (pt p 0) rfl rfl rfl (s_fa fl109_0 sz3 rfl)) (all_cons (q_r (iN wd) rfl rfl rfl (fun _ _ j hm => r_load ag3 (j _ _ rfl) (hm.old hblk) rfl)) (all_cons (q_r (pt p 0) rfl rfl rfl (s_mv rfl)) (all_cons (q_r (pt p 0) rfl rfl rfl (s_nc rfl rfl)) (all_cons (q_r (pt p 0) rfl rfl rfl (s_fa fl111_0 sz109 rfl)) (all_cons (q_r (pt p 1) rfl rfl rfl (s_fa fl109_1 sz3 rfl)) (all_cons (q_r (iN hg) rfl rfl rfl (fun _ _ j hm => r_load ag3 (j _ _ rfl) (hm.old hblk) rfl)) (all_cons (q_r (pt p 0) rfl rfl rfl (s_mv rfl)) (all_cons (q_r (pt p 0) rfl rfl rfl (s_nc rfl rfl)) (all_cons (q_r (pt p 2) rfl rfl rfl (s_fa fl111_1 sz104 rfl)) (all_cons (q_r (.slice (some ⟨b, of, none⟩) ps.length cap) rfl rfl rfl (fun _ _ j hm => r_load ag104 (j _ _ rfl) (hm.old hblk) rfl)) all_nil))))))))))))))) (allM (all_cons ?_ all_nil))
 refine LOb_callN (fun (_ : Option Addr × Nat) => True) (fun (as3, cs3) => .slice as3 ts.length cs3) (fun (as3, cs3) => [(2, .row (.slice as3 ts.length cs3) 39 256 ts.length (ts.flatMap T64.cells))]) (fun (as3, cs3) => [(15, .agg #[iN wd, iN hg, .slice as3 ts.length cs3])]) rfl (wv_n rfl) rfl rfl (fun _ _ j _ => r_call (args := [.slice (some ⟨b, of, none⟩) ps.length cap, .func (.func 74) #[] #[]]) (enters_of Try.func73 (by kernel_rfl) rfl) (j _ _ rfl) ((cons2 (j _ _ rfl) (cons2 (j _ _ rfl) rfl))) rfl) (fun w hm => (made_show _ w (hc.below hm.ext)).mono fun e w' ⟨a', cap', he, hb, hr⟩ => ⟨(a', cap'), trivial, he, hb, newOk1 2 hr⟩) (fun (as3, cs3) => by kernel_rfl) ?_
 rintro ⟨as3, cs3⟩ -
 refine G_step [0, 1, 2, 3, 4, 5, 6, 7, 8, 9, 15] 16 [] (by kernel_rfl) (allM (all_cons (q_r (pt p 0) rfl rfl rfl (s_mv rfl)) (all_cons (q_r (pt p 0) rfl rfl rfl (s_nc rfl rfl)) (all_cons (q_r (pt p 0) rfl rfl rfl (s_fa fl111_0 sz109 rfl)) (all_cons (q_r (pt p 0) rfl rfl rfl (s_fa fl109_0 sz3 rfl)) (all_cons (q_r (iN wd) rfl rfl rfl (fun _ _ j hm => r_load ag3 (j _ _ rfl) (hm.old hblk) rfl)) (all_cons (q_r (pt p 0) rfl rfl rfl (s_mv rfl)) (all_cons (q_r (pt p 0) rfl rfl rfl (s_nc rfl rfl)) (all_cons (q_r (pt p 0) rfl rfl rfl (s_fa fl111_0 sz109 rfl)) (all_cons (q_r (pt p 1) rfl rfl rfl (s_fa fl109_1 sz3 rfl)) (all_cons (q_r (iN hg) rfl rfl rfl (fun _ _ j hm => r_load ag3 (j _ _ rfl) (hm.old hblk) rfl)) (all_cons (q_r (.agg #[iN wd, iN hg, .slice as3 ts.length cs3]) rfl rfl rfl (fun _ _ j _ => r_build (vs := [(0, iN wd), (1, iN hg), (2, .slice as3 ts.length cs3)]) (by kernel_rfl) (cons2 (pair2 (j _ _ rfl)) (cons2 (pair2 (j _ _ rfl)) (cons2 (pair2 (j _ _ rfl)) rfl))))) all_nil)))))))))))) (allM (all_cons ?_ all_nil))
 refine LOb_store 1 (.cells #[iN wd, iN hg, .slice as3 ts.length cs3] 24) [] rfl (wv_n rfl) rfl rfl rfl (s_st sz24 rfl rfl 1 rfl rfl rfl rfl rfl) (by kernel_rfl) ?_
 refine G_last [] [(2, pt B1 0)] (by kernel_rfl) (allM all_nil) (end_old rfl rfl end_nil) ?_
 refine T_ret' ?_
 refine ret_of rfl (.agg #[iN wd, iN hg, .slice as3 ts.length cs3]) (fun tmps w hk hm => res1 rfl (res_cell (hk 2 _ rfl) (run_loadVar_agg ag24 sz24 (hm.at 1 rfl) (Nat.le_of_ble_eq_true rfl) rfl))) (fun w hm => ?_)
 exact ⟨as3, cs3, rfl, hm.ext, hm.row 2 rfl⟩

theorem eqSz (a b c d : Nat) : (decide ((a : Int) = (c : Int)) && (decide ((b : Int) = (d : Int)) && true)) = decide ((a, b) = (c, d)) := by
 by_cases h : (a, b) = (c, d)
 ·injection h with h1 h2; subst h1 h2; simp
 ·rw [decide_eq_false h]
  refine Bool.eq_false_iff.2 fun e => h ?_
  simp only [Bool.and_true, Bool.and_eq_true, decide_eq_true_eq] at e
  rw [show a = c by omega, show b = d by omega]
end Go.Proofs.Ytbiapeaghbndoaa
/- canvas: the points. Printed by a program of this seat's prover. -/
namespace Go.Proofs.Ytbiapeaghbndoaa
open Go Go.RowKit
set_option maxRecDepth 10000

def ptsC (wd hg : Nat) : List (Nat × Nat) := (List.range (8 * hg * (8 * wd))).map fun k => (k % (8 * wd), k / (8 * wd))
theorem ptsC_len (wd hg : Nat) : (ptsC wd hg).length = 8 * hg * (8 * wd) := by simp [ptsC]
theorem row_in {x y W H : Nat} (hx : x < W) (hy : y < H) : y * W + x < H * W ∧ (y * W + x) % W = x ∧ (y * W + x) / W = y := by
 refine ⟨?_, ?_, ?_⟩
 ·have := Nat.mul_le_mul_right W (show y + 1 ≤ H from hy)
  rw [Nat.add_mul, Nat.one_mul] at this; omega
 ·rw [Nat.mul_comm, Nat.mul_add_mod]; exact Nat.mod_eq_of_lt hx
 ·rw [Nat.mul_comm, Nat.mul_add_div (by omega), Nat.div_eq_of_lt hx]; omega
theorem row_end (y W : Nat) : y * W + W = (y + 1) * W := by rw [Nat.add_mul, Nat.one_mul]
theorem ptsC_at {x y wd hg : Nat} (hx : x < 8 * wd) (hy : y < 8 * hg) : (ptsC wd hg)[y * (8 * wd) + x]? = some (x, y) := by
 obtain ⟨h1, h2, h3⟩ := row_in hx hy
 unfold ptsC
 rw [List.getElem?_map, List.getElem?_range h1, Option.map_some, h2, h3]
theorem ptsC_in {k wd hg : Nat} {x : Nat × Nat} (h : (ptsC wd hg)[k]? = some x) : x.1 < 8 * wd ∧ x.2 < 8 * hg := by
 unfold ptsC at h
 rw [List.getElem?_map] at h
 obtain ⟨j, hj, rfl⟩ := Option.map_eq_some_iff.1 h
 have hk := (List.getElem?_eq_some_iff.1 hj).1
 rw [List.getElem?_range (by simpa using hk)] at hj
 cases hj
 rw [List.length_range] at hk
 have h0 : 0 < 8 * wd := by
  rcases Nat.eq_zero_or_pos (8 * wd) with e | e
  ·rw [e, Nat.mul_zero] at hk; omega
  ·exact e
 exact ⟨Nat.mod_lt _ h0, (Nat.div_lt_iff_lt_mul h0).2 hk⟩
abbrev encPt (x : Nat × Nat) : List Value := [.agg #[.int .i64 ((x.1 : Nat) : Int), .int .i64 ((x.2 : Nat) : Int)]]
theorem points_iter {ι : Type} (w₀ : World) (p : Nat → ι → Prop) (LJ : Nat → ι → Heap) (id bz wd hg : Nat) (hwd : 1 ≤ wd ∧ wd ≤ 4) (hhg : 1 ≤ hg ∧ hg ≤ 4) (hsz : ∀ k i, lk (LJ k i) id = some (.blk bz (.cells #[.int .i64 (wd : Int), .int .i64 (hg : Int)] 109))) :
  IterAt Try.prog w₀ 101 #[.pointer (some ⟨bz, 0, none⟩)] encPt (ptsC wd hg) p LJ := by
 intro l κ pX LX hY i₀ W hp0 hm0
 show Calls _ _ #[.func (.yield l) #[] #[], pt bz 0] _ _
 refine ht_of_T (l := [.func (.yield l) #[] #[], pt bz 0]) (L := LJ 0 i₀) 25 Try.func101 rfl rfl rfl ?_ W hm0
 show T _ _ _ [(0, .func (.yield l) #[] #[]), (1, pt bz 0)] (LJ 0 i₀)
 refine T_scope ?_
 refine T_label ?_
 refine T_seq (T_region ?_)
 refine TL_v (pt bz 1) (s_fa fl109_1 sz3 rfl) rfl rfl ?_
 refine TL_v (iN hg) (fun _ _ j hm => r_load ag3 (j _ _ rfl) (hm.at id (hsz _ _)) rfl) rfl rfl ?_
 refine TL_v (iN (8 * hg)) (s_op r_mul rfl rfl (iw (by omega) (by omega) (by omega))) rfl rfl ?_
 refine TL_v (.int .i64 0) (s_mv rfl) rfl rfl ?_
 refine TL_seq ?_
 refine T_block ?_
 refine T_loopE (ι := Nat × ι) (fun (z : Nat × ι) => match z with | (y, i) => y ≤ 8 * hg ∧ p (y * (8 * wd)) i) (fun (z : Nat × ι) => match z with | (y, i) => [(0, .func (.yield l) #[] #[]), (1, pt bz 0), (7, iN (8 * hg)), (8, iN y)]) (fun (z : Nat × ι) => match z with | (y, i) => (LJ (y * (8 * wd)) i)) (fun (z : Nat × ι) => match z with | (y, i) => 8 * hg - y) (0, i₀) ⟨Nat.zero_le _, by rw [Nat.zero_mul]; exact hp0⟩ (sc4 rfl rfl rfl rfl sub_nil) (by dsimp only; rw [Nat.zero_mul]) ?_
 rintro ⟨y, i⟩ hp
 obtain ⟨hy, hpi⟩ := hp
 show T _ _ _ [(0, .func (.yield l) #[] #[]), (1, pt bz 0), (7, iN (8 * hg)), (8, iN y)] (LJ (y * (8 * wd)) i)
 refine T_seq (T_region ?_)
 refine TL_v (.bool (decide (((y : Nat) : Int) < ((8 * hg : Nat) : Int)))) (fun _ _ j _ => r_lss (j _ _ rfl) (j _ _ rfl)) rfl rfl ?_
 refine TL_seq ?_
 refine T_seq ?_
 refine T_cond rfl (fun h1 => ?_) (fun h1 => ?_)
 ·replace h1 := of_decide_eq_true h1
  refine T_skip' ?_
  refine p_seq ?_
  refine T_seq ?_
  refine T_block ?_
  refine T_seq (T_region ?_)
  refine TL_v (iN y) (s_mv rfl) rfl rfl ?_
  refine TL_v (iN y) (s_as rfl) rfl rfl ?_
  refine TL_seq ?_
  refine T_seq (T_region ?_)
  refine TL_v (pt bz 0) (s_fa fl109_0 sz3 rfl) rfl rfl ?_
  refine TL_v (iN wd) (fun _ _ j hm => r_load ag3 (j _ _ rfl) (hm.at id (hsz _ _)) rfl) rfl rfl ?_
  refine TL_v (iN (8 * wd)) (s_op r_mul rfl rfl (iw (by omega) (by omega) (by omega))) rfl rfl ?_
  refine TL_v (.int .i64 0) (s_mv rfl) rfl rfl ?_
  refine TL_seq ?_
  refine T_block ?_
  refine T_loopE (ι := Nat × ι) (fun (z : Nat × ι) => match z with | (x, i) => x ≤ 8 * wd ∧ p (y * (8 * wd) + x) i) (fun (z : Nat × ι) => match z with | (x, i) => [(0, .func (.yield l) #[] #[]), (1, pt bz 0), (7, iN (8 * hg)), (8, iN y), (9, .bool (decide (((y : Nat) : Int) < ((8 * hg : Nat) : Int)))), (10, iN y), (3, iN y), (11, pt bz 0), (12, iN wd), (13, iN (8 * wd)), (14, iN x)]) (fun (z : Nat × ι) => match z with | (x, i) => (LJ (y * (8 * wd) + x) i)) (fun (z : Nat × ι) => match z with | (x, i) => 8 * wd - x) (0, i) ⟨Nat.zero_le _, hpi⟩ (sc4 rfl rfl rfl rfl (sc4 rfl rfl rfl rfl (sc rfl (sc rfl (sc rfl sub_nil))))) rfl ?_
  rintro ⟨x, i⟩ hp
  obtain ⟨hx, hp2⟩ := hp
  show T _ _ _ [(0, .func (.yield l) #[] #[]), (1, pt bz 0), (7, iN (8 * hg)), (8, iN y), (9, .bool (decide (((y : Nat) : Int) < ((8 * hg : Nat) : Int)))), (10, iN y), (3, iN y), (11, pt bz 0), (12, iN wd), (13, iN (8 * wd)), (14, iN x)] (LJ (y * (8 * wd) + x) i)
  refine T_seq (T_region ?_)
  refine TL_v (.bool (decide (((x : Nat) : Int) < ((8 * wd : Nat) : Int)))) (fun _ _ j _ => r_lss (j _ _ rfl) (j _ _ rfl)) rfl rfl ?_
  refine TL_seq ?_
  refine T_seq ?_
  refine T_cond rfl (fun h2 => ?_) (fun h2 => ?_)
  ·replace h2 := of_decide_eq_true h2
   refine T_skip' ?_
   refine p_seq ?_
   refine T_seq ?_
   refine T_block ?_
   refine T_seq (T_region ?_)
   refine TL_v (iN x) (s_mv rfl) rfl rfl ?_
   refine TL_v (iN x) (s_as rfl) rfl rfl ?_
   refine TL_seq ?_
   refine T_seq (T_region ?_)
   refine TL_v (.func (.yield l) #[] #[]) (s_mv rfl) rfl rfl ?_
   refine TL_v (iN x) (s_mv rfl) rfl rfl ?_
   refine TL_v (iN y) (s_mv rfl) rfl rfl ?_
   refine TL_v (.agg #[iN x, iN y]) (fun _ _ j _ => r_build (vs := [(0, iN x), (1, iN y)]) (by kernel_rfl) (cons2 (pair2 (j _ _ rfl)) (cons2 (pair2 (j _ _ rfl)) rfl))) rfl rfl ?_
   refine TL_yieldB (fun i => p (y * (8 * wd) + x + 1) i) (fun i => LJ (y * (8 * wd) + x + 1) i) pX LX rfl (fun _ _ j _ => r_yield (j _ _ rfl) ((cons2 (j _ _ rfl) rfl))) (fun W hm => hY (y * (8 * wd) + x) (x, y) i W (ptsC_at (by omega) (by omega)) hp2 hm) rfl rfl rfl (w_n rfl) ?_
   intro yx1 hyx1
   refine TL_v (.bool (!yx1.isLeft)) (fun _ _ j _ => r_not (b := yx1.isLeft) (j _ _ rfl)) rfl rfl ?_
   refine TL_seq ?_
   refine T_cond rfl (fun h3 => ?_) (fun h3 => ?_)
   ·replace h3 := bnot_t h3
    obtain ⟨j, rfl⟩ := isR h3
    refine T_exit' ?_
    refine p_blk_o rfl ?_
    refine p_then_x ?_
    refine p_then_x ?_
    refine p_blk_o rfl ?_
    refine p_blk_o rfl ?_
    refine p_then_x ?_
    refine p_then_x ?_
    refine p_blk_x ?_
    refine p_ng_n ?_
    refine p_end ?_
    refine ret_of rfl (.tuple #[]) (fun tmps w hk hm => results_none rfl _ _ _) (fun w hm => ?_)
    first
     | exact ⟨⟨_, rfl⟩, .inr ⟨j, hyx1, hm⟩⟩
     | (have hy8 : y = 8 * hg := (by omega); subst hy8; exact ⟨⟨_, rfl⟩, .inl ⟨i, by rw [ptsC_len]; exact hpi, by rw [ptsC_len]; exact hm⟩⟩)
   ·replace h3 := bnot_f h3
    obtain ⟨i1, rfl⟩ := isL h3
    refine T_skip' ?_
    refine p_blk_n ?_
    refine p_seq ?_
    refine T_region ?_
    refine TL_v (iN (x + 1)) (s_op r_add rfl rfl (iw (by omega) (by omega) (by omega))) rfl rfl ?_
    refine TL_v (iN (x + 1)) (s_mv rfl) rfl rfl ?_
    refine TL_nil ?_
    exact p_atE (x + 1, i1) ⟨⟨by omega, hyx1⟩, by dsimp only; omega⟩ (sc4 rfl rfl rfl rfl (sc4 rfl rfl rfl rfl (sc rfl (sc rfl (sc rfl sub_nil))))) rfl
  ·replace h2 := of_decide_eq_false h2
   refine T_exit' ?_
   refine p_then_x ?_
   refine p_then_x ?_
   refine p_blk_x ?_
   refine p_blk_n ?_
   refine p_seq ?_
   have hx8 : x = 8 * wd := by omega
   subst hx8
   refine T_region ?_
   refine TL_v (iN (y + 1)) (s_op r_add rfl rfl (iw (by omega) (by omega) (by omega))) rfl rfl ?_
   refine TL_v (iN (y + 1)) (s_mv rfl) rfl rfl ?_
   refine TL_nil ?_
   have eW := row_end y (8 * wd)
   rw [eW] at hp2 ⊢
   exact p_atE (y + 1, i) ⟨⟨by omega, hp2⟩, by dsimp only; omega⟩ (sc4 rfl rfl rfl rfl sub_nil) rfl
 ·replace h1 := of_decide_eq_false h1
  refine T_exit' ?_
  refine p_then_x ?_
  refine p_then_x ?_
  refine p_blk_x ?_
  refine p_ng_n ?_
  refine p_end ?_
  refine ret_of rfl (.tuple #[]) (fun tmps w hk hm => results_none rfl _ _ _) (fun w hm => ?_)
  first
   | exact ⟨⟨_, rfl⟩, .inr ⟨j, hyx1, hm⟩⟩
   | (have hy8 : y = 8 * hg := (by omega); subst hy8; exact ⟨⟨_, rfl⟩, .inl ⟨i, by rw [ptsC_len]; exact hpi, by rw [ptsC_len]; exact hm⟩⟩)
end Go.Proofs.Ytbiapeaghbndoaa
/- A range over a function whose rounds begin with new blocks. Over any program. -/
namespace Go.Proofs.Ytbiapeaghbndoaa
open Go Go.RowKit
theorem T_rangeB {C : Cx} {ζ : Type} {Q : Post} {K : List (Nat × Value)} {L : Heap} {ι α : Type} {g : Operand} {pl : List Tmp} {assign body : Code} {gf : Nat} {lb : Array Value} {encs : α → List Value} {xs : List α}
    (hro : C.ro = none) (hg : ev K g = some (.func (.func gf) #[] lb)) (eg : Enters C.P gf) (hps : ∀ x, (encs x).length = pl.length) (hpN : (pl.all fun t => Nat.blt t C.N) = true) 
    (idD idl : Nat) (hne : Nat.beq idD idl = false) (p : Nat → ι → Prop) (LI : Nat → ι → Heap) (pX : Code → ι → Prop) (LX : ι → Heap) (K1 : α → ζ → List (Nat × Value)) (E : α → ζ → Heap)
    (hit : ∀ D l rec, IterAt C.P C.w₀ gf lb encs xs p (fun k i => (idD, .blk D (.deferred (some []))) :: (idl, .blk l (.loop rec)) :: LI k i)) (hids : ∀ k i, lk (LI k i) idD = none ∧ lk (LI k i) idl = none) (hidx : ∀ i, lk (LX i) idD = none ∧ lk (LX i) idl = none)
    (i₀ : ι) (h0 : p 0 i₀) (hL : SubK L (LI 0 i₀))
    (hassign : ∀ D l rec k x i, xs[k]? = some x → p k i → T (C.round l) assign (Exit.then (At (C.round l) (fun _ : ζ => True) (fun z => K1 x z) (fun z => (idD, .blk D (.deferred (some []))) :: (idl, .blk l (.loop rec)) :: (E x z ++ LI k i))) (fun _ _ _ => False))
      (zipK pl (encs x) K) ((idD, .blk D (.deferred (some []))) :: (idl, .blk l (.loop rec)) :: LI k i))
    (hround : ∀ D l rec k x i z, xs[k]? = some x → p k i → T (C.round l) body (RoundQ C.w₀ idD idl D l rec (p (k + 1)) (LI (k + 1)) pX LX) (K1 x z) ((idD, .blk D (.deferred (some []))) :: (idl, .blk l (.loop { rec with state := .busy })) :: (E x z ++ LI k i)))
    (hdone : ∀ D i, p xs.length i → POk (C.with D) Q .normal K ((idD, .blk D (.deferred (some []))) :: LI xs.length i))
    (hstop : ∀ D c i, pX c i → T (C.with D) c Q K ((idD, .blk D (.deferred (some []))) :: LX i)) : T C (.rangeFunc g pl.toArray assign body) Q K L := by
  obtain ⟨P, w₀, N, CD, ro⟩ := C
  cases hro
  have hne' : idD ≠ idl := fun e => by subst e; rw [Nat.beq_refl] at hne; cases hne
  intro a w hf hm
  show (Code.rangeFunc g pl.toArray assign body).wpIn Fence.wide 0 P _ a w
  refine (wpIn_wide (n := 0)).2 ((wpIn_wide (n := 2)).1 (wpIn_rangeFunc ?_))
  intro fn hfn
  rw [show Fence.wide.round = none from rfl]
  have hg' := hf.rd _ _ hg
  obtain ⟨rec, hrec⟩ : ∃ rec : Loop, rec = { state := .ready, pending := none, fn, tmps := a.tmps, params := pl.toArray, assign, body, defers := w.heap.size } := ⟨_, rfl⟩
  have hm1 : MemOk w₀ ((idl, .blk (w.heap.size + 1) (.loop rec)) :: (idD, .blk w.heap.size (.deferred (some []))) :: LI 0 i₀) ((w.alloc (.deferred (some []))).alloc (.loop rec)) := by
    have h1 := (hm.sub hL).new (alloc_below w (.deferred (some []))) idD (Nat.le_refl _) (hp_new w _)
    have h2 := h1.new (alloc_below (w.alloc (.deferred (some []))) (.loop rec)) idl (Nat.le_refl _) (hp_new _ _)
    rwa [World.size_alloc] at h2
  have hm1 : MemOk w₀ ((idD, .blk w.heap.size (.deferred (some []))) :: (idl, .blk (w.heap.size + 1) (.loop rec)) :: LI 0 i₀) ((w.alloc (.deferred (some []))).alloc (.loop rec)) := by
    refine hm1.of (fun k q hk => ?_)
    by_cases e1 : idD = k
    · subst e1; rw [lk_cons_same] at hk; rw [ids_ne (Ne.symm hne')]; exact hk
    · rw [lk_cons_other _ _ e1] at hk
      by_cases e2 : idl = k
      · subst e2; rw [lk_cons_same] at hk ⊢; exact hk
      · rw [lk_cons_other _ _ e2] at hk; rw [lk_cons_other _ _ e2, lk_cons_other _ _ e1]; exact hk
  obtain ⟨W1, hW1⟩ : ∃ W1, (w.alloc (.deferred (some []))).alloc (.loop rec) = W1 := ⟨_, rfl⟩
  rw [hW1] at hm1
  refine ⟨w.heap.size + 1, [{ target := .collected w.heap.size, args := #[] }], W1, { target := .fn (.func gf) lb, args := #[.func (.yield (w.heap.size + 1)) #[] #[]] }, W1, gf,
    #[.func (.yield (w.heap.size + 1)) #[] #[]] ++ lb, W1, ?_, ?_, ?_, ?_, fun h => by simp [Fence.wide] at h, ?_⟩
  · rw [← hW1, hrec]; exact run_enterLoop_outer _ _ _ _ _
  · simp only [resolve, hg']
    simp [go_sem]
  · intro f' _; trivial
  · simp [invoke, eg _ _]
  · -- what holds at each round's head, and behind a round that left
    refine CallsIn.mono (callsIn_wide.2 (hit w.heap.size (w.heap.size + 1) rec (w.heap.size + 1) (Code × ι) (fun z => pX z.1 z.2)
      (fun z => (idD, .blk w.heap.size (.deferred (some []))) :: (idl, .blk (w.heap.size + 1) (.loop { rec with state := .done, pending := some z.1 })) :: LX z.2) ?_ i₀ W1 h0 hm1)) ?_
    · intro k x i W hx hi hmi
      have hl : W.heap[w.heap.size + 1]? = some (.loop rec) := hmi.at idl (ids_ne hne')
      have hy := run_yield (P := P) (args := (encs x).toArray) hl (by rw [hrec]; simp [hps])
      have hfr : FrOk N [] (zipK pl (encs x) K) { tmps := (pl.zip (encs x)).foldl (fun t (p, v) => t.setIfInBounds p v) a.tmps, defers := [] } :=
        FrOk.zip pl (encs x) (fun t ht => List.all_eq_true.1 hpN t ht) ⟨hf.size, rfl, hf.knows⟩
      have htm : (rec.params.zip (encs x).toArray).foldl (fun tmps (t, a) => tmps.setIfInBounds t a) rec.tmps = (pl.zip (encs x)).foldl (fun t (p, v) => t.setIfInBounds p v) a.tmps := by
        rw [hrec]; simp [List.zip_toArray]
      rw [htm] at hy
      rw [show rec.fn = fn by rw [hrec], show rec.assign = assign by rw [hrec], show rec.body = body by rw [hrec]] at hy
      refine ⟨fn, _, assign, body, hy, roundIn_of_wpIn hfn ?_⟩
      have hA := hassign w.heap.size (w.heap.size + 1) rec k x i hx hi _ W hfr hmi
      refine wpIn_mono hA ?_
      intro e a1 W2 hq
      cases e with
      | normal =>
        obtain ⟨z, _, hf1, hm2⟩ := hq
        have hl2 : W2.heap[w.heap.size + 1]? = some (.loop rec) := hm2.at idl (ids_ne hne')
        refine ⟨_, run_beginRound hl2 (by rw [hrec]), ?_⟩
        have hm3 := (hm2.putObj (.loop { rec with state := .busy }) (ids_ne hne' : lk _ idl = some (.blk (w.heap.size + 1) (.loop rec)))).second hne'
        have hB := hround w.heap.size (w.heap.size + 1) rec k x i z hx hi a1 _ hf1 hm3
        refine wpIn_mono hB ?_
        have fin : ∀ (jump : Option Code) (W3 : World) (LL : Heap), MemOk w₀ ((idD, .blk w.heap.size (.deferred (some []))) :: (idl, .blk (w.heap.size + 1) (.loop { rec with state := .busy })) :: LL) W3 →
            (Instr.endRound (w.heap.size + 1) jump).run P W3 = .ok (.bool jump.isNone) (W3.putObj (w.heap.size + 1) (.loop { rec with state := if jump.isNone then .ready else .done, pending := jump })) ∧
            MemOk w₀ ((idD, .blk w.heap.size (.deferred (some []))) :: (idl, .blk (w.heap.size + 1) (.loop { rec with state := if jump.isNone then .ready else .done, pending := jump })) :: LL) (W3.putObj (w.heap.size + 1) (.loop { rec with state := if jump.isNone then .ready else .done, pending := jump })) := fun jump W3 LL h3 => by
          have hl3 : W3.heap[w.heap.size + 1]? = some (.loop { rec with state := .busy }) := h3.at idl (ids_ne hne')
          exact ⟨run_endRound (P := P) (r := { rec with state := .busy }) jump hl3, (h3.putObj _ (ids_ne hne')).second hne'⟩
        have hrd : ({ rec with state := .ready, pending := none } : Loop) = rec := by rw [hrec]
        rintro e a3 W3 hp
        cases e with
        | normal =>
          obtain ⟨i', hi', h3⟩ := hp
          obtain ⟨hr, h4⟩ := fin none W3 _ h3
          exact ⟨_, _, hr, .inl ⟨rfl, i', hi', by simpa [hrd] using h4⟩⟩
        | ret =>
          obtain ⟨i', hi', h3⟩ := hp
          obtain ⟨hr, h4⟩ := fin (some .ret) W3 _ h3
          exact ⟨_, _, hr, .inr ⟨rfl, (.ret, i'), hi', by simpa using h4⟩⟩
        | exit id =>
          obtain ⟨i', hi', h3⟩ := hp
          obtain ⟨hr, h4⟩ := fin (some (.exit id)) W3 _ h3
          exact ⟨_, _, hr, .inr ⟨rfl, (.exit id, i'), hi', by simpa using h4⟩⟩
        | goto t =>
          obtain ⟨i', hi', h3⟩ := hp
          obtain ⟨hr, h4⟩ := fin (some (.goto t)) W3 _ h3
          exact ⟨_, _, hr, .inr ⟨rfl, (.goto t, i'), hi', by simpa using h4⟩⟩
        | panic ch => exact hp.elim
        | outgrown => exact hp.elim
      | exit id => exact hq.elim
      | goto l => exact hq.elim
      | ret => exact hq.elim
      | panic ch => exact hq.elim
      | outgrown => exact hq.elim
    · have hf' : ∀ (D : Nat), FrOk N ({ target := .collected D, args := #[] } :: CD) K { a with defers := [{ target := .collected D, args := #[] }] ++ a.defers } := fun D => ⟨hf.size, by rw [hf.defers]; rfl, hf.knows⟩
      rintro e W2 ⟨⟨v, rfl⟩, (⟨i, hi, h2⟩ | ⟨⟨c, i⟩, hi, h2⟩)⟩
      · have hl2 : W2.heap[w.heap.size + 1]? = some (.loop rec) := h2.at idl (ids_ne hne')
        refine ⟨none, _, by have := run_endLoop (P := P) hl2 (by rw [hrec]; simp); rw [this, hrec], ?_⟩
        exact hdone w.heap.size i hi _ _ (hf' _) (((h2.putObj _ (ids_ne hne')).second hne').drop2 (hids _ i).2)
      · have hl2 : W2.heap[w.heap.size + 1]? = some (.loop { rec with state := .done, pending := some c }) := h2.at idl (ids_ne hne')
        refine ⟨some c, _, by have := run_endLoop (P := P) hl2 (by simp); exact this, ?_⟩
        exact wpIn_wide.2 ((wpIn_wide (n := 0)).1 (hstop w.heap.size c i hi _ _ (hf' _) (((h2.putObj _ (ids_ne hne')).second hne').drop2 (hidx i).2)))
end Go.Proofs.Ytbiapeaghbndoaa
/- canvas: Differ. Printed by a program of this seat's prover. -/
namespace Go.Proofs.Ytbiapeaghbndoaa
open Go Go.RowKit
set_option maxRecDepth 10000
abbrev NP := Nat × Nat
abbrev ptn (x : NP) : List Value := [.int .i64 ((x.1 : Nat) : Int), .int .i64 ((x.2 : Nat) : Int)]
def isD (wd : Nat) (ts us : List T64) (x : NP) : Bool := decide (¬ colAt wd ts x.1 x.2 = colAt wd us x.1 x.2)
def difN (wd hg : Nat) (ts us : List T64) (k : Nat) : List NP := ((ptsC wd hg).take k).filter (isD wd ts us)
def difC (wd hg : Nat) (ts us : List T64) : List NP := (ptsC wd hg).filter (isD wd ts us)
theorem dif_t {wd hg : Nat} {ts us : List T64} {k : Nat} {x : NP} (hx : (ptsC wd hg)[k]? = some x) (h : ¬ colAt wd ts x.1 x.2 = colAt wd us x.1 x.2) : difN wd hg ts us (k + 1) = difN wd hg ts us k ++ [x] := by
 unfold difN
 rw [List.take_add_one, hx, List.filter_append]
 have : isD wd ts us x = true := decide_eq_true h
 simp [this]
theorem dif_f {wd hg : Nat} {ts us : List T64} {k : Nat} {x : NP} (hx : (ptsC wd hg)[k]? = some x) (h : colAt wd ts x.1 x.2 = colAt wd us x.1 x.2) : difN wd hg ts us (k + 1) = difN wd hg ts us k := by
 unfold difN
 rw [List.take_add_one, hx, List.filter_append]
 have : isD wd ts us x = false := decide_eq_false (fun e => e h)
 simp [this]
theorem dif_all (wd hg : Nat) (ts us : List T64) : difN wd hg ts us (ptsC wd hg).length = difC wd hg ts us := by unfold difN difC; rw [List.take_length]
theorem dif_le (wd hg : Nat) (ts us : List T64) (k : Nat) (hwd : 1 ≤ wd ∧ wd ≤ 4) (hhg : 1 ≤ hg ∧ hg ≤ 4) : (difN wd hg ts us k).length ≤ 1024 := by
 have h1 := List.length_filter_le (isD wd ts us) ((ptsC wd hg).take k)
 have h2 : ((ptsC wd hg).take k).length ≤ (ptsC wd hg).length := by rw [List.length_take]; omega
 rw [ptsC_len] at h2
 have h3 : 8 * hg * (8 * wd) ≤ 32 * 32 := Nat.mul_le_mul (by omega) (by omega)
 show (((ptsC wd hg).take k).filter (isD wd ts us)).length ≤ 1024
 omega
theorem cat_c (c : Cv) (x y : Int) (w : World) (hc : CvAt w c) : Calls Try.prog 23 #[.pointer (some ⟨c.p, 0, none⟩), .int .i64 x, .int .i64 y] w fun e w' => e = .returned (.tuple #[(colI c.wd c.hg c.ts x y).v, .bool (onC c.wd c.hg x y)]) ∧ Below w.heap.size w w' := by
 by_cases h : onC c.wd c.hg x y = true
 ·obtain ⟨u, v, rfl, rfl, hu, hv⟩ := onC_nat h
  refine (cat_in c u v w hc hu hv).mono fun e w' ⟨h1, h2⟩ => ⟨h1.trans ?_, h2⟩
  rw [h, colI_on hu hv]
 ·refine (cat_out c x y w hc h).mono fun e w' ⟨h1, h2⟩ => ⟨h1.trans ?_, h2⟩
  rw [colI_off h, eq_false_of_ne_true h]

theorem differ1_c (c d : Cv) (bc bd u v : Nat) (w : World) (hc : CvAt w c) (hd : CvAt w d) (hbc : hp w bc = some (.cells #[.pointer (some ⟨c.p, 0, none⟩)] 28)) (hbd : hp w bd = some (.cells #[.pointer (some ⟨d.p, 0, none⟩)] 28)) (hu : u < 8 * c.wd) (hv : v < 8 * c.hg) (hwe : c.wd = d.wd) (hhe : c.hg = d.hg) : Calls Try.prog 70 #[.agg #[.int .i64 (u : Int), .int .i64 (v : Int)], .pointer (some ⟨bc, 0, none⟩), .pointer (some ⟨bd, 0, none⟩)] w fun e w' => e = .returned (.bool (!decide (colAt c.wd c.ts u v = colAt c.wd d.ts u v))) ∧ Below w.heap.size w w' := by
 refine calls_of_T (l := [.agg #[iN u, iN v], pt bc 0, pt bd 0]) 30 Try.func70 rfl rfl rfl ?_
 show T _ _ _ [(0, .agg #[iN u, iN v]), (1, pt bc 0), (2, pt bd 0)] []
 refine T_seq (T_region ?_)
 refine TL_new 1 (.cells #[iN u, iN v] 47) (fun B => pt B 0) (fun _ _ j _ => r_box (j _ _ rfl) rfl) rfl rfl rfl (w_n rfl) ?_
 intro B1
 refine TL_v (.bool false) (s_as rfl) rfl rfl ?_
 refine TL_seq ?_
 refine T_seq (T_region ?_)
 refine TL_v (pt c.p 0) (fun _ _ j hm => r_load ag28 (j _ _ rfl) (hm.old hbc) rfl) rfl rfl ?_
 refine TL_v (pt B1 0) (s_fa fl47_0 sz3 rfl) rfl rfl ?_
 refine TL_v (iN u) (s_ld ag3 rfl 1 rfl rfl) rfl rfl ?_
 refine TL_v (pt B1 1) (s_fa fl47_1 sz3 rfl) rfl rfl ?_
 refine TL_v (iN v) (s_ld ag3 rfl 1 rfl rfl) rfl rfl ?_
 refine TL_call (.tuple #[.agg #[.int .u8 ((colAt c.wd c.ts u v).r), .int .u8 ((colAt c.wd c.ts u v).g), .int .u8 ((colAt c.wd c.ts u v).b), .int .u8 ((colAt c.wd c.ts u v).a)], .bool true]) (fun _ _ j _ => r_call (args := [pt c.p 0, iN u, iN v]) (enters_of Try.func23 (by kernel_rfl) rfl) (j _ _ rfl) ((cons2 (j _ _ rfl) (cons2 (j _ _ rfl) (cons2 (j _ _ rfl) rfl)))) rfl) (fun w hm => cat_in c u v w (hc.below hm.ext) hu hv) rfl rfl rfl (w_n rfl) ?_
 refine TL_v (.tuple #[.agg #[.int .u8 ((colAt c.wd c.ts u v).r), .int .u8 ((colAt c.wd c.ts u v).g), .int .u8 ((colAt c.wd c.ts u v).b), .int .u8 ((colAt c.wd c.ts u v).a)], .bool true]) (s_mv rfl) rfl rfl ?_
 refine TL_v (.agg #[.int .u8 ((colAt c.wd c.ts u v).r), .int .u8 ((colAt c.wd c.ts u v).g), .int .u8 ((colAt c.wd c.ts u v).b), .int .u8 ((colAt c.wd c.ts u v).a)]) (s_ex rfl rfl) rfl rfl ?_
 refine TL_v (.bool true) (s_ex rfl rfl) rfl rfl ?_
 refine TL_new 2 (.cells #[z8, z8, z8, z8] 37) (fun B => pt B 0) (fun _ _ _ _ => r_alloc (v := .agg #[z8, z8, z8, z8]) (by kernel_rfl) rfl) rfl rfl rfl (w_n rfl) ?_
 intro B2
 refine TL_store 2 (.cells #[.int .u8 ((colAt c.wd c.ts u v).r), .int .u8 ((colAt c.wd c.ts u v).g), .int .u8 ((colAt c.wd c.ts u v).b), .int .u8 ((colAt c.wd c.ts u v).a)] 37) rfl (s_st sz37 rfl rfl 2 rfl rfl rfl rfl rfl) rfl rfl (w_n rfl) ?_
 refine TL_v (.bool true) (s_as rfl) rfl rfl ?_
 refine TL_seq ?_
 refine T_seq (T_region ?_)
 refine TL_v (pt d.p 0) (fun _ _ j hm => r_load ag28 (j _ _ rfl) (hm.old hbd) rfl) rfl rfl ?_
 refine TL_v (pt B1 0) (s_fa fl47_0 sz3 rfl) rfl rfl ?_
 refine TL_v (iN u) (s_ld ag3 rfl 1 rfl rfl) rfl rfl ?_
 refine TL_v (pt B1 1) (s_fa fl47_1 sz3 rfl) rfl rfl ?_
 refine TL_v (iN v) (s_ld ag3 rfl 1 rfl rfl) rfl rfl ?_
 refine TL_call (.tuple #[.agg #[.int .u8 ((colAt d.wd d.ts u v).r), .int .u8 ((colAt d.wd d.ts u v).g), .int .u8 ((colAt d.wd d.ts u v).b), .int .u8 ((colAt d.wd d.ts u v).a)], .bool true]) (fun _ _ j _ => r_call (args := [pt d.p 0, iN u, iN v]) (enters_of Try.func23 (by kernel_rfl) rfl) (j _ _ rfl) ((cons2 (j _ _ rfl) (cons2 (j _ _ rfl) (cons2 (j _ _ rfl) rfl)))) rfl) (fun w hm => cat_in d u v w (hd.below hm.ext) (hwe ▸ hu) (hhe ▸ hv)) rfl rfl rfl (w_n rfl) ?_
 refine TL_v (.tuple #[.agg #[.int .u8 ((colAt d.wd d.ts u v).r), .int .u8 ((colAt d.wd d.ts u v).g), .int .u8 ((colAt d.wd d.ts u v).b), .int .u8 ((colAt d.wd d.ts u v).a)], .bool true]) (s_mv rfl) rfl rfl ?_
 refine TL_v (.agg #[.int .u8 ((colAt d.wd d.ts u v).r), .int .u8 ((colAt d.wd d.ts u v).g), .int .u8 ((colAt d.wd d.ts u v).b), .int .u8 ((colAt d.wd d.ts u v).a)]) (s_ex rfl rfl) rfl rfl ?_
 refine TL_v (.bool true) (s_ex rfl rfl) rfl rfl ?_
 refine TL_new 3 (.cells #[z8, z8, z8, z8] 37) (fun B => pt B 0) (fun _ _ _ _ => r_alloc (v := .agg #[z8, z8, z8, z8]) (by kernel_rfl) rfl) rfl rfl rfl (w_n rfl) ?_
 intro B3
 refine TL_store 3 (.cells #[.int .u8 ((colAt d.wd d.ts u v).r), .int .u8 ((colAt d.wd d.ts u v).g), .int .u8 ((colAt d.wd d.ts u v).b), .int .u8 ((colAt d.wd d.ts u v).a)] 37) rfl (s_st sz37 rfl rfl 3 rfl rfl rfl rfl rfl) rfl rfl (w_n rfl) ?_
 refine TL_v (.bool true) (s_as rfl) rfl rfl ?_
 refine TL_seq ?_
 refine T_seq (T_region ?_)
 refine TL_v (.agg #[.int .u8 ((colAt c.wd c.ts u v).r), .int .u8 ((colAt c.wd c.ts u v).g), .int .u8 ((colAt c.wd c.ts u v).b), .int .u8 ((colAt c.wd c.ts u v).a)]) (s_la ag37 sz37 rfl 2 rfl rfl rfl) rfl rfl ?_
 refine TL_v (.agg #[.int .u8 ((colAt d.wd d.ts u v).r), .int .u8 ((colAt d.wd d.ts u v).g), .int .u8 ((colAt d.wd d.ts u v).b), .int .u8 ((colAt d.wd d.ts u v).a)]) (s_la ag37 sz37 rfl 3 rfl rfl rfl) rfl rfl ?_
 refine TL_v (.bool (!decide ((colAt c.wd c.ts u v) = (colAt d.wd d.ts u v)))) (fun _ _ j _ => r_as (r_neqA (by kernel_rfl) (j _ _ rfl) (j _ _ rfl) (run_equalI (l := [(0, .u8), (1, .u8), (2, .u8), (3, .u8)]) (by kernel_rfl) rfl rfl)) (bool_as (congrArg (fun b => !b) (eqC (colAt c.wd c.ts u v) (colAt d.wd d.ts u v))))) rfl rfl ?_
 refine TL_v (.bool (!decide ((colAt c.wd c.ts u v) = (colAt d.wd d.ts u v)))) (s_as rfl) rfl rfl ?_
 refine TL_seq ?_
 refine T_ret' ?_
 refine ret_of rfl (.bool (!decide ((colAt c.wd c.ts u v) = (colAt d.wd d.ts u v)))) (fun tmps w hk hm => res1 rfl (res_tmp (hk 4 _ rfl))) (fun w hm => ?_)
 exact ⟨by rw [hwe], hm.ext⟩

theorem points_c (wd hg : Nat) (w : World) : Calls Try.prog 71 #[.agg #[.int .i64 (wd : Int), .int .i64 (hg : Int)]] w fun e w' => ∃ q, e = .returned (.func (.func 101) #[] #[.pointer (some ⟨q, 0, none⟩)]) ∧ Below w.heap.size w w' ∧ (Res.blk q (.cells #[.int .i64 (wd : Int), .int .i64 (hg : Int)] 109)).ok w.heap.size w' := by
 refine calls_of_T (l := [.agg #[iN wd, iN hg]]) 4 Try.func71 rfl rfl rfl ?_
 show T _ _ _ [(0, .agg #[iN wd, iN hg])] []
 refine T_seq (T_region ?_)
 refine TL_new 1 (.cells #[iN wd, iN hg] 109) (fun B => pt B 0) (fun _ _ j _ => r_box (j _ _ rfl) rfl) rfl rfl rfl (w_n rfl) ?_
 intro B1
 refine TL_v (.nilFunc) (s_as rfl) rfl rfl ?_
 refine TL_seq ?_
 refine T_seq (T_region ?_)
 refine TL_v (.func (.func 101) #[] #[pt B1 0]) (fun _ _ j _ => r_makeFunc (by simp) (map_arr (cons2 (j _ _ rfl) rfl))) rfl rfl ?_
 refine TL_v (.func (.func 101) #[] #[pt B1 0]) (s_as rfl) rfl rfl ?_
 refine TL_seq ?_
 refine T_ret' ?_
 refine ret_of rfl (.func (.func 101) #[] #[pt B1 0]) (fun tmps w hk hm => res1 rfl (res_tmp (hk 2 _ rfl))) (fun w hm => ?_)
 exact ⟨B1, rfl, hm.ext, hm.own 1 _ rfl⟩

set_option maxHeartbeats 1000000 in
theorem differ_eq (c d : Cv) (w : World) (hc : CvAt w c) (hd : CvAt w d) (hwe : c.wd = d.wd) (hhe : c.hg = d.hg) : Calls Try.prog 22 #[.pointer (some ⟨c.p, 0, none⟩), .pointer (some ⟨d.p, 0, none⟩)] w fun e w' => ∃ a' cap', e = .returned (.slice a' (difC c.wd c.hg c.ts d.ts).length cap') ∧ Below w.heap.size w w' ∧ w'.ownsRow w.heap.size 47 2 (.slice a' (difC c.wd c.hg c.ts d.ts).length cap') (difC c.wd c.hg c.ts d.ts).length ((difC c.wd c.hg c.ts d.ts).flatMap ptn) := by
 have hblk := hc.blk
 have hblkd := hd.blk
 refine calls_of_T (l := [pt c.p 0, pt d.p 0]) 40 Try.func22 rfl rfl rfl ?_
 show T _ _ _ [(0, pt c.p 0), (1, pt d.p 0)] []
 refine T_seq (T_region ?_)
 refine TL_new 1 (.cells #[pt c.p 0] 28) (fun B => pt B 0) (fun _ _ j _ => r_box (j _ _ rfl) rfl) rfl rfl rfl (w_n rfl) ?_
 intro B1
 refine TL_new 2 (.cells #[pt d.p 0] 28) (fun B => pt B 0) (fun _ _ j _ => r_box (j _ _ rfl) rfl) rfl rfl rfl (w_n rfl) ?_
 intro B2
 refine TL_v (.slice none 0 0) (s_as rfl) rfl rfl ?_
 refine TL_seq ?_
 refine T_seq ?_
 have hse : (c.wd, c.hg) = (d.wd, d.hg) := by rw [hwe, hhe]
 refine T_seq (T_draw (V := [(0, pt c.p 0), (1, .bool false), (2, .bool false), (3, pt d.p 0), (4, .bool false), (5, .bool false), (6, .bool false), (7, pt c.p 0), (8, pt c.p 0), (9, pt c.p 0), (10, .agg #[iN c.wd, iN c.hg]), (11, pt d.p 0), (12, pt d.p 0), (13, pt d.p 0), (14, .agg #[iN d.wd, iN d.hg]), (15, .bool false), (16, .bool false)]) [0, 1, 3, 7, 15, 31, 63, 127, 255, 511, 1023, 127, 2175, 6271, 14463, 32767, 65535] [[(2, none)], [(8, some 0)], [(9, some 1)], [(3, none)], [(11, some 3)], [(12, some 4), (10, some 2)], [(13, some 5)], [(2, none)], [(15, some 7)], [(16, some 8)], [(17, some 9)], [(3, none)], [(19, some 11)], [(20, some 12)], [(21, some 13)], [(18, some 10), (22, some 14)], [(23, some 15), (14, some 6)]] 0 mixed (by kernel_rfl) ?_)
 refine G_last [0, 1, 2, 3, 4, 5, 6, 7, 8, 9, 10, 11, 12, 13, 14, 15, 16] [(2, pt B1 0), (3, pt B2 0), (4, .slice none 0 0), (24, .bool false)] (by kernel_rfl) (allM (all_cons (q_r (pt c.p 0) rfl rfl rfl (s_ld ag28 rfl 1 rfl rfl)) (all_cons (q_r (.bool false) rfl rfl rfl (fun _ _ j _ => r_as (r_eqlPn po28 (j _ _ rfl) (j _ _ rfl)) (by rfl))) (all_cons (q_r (.bool false) rfl rfl rfl (s_mv rfl)) (all_cons (q_run (pt d.p 0) rfl rfl (wv_y rfl rfl) rfl (s_ld ag28 rfl 2 rfl rfl)) (all_cons (q_run (.bool false) rfl rfl (wv_y rfl rfl) rfl (fun _ _ j _ => r_as (r_eqlPn po28 (j _ _ rfl) (j _ _ rfl)) (by rfl))) (all_cons (q_r (.bool false) rfl rfl rfl (s_pf rfl rfl)) (all_cons (q_r (.bool false) rfl rfl rfl (s_mv rfl)) (all_cons (q_run (pt c.p 0) rfl rfl (wv_y rfl rfl) rfl (s_ld ag28 rfl 1 rfl rfl)) (all_cons (q_run (pt c.p 0) rfl rfl (wv_y rfl rfl) rfl (s_nc rfl rfl)) (all_cons (q_run (pt c.p 0) rfl rfl (wv_y rfl rfl) rfl (s_fa fl111_0 sz109 rfl)) (all_cons (q_run (.agg #[iN c.wd, iN c.hg]) rfl rfl (wv_y rfl rfl) rfl (fun _ _ j hm => r_loadA ag109 sz109 (j _ _ rfl) (hm.old hblk) rfl rfl)) (all_cons (q_run (pt d.p 0) rfl rfl (wv_y rfl rfl) rfl (s_ld ag28 rfl 2 rfl rfl)) (all_cons (q_run (pt d.p 0) rfl rfl (wv_y rfl rfl) rfl (s_nc rfl rfl)) (all_cons (q_run (pt d.p 0) rfl rfl (wv_y rfl rfl) rfl (s_fa fl111_0 sz109 rfl)) (all_cons (q_run (.agg #[iN d.wd, iN d.hg]) rfl rfl (wv_y rfl rfl) rfl (fun _ _ j hm => r_loadA ag109 sz109 (j _ _ rfl) (hm.old hblkd) rfl rfl)) (all_cons (q_run (.bool false) rfl rfl (wv_y rfl rfl) rfl (fun _ _ j _ => r_as (r_as (r_neqA (by kernel_rfl) (j _ _ rfl) (j _ _ rfl) (run_equalI (l := [(0, .i64), (1, .i64)]) (by kernel_rfl) rfl rfl)) (bool_as (congrArg (fun b => !b) (eqSz c.wd c.hg d.wd d.hg)))) (bool_as (by rw [decide_eq_true hse]; rfl)))) (all_cons (q_r (.bool false) rfl rfl rfl (s_pf rfl rfl)) all_nil)))))))))))))))))) (end_old rfl rfl (end_old rfl rfl (end_old rfl rfl (end_new 16 rfl rfl end_nil)))) ?_
 refine T_cond_f rfl ?_
 refine T_skip' ?_
 refine p_seq ?_
 refine T_seq (T_region ?_)
 refine TL_v (.func (.func 70) #[] #[pt B1 0, pt B2 0]) (fun _ _ j _ => r_makeFunc (by simp) (map_arr (cons2 (j _ _ rfl) (cons2 (j _ _ rfl) rfl)))) rfl rfl ?_
 refine TL_new 3 (.cells #[.nilFunc] 118) (fun B => pt B 0) (fun _ _ _ _ => r_alloc (v := .nilFunc) (by kernel_rfl) rfl) rfl rfl rfl (w_n rfl) ?_
 intro B3
 refine TL_store 3 (.cells #[.func (.func 70) #[] #[pt B1 0, pt B2 0]] 118) rfl (s_st sz118 rfl rfl 3 rfl rfl rfl rfl rfl) rfl rfl (w_n rfl) ?_
 refine TL_seq ?_
 refine T_seq (T_region ?_)
 refine TL_new 4 (.cells #[.slice none 0 0] 44) (fun B => pt B 0) (fun _ _ _ _ => r_alloc (v := .slice none 0 0) (by kernel_rfl) rfl) rfl rfl rfl (w_n rfl) ?_
 intro B4
 refine TL_seq ?_
 refine T_seq ?_
 refine T_seq (T_region ?_)
 refine TL_v (pt c.p 0) (s_ld ag28 rfl 1 rfl rfl) rfl rfl ?_
 refine TL_v (pt c.p 0) (s_nc rfl rfl) rfl rfl ?_
 refine TL_v (pt c.p 0) (s_fa fl111_0 sz109 rfl) rfl rfl ?_
 refine TL_v (.agg #[iN c.wd, iN c.hg]) (fun _ _ j hm => r_loadA ag109 sz109 (j _ _ rfl) (hm.old hblk) rfl rfl) rfl rfl ?_
 refine TL_callN (fun (_ : Nat) => True) (fun q5 => .func (.func 101) #[] #[pt q5 0]) (fun q5 => [(5, .blk q5 (.cells #[iN c.wd, iN c.hg] 109))]) (fun _ _ j _ => r_call (args := [.agg #[iN c.wd, iN c.hg]]) (enters_of Try.func71 (by kernel_rfl) rfl) (j _ _ rfl) ((cons2 (j _ _ rfl) rfl)) rfl) (fun w _ => (points_c c.wd c.hg w).mono fun e w' ⟨q, he, hb, hr⟩ => ⟨q, trivial, he, hb, newOk1 5 hr⟩) rfl rfl rfl (w_n rfl) ?_
 intro q5 _
 refine TL_seq ?_
 refine T_block ?_
 refine T_mem (_ :: _) (fun _ hm => hm.nilRow 950 47 2) ?_
 refine T_sub [(4, .slice none 0 0), (5, pt B3 0), (6, pt B4 0), (30, .func (.func 101) #[] #[pt q5 0])] [(950, .row (.slice none 0 0) 47 2 0 []), (5, .blk q5 (.cells #[iN c.wd, iN c.hg] 109)), (1, .blk B1 (.cells #[pt c.p 0] 28)), (2, .blk B2 (.cells #[pt d.p 0] 28)), (3, .blk B3 (.cells #[.func (.func 70) #[] #[pt B1 0, pt B2 0]] 118)), (4, .blk B4 (.cells #[.slice none 0 0] 44))] (sc4 rfl rfl rfl rfl sub_nil) (sc4 rfl rfl rfl rfl (sc rfl (sc rfl sub_nil))) ?_
 refine T_rangeB (ι := Option Addr × Nat) (ζ := Nat) (encs := encPt) (xs := ptsC c.wd c.hg) rfl rfl (enters_of Try.func101 (by kernel_rfl) rfl) (fun _ => rfl) rfl 801 802 rfl (fun (k : Nat) (z : Option Addr × Nat) => True) (fun (k : Nat) (z : Option Addr × Nat) => [(4, .blk B4 (.cells #[.slice z.1 ((difN c.wd c.hg c.ts d.ts k).length) z.2] 44)), (950, .row (.slice z.1 ((difN c.wd c.hg c.ts d.ts k).length) z.2) 47 2 ((difN c.wd c.hg c.ts d.ts k).length) ((difN c.wd c.hg c.ts d.ts k).flatMap ptn)), (5, .blk q5 (.cells #[iN c.wd, iN c.hg] 109)), (1, .blk B1 (.cells #[pt c.p 0] 28)), (2, .blk B2 (.cells #[pt d.p 0] 28)), (3, .blk B3 (.cells #[.func (.func 70) #[] #[pt B1 0, pt B2 0]] 118))]) (fun _ _ => False) (fun _ => []) (fun x Bz => [(4, .slice none 0 0), (5, pt B3 0), (6, pt B4 0), (30, .func (.func 101) #[] #[pt q5 0]), (7, pt Bz 0)]) (fun x Bz => [(7, .blk Bz (.cells #[iN x.1, iN x.2] 47))]) (fun D l rec => points_iter _ _ _ 5 q5 c.wd c.hg hc.wd4 hc.hg4 (fun _ _ => rfl)) (fun _ _ => ⟨rfl, rfl⟩) (fun _ => ⟨rfl, rfl⟩) (none, 0) trivial (sc4 rfl rfl rfl rfl (sc rfl (sc rfl sub_nil))) ?_ ?_ ?_ (fun _ _ _ h => h.elim)
 ·intro D1 l1 rec1 k x z hx1 hp1
  refine T_sub [(4, .slice none 0 0), (5, pt B3 0), (6, pt B4 0), (30, .func (.func 101) #[] #[pt q5 0]), (31, .agg #[iN x.1, iN x.2])] [(801, .blk D1 (.deferred (some []))), (802, .blk l1 (.loop rec1)), (4, .blk B4 (.cells #[.slice z.1 ((difN c.wd c.hg c.ts d.ts k).length) z.2] 44)), (950, .row (.slice z.1 ((difN c.wd c.hg c.ts d.ts k).length) z.2) 47 2 ((difN c.wd c.hg c.ts d.ts k).length) ((difN c.wd c.hg c.ts d.ts k).flatMap ptn)), (5, .blk q5 (.cells #[iN c.wd, iN c.hg] 109)), (1, .blk B1 (.cells #[pt c.p 0] 28)), (2, .blk B2 (.cells #[pt d.p 0] 28)), (3, .blk B3 (.cells #[.func (.func 70) #[] #[pt B1 0, pt B2 0]] 118))] (sc4 rfl rfl rfl rfl (sc rfl sub_nil)) (sc4 rfl rfl rfl rfl (sc4 rfl rfl rfl rfl sub_nil)) ?_
  refine T_region ?_
  refine TL_new 7 (.cells #[.int .i64 0, .int .i64 0] 47) (fun B => pt B 0) (fun _ _ _ _ => r_alloc (v := .agg #[.int .i64 0, .int .i64 0]) (by kernel_rfl) rfl) rfl rfl rfl (w_n rfl) ?_
  intro B6
  refine TL_store 7 (.cells #[iN x.1, iN x.2] 47) rfl (s_st sz47 rfl rfl 7 rfl rfl rfl rfl rfl) rfl rfl (w_n rfl) ?_
  refine TL_nil ?_
  exact p_at B6 trivial (sc4 rfl rfl rfl rfl (sc rfl sub_nil)) (sc4 rfl rfl rfl rfl (sc4 rfl rfl rfl rfl (sc rfl sub_nil)))
 ·intro D1 l1 rec1 k x z Bz hx1 hp1
  show T _ _ _ [(4, .slice none 0 0), (5, pt B3 0), (6, pt B4 0), (30, .func (.func 101) #[] #[pt q5 0]), (7, pt Bz 0)] [(801, .blk D1 (.deferred (some []))), (802, .blk l1 (.loop { rec1 with state := .busy })), (7, .blk Bz (.cells #[iN x.1, iN x.2] 47)), (4, .blk B4 (.cells #[.slice z.1 ((difN c.wd c.hg c.ts d.ts k).length) z.2] 44)), (950, .row (.slice z.1 ((difN c.wd c.hg c.ts d.ts k).length) z.2) 47 2 ((difN c.wd c.hg c.ts d.ts k).length) ((difN c.wd c.hg c.ts d.ts k).flatMap ptn)), (5, .blk q5 (.cells #[iN c.wd, iN c.hg] 109)), (1, .blk B1 (.cells #[pt c.p 0] 28)), (2, .blk B2 (.cells #[pt d.p 0] 28)), (3, .blk B3 (.cells #[.func (.func 70) #[] #[pt B1 0, pt B2 0]] 118))]
  have hxi := ptsC_in hx1
  have hdl := dif_le c.wd c.hg c.ts d.ts k hc.wd4 hc.hg4
  refine T_block ?_
  refine T_seq (T_region ?_)
  refine TL_v (.func (.func 70) #[] #[pt B1 0, pt B2 0]) (s_ld ag118 rfl 3 rfl rfl) rfl rfl ?_
  refine TL_v (.agg #[iN x.1, iN x.2]) (s_la ag47 sz47 rfl 7 rfl rfl rfl) rfl rfl ?_
  refine TL_call (.bool (!decide (colAt c.wd c.ts x.1 x.2 = colAt c.wd d.ts x.1 x.2))) (fun _ _ j _ => r_call (args := [.agg #[iN x.1, iN x.2]]) (enters_of Try.func70 (by kernel_rfl) rfl) (j _ _ rfl) ((cons2 (j _ _ rfl) rfl)) rfl) (fun w hm => differ1_c c d B1 B2 x.1 x.2 w (hc.below hm.ext) (hd.below hm.ext) (hm.at 1 rfl) (hm.at 2 rfl) hxi.1 hxi.2 hwe hhe) rfl rfl rfl (w_n rfl) ?_
  refine TL_seq ?_
  refine T_cond rfl (fun h1 => ?_) (fun h1 => ?_)
  ·replace h1 := of_decide_eq_false (bnot_t h1)
   refine T_region ?_
   refine TL_v (.slice z.1 ((difN c.wd c.hg c.ts d.ts k).length) z.2) (s_ld ag44 rfl 4 rfl rfl) rfl rfl ?_
   refine TL_v (.agg #[iN x.1, iN x.2]) (s_la ag47 sz47 rfl 7 rfl rfl rfl) rfl rfl ?_
   refine TL_new 8 (.cells #[iN x.1, iN x.2] 47) (fun B => .slice (some ⟨B, 0, none⟩) 1 1) (fun _ _ j _ => r_buildSlice (vs := [(0, .agg #[iN x.1, iN x.2])]) (by kernel_rfl) (cons2 (pair2 (j _ _ rfl)) rfl)) rfl rfl rfl (w_n rfl) ?_
   intro B7
   refine TL_append (n := (difN c.wd c.hg c.ts d.ts k).length) (m := 1) (xs := ((difN c.wd c.hg c.ts d.ts k).flatMap ptn)) (news := [iN x.1, iN x.2]) (z := .agg #[.int .i64 0, .int .i64 0]) 950 rfl rfl rfl sl44 sz47 by47 (by kernel_rfl) rfl rfl (.inl rfl) (fun _ hm => src_blk (news := [iN x.1, iN x.2]) (hm.at 8 rfl) rfl) (by first | exact T64.cells_one _ | simp [Value.oneCell']) (by omega) (by omega) rfl (w_n rfl) ?_
   intro a8 cap8
   refine TL_store 4 (.cells #[.slice a8 ((difN c.wd c.hg c.ts d.ts k).length + 1) cap8] 44) rfl (s_st sz44 rfl rfl 4 rfl rfl rfl rfl rfl) rfl rfl (w_n rfl) ?_
   refine TL_nil ?_
   refine p_blk_n ?_
   have hdt := dif_t hx1 h1
   rw [show ((difN c.wd c.hg c.ts d.ts k).length + 1) = (difN c.wd c.hg c.ts d.ts (k + 1)).length from by rw [hdt]; simp, show (((difN c.wd c.hg c.ts d.ts k).flatMap ptn) ++ [.int .i64 ((x.1 : Nat) : Int), .int .i64 ((x.2 : Nat) : Int)]) = (difN c.wd c.hg c.ts d.ts (k + 1)).flatMap ptn from by rw [hdt]; simp [ptn]]
   exact p_round_n (a8, cap8) trivial (sc4 rfl rfl rfl rfl (sc4 rfl rfl rfl rfl sub_nil))
  ·replace h1 := of_decide_eq_true (bnot_f h1)
   refine T_skip' ?_
   refine p_blk_n ?_
   have hdf := dif_f hx1 h1
   rw [← hdf]
   exact p_round_n z trivial (sc4 rfl rfl rfl rfl (sc4 rfl rfl rfl rfl sub_nil))
 ·intro D1 z hp1
  rw [dif_all]
  refine p_sub [(4, .slice none 0 0), (5, pt B3 0), (6, pt B4 0), (30, .func (.func 101) #[] #[pt q5 0])] [(801, .blk D1 (.deferred (some []))), (5, .blk q5 (.cells #[iN c.wd, iN c.hg] 109)), (1, .blk B1 (.cells #[pt c.p 0] 28)), (2, .blk B2 (.cells #[pt d.p 0] 28)), (3, .blk B3 (.cells #[.func (.func 70) #[] #[pt B1 0, pt B2 0]] 118)), (4, .blk B4 (.cells #[.slice z.1 ((difC c.wd c.hg c.ts d.ts).length) z.2] 44)), (950, .row (.slice z.1 ((difC c.wd c.hg c.ts d.ts).length) z.2) 47 2 ((difC c.wd c.hg c.ts d.ts).length) ((difC c.wd c.hg c.ts d.ts).flatMap ptn))] (sc4 rfl rfl rfl rfl sub_nil) (sc4 rfl rfl rfl rfl (sc rfl (sc rfl (sc rfl sub_nil)))) ?_
  refine p_blk_n ?_
  refine p_seq ?_
  refine T_seq (T_region ?_)
  refine TL_v (.slice z.1 ((difC c.wd c.hg c.ts d.ts).length) z.2) (s_ld ag44 rfl 4 rfl rfl) rfl rfl ?_
  refine TL_v (.slice z.1 ((difC c.wd c.hg c.ts d.ts).length) z.2) (s_as rfl) rfl rfl ?_
  refine TL_seq ?_
  refine T_ret' ?_
  refine ret_of1 801 D1 rfl rfl (.slice z.1 ((difC c.wd c.hg c.ts d.ts).length) z.2) (fun tmps w hk hm => res1 rfl (res_tmp (hk 4 _ rfl))) (fun w hm => ?_)
  exact ⟨z.1, z.2, rfl, hm.ext, hm.row 950 rfl⟩

end Go.Proofs.Ytbiapeaghbndoaa
/- canvas: what With does, plainly. -/
namespace Go.Proofs.Ytbiapeaghbndoaa
open Go Go.RowKit
structure Dt where
  x : Int
  y : Int
  c : C4
abbrev Dt.cells (d : Dt) : List Value := [.int .i64 d.x, .int .i64 d.y, .int .u8 d.c.r, .int .u8 d.c.g, .int .u8 d.c.b, .int .u8 d.c.a]
theorem Dt.cells_len (d : Dt) : d.cells.length = 6 := rfl
theorem Dt.cells_one (d : Dt) : ∀ u ∈ d.cells, u.oneCell' = true := by simp [Dt.cells, Value.oneCell']
theorem dt_ext {d e : Dt} (h1 : d.x = e.x) (h2 : d.y = e.y) (h3 : d.c = e.c) : d = e := by cases d; cases e; simp_all
instance : DecidableEq Dt := fun d e => decidable_of_iff (d.x = e.x ∧ d.y = e.y ∧ d.c = e.c) ⟨fun ⟨h1, h2, h3⟩ => dt_ext h1 h2 h3, fun e => by subst e; exact ⟨rfl, rfl, rfl⟩⟩
def tix (wd : Nat) (x y : Int) : Nat := y.toNat / 8 * wd + x.toNat / 8
def tpos (x y : Int) : Nat := y.toNat % 8 * 8 + x.toNat % 8
theorem tpos_lt (x y : Int) : tpos x y < 64 := by unfold tpos; omega
theorem tix_lt {wd hg : Nat} {x y : Int} (h : onC wd hg x y = true) : tix wd x y < wd * hg := by
  obtain ⟨u, v, rfl, rfl, hu, hv⟩ := onC_nat h
  exact idx_lt hu hv
def putD (wd hg : Nat) (ts : List T64) (d : Dt) : List T64 := if onC wd hg d.x d.y then ts.set (tix wd d.x d.y) ((tileAt ts (tix wd d.x d.y)).set (tpos d.x d.y) d.c) else ts
def putDs (wd hg : Nat) (ts : List T64) (ds : List Dt) : List T64 := ds.foldl (putD wd hg) ts
theorem putD_len (wd hg : Nat) (ts : List T64) (d : Dt) : (putD wd hg ts d).length = ts.length := by
  unfold putD; split
  · exact List.length_set
  · rfl
theorem putDs_len (wd hg : Nat) (ts : List T64) (ds : List Dt) : (putDs wd hg ts ds).length = ts.length := by
  unfold putDs
  induction ds generalizing ts with
  | nil => rfl
  | cons d ds ih => rw [List.foldl_cons, ih, putD_len]
theorem putDs_step {wd hg : Nat} {ts : List T64} {ds : List Dt} {k : Nat} {u : Dt} (h : ds[k]? = some u) : putDs wd hg ts (ds.take (k + 1)) = putD wd hg (putDs wd hg ts (ds.take k)) u := by
  unfold putDs
  rw [List.take_add_one, h, List.foldl_append]; rfl
theorem putD_no {wd hg : Nat} {ts : List T64} {d : Dt} (h : ¬ onC wd hg d.x d.y = true) : putD wd hg ts d = ts := if_neg h
abbrev OwE := Nat × Nat × T64
abbrev OwE.ent (e : OwE) : Nat × Option Nat := (e.1, some e.2.1)
abbrev OwE.bt (e : OwE) : Nat × T64 := e.2
abbrev natK (n : Nat) : Value := .int .i64 (n : Int)
abbrev optV (q : Option Nat) : Value := .pointer (q.map fun b => ⟨b, 0, none⟩)
structure OwnOk (ts : List T64) (own : List OwE) (cur : List T64) : Prop where
  one : own.Pairwise fun a b => a.1 ≠ b.1
  len : cur.length = ts.length
  lt : ∀ e ∈ own, e.1 < ts.length
  cur' : ∀ i t, cur[i]? = some t → (∃ q, (i, q, t) ∈ own) ∨ ((∀ e ∈ own, e.1 ≠ i) ∧ ts[i]? = some t)
theorem pw_one {own : List OwE} (h : own.Pairwise fun a b => a.1 ≠ b.1) {e f : OwE} (he : e ∈ own) (hf : f ∈ own) (h1 : e.1 = f.1) : e = f := by
  induction own with
  | nil => cases he
  | cons x l ih =>
    obtain ⟨h2, h3⟩ := List.pairwise_cons.1 h
    rcases List.mem_cons.1 he with rfl | he'
    · rcases List.mem_cons.1 hf with rfl | hf'
      · rfl
      · exact absurd h1 (h2 f hf')
    · rcases List.mem_cons.1 hf with rfl | hf'
      · exact absurd h1.symm (h2 e he')
      · exact ih h3 he' hf'
theorem own_in {own : List OwE} (h : own.Pairwise fun a b => a.1 ≠ b.1) {n q : Nat} {t : T64} (hin : (n, q, t) ∈ own) : getM none n (own.map OwE.ent) = some q := by
  induction own with
  | nil => cases hin
  | cons x l ih =>
    obtain ⟨h2, h3⟩ := List.pairwise_cons.1 h
    show (if n = x.1 then some x.2.1 else getM none n (l.map OwE.ent)) = some q
    rcases List.mem_cons.1 hin with rfl | hin'
    · rw [if_pos rfl]
    · rw [if_neg (fun e => h2 _ hin' e.symm), ih h3 hin']
theorem own_out {own : List OwE} {n : Nat} (h : ¬ ∃ e ∈ own, e.1 = n) : getM none n (own.map OwE.ent) = none := by
  induction own with
  | nil => rfl
  | cons x l ih =>
    show (if n = x.1 then some x.2.1 else getM none n (l.map OwE.ent)) = none
    rw [if_neg (fun e => h ⟨x, List.mem_cons_self, e.symm⟩), ih (fun ⟨e, he, h1⟩ => h ⟨e, List.mem_cons_of_mem _ he, h1⟩)]
theorem put_out {own : List OwE} {n q : Nat} (t : T64) (h : ¬ ∃ e ∈ own, e.1 = n) : putM n (some q) (own.map OwE.ent) = (own ++ [(n, q, t)]).map OwE.ent := by
  induction own with
  | nil => rfl
  | cons x l ih =>
    show (if n = x.1 then (x.1, some q) :: l.map OwE.ent else (x.1, some x.2.1) :: putM n (some q) (l.map OwE.ent)) = _
    rw [if_neg (fun e => h ⟨x, List.mem_cons_self, e.symm⟩), ih (fun ⟨e, he, h1⟩ => h ⟨e, List.mem_cons_of_mem _ he, h1⟩)]
    rfl
def updO (own : List OwE) (n : Nat) (t : T64) : List OwE := own.map fun e => if e.1 = n then (e.1, e.2.1, t) else e
theorem upd_ent (own : List OwE) (n : Nat) (t : T64) : (updO own n t).map OwE.ent = own.map OwE.ent := by
  unfold updO
  rw [List.map_map]
  refine List.map_congr_left fun e _ => ?_
  show OwE.ent (if e.1 = n then (e.1, e.2.1, t) else e) = _
  split <;> rfl
theorem own_push {ts cur : List T64} {own : List OwE} (h : OwnOk ts own cur) {n q : Nat} {t : T64} (hno : ¬ ∃ e ∈ own, e.1 = n) (ht : ts[n]? = some t) : OwnOk ts (own ++ [(n, q, t)]) cur := by
  refine ⟨List.pairwise_append.2 ⟨h.one, List.pairwise_singleton _ _, fun a ha b hb => ?_⟩, h.len, fun e he => ?_, fun i u hu => ?_⟩
  · rw [List.mem_singleton.1 hb]; exact fun e => hno ⟨a, ha, e⟩
  · rcases List.mem_append.1 he with h1 | h1
    · exact h.lt e h1
    · rw [List.mem_singleton.1 h1]; exact (List.getElem?_eq_some_iff.1 ht).1
  · rcases h.cur' i u hu with ⟨r, hr⟩ | ⟨h1, h2⟩
    · exact .inl ⟨r, List.mem_append_left _ hr⟩
    · by_cases e : i = n
      · subst e
        rw [ht] at h2; cases h2
        exact .inl ⟨q, List.mem_append_right _ (List.mem_singleton.2 rfl)⟩
      · refine .inr ⟨fun f hf => ?_, h2⟩
        rcases List.mem_append.1 hf with h3 | h3
        · exact h1 f h3
        · rw [List.mem_singleton.1 h3]; exact fun e2 => e e2.symm
theorem own_cur {ts cur : List T64} {own : List OwE} (h : OwnOk ts own cur) {n q : Nat} {t : T64} (hin : (n, q, t) ∈ own) (hn : n < ts.length) : cur[n]? = some t := by
  obtain ⟨u, hu⟩ : ∃ u, cur[n]? = some u := ⟨_, List.getElem?_eq_getElem (by rw [h.len]; exact hn)⟩
  rcases h.cur' n u hu with ⟨r, hr⟩ | ⟨h1, _⟩
  · have := pw_one h.one hin hr rfl
    cases this; exact hu
  · exact absurd rfl (h1 _ hin)
theorem own_step {wd hg : Nat} {ts cur : List T64} {own : List OwE} (h : OwnOk ts own cur) {u : Dt} {q : Nat} {t : T64} (hon : onC wd hg u.x u.y = true) (hl : ts.length = wd * hg) (hin : (tix wd u.x u.y, q, t) ∈ own) :
    OwnOk ts (updO own (tix wd u.x u.y) (t.set (tpos u.x u.y) u.c)) (putD wd hg cur u) := by
  have hn : tix wd u.x u.y < ts.length := by rw [hl]; exact tix_lt hon
  have hc := own_cur h hin hn
  have hp : putD wd hg cur u = cur.set (tix wd u.x u.y) (t.set (tpos u.x u.y) u.c) := by
    unfold putD
    rw [if_pos hon, tileAt_some hc]
  rw [hp]
  refine ⟨?_, by rw [List.length_set, h.len], fun e he => ?_, fun i v hv => ?_⟩
  · unfold updO
    refine List.pairwise_map.2 (h.one.imp fun {a b} hab => ?_)
    show (if a.1 = _ then (a.1, a.2.1, _) else a).1 ≠ (if b.1 = _ then (b.1, b.2.1, _) else b).1
    split <;> split <;> exact hab
  · obtain ⟨g, hg', rfl⟩ := List.mem_map.1 he
    show (if g.1 = _ then (g.1, g.2.1, _) else g).1 < _
    split <;> exact h.lt g hg'
  · by_cases e : i = tix wd u.x u.y
    · subst e
      rw [List.getElem?_set_self (by rw [h.len]; exact hn)] at hv
      cases hv
      refine .inl ⟨q, List.mem_map.2 ⟨_, hin, ?_⟩⟩
      exact if_pos rfl
    · rw [List.getElem?_set_ne (Ne.symm e)] at hv
      rcases h.cur' i v hv with ⟨r, hr⟩ | ⟨h1, h2⟩
      · exact .inl ⟨r, List.mem_map.2 ⟨_, hr, if_neg e⟩⟩
      · refine .inr ⟨fun f hf => ?_, h2⟩
        obtain ⟨g, hg', rfl⟩ := List.mem_map.1 hf
        show (if g.1 = _ then (g.1, g.2.1, _) else g).1 ≠ i
        split <;> exact h1 g hg'
theorem bt_ne {own : List OwE} (h : own.Pairwise fun a b => (OwE.bt a).1 ≠ (OwE.bt b).1) {e f : OwE} (he : e ∈ own) (hf : f ∈ own) (h1 : e.2.1 = f.2.1) : e = f := by
  induction own with
  | nil => cases he
  | cons x l ih =>
    obtain ⟨h2, h3⟩ := List.pairwise_cons.1 h
    rcases List.mem_cons.1 he with rfl | he'
    · rcases List.mem_cons.1 hf with rfl | hf'
      · rfl
      · exact absurd h1 (h2 f hf')
    · rcases List.mem_cons.1 hf with rfl | hf'
      · exact absurd h1.symm (h2 e he')
      · exact ih h3 he' hf'
theorem tls_upd {own : List OwE} {n q : Nat} {t t1 : T64} {w w' : World} (hin : (n, q, t) ∈ own) (h1 : own.Pairwise fun a b => a.1 ≠ b.1) (h : tlsH OwE.bt own w) (hu : Upd w q (tilO t1) w') : tlsH OwE.bt (updO own n t1) w' := by
  refine ⟨fun e he => ?_, ?_⟩
  · obtain ⟨f, hf, rfl⟩ := List.mem_map.1 he
    by_cases e1 : f.1 = n
    · have : f = (n, q, t) := pw_one h1 hf hin e1
      subst this
      show hp w' (if n = n then (n, q, t1) else (n, q, t)).2.1 = some (tilO (if n = n then (n, q, t1) else (n, q, t)).2.2)
      rw [if_pos rfl]; exact hu.this
    · show hp w' (if f.1 = n then (f.1, f.2.1, t1) else f).2.1 = some (tilO (if f.1 = n then (f.1, f.2.1, t1) else f).2.2)
      rw [if_neg e1, hu.other _ (fun e2 => e1 (by have := bt_ne h.2 hf hin e2; rw [this]))]
      exact h.1 f hf
  · unfold updO
    refine List.pairwise_map.2 (h.2.imp fun {a b} hab => ?_)
    show (if a.1 = n then (a.1, a.2.1, t1) else a).2.1 ≠ (if b.1 = n then (b.1, b.2.1, t1) else b).2.1
    split <;> split <;> exact hab
theorem tlsF_upd (own : List OwE) (n : Nat) (t : T64) : tlsF OwE.bt (updO own n t) = tlsF OwE.bt own := by
  funext b
  refine propext ⟨?_, ?_⟩
  · rintro ⟨e, he, rfl⟩
    obtain ⟨f, hf, rfl⟩ := List.mem_map.1 he
    refine ⟨f, hf, ?_⟩
    show f.2.1 = (if f.1 = n then (f.1, f.2.1, t) else f).2.1
    split <;> rfl
  · rintro ⟨f, hf, rfl⟩
    refine ⟨_, List.mem_map.2 ⟨f, hf, rfl⟩, ?_⟩
    show (if f.1 = n then (f.1, f.2.1, t) else f).2.1 = f.2.1
    split <;> rfl
section
variable {P : Program} {w₀ w : World} {L : Heap} {ρ : Operand → Value} {ty : TypeId} {ps : String} {af : Array Edge} {g : Option (Nat × Bool)}
theorem o_storeTl {x y : Operand} {ty' : TypeId} {own : List OwE} {n q : Nat} {t t1 : T64} (i : Nat) (hi : lk L i = some (.tls OwE.bt own)) (hin : (n, q, t) ∈ own) (h1 : own.Pairwise fun a b => a.1 ≠ b.1) (hx : ρ x = .pointer (some ⟨q, 0, none⟩)) (hy : ρ y = til t1.l) (hs : szOf P ty' = some 256) (hm : MemOk w₀ L w) :
    ∃ w', (execOp ρ (mk none (.store ty' x y) ty ps af g)).run P w = .ok .skip w' ∧ MemOk w₀ ((i, .tls OwE.bt (updO own n t1)) :: L) w' := by
  have := o_storeAbs (P := P) (ty := ty) (ps := ps) (af := af) (g := g) (cs' := lst C4.cells t1.l) (H' := tlsH OwE.bt (updO own n t1)) i hi hx hy hs ⟨_, hin, rfl⟩ (hm.tl i hi hin) (tsz t.h) rfl (tsz t1.h) (lst_one C4.cells_all _) (fun w' hw hu => tls_upd hin h1 hw hu)
    (fun w1 w2 hw hb => tls_keep w1 w2 hw (fun b hF => hb b (by rw [tlsF_upd] at hF; exact hF))) hm
  unfold Res.tls
  rw [tlsF_upd]
  exact this
end
/-! ### what is taken over -/
structure RowOk (ts : List T64) (own : List OwE) (ps : List Nat) (seen : List Nat) (rs : List Nat) : Prop where
  len : rs.length = ps.length
  nd : seen.Nodup
  lt : ∀ j ∈ seen, j < own.length
  yes : ∀ i q t t0, (∃ j ∈ seen, own[j]? = some (i, q, t)) → ts[i]? = some t0 → t ≠ t0 → rs[i]? = some q
  no : ∀ i, (∀ q t t0, (∃ j ∈ seen, own[j]? = some (i, q, t)) → ts[i]? = some t0 → t = t0) → rs[i]? = ps[i]?
theorem row_zero (ts : List T64) (own : List OwE) (ps : List Nat) : RowOk ts own ps [] ps :=
  ⟨rfl, List.nodup_nil, (fun _ h => nomatch h), (fun _ _ _ _ ⟨_, h, _⟩ => nomatch h), fun _ _ => rfl⟩
theorem nodup_le : ∀ (n : Nat) (l : List Nat), l.Nodup → (∀ x ∈ l, x < n) → l.length ≤ n
  | 0, l, _, h => by
    cases l with
    | nil => exact Nat.le_refl _
    | cons x l => exact absurd (h x List.mem_cons_self) (Nat.not_lt_zero _)
  | n + 1, l, hd, h => by
    by_cases hn : n ∈ l
    · have := nodup_le n (l.erase n) (hd.erase n) (fun x hx => by
        have h1 := (hd.mem_erase_iff).1 hx
        have := h x h1.2
        have := h1.1
        omega)
      rw [List.length_erase_of_mem hn] at this
      omega
    · have := nodup_le n l hd (fun x hx => by
        have := h x hx
        have : x ≠ n := fun e => hn (e ▸ hx)
        omega)
      omega
theorem nodup_push {seen : List Nat} {j : Nat} (h : seen.Nodup) (hj : j ∉ seen) : (seen ++ [j]).Nodup :=
  List.nodup_append.2 ⟨h, List.nodup_cons.2 ⟨(fun h => nomatch h), List.nodup_nil⟩, fun a ha b hb => by rw [List.mem_singleton.1 hb]; exact fun e => hj (e ▸ ha)⟩
theorem row_lt {ts : List T64} {own : List OwE} {ps seen rs : List Nat} (h : RowOk ts own ps seen rs) {j : Nat} (hj : j ∉ seen) (hl : j < own.length) : seen.length < own.length := by
  have := nodup_le own.length (seen ++ [j]) (nodup_push h.nd hj) (fun x hx => by
    rcases List.mem_append.1 hx with h1 | h1
    · exact h.lt x h1
    · rw [List.mem_singleton.1 h1]; exact hl)
  rw [List.length_append, List.length_singleton] at this
  omega
section
variable {ts : List T64} {own : List OwE} {ps seen rs : List Nat} {i j q : Nat} {t t0 : T64}
theorem row_put (h : RowOk ts own ps seen rs) (hp : own.Pairwise fun a b => a.1 ≠ b.1) (hj : j ∉ seen) (ho : own[j]? = some (i, q, t)) (ht : ts[i]? = some t0) (hne : ¬ t = t0) (hi : i < ps.length) : RowOk ts own ps (seen ++ [j]) (rs.set i q) := by
  have hm := List.mem_of_getElem? ho
  refine ⟨by rw [List.length_set, h.len], nodup_push h.nd hj, fun x hx => ?_, fun i' q' t' t0' ⟨j', hj', ho'⟩ ht' hne' => ?_, fun i' hno => ?_⟩
  · rcases List.mem_append.1 hx with h1 | h1
    · exact h.lt x h1
    · rw [List.mem_singleton.1 h1]; exact (List.getElem?_eq_some_iff.1 ho).1
  · by_cases e : i' = i
    · subst e
      have := pw_one hp (List.mem_of_getElem? ho') hm rfl
      cases this
      exact List.getElem?_set_self (by rw [h.len]; exact hi)
    · rw [List.getElem?_set_ne (Ne.symm e)]
      rcases List.mem_append.1 hj' with h1 | h1
      · exact h.yes i' q' t' t0' ⟨j', h1, ho'⟩ ht' hne'
      · rw [List.mem_singleton.1 h1, ho] at ho'; cases ho'; exact absurd rfl e
  · by_cases e : i' = i
    · subst e
      exact absurd (hno q t t0 ⟨j, List.mem_append_right _ (List.mem_singleton.2 rfl), ho⟩ ht) hne
    · rw [List.getElem?_set_ne (Ne.symm e)]
      exact h.no i' fun q' t' t0' ⟨j', hj', ho'⟩ ht' => hno q' t' t0' ⟨j', List.mem_append_left _ hj', ho'⟩ ht'
theorem row_same (h : RowOk ts own ps seen rs) (hp : own.Pairwise fun a b => a.1 ≠ b.1) (hj : j ∉ seen) (ho : own[j]? = some (i, q, t)) (ht : ts[i]? = some t0) (he : t = t0) : RowOk ts own ps (seen ++ [j]) rs := by
  have hm := List.mem_of_getElem? ho
  refine ⟨h.len, nodup_push h.nd hj, fun x hx => ?_, fun i' q' t' t0' ⟨j', hj', ho'⟩ ht' hne' => ?_, fun i' hno => ?_⟩
  · rcases List.mem_append.1 hx with h1 | h1
    · exact h.lt x h1
    · rw [List.mem_singleton.1 h1]; exact (List.getElem?_eq_some_iff.1 ho).1
  · rcases List.mem_append.1 hj' with h1 | h1
    · exact h.yes i' q' t' t0' ⟨j', h1, ho'⟩ ht' hne'
    · rw [List.mem_singleton.1 h1, ho] at ho'; cases ho'
      rw [ht] at ht'; cases ht'
      exact absurd he hne'
  · exact h.no i' fun q' t' t0' ⟨j', hj', ho'⟩ ht' => hno q' t' t0' ⟨j', List.mem_append_left _ hj', ho'⟩ ht'
end
def Shares (n : Nat) (c d : Cv) : Prop := ∀ (i q : Nat), c.ps[i]? = some q → ∃ r, d.ps[i]? = some r ∧ (r = q ↔ c.ts[i]? = d.ts[i]?) ∧ (r = q ∨ n ≤ r)
theorem row_done {ts cur : List T64} {own : List OwE} {ps seen rs : List Nat} (h : RowOk ts own ps seen rs) (ho : OwnOk ts own cur) (hall : ∀ j, j < own.length → j ∈ seen) (hl : ts.length = ps.length) {i q : Nat} (hq : ps[i]? = some q) :
    ∃ r t t0, rs[i]? = some r ∧ cur[i]? = some t ∧ ts[i]? = some t0 ∧ ((t = t0 ∧ r = q) ∨ (t ≠ t0 ∧ (i, r, t) ∈ own)) := by
  have hi := (List.getElem?_eq_some_iff.1 hq).1
  obtain ⟨t0, ht0⟩ : ∃ t, ts[i]? = some t := ⟨_, List.getElem?_eq_getElem (by omega)⟩
  obtain ⟨t, ht⟩ : ∃ t, cur[i]? = some t := ⟨_, List.getElem?_eq_getElem (by rw [ho.len]; omega)⟩
  have mem : ∀ {r u}, (i, r, u) ∈ own → ∃ j ∈ seen, own[j]? = some (i, r, u) := fun hm => by
    obtain ⟨j, hj⟩ := List.getElem?_of_mem hm
    exact ⟨j, hall j (List.getElem?_eq_some_iff.1 hj).1, hj⟩
  rcases ho.cur' i t ht with ⟨r, hr⟩ | ⟨h1, h2⟩
  · by_cases e : t = t0
    · refine ⟨q, t, t0, ?_, ht, ht0, .inl ⟨e, rfl⟩⟩
      rw [h.no i (fun q' t' t0' ⟨j', hj', ho'⟩ ht' => ?_), hq]
      have := pw_one ho.one (List.mem_of_getElem? ho') hr rfl
      cases this
      rw [ht0] at ht'; cases ht'; exact e
    · exact ⟨r, t, t0, h.yes i r t t0 (mem hr) ht0 e, ht, ht0, .inr ⟨e, hr⟩⟩
  · rw [ht0] at h2; cases h2
    refine ⟨q, _, _, ?_, ht, ht0, .inl ⟨rfl, rfl⟩⟩
    rw [h.no i (fun q' t' t0' ⟨j', hj', ho'⟩ ht' => absurd rfl (h1 _ (List.mem_of_getElem? ho'))), hq]
end Go.Proofs.Ytbiapeaghbndoaa
/- canvas: maps by whole numbers. -/
namespace Go.Proofs.Ytbiapeaghbndoaa
open Go Go.RowKit
set_option maxRecDepth 10000
theorem nat_dec (x y : Nat) : decide ((x : Int) = (y : Int)) = decide (x = y) := by
  by_cases h : x = y
  · subst h; simp
  · rw [decide_eq_false h, decide_eq_false (by omega)]
theorem keyN : KeyOk Try.prog 3 natK where
  und := ⟨_, rfl, .inr fun x y => congrArg some (nat_dec x y)⟩
  eq x y w := by
    refine Eq.trans ?_ (congrArg (fun b => Result.ok b w) (nat_dec x y))
    kernel_rfl
  chk b x w := by kernel_rfl
  same x := by show Instr.sameBits 10000 (.int .i64 (x : Int)) (.int .i64 (x : Int)) = true; simp [Instr.sameBits]
theorem with_one {t : T64} {c : C4} {px py : Nat} (hx : px < 8) (hy : py < 8) : withR t.l c [⟨(px : Int), (py : Int)⟩] = some (t.set (py * 8 + px) c).l := by
  have h : isP (px : Int) (py : Int) = true := decide_eq_true ⟨by omega, by omega, by omega, by omega⟩
  unfold withR
  rw [if_pos (by simp [Pt.inn, h])]
  show some (putL t.l (px : Int) (py : Int) c) = _
  rw [putL_at hx hy]; rfl
end Go.Proofs.Ytbiapeaghbndoaa
/- canvas: With. Printed by a program of this seat's prover. -/
namespace Go.Proofs.Ytbiapeaghbndoaa
open Go Go.RowKit
set_option maxRecDepth 10000
theorem place_on (wd hg : Nat) (x y : Int) (w : World) (hwd : 1 ≤ wd ∧ wd ≤ 4) (hhg : 1 ≤ hg ∧ hg ≤ 4) (hon : onC wd hg x y = true) : Calls Try.prog 66 #[.agg #[.int .i64 (wd : Int), .int .i64 (hg : Int)], .int .i64 x, .int .i64 y] w fun e w' => e = .returned (.tuple #[.int .i64 ((tix wd x y : Nat) : Int), .agg #[.int .i64 ((x.toNat % 8 : Nat) : Int), .int .i64 ((y.toNat % 8 : Nat) : Int)], .bool true]) ∧ Below w.heap.size w w' := by
 obtain ⟨u, v, rfl, rfl, hu, hv⟩ := onC_nat hon
 exact place_in wd hg u v w hwd hhg hu hv

set_option maxHeartbeats 4000000 in
theorem with_canvas (c : Cv) (ds : List Dt) (ad : Option Addr) (capd : Nat) (w : World) (hc : CvAt w c) (hvd : SliceAt w ad capd 6 Dt.cells ds) (hcapd : capd ≤ Go.maxLen) : Calls Try.prog 17 #[.pointer (some ⟨c.p, 0, none⟩), .slice ad ds.length capd] w fun e w' => ∃ d : Cv, e = .returned (.pointer (some ⟨d.p, 0, none⟩)) ∧ CvNew w w' [c] d ∧ d.wd = c.wd ∧ d.hg = c.hg ∧ d.ts = putDs c.wd c.hg c.ts ds ∧ Shares w.heap.size c d := by
 obtain ⟨p, a, cap, ps, wd, hg, ts⟩ := c
 have hblk : hp w p = some (.cells #[.int .i64 (wd : Int), .int .i64 (hg : Int), .slice a ps.length cap] 111) := hc.blk
 have hrow : SliceAt w a cap 1 ptrc ps := hc.row
 have hcap : cap ≤ Go.maxLen := hc.capok
 unfold Go.maxLen at hcap
 have htl : ∀ (i q : Nat) (t : T64), ps[i]? = some q → ts[i]? = some t → hp w q = some (tilO t) := hc.tl
 have hlen : ps.length = wd * hg := hc.len
 have hlt : ts.length = ps.length := hc.len2
 have hwd : 1 ≤ wd ∧ wd ≤ 4 := hc.wd4
 have hhg : 1 ≤ hg ∧ hg ≤ 4 := hc.hg4
 have h16 := size4 hwd hhg
 have hrl := hrow.1
 obtain ⟨b, of, cs, TY, fz, ha, hcr, hrr⟩ := hrow.open (i := 0) (by omega)
 subst ha
 have hvl := hvd.1
 unfold Go.maxLen at hcapd
 refine calls_of_T (l := [pt p 0, .slice ad ds.length capd]) 124 Try.func17 rfl rfl rfl ?_
 show T _ _ _ [(0, pt p 0), (1, .slice ad ds.length capd)] []
 refine T_seq (T_region ?_)
 refine TL_v (.pointer none) (s_as rfl) rfl rfl ?_
 refine TL_seq ?_
 refine T_seq ?_
 refine T_seq (T_region ?_)
 refine TL_v (pt p 0) (s_mv rfl) rfl rfl ?_
 refine TL_v (.bool false) (fun _ _ j _ => r_as (r_eqlPn po28 (j _ _ rfl) (j _ _ rfl)) (by rfl)) rfl rfl ?_
 refine TL_seq ?_
 refine T_cond_f rfl ?_
 refine T_skip' ?_
 refine p_seq ?_
 refine T_seq (T_draw (V := [(0, pt p 0), (1, pt p 0), (2, pt p 0), (3, .agg #[iN wd, iN hg]), (4, pt p 0), (5, pt p 0), (6, pt p 2), (7, .slice (some ⟨b, of, none⟩) ps.length cap), (8, iN ps.length)]) [0, 1, 3, 7, 0, 16, 48, 112, 240, 496, 1023, 2047, 4095] [[(0, none)], [(18, some 0)], [(19, some 1)], [(20, some 2)], [(0, none)], [(22, some 4)], [(23, some 5)], [(24, some 6)], [(25, some 7)], [(26, some 8)], [(21, some 3), (27, some 9)], [(28, some 10)], [(29, some 11)]] 2560 mixed (by kernel_rfl) ?_)
 refine G_step [0, 1, 2, 3, 4, 5, 6, 7, 8] 9 [] (by kernel_rfl) (allM (all_cons (q_r (pt p 0) rfl rfl rfl (s_mv rfl)) (all_cons (q_r (pt p 0) rfl rfl rfl (s_nc rfl rfl)) (all_cons (q_r (pt p 0) rfl rfl rfl (s_fa fl111_0 sz109 rfl)) (all_cons (q_r (.agg #[iN wd, iN hg]) rfl rfl rfl (fun _ _ j hm => r_loadA ag109 sz109 (j _ _ rfl) (hm.old hblk) rfl rfl)) (all_cons (q_r (pt p 0) rfl rfl rfl (s_mv rfl)) (all_cons (q_r (pt p 0) rfl rfl rfl (s_nc rfl rfl)) (all_cons (q_r (pt p 2) rfl rfl rfl (s_fa fl111_1 sz104 rfl)) (all_cons (q_r (.slice (some ⟨b, of, none⟩) ps.length cap) rfl rfl rfl (fun _ _ j hm => r_load ag104 (j _ _ rfl) (hm.old hblk) rfl)) (all_cons (q_r (iN ps.length) rfl rfl rfl (fun _ _ j _ => r_len sl104 (j _ _ rfl))) all_nil)))))))))) (allM (all_cons ?_ all_nil))
 refine LOb_op (ι := Nat) (fun B => .slice (some ⟨B, 0, none⟩) ps.length ps.length) _ (fun B => [(10, .agg #[iN wd, iN hg, .slice (some ⟨B, 0, none⟩) ps.length ps.length])]) rfl (wv_n rfl) rfl rfl (fun _ _ j hm => o_make (n := ps.length) (cap := ps.length) (z := .pointer none) (f := optc) (u := none) 901 rfl (j _ _ rfl) (j _ _ rfl) sl104 by106 sz106 rfl (by kernel_rfl) rfl optc_len (by omega) (by omega) (by omega) hm) (fun B => by kernel_rfl) ?_
 intro B1
 refine G_step [0, 1, 2, 3, 10] 11 [] (by kernel_rfl) (allM (all_cons (q_r (pt p 0) rfl rfl rfl (s_mv rfl)) (all_cons (q_r (pt p 0) rfl rfl rfl (s_nc rfl rfl)) (all_cons (q_r (pt p 0) rfl rfl rfl (s_fa fl111_0 sz109 rfl)) (all_cons (q_r (.agg #[iN wd, iN hg]) rfl rfl rfl (fun _ _ j hm => r_loadA ag109 sz109 (j _ _ rfl) (hm.old hblk) rfl rfl)) (all_cons (q_r (.agg #[iN wd, iN hg, .slice (some ⟨B1, 0, none⟩) ps.length ps.length]) rfl rfl rfl (fun _ _ j _ => r_build (vs := [(0, .agg #[iN wd, iN hg]), (1, .slice (some ⟨B1, 0, none⟩) ps.length ps.length)]) (by kernel_rfl) (cons2 (pair2 (j _ _ rfl)) (cons2 (pair2 (j _ _ rfl)) rfl)))) all_nil)))))) (allM (all_cons ?_ all_nil))
 refine LOb_new 902 (.cells #[iN wd, iN hg, .slice (some ⟨B1, 0, none⟩) ps.length ps.length] 111) (fun B => pt B 0) (fun B => [(12, pt B 0)]) rfl (wv_n rfl) rfl rfl (fun _ _ j _ => r_box (j _ _ rfl) rfl) (fun B => by kernel_rfl) ?_
 intro B2
 refine G_last [12] [(0, pt p 0), (1, .slice ad ds.length capd), (4, .pointer none), (5, pt B2 0)] (by kernel_rfl) (allM (all_cons (q_r (pt B2 0) rfl rfl rfl (s_as rfl)) all_nil)) (end_old rfl rfl (end_old rfl rfl (end_old rfl rfl (end_new 12 rfl rfl end_nil)))) ?_
 refine T_seq (T_draw (V := [(0, pt B2 0), (1, pt B2 0), (2, pt B2 2), (3, .slice (some ⟨B1, 0, none⟩) ps.length ps.length), (4, pt p 0), (5, pt p 0), (6, pt p 2), (7, .slice (some ⟨b, of, none⟩) ps.length cap)]) [0, 1, 3, 7, 0, 16, 48, 112, 255] [[(5, none)], [(30, some 0)], [(31, some 1)], [(32, some 2)], [(0, none)], [(34, some 4)], [(35, some 5)], [(36, some 6)], [(33, some 3), (37, some 7)]] 256 mixed (by kernel_rfl) ?_)
 refine G_step [0, 1, 2, 3, 4, 5, 6, 7] 8 [] (by kernel_rfl) (allM (all_cons (q_r (pt B2 0) rfl rfl rfl (s_mv rfl)) (all_cons (q_r (pt B2 0) rfl rfl rfl (s_nc rfl rfl)) (all_cons (q_r (pt B2 2) rfl rfl rfl (s_fa fl111_1 sz104 rfl)) (all_cons (q_r (.slice (some ⟨B1, 0, none⟩) ps.length ps.length) rfl rfl rfl (s_ld ag104 rfl 902 rfl rfl)) (all_cons (q_r (pt p 0) rfl rfl rfl (s_mv rfl)) (all_cons (q_r (pt p 0) rfl rfl rfl (s_nc rfl rfl)) (all_cons (q_r (pt p 2) rfl rfl rfl (s_fa fl111_1 sz104 rfl)) (all_cons (q_r (.slice (some ⟨b, of, none⟩) ps.length cap) rfl rfl rfl (fun _ _ j hm => r_load ag104 (j _ _ rfl) (hm.old hblk) rfl)) all_nil))))))))) (allM (all_cons ?_ all_nil))
 refine LOb_op1 (iN ps.length) _ [] rfl (wv_n rfl) rfl rfl (fun _ _ j hm => o_copy (s := 1) (news := (ps.flatMap ptrc)) 901 rfl (j _ _ rfl) (j _ _ rfl) rfl sl104 sz106 (src_of ptrc_len (hrow.keep hm.ext)) ptrc_one1 hm) (by kernel_rfl) ?_
 refine G_last [] [(0, pt p 0), (1, .slice ad ds.length capd), (4, .pointer none), (5, pt B2 0)] (by kernel_rfl) (allM all_nil) (end_old rfl rfl (end_old rfl rfl (end_old rfl rfl (end_old rfl rfl end_nil)))) ?_
 refine T_seq (T_region ?_)
 refine TL_v (pt B2 0) (s_mv rfl) rfl rfl ?_
 refine TL_v (pt B2 0) (s_nc rfl rfl) rfl rfl ?_
 refine TL_v (pt B2 0) (s_fa fl111_0 sz109 rfl) rfl rfl ?_
 refine TL_v (.agg #[iN wd, iN hg]) (s_la ag109 sz109 rfl 902 rfl rfl rfl) rfl rfl ?_
 refine TL_v (.func (.func 66) #[.agg #[iN wd, iN hg]] #[]) (fun _ _ j _ => r_makeFunc (map_arr (cons2 (j _ _ rfl) rfl)) (by simp)) rfl rfl ?_
 refine TL_v (.func (.func 66) #[.agg #[iN wd, iN hg]] #[]) (s_as rfl) rfl rfl ?_
 refine TL_seq ?_
 refine T_seq (T_region ?_)
 refine TL_new 1 ((mapO natK optV [])) (fun B => .map (some B)) (fun _ _ _ _ => r_makeMap) rfl rfl rfl (w_n rfl) ?_
 intro B4
 refine TL_v (.map (some B4)) (s_as rfl) rfl rfl ?_
 refine TL_seq ?_
 refine T_seq ?_
 refine T_seq (T_region ?_)
 refine TL_v (.slice ad ds.length capd) (s_mv rfl) rfl rfl ?_
 refine TL_v (iN ds.length) (fun _ _ j _ => r_len sl25 (j _ _ rfl)) rfl rfl ?_
 refine TL_v (.int .i64 0) (s_mv rfl) rfl rfl ?_
 refine TL_seq ?_
 refine T_block ?_
 refine T_mem (_ :: _) (fun _ hm => hm.tls0 904 OwE.bt) ?_
 refine T_loop (ι := Nat × List OwE) (fun (z : Nat × List OwE) => match z with | (k, own) => k ≤ ds.length ∧ OwnOk ts own (putDs wd hg ts (ds.take k))) (fun (z : Nat × List OwE) => match z with | (k, own) => [(0, pt p 0), (4, .pointer none), (5, pt B2 0), (6, .func (.func 66) #[.agg #[iN wd, iN hg]] #[]), (7, .map (some B4)), (45, .slice ad ds.length capd), (46, iN ds.length), (47, iN k)]) (fun (z : Nat × List OwE) => match z with | (k, own) => [(901, .row (.slice (some ⟨B1, 0, none⟩) ps.length ps.length) 106 1 ps.length (ps.flatMap ptrc)), (902, .blk B2 (.cells #[iN wd, iN hg, .slice (some ⟨B1, 0, none⟩) ps.length ps.length] 111)), (904, .tls OwE.bt own), (1, .blk B4 ((mapO natK optV (own.map OwE.ent))))]) (fun (z : Nat × List OwE) => match z with | (k, own) => ds.length - k) (0, []) ⟨Nat.zero_le _, ⟨List.Pairwise.nil, rfl, (fun e he => nomatch he), fun i t h => .inr ⟨(fun e he => nomatch he), h⟩⟩⟩ (sc4 rfl rfl rfl rfl (sc4 rfl rfl rfl rfl sub_nil)) (sc4 rfl rfl rfl rfl sub_nil) ?_
 rintro ⟨k, own⟩ hp
 obtain ⟨hk, hok⟩ := hp
 show T _ _ _ [(0, pt p 0), (4, .pointer none), (5, pt B2 0), (6, .func (.func 66) #[.agg #[iN wd, iN hg]] #[]), (7, .map (some B4)), (45, .slice ad ds.length capd), (46, iN ds.length), (47, iN k)] [(901, .row (.slice (some ⟨B1, 0, none⟩) ps.length ps.length) 106 1 ps.length (ps.flatMap ptrc)), (902, .blk B2 (.cells #[iN wd, iN hg, .slice (some ⟨B1, 0, none⟩) ps.length ps.length] 111)), (904, .tls OwE.bt own), (1, .blk B4 ((mapO natK optV (own.map OwE.ent))))]
 refine T_seq (T_region ?_)
 refine TL_v (.bool (decide (((k : Nat) : Int) < ((ds.length : Nat) : Int)))) (fun _ _ j _ => r_lss (j _ _ rfl) (j _ _ rfl)) rfl rfl ?_
 refine TL_seq ?_
 refine T_seq ?_
 refine T_cond rfl (fun h1 => ?_) (fun h1 => ?_)
 ·replace h1 := of_decide_eq_true h1
  refine T_skip' ?_
  refine p_seq ?_
  refine T_seq ?_
  refine T_block ?_
  obtain ⟨u, hu⟩ : ∃ x, ds[k]? = some x := ⟨_, List.getElem?_eq_getElem (by omega)⟩
  obtain ⟨b5, of5, cs5, T5, fz5, ha5, hq5, hr5⟩ := hvd.open (i := k) (by omega)
  subst ha5
  refine T_seq (T_region ?_)
  refine TL_v (pt b5 (of5 + k * 6)) (fun _ _ j _ => r_indexAddrS (i := k) sl25 sz51 (j _ _ rfl) (j _ _ rfl) (by omega)) rfl rfl ?_
  refine TL_v (.agg #[.int .i64 u.x, .int .i64 u.y, .int .u8 u.c.r, .int .u8 u.c.g, .int .u8 u.c.b, .int .u8 u.c.a]) (fun _ _ j hm => r_loadRow (f := Dt.cells) (u := u) ag51 sz51 (j _ _ rfl) (hm.old hq5) hr5 hu) rfl rfl ?_
  refine TL_new 2 (.cells #[.int .i64 0, .int .i64 0, z8, z8, z8, z8] 51) (fun B => pt B 0) (fun _ _ _ _ => r_alloc (v := .agg #[.int .i64 0, .int .i64 0, z8, z8, z8, z8]) (by kernel_rfl) rfl) rfl rfl rfl (w_n rfl) ?_
  intro B6
  refine TL_store 2 (.cells #[.int .i64 u.x, .int .i64 u.y, .int .u8 u.c.r, .int .u8 u.c.g, .int .u8 u.c.b, .int .u8 u.c.a] 51) rfl (s_st sz51 rfl rfl 2 rfl rfl rfl rfl rfl) rfl rfl (w_n rfl) ?_
  refine TL_seq ?_
  by_cases hon : onC wd hg u.x u.y = true
  ·skip
   refine T_seq (T_region ?_)
   refine TL_v (.func (.func 66) #[.agg #[iN wd, iN hg]] #[]) (s_mv rfl) rfl rfl ?_
   refine TL_v (pt B6 0) (s_fa fl51_0 sz3 rfl) rfl rfl ?_
   refine TL_v (.int .i64 u.x) (s_ld ag3 rfl 2 rfl rfl) rfl rfl ?_
   refine TL_v (pt B6 1) (s_fa fl51_1 sz3 rfl) rfl rfl ?_
   refine TL_v (.int .i64 u.y) (s_ld ag3 rfl 2 rfl rfl) rfl rfl ?_
   refine TL_call (.tuple #[iN (tix wd u.x u.y), .agg #[iN (u.x.toNat % 8), iN (u.y.toNat % 8)], .bool true]) (fun _ _ j _ => r_call (args := [.int .i64 u.x, .int .i64 u.y]) (enters_of Try.func66 (by kernel_rfl) rfl) (j _ _ rfl) ((cons2 (j _ _ rfl) (cons2 (j _ _ rfl) rfl))) rfl) (fun w _ => place_on wd hg u.x u.y w hwd hhg hon) rfl rfl rfl (w_n rfl) ?_
   refine TL_v (.tuple #[iN (tix wd u.x u.y), .agg #[iN (u.x.toNat % 8), iN (u.y.toNat % 8)], .bool true]) (s_mv rfl) rfl rfl ?_
   refine TL_v (iN (tix wd u.x u.y)) (s_ex rfl rfl) rfl rfl ?_
   refine TL_v (.agg #[iN (u.x.toNat % 8), iN (u.y.toNat % 8)]) (s_ex rfl rfl) rfl rfl ?_
   refine TL_v (.bool true) (s_ex rfl rfl) rfl rfl ?_
   refine TL_new 3 (.cells #[.int .i64 0, .int .i64 0] 47) (fun B => pt B 0) (fun _ _ _ _ => r_alloc (v := .agg #[.int .i64 0, .int .i64 0]) (by kernel_rfl) rfl) rfl rfl rfl (w_n rfl) ?_
   intro B7
   refine TL_v (iN (tix wd u.x u.y)) (s_as rfl) rfl rfl ?_
   refine TL_store 3 (.cells #[iN (u.x.toNat % 8), iN (u.y.toNat % 8)] 47) rfl (s_st sz47 rfl rfl 3 rfl rfl rfl rfl rfl) rfl rfl (w_n rfl) ?_
   refine TL_v (.bool true) (s_as rfl) rfl rfl ?_
   refine TL_seq ?_
   refine T_seq ?_
   refine T_seq (T_region ?_)
   refine TL_v (.bool true) (s_mv rfl) rfl rfl ?_
   refine TL_v (.bool false) (fun _ _ j _ => r_not (b := true) (j _ _ rfl)) rfl rfl ?_
   refine TL_seq ?_
   refine T_cond_f rfl ?_
   refine T_skip' ?_
   refine p_seq ?_
   refine T_seq ?_
   by_cases hno : ∃ e ∈ own, e.1 = tix wd u.x u.y
   ·skip
    obtain ⟨⟨nz, q, t0⟩, hin, hnz⟩ := hno
    dsimp only at hnz
    subst hnz
    have ht0 := own_cur hok hin (by rw [hlt, hlen]; exact tix_lt hon)
    refine T_seq (T_region ?_)
    refine TL_v (.map (some B4)) (s_mv rfl) rfl rfl ?_
    refine TL_v (iN (tix wd u.x u.y)) (s_mv rfl) rfl rfl ?_
    refine TL_v (pt q 0) (fun _ _ j hm => r_as (r_lookup (fk := natK) (fv := optV) (c := (tix wd u.x u.y)) (z := none) (l := (own.map OwE.ent)) keyN mp113 rfl (j _ _ rfl) (j _ _ rfl) (hm.at 1 rfl)) (congrArg optV (own_in hok.one hin))) rfl rfl ?_
    refine TL_v (.bool false) (fun _ _ j _ => r_as (r_eqlPn po106 (j _ _ rfl) (j _ _ rfl)) (by rfl)) rfl rfl ?_
    refine TL_seq ?_
    refine T_cond_f rfl ?_
    refine T_skip' ?_
    refine p_seq ?_
    refine T_draw (V := [(0, .map (some B4)), (1, iN (tix wd u.x u.y)), (2, pt q 0), (3, .map (some B4)), (4, iN (tix wd u.x u.y)), (5, pt q 0), (6, pt q 0), (7, .agg (lst C4.cells t0.l)), (8, pt B6 2), (9, .agg #[.int .u8 u.c.r, .int .u8 u.c.g, .int .u8 u.c.b, .int .u8 u.c.a]), (10, .agg #[iN (u.x.toNat % 8), iN (u.y.toNat % 8)])]) [0, 0, 3, 0, 0, 24, 56, 120, 0, 256, 0, 1024, 4088, 8184, 16376, 16376, 32767, 98303] [[(7, none)], [(10, none)], [(79, some 0), (80, some 1)], [(7, none)], [(10, none)], [(82, some 3), (83, some 4)], [(84, some 5)], [(85, some 6)], [(9, none)], [(87, some 8)], [(11, none)], [(89, some 10)], [(86, some 7), (88, some 9), (90, some 11)], [(91, some 12)], [(78, some 13)], [(78, some 13)], [(81, some 2)], [(94, some 16), (92, some 14)]] 137216 mixed (by kernel_rfl) ?_
    refine G_step [0, 1, 2, 3, 4, 5, 6, 7, 8, 9, 10] 11 [] (by kernel_rfl) (allM (all_cons (q_r (.map (some B4)) rfl rfl rfl (s_mv rfl)) (all_cons (q_r (iN (tix wd u.x u.y)) rfl rfl rfl (s_mv rfl)) (all_cons (q_r (pt q 0) rfl rfl rfl (fun _ _ j hm => r_as (r_lookup (fk := natK) (fv := optV) (c := (tix wd u.x u.y)) (z := none) (l := (own.map OwE.ent)) keyN mp113 rfl (j _ _ rfl) (j _ _ rfl) (hm.at 1 rfl)) (congrArg optV (own_in hok.one hin)))) (all_cons (q_r (.map (some B4)) rfl rfl rfl (s_mv rfl)) (all_cons (q_r (iN (tix wd u.x u.y)) rfl rfl rfl (s_mv rfl)) (all_cons (q_r (pt q 0) rfl rfl rfl (fun _ _ j hm => r_as (r_lookup (fk := natK) (fv := optV) (c := (tix wd u.x u.y)) (z := none) (l := (own.map OwE.ent)) keyN mp113 rfl (j _ _ rfl) (j _ _ rfl) (hm.at 1 rfl)) (congrArg optV (own_in hok.one hin)))) (all_cons (q_r (pt q 0) rfl rfl rfl (s_nc rfl rfl)) (all_cons (q_r (.agg (lst C4.cells t0.l)) rfl rfl rfl (fun _ _ j hm => r_loadW ag39 sz39 (j _ _ rfl) (hm.tl 904 rfl hin) (tsz t0.h))) (all_cons (q_r (pt B6 2) rfl rfl rfl (s_fa fl51_2 sz37 rfl)) (all_cons (q_r (.agg #[.int .u8 u.c.r, .int .u8 u.c.g, .int .u8 u.c.b, .int .u8 u.c.a]) rfl rfl rfl (s_la ag37 sz37 rfl 2 rfl rfl rfl)) (all_cons (q_r (.agg #[iN (u.x.toNat % 8), iN (u.y.toNat % 8)]) rfl rfl rfl (s_la ag47 sz47 rfl 3 rfl rfl rfl)) all_nil)))))))))))) (allM (all_cons ?_ all_nil))
    refine LOb_new 4 (.cells #[iN (u.x.toNat % 8), iN (u.y.toNat % 8)] 47) (fun B => .slice (some ⟨B, 0, none⟩) 1 1) (fun B => []) rfl (wv_n rfl) rfl rfl (fun _ _ j _ => r_buildSlice (vs := [(0, .agg #[iN (u.x.toNat % 8), iN (u.y.toNat % 8)])]) (by kernel_rfl) (cons2 (pair2 (j _ _ rfl)) rfl)) (fun B => by kernel_rfl) ?_
    intro B8
    refine G_step [0, 1, 2, 3, 4, 5, 6, 7, 8, 9] 12 [] (by kernel_rfl) (allM (all_cons (q_r (.map (some B4)) rfl rfl rfl (s_mv rfl)) (all_cons (q_r (iN (tix wd u.x u.y)) rfl rfl rfl (s_mv rfl)) (all_cons (q_r (pt q 0) rfl rfl rfl (fun _ _ j hm => r_as (r_lookup (fk := natK) (fv := optV) (c := (tix wd u.x u.y)) (z := none) (l := (own.map OwE.ent)) keyN mp113 rfl (j _ _ rfl) (j _ _ rfl) (hm.at 1 rfl)) (congrArg optV (own_in hok.one hin)))) (all_cons (q_r (.map (some B4)) rfl rfl rfl (s_mv rfl)) (all_cons (q_r (iN (tix wd u.x u.y)) rfl rfl rfl (s_mv rfl)) (all_cons (q_r (pt q 0) rfl rfl rfl (fun _ _ j hm => r_as (r_lookup (fk := natK) (fv := optV) (c := (tix wd u.x u.y)) (z := none) (l := (own.map OwE.ent)) keyN mp113 rfl (j _ _ rfl) (j _ _ rfl) (hm.at 1 rfl)) (congrArg optV (own_in hok.one hin)))) (all_cons (q_r (pt q 0) rfl rfl rfl (s_nc rfl rfl)) (all_cons (q_r (.agg (lst C4.cells t0.l)) rfl rfl rfl (fun _ _ j hm => r_loadW ag39 sz39 (j _ _ rfl) (hm.tl 904 rfl hin) (tsz t0.h))) (all_cons (q_r (pt B6 2) rfl rfl rfl (s_fa fl51_2 sz37 rfl)) (all_cons (q_r (.agg #[.int .u8 u.c.r, .int .u8 u.c.g, .int .u8 u.c.b, .int .u8 u.c.a]) rfl rfl rfl (s_la ag37 sz37 rfl 2 rfl rfl rfl)) all_nil))))))))))) (allM (all_cons ?_ all_nil))
    refine LOb_call (.tuple #[.agg (lst C4.cells (t0.set (tpos u.x u.y) u.c).l), .int .i64 0]) [(13, .tuple #[.agg (lst C4.cells (t0.set (tpos u.x u.y) u.c).l), .int .i64 0]), (14, .agg (lst C4.cells (t0.set (tpos u.x u.y) u.c).l)), (15, .int .i64 0), (16, pt q 0)] rfl (wv_n rfl) rfl rfl (fun _ _ j _ => r_call (args := [.agg (lst C4.cells t0.l), .agg #[.int .u8 u.c.r, .int .u8 u.c.g, .int .u8 u.c.b, .int .u8 u.c.a], .slice (some ⟨B8, 0, none⟩) 1 1]) (enters_of Try.func67 (by kernel_rfl) rfl) (j _ _ rfl) ((cons2 (j _ _ rfl) (cons2 (j _ _ rfl) (cons2 (j _ _ rfl) rfl)))) rfl) (fun w hm => (with_c t0.l u.c [⟨((u.x.toNat % 8 : Nat) : Int), ((u.y.toNat % 8 : Nat) : Int)⟩] (some ⟨B8, 0, none⟩) 1 w t0.h ⟨by simp, (fun e => by cases e), .inr ⟨_, 0, _, _, _, rfl, (hm.at 4 rfl), row_of_take (fun _ => rfl) rfl⟩⟩ (by decide)).mono fun _ _ h => ⟨h.1.trans (by rw [with_one (by omega) (by omega)]; rfl), h.2⟩) (by kernel_rfl) ?_
    refine G_step [0, 1, 2, 13, 14, 15, 16] 17 [] (by kernel_rfl) (allM (all_cons (q_r (.map (some B4)) rfl rfl rfl (s_mv rfl)) (all_cons (q_r (iN (tix wd u.x u.y)) rfl rfl rfl (s_mv rfl)) (all_cons (q_r (pt q 0) rfl rfl rfl (fun _ _ j hm => r_as (r_lookup (fk := natK) (fv := optV) (c := (tix wd u.x u.y)) (z := none) (l := (own.map OwE.ent)) keyN mp113 rfl (j _ _ rfl) (j _ _ rfl) (hm.at 1 rfl)) (congrArg optV (own_in hok.one hin)))) (all_cons (q_r (.tuple #[.agg (lst C4.cells (t0.set (tpos u.x u.y) u.c).l), .int .i64 0]) rfl rfl rfl (s_mv rfl)) (all_cons (q_r (.agg (lst C4.cells (t0.set (tpos u.x u.y) u.c).l)) rfl rfl rfl (s_ex rfl rfl)) (all_cons (q_r (.int .i64 0) rfl rfl rfl (s_ex rfl rfl)) (all_cons (q_r (pt q 0) rfl rfl rfl (s_nc rfl rfl)) all_nil)))))))) (allM (all_cons ?_ all_nil))
    refine LOb_opS _ [] rfl (wv_n rfl) rfl rfl (fun _ _ j hm => o_storeTl (t := t0) (t1 := (t0.set (tpos u.x u.y) u.c)) 904 rfl hin hok.one (j _ _ rfl) (j _ _ rfl) sz39 hm) (by kernel_rfl) ?_
    refine G_lastQ [15] [(0, pt p 0), (4, .pointer none), (5, pt B2 0), (6, .func (.func 66) #[.agg #[iN wd, iN hg]] #[]), (7, .map (some B4)), (45, .slice (some ⟨b5, of5, none⟩) ds.length capd), (46, iN ds.length), (47, iN k), (48, .bool (decide (((k : Nat) : Int) < ((ds.length : Nat) : Int)))), (49, pt b5 (of5 + k * 6)), (50, .agg #[.int .i64 u.x, .int .i64 u.y, .int .u8 u.c.r, .int .u8 u.c.g, .int .u8 u.c.b, .int .u8 u.c.a]), (9, pt B6 0), (52, .func (.func 66) #[.agg #[iN wd, iN hg]] #[]), (53, pt B6 0), (54, .int .i64 u.x), (55, pt B6 1), (56, .int .i64 u.y), (57, .tuple #[iN (tix wd u.x u.y), .agg #[iN (u.x.toNat % 8), iN (u.y.toNat % 8)], .bool true]), (51, .tuple #[iN (tix wd u.x u.y), .agg #[iN (u.x.toNat % 8), iN (u.y.toNat % 8)], .bool true]), (58, iN (tix wd u.x u.y)), (59, .agg #[iN (u.x.toNat % 8), iN (u.y.toNat % 8)]), (60, .bool true), (11, pt B7 0), (10, iN (tix wd u.x u.y)), (12, .bool true), (61, .bool true), (62, .bool false), (63, .map (some B4)), (64, iN (tix wd u.x u.y)), (65, pt q 0), (66, .bool false), (79, .map (some B4)), (80, iN (tix wd u.x u.y)), (81, pt q 0), (82, .map (some B4)), (83, iN (tix wd u.x u.y)), (84, pt q 0), (85, pt q 0), (86, .agg (lst C4.cells t0.l)), (87, pt B6 2), (88, .agg #[.int .u8 u.c.r, .int .u8 u.c.g, .int .u8 u.c.b, .int .u8 u.c.a]), (89, .agg #[iN (u.x.toNat % 8), iN (u.y.toNat % 8)]), (90, .slice (some ⟨B8, 0, none⟩) 1 1), (91, .tuple #[.agg (lst C4.cells (t0.set (tpos u.x u.y) u.c).l), .int .i64 0]), (78, .tuple #[.agg (lst C4.cells (t0.set (tpos u.x u.y) u.c).l), .int .i64 0]), (92, .agg (lst C4.cells (t0.set (tpos u.x u.y) u.c).l)), (94, pt q 0)] (by kernel_rfl) (allM (all_cons (q_r (.int .i64 0) rfl rfl rfl (s_ex rfl rfl)) all_nil)) (end_old rfl rfl (end_old rfl rfl (end_old rfl rfl (end_old rfl rfl (end_old rfl rfl (end_old rfl rfl (end_old rfl rfl (end_old rfl rfl (end_old rfl rfl (end_old rfl rfl (end_old rfl rfl (end_old rfl rfl (end_old rfl rfl (end_old rfl rfl (end_old rfl rfl (end_old rfl rfl (end_old rfl rfl (end_old rfl rfl (end_old rfl rfl (end_old rfl rfl (end_old rfl rfl (end_old rfl rfl (end_old rfl rfl (end_old rfl rfl (end_old rfl rfl (end_old rfl rfl (end_old rfl rfl (end_old rfl rfl (end_old rfl rfl (end_old rfl rfl (end_old rfl rfl (end_new 0 rfl rfl (end_new 1 rfl rfl (end_new 2 rfl rfl (end_new 3 rfl rfl (end_new 4 rfl rfl (end_new 5 rfl rfl (end_new 6 rfl rfl (end_new 7 rfl rfl (end_new 8 rfl rfl (end_new 9 rfl rfl (end_new 10 rfl rfl (end_new 11 rfl rfl (end_new 12 rfl rfl (end_new 13 rfl rfl (end_new 14 rfl rfl (end_new 16 rfl rfl end_nil))))))))))))))))))))))))))))))))))))))))))))))) ?_
    refine p_blk_n ?_
    refine p_seq ?_
    refine T_region ?_
    refine TL_v (iN (k + 1)) (s_op r_add rfl rfl (iw (by omega) (by omega) (by omega))) rfl rfl ?_
    refine TL_v (iN (k + 1)) (s_mv rfl) rfl rfl ?_
    refine TL_nil ?_
    exact p_at (k + 1, updO own (tix wd u.x u.y) (t0.set (tpos u.x u.y) u.c)) ⟨⟨by omega, by rw [putDs_step hu]; exact own_step hok hon (by rw [hlt, hlen]) hin⟩, by dsimp only; omega⟩ (sc4 rfl rfl rfl rfl (sc4 rfl rfl rfl rfl sub_nil)) (sc rfl (sc rfl (sc rfl (sub_cons (by rw [upd_ent]; rfl) sub_nil))))
   ·skip
    refine T_seq (T_region ?_)
    refine TL_v (.map (some B4)) (s_mv rfl) rfl rfl ?_
    refine TL_v (iN (tix wd u.x u.y)) (s_mv rfl) rfl rfl ?_
    refine TL_v (.pointer none) (fun _ _ j hm => r_as (r_lookup (fk := natK) (fv := optV) (c := (tix wd u.x u.y)) (z := none) (l := (own.map OwE.ent)) keyN mp113 rfl (j _ _ rfl) (j _ _ rfl) (hm.at 1 rfl)) (congrArg optV (own_out hno))) rfl rfl ?_
    refine TL_v (.bool true) (fun _ _ j _ => r_as (r_eqlPn po106 (j _ _ rfl) (j _ _ rfl)) (by rfl)) rfl rfl ?_
    refine TL_seq ?_
    refine T_cond_t rfl ?_
    have htx : tix wd u.x u.y < ps.length := by rw [hlen]; exact tix_lt hon
    obtain ⟨q0, hqq0⟩ : ∃ x, ps[tix wd u.x u.y]? = some x := ⟨_, List.getElem?_eq_getElem (by omega)⟩
    obtain ⟨t0, hqt0⟩ : ∃ x, ts[tix wd u.x u.y]? = some x := ⟨_, List.getElem?_eq_getElem (by omega)⟩
    have hbq0 := htl _ _ _ hqq0 hqt0
    refine T_seq (T_region ?_)
    refine TL_v (pt p 0) (s_mv rfl) rfl rfl ?_
    refine TL_v (pt p 0) (s_nc rfl rfl) rfl rfl ?_
    refine TL_v (pt p 2) (s_fa fl111_1 sz104 rfl) rfl rfl ?_
    refine TL_v (.slice (some ⟨b, of, none⟩) ps.length cap) (fun _ _ j hm => r_load ag104 (j _ _ rfl) (hm.old hblk) rfl) rfl rfl ?_
    refine TL_v (iN (tix wd u.x u.y)) (s_mv rfl) rfl rfl ?_
    refine TL_v (pt b (of + (tix wd u.x u.y) * 1)) (fun _ _ j _ => r_indexAddrS (i := tix wd u.x u.y) sl104 sz106 (j _ _ rfl) (j _ _ rfl) (by omega)) rfl rfl ?_
    refine TL_v (pt q0 0) (fun _ _ j hm => r_loadRow1 (f := ptrc) (u := q0) ag106 (j _ _ rfl) (hm.old hcr) hrr hqq0 rfl) rfl rfl ?_
    refine TL_v (pt q0 0) (s_nc rfl rfl) rfl rfl ?_
    refine TL_v (.agg (lst C4.cells t0.l)) (fun _ _ j hm => r_loadW ag39 sz39 (j _ _ rfl) (hm.old hbq0) (tsz t0.h)) rfl rfl ?_
    refine TL_new 5 (.cells (lst C4.cells zero64) 39) (fun B => pt B 0) (fun _ _ _ _ => r_alloc (v := .agg (lst C4.cells zero64)) (by kernel_rfl) rfl) rfl rfl rfl (w_n rfl) ?_
    intro B9
    refine TL_store 5 (.cells (lst C4.cells t0.l) 39) rfl (fun _ _ j hm => r_storeAll sz39 (j _ _ rfl) (j _ _ rfl) (hm.at 5 rfl) (tsz zero64_len) (tsz t0.h) (lst_one C4.cells_all _)) rfl rfl (w_n rfl) ?_
    refine TL_seq ?_
    refine T_sub [(0, pt p 0), (4, .pointer none), (5, pt B2 0), (6, .func (.func 66) #[.agg #[iN wd, iN hg]] #[]), (7, .map (some B4)), (45, .slice (some ⟨b5, of5, none⟩) ds.length capd), (46, iN ds.length), (47, iN k), (48, .bool (decide (((k : Nat) : Int) < ((ds.length : Nat) : Int)))), (49, pt b5 (of5 + k * 6)), (50, .agg #[.int .i64 u.x, .int .i64 u.y, .int .u8 u.c.r, .int .u8 u.c.g, .int .u8 u.c.b, .int .u8 u.c.a]), (9, pt B6 0), (52, .func (.func 66) #[.agg #[iN wd, iN hg]] #[]), (53, pt B6 0), (54, .int .i64 u.x), (55, pt B6 1), (56, .int .i64 u.y), (57, .tuple #[iN (tix wd u.x u.y), .agg #[iN (u.x.toNat % 8), iN (u.y.toNat % 8)], .bool true]), (51, .tuple #[iN (tix wd u.x u.y), .agg #[iN (u.x.toNat % 8), iN (u.y.toNat % 8)], .bool true]), (58, iN (tix wd u.x u.y)), (59, .agg #[iN (u.x.toNat % 8), iN (u.y.toNat % 8)]), (60, .bool true), (11, pt B7 0), (10, iN (tix wd u.x u.y)), (12, .bool true), (61, .bool true), (62, .bool false), (63, .map (some B4)), (64, iN (tix wd u.x u.y)), (65, .pointer none), (66, .bool true), (67, pt p 0), (68, pt p 0), (69, pt p 2), (70, .slice (some ⟨b, of, none⟩) ps.length cap), (71, iN (tix wd u.x u.y)), (72, pt b (of + (tix wd u.x u.y) * 1)), (73, pt q0 0), (74, pt q0 0), (75, .agg (lst C4.cells t0.l)), (13, pt B9 0)] [(901, .row (.slice (some ⟨B1, 0, none⟩) ps.length ps.length) 106 1 ps.length (ps.flatMap ptrc)), (902, .blk B2 (.cells #[iN wd, iN hg, .slice (some ⟨B1, 0, none⟩) ps.length ps.length] 111)), (904, .tls OwE.bt own), (1, .blk B4 ((mapO natK optV (own.map OwE.ent)))), (2, .blk B6 (.cells #[.int .i64 u.x, .int .i64 u.y, .int .u8 u.c.r, .int .u8 u.c.g, .int .u8 u.c.b, .int .u8 u.c.a] 51)), (3, .blk B7 (.cells #[iN (u.x.toNat % 8), iN (u.y.toNat % 8)] 47)), (5, .blk B9 (.cells (lst C4.cells t0.l) 39))] (sc4 rfl rfl rfl rfl (sc4 rfl rfl rfl rfl (sc4 rfl rfl rfl rfl (sc4 rfl rfl rfl rfl (sc4 rfl rfl rfl rfl (sc4 rfl rfl rfl rfl (sc4 rfl rfl rfl rfl (sc4 rfl rfl rfl rfl (sc4 rfl rfl rfl rfl (sc4 rfl rfl rfl rfl (sc rfl sub_nil))))))))))) (sc4 rfl rfl rfl rfl (sc rfl (sc rfl (sc rfl sub_nil)))) ?_
    refine T_region ?_
    refine TL_v (.map (some B4)) (s_mv rfl) rfl rfl ?_
    refine TL_v (iN (tix wd u.x u.y)) (s_mv rfl) rfl rfl ?_
    refine TL_store 1 ((mapO natK optV ((own ++ [((tix wd u.x u.y), B9, t0)]).map OwE.ent))) rfl (fun _ _ j hm => (by rw [← put_out t0 hno]; exact r_mapUpdate (fk := natK) (fv := optV) (c := (tix wd u.x u.y)) (z := none) (u := (some B9)) (l := (own.map OwE.ent)) keyN mp113 (j _ _ rfl) (j _ _ rfl) (j _ _ rfl) (hm.at 1 rfl))) rfl rfl (w_n rfl) ?_
    refine TL_nil ?_
    refine p_seq ?_
    have hok2 := own_push (q := B9) hok hno hqt0
    have hin : (tix wd u.x u.y, B9, t0) ∈ own ++ [(tix wd u.x u.y, B9, t0)] := List.mem_append_right _ (List.mem_singleton.2 rfl)
    refine T_mem (_ :: _) (fun _ hm => hm.tlPush 904 5 (tix wd u.x u.y, B9, t0) rfl rfl rfl rfl rfl) ?_
    refine T_draw (V := [(0, .map (some B4)), (1, iN (tix wd u.x u.y)), (2, pt B9 0), (3, .map (some B4)), (4, iN (tix wd u.x u.y)), (5, pt B9 0), (6, pt B9 0), (7, .agg (lst C4.cells t0.l)), (8, pt B6 2), (9, .agg #[.int .u8 u.c.r, .int .u8 u.c.g, .int .u8 u.c.b, .int .u8 u.c.a]), (10, .agg #[iN (u.x.toNat % 8), iN (u.y.toNat % 8)])]) [0, 0, 3, 0, 0, 24, 56, 120, 0, 256, 0, 1024, 4088, 8184, 16376, 16376, 32767, 98303] [[(7, none)], [(10, none)], [(79, some 0), (80, some 1)], [(7, none)], [(10, none)], [(82, some 3), (83, some 4)], [(84, some 5)], [(85, some 6)], [(9, none)], [(87, some 8)], [(11, none)], [(89, some 10)], [(86, some 7), (88, some 9), (90, some 11)], [(91, some 12)], [(78, some 13)], [(78, some 13)], [(81, some 2)], [(94, some 16), (92, some 14)]] 137216 mixed (by kernel_rfl) ?_
    refine G_step [0, 1, 2, 3, 4, 5, 6, 7, 8, 9, 10] 11 [] (by kernel_rfl) (allM (all_cons (q_r (.map (some B4)) rfl rfl rfl (s_mv rfl)) (all_cons (q_r (iN (tix wd u.x u.y)) rfl rfl rfl (s_mv rfl)) (all_cons (q_r (pt B9 0) rfl rfl rfl (fun _ _ j hm => r_as (r_lookup (fk := natK) (fv := optV) (c := (tix wd u.x u.y)) (z := none) (l := ((own ++ [((tix wd u.x u.y), B9, t0)]).map OwE.ent)) keyN mp113 rfl (j _ _ rfl) (j _ _ rfl) (hm.at 1 rfl)) (congrArg optV (own_in hok2.one hin)))) (all_cons (q_r (.map (some B4)) rfl rfl rfl (s_mv rfl)) (all_cons (q_r (iN (tix wd u.x u.y)) rfl rfl rfl (s_mv rfl)) (all_cons (q_r (pt B9 0) rfl rfl rfl (fun _ _ j hm => r_as (r_lookup (fk := natK) (fv := optV) (c := (tix wd u.x u.y)) (z := none) (l := ((own ++ [((tix wd u.x u.y), B9, t0)]).map OwE.ent)) keyN mp113 rfl (j _ _ rfl) (j _ _ rfl) (hm.at 1 rfl)) (congrArg optV (own_in hok2.one hin)))) (all_cons (q_r (pt B9 0) rfl rfl rfl (s_nc rfl rfl)) (all_cons (q_r (.agg (lst C4.cells t0.l)) rfl rfl rfl (fun _ _ j hm => r_loadW ag39 sz39 (j _ _ rfl) (hm.tl 904 rfl hin) (tsz t0.h))) (all_cons (q_r (pt B6 2) rfl rfl rfl (s_fa fl51_2 sz37 rfl)) (all_cons (q_r (.agg #[.int .u8 u.c.r, .int .u8 u.c.g, .int .u8 u.c.b, .int .u8 u.c.a]) rfl rfl rfl (s_la ag37 sz37 rfl 2 rfl rfl rfl)) (all_cons (q_r (.agg #[iN (u.x.toNat % 8), iN (u.y.toNat % 8)]) rfl rfl rfl (s_la ag47 sz47 rfl 3 rfl rfl rfl)) all_nil)))))))))))) (allM (all_cons ?_ all_nil))
    refine LOb_new 6 (.cells #[iN (u.x.toNat % 8), iN (u.y.toNat % 8)] 47) (fun B => .slice (some ⟨B, 0, none⟩) 1 1) (fun B => []) rfl (wv_n rfl) rfl rfl (fun _ _ j _ => r_buildSlice (vs := [(0, .agg #[iN (u.x.toNat % 8), iN (u.y.toNat % 8)])]) (by kernel_rfl) (cons2 (pair2 (j _ _ rfl)) rfl)) (fun B => by kernel_rfl) ?_
    intro B10
    refine G_step [0, 1, 2, 3, 4, 5, 6, 7, 8, 9] 12 [] (by kernel_rfl) (allM (all_cons (q_r (.map (some B4)) rfl rfl rfl (s_mv rfl)) (all_cons (q_r (iN (tix wd u.x u.y)) rfl rfl rfl (s_mv rfl)) (all_cons (q_r (pt B9 0) rfl rfl rfl (fun _ _ j hm => r_as (r_lookup (fk := natK) (fv := optV) (c := (tix wd u.x u.y)) (z := none) (l := ((own ++ [((tix wd u.x u.y), B9, t0)]).map OwE.ent)) keyN mp113 rfl (j _ _ rfl) (j _ _ rfl) (hm.at 1 rfl)) (congrArg optV (own_in hok2.one hin)))) (all_cons (q_r (.map (some B4)) rfl rfl rfl (s_mv rfl)) (all_cons (q_r (iN (tix wd u.x u.y)) rfl rfl rfl (s_mv rfl)) (all_cons (q_r (pt B9 0) rfl rfl rfl (fun _ _ j hm => r_as (r_lookup (fk := natK) (fv := optV) (c := (tix wd u.x u.y)) (z := none) (l := ((own ++ [((tix wd u.x u.y), B9, t0)]).map OwE.ent)) keyN mp113 rfl (j _ _ rfl) (j _ _ rfl) (hm.at 1 rfl)) (congrArg optV (own_in hok2.one hin)))) (all_cons (q_r (pt B9 0) rfl rfl rfl (s_nc rfl rfl)) (all_cons (q_r (.agg (lst C4.cells t0.l)) rfl rfl rfl (fun _ _ j hm => r_loadW ag39 sz39 (j _ _ rfl) (hm.tl 904 rfl hin) (tsz t0.h))) (all_cons (q_r (pt B6 2) rfl rfl rfl (s_fa fl51_2 sz37 rfl)) (all_cons (q_r (.agg #[.int .u8 u.c.r, .int .u8 u.c.g, .int .u8 u.c.b, .int .u8 u.c.a]) rfl rfl rfl (s_la ag37 sz37 rfl 2 rfl rfl rfl)) all_nil))))))))))) (allM (all_cons ?_ all_nil))
    refine LOb_call (.tuple #[.agg (lst C4.cells (t0.set (tpos u.x u.y) u.c).l), .int .i64 0]) [(13, .tuple #[.agg (lst C4.cells (t0.set (tpos u.x u.y) u.c).l), .int .i64 0]), (14, .agg (lst C4.cells (t0.set (tpos u.x u.y) u.c).l)), (15, .int .i64 0), (16, pt B9 0)] rfl (wv_n rfl) rfl rfl (fun _ _ j _ => r_call (args := [.agg (lst C4.cells t0.l), .agg #[.int .u8 u.c.r, .int .u8 u.c.g, .int .u8 u.c.b, .int .u8 u.c.a], .slice (some ⟨B10, 0, none⟩) 1 1]) (enters_of Try.func67 (by kernel_rfl) rfl) (j _ _ rfl) ((cons2 (j _ _ rfl) (cons2 (j _ _ rfl) (cons2 (j _ _ rfl) rfl)))) rfl) (fun w hm => (with_c t0.l u.c [⟨((u.x.toNat % 8 : Nat) : Int), ((u.y.toNat % 8 : Nat) : Int)⟩] (some ⟨B10, 0, none⟩) 1 w t0.h ⟨by simp, (fun e => by cases e), .inr ⟨_, 0, _, _, _, rfl, (hm.at 6 rfl), row_of_take (fun _ => rfl) rfl⟩⟩ (by decide)).mono fun _ _ h => ⟨h.1.trans (by rw [with_one (by omega) (by omega)]; rfl), h.2⟩) (by kernel_rfl) ?_
    refine G_step [0, 1, 2, 13, 14, 15, 16] 17 [] (by kernel_rfl) (allM (all_cons (q_r (.map (some B4)) rfl rfl rfl (s_mv rfl)) (all_cons (q_r (iN (tix wd u.x u.y)) rfl rfl rfl (s_mv rfl)) (all_cons (q_r (pt B9 0) rfl rfl rfl (fun _ _ j hm => r_as (r_lookup (fk := natK) (fv := optV) (c := (tix wd u.x u.y)) (z := none) (l := ((own ++ [((tix wd u.x u.y), B9, t0)]).map OwE.ent)) keyN mp113 rfl (j _ _ rfl) (j _ _ rfl) (hm.at 1 rfl)) (congrArg optV (own_in hok2.one hin)))) (all_cons (q_r (.tuple #[.agg (lst C4.cells (t0.set (tpos u.x u.y) u.c).l), .int .i64 0]) rfl rfl rfl (s_mv rfl)) (all_cons (q_r (.agg (lst C4.cells (t0.set (tpos u.x u.y) u.c).l)) rfl rfl rfl (s_ex rfl rfl)) (all_cons (q_r (.int .i64 0) rfl rfl rfl (s_ex rfl rfl)) (all_cons (q_r (pt B9 0) rfl rfl rfl (s_nc rfl rfl)) all_nil)))))))) (allM (all_cons ?_ all_nil))
    refine LOb_opS _ [] rfl (wv_n rfl) rfl rfl (fun _ _ j hm => o_storeTl (t := t0) (t1 := (t0.set (tpos u.x u.y) u.c)) 904 rfl hin hok2.one (j _ _ rfl) (j _ _ rfl) sz39 hm) (by kernel_rfl) ?_
    refine G_lastQ [15] [(0, pt p 0), (4, .pointer none), (5, pt B2 0), (6, .func (.func 66) #[.agg #[iN wd, iN hg]] #[]), (7, .map (some B4)), (45, .slice (some ⟨b5, of5, none⟩) ds.length capd), (46, iN ds.length), (47, iN k), (48, .bool (decide (((k : Nat) : Int) < ((ds.length : Nat) : Int)))), (49, pt b5 (of5 + k * 6)), (50, .agg #[.int .i64 u.x, .int .i64 u.y, .int .u8 u.c.r, .int .u8 u.c.g, .int .u8 u.c.b, .int .u8 u.c.a]), (9, pt B6 0), (52, .func (.func 66) #[.agg #[iN wd, iN hg]] #[]), (53, pt B6 0), (54, .int .i64 u.x), (55, pt B6 1), (56, .int .i64 u.y), (57, .tuple #[iN (tix wd u.x u.y), .agg #[iN (u.x.toNat % 8), iN (u.y.toNat % 8)], .bool true]), (51, .tuple #[iN (tix wd u.x u.y), .agg #[iN (u.x.toNat % 8), iN (u.y.toNat % 8)], .bool true]), (58, iN (tix wd u.x u.y)), (59, .agg #[iN (u.x.toNat % 8), iN (u.y.toNat % 8)]), (60, .bool true), (11, pt B7 0), (10, iN (tix wd u.x u.y)), (12, .bool true), (61, .bool true), (62, .bool false), (63, .map (some B4)), (64, iN (tix wd u.x u.y)), (65, .pointer none), (66, .bool true), (67, pt p 0), (68, pt p 0), (69, pt p 2), (70, .slice (some ⟨b, of, none⟩) ps.length cap), (71, iN (tix wd u.x u.y)), (72, pt b (of + (tix wd u.x u.y) * 1)), (73, pt q0 0), (74, pt q0 0), (75, .agg (lst C4.cells t0.l)), (13, pt B9 0), (76, .map (some B4)), (77, iN (tix wd u.x u.y)), (79, .map (some B4)), (80, iN (tix wd u.x u.y)), (81, pt B9 0), (82, .map (some B4)), (83, iN (tix wd u.x u.y)), (84, pt B9 0), (85, pt B9 0), (86, .agg (lst C4.cells t0.l)), (87, pt B6 2), (88, .agg #[.int .u8 u.c.r, .int .u8 u.c.g, .int .u8 u.c.b, .int .u8 u.c.a]), (89, .agg #[iN (u.x.toNat % 8), iN (u.y.toNat % 8)]), (90, .slice (some ⟨B10, 0, none⟩) 1 1), (91, .tuple #[.agg (lst C4.cells (t0.set (tpos u.x u.y) u.c).l), .int .i64 0]), (78, .tuple #[.agg (lst C4.cells (t0.set (tpos u.x u.y) u.c).l), .int .i64 0]), (92, .agg (lst C4.cells (t0.set (tpos u.x u.y) u.c).l)), (94, pt B9 0)] (by kernel_rfl) (allM (all_cons (q_r (.int .i64 0) rfl rfl rfl (s_ex rfl rfl)) all_nil)) (end_old rfl rfl (end_old rfl rfl (end_old rfl rfl (end_old rfl rfl (end_old rfl rfl (end_old rfl rfl (end_old rfl rfl (end_old rfl rfl (end_old rfl rfl (end_old rfl rfl (end_old rfl rfl (end_old rfl rfl (end_old rfl rfl (end_old rfl rfl (end_old rfl rfl (end_old rfl rfl (end_old rfl rfl (end_old rfl rfl (end_old rfl rfl (end_old rfl rfl (end_old rfl rfl (end_old rfl rfl (end_old rfl rfl (end_old rfl rfl (end_old rfl rfl (end_old rfl rfl (end_old rfl rfl (end_old rfl rfl (end_old rfl rfl (end_old rfl rfl (end_old rfl rfl (end_old rfl rfl (end_old rfl rfl (end_old rfl rfl (end_old rfl rfl (end_old rfl rfl (end_old rfl rfl (end_old rfl rfl (end_old rfl rfl (end_old rfl rfl (end_old rfl rfl (end_old rfl rfl (end_old rfl rfl (end_new 0 rfl rfl (end_new 1 rfl rfl (end_new 2 rfl rfl (end_new 3 rfl rfl (end_new 4 rfl rfl (end_new 5 rfl rfl (end_new 6 rfl rfl (end_new 7 rfl rfl (end_new 8 rfl rfl (end_new 9 rfl rfl (end_new 10 rfl rfl (end_new 11 rfl rfl (end_new 12 rfl rfl (end_new 13 rfl rfl (end_new 14 rfl rfl (end_new 16 rfl rfl end_nil))))))))))))))))))))))))))))))))))))))))))))))))))))))))))) ?_
    refine p_blk_n ?_
    refine p_seq ?_
    refine T_region ?_
    refine TL_v (iN (k + 1)) (s_op r_add rfl rfl (iw (by omega) (by omega) (by omega))) rfl rfl ?_
    refine TL_v (iN (k + 1)) (s_mv rfl) rfl rfl ?_
    refine TL_nil ?_
    exact p_at (k + 1, updO (own ++ [(tix wd u.x u.y, B9, t0)]) (tix wd u.x u.y) (t0.set (tpos u.x u.y) u.c)) ⟨⟨by omega, by rw [putDs_step hu]; exact own_step hok2 hon (by rw [hlt, hlen]) hin⟩, by dsimp only; omega⟩ (sc4 rfl rfl rfl rfl (sc4 rfl rfl rfl rfl sub_nil)) (sc rfl (sc rfl (sc rfl (sub_cons (by rw [upd_ent]; rfl) sub_nil))))
  ·skip
   refine T_seq (T_region ?_)
   refine TL_v (.func (.func 66) #[.agg #[iN wd, iN hg]] #[]) (s_mv rfl) rfl rfl ?_
   refine TL_v (pt B6 0) (s_fa fl51_0 sz3 rfl) rfl rfl ?_
   refine TL_v (.int .i64 u.x) (s_ld ag3 rfl 2 rfl rfl) rfl rfl ?_
   refine TL_v (pt B6 1) (s_fa fl51_1 sz3 rfl) rfl rfl ?_
   refine TL_v (.int .i64 u.y) (s_ld ag3 rfl 2 rfl rfl) rfl rfl ?_
   refine TL_call (.tuple #[.int .i64 0, .agg #[.int .i64 0, .int .i64 0], .bool false]) (fun _ _ j _ => r_call (args := [.int .i64 u.x, .int .i64 u.y]) (enters_of Try.func66 (by kernel_rfl) rfl) (j _ _ rfl) ((cons2 (j _ _ rfl) (cons2 (j _ _ rfl) rfl))) rfl) (fun w _ => place_out wd hg u.x u.y w hwd hhg hon) rfl rfl rfl (w_n rfl) ?_
   refine TL_v (.tuple #[.int .i64 0, .agg #[.int .i64 0, .int .i64 0], .bool false]) (s_mv rfl) rfl rfl ?_
   refine TL_v (.int .i64 0) (s_ex rfl rfl) rfl rfl ?_
   refine TL_v (.agg #[.int .i64 0, .int .i64 0]) (s_ex rfl rfl) rfl rfl ?_
   refine TL_v (.bool false) (s_ex rfl rfl) rfl rfl ?_
   refine TL_new 7 (.cells #[.int .i64 0, .int .i64 0] 47) (fun B => pt B 0) (fun _ _ _ _ => r_alloc (v := .agg #[.int .i64 0, .int .i64 0]) (by kernel_rfl) rfl) rfl rfl rfl (w_n rfl) ?_
   intro B11
   refine TL_v (.int .i64 0) (s_as rfl) rfl rfl ?_
   refine TL_store 7 (.cells #[.int .i64 0, .int .i64 0] 47) rfl (s_st sz47 rfl rfl 7 rfl rfl rfl rfl rfl) rfl rfl (w_n rfl) ?_
   refine TL_v (.bool false) (s_as rfl) rfl rfl ?_
   refine TL_seq ?_
   refine T_seq ?_
   refine T_seq (T_region ?_)
   refine TL_v (.bool false) (s_mv rfl) rfl rfl ?_
   refine TL_v (.bool true) (fun _ _ j _ => r_not (b := false) (j _ _ rfl)) rfl rfl ?_
   refine TL_seq ?_
   refine T_cond_t rfl ?_
   refine T_exit' ?_
   refine p_then_x ?_
   refine p_blk_x ?_
   refine p_seq ?_
   refine T_region ?_
   refine TL_v (iN (k + 1)) (s_op r_add rfl rfl (iw (by omega) (by omega) (by omega))) rfl rfl ?_
   refine TL_v (iN (k + 1)) (s_mv rfl) rfl rfl ?_
   refine TL_nil ?_
   exact p_at (k + 1, own) ⟨⟨by omega, by rw [putDs_step hu, putD_no hon]; exact hok⟩, by dsimp only; omega⟩ (sc4 rfl rfl rfl rfl (sc4 rfl rfl rfl rfl sub_nil)) (sc4 rfl rfl rfl rfl sub_nil)
 ·replace h1 := of_decide_eq_false h1
  refine T_exit' ?_
  refine p_then_x ?_
  refine p_then_x ?_
  refine p_blk_x ?_
  refine p_seq ?_
  refine T_seq ?_
  refine T_seq (T_region ?_)
  refine TL_v (.map (some B4)) (s_mv rfl) rfl rfl ?_
  refine TL_new 8 ((itO B4 (((own.map OwE.ent)).length) [])) (fun B => pt B 0) (fun _ _ j hm => r_rangeMap (fk := natK) (fv := optV) (l := (own.map OwE.ent)) mp113 (j _ _ rfl) (hm.at 1 rfl)) rfl rfl rfl (w_n rfl) ?_
  intro B12
  refine TL_seq ?_
  refine T_block ?_
  refine T_loop (ι := List Nat × List Nat) (fun (z : List Nat × List Nat) => match z with | (seen, rs) => RowOk ts own ps seen rs) (fun (z : List Nat × List Nat) => match z with | (seen, rs) => [(0, pt p 0), (4, .pointer none), (5, pt B2 0), (97, pt B12 0)]) (fun (z : List Nat × List Nat) => match z with | (seen, rs) => [(902, .blk B2 (.cells #[iN wd, iN hg, .slice (some ⟨B1, 0, none⟩) ps.length ps.length] 111)), (904, .tls OwE.bt own), (1, .blk B4 ((mapO natK optV (own.map OwE.ent)))), (8, .blk B12 ((itO B4 ((own.map OwE.ent).length) seen))), (901, .row (.slice (some ⟨B1, 0, none⟩) ps.length ps.length) 106 1 ps.length (rs.flatMap ptrc))]) (fun (z : List Nat × List Nat) => match z with | (seen, rs) => own.length - seen.length) ([], ps) (row_zero _ _ _) (sc4 rfl rfl rfl rfl sub_nil) (sc4 rfl rfl rfl rfl (sc rfl sub_nil)) ?_
  rintro ⟨seen, rs⟩ hp
  have hrk := hp
  show T _ _ _ [(0, pt p 0), (4, .pointer none), (5, pt B2 0), (97, pt B12 0)] [(902, .blk B2 (.cells #[iN wd, iN hg, .slice (some ⟨B1, 0, none⟩) ps.length ps.length] 111)), (904, .tls OwE.bt own), (1, .blk B4 ((mapO natK optV (own.map OwE.ent)))), (8, .blk B12 ((itO B4 ((own.map OwE.ent).length) seen))), (901, .row (.slice (some ⟨B1, 0, none⟩) ps.length ps.length) 106 1 ps.length (rs.flatMap ptrc))]
  refine T_seq (T_region ?_)
  refine TL_next (fk := natK) (fv := optV) (l := (own.map OwE.ent)) (seen := seen) 8 1 rfl rfl rfl rfl (w_n rfl) ?_ ?_
  ·intro hall
   refine TL_v (.bool false) (s_ex rfl rfl) rfl rfl ?_
   refine TL_seq ?_
   refine T_seq ?_
   refine T_cond_f rfl ?_
   refine T_exit' ?_
   refine p_then_x ?_
   refine p_then_x ?_
   refine p_blk_x ?_
   refine p_seq ?_
   refine T_seq (T_region ?_)
   refine TL_v (pt B2 0) (s_mv rfl) rfl rfl ?_
   refine TL_v (pt B2 0) (s_as rfl) rfl rfl ?_
   refine TL_seq ?_
   refine T_ret' ?_
   refine ret_of rfl (pt B2 0) (fun tmps w hk hm => res1 rfl (res_tmp (hk 4 _ rfl))) (fun w hm => ?_)
   have hk : k = ds.length := by omega
   subst hk
   rw [List.take_length] at hok
   have hall2 : ∀ j, j < own.length → j ∈ seen := fun j hj => hall j (by rw [List.length_map]; exact hj)
   have hdone := fun {i q : Nat} (hq : ps[i]? = some q) => row_done hrk hok hall2 hlt hq
   have hrow := hm.row 901 rfl
   have hnew := fun (e : OwE) (he : e ∈ own) => ((hm.own 904 _ rfl).2.1 e.2.1 ⟨e, he, rfl⟩).1
   dsimp only at hnew
   have hps : ∀ {i r : Nat}, rs[i]? = some r → ∃ q, ps[i]? = some q := fun {i r} hr => ⟨_, List.getElem?_eq_getElem (by rw [← hrk.len]; exact (List.getElem?_eq_some_iff.1 hr).1)⟩
   refine ⟨⟨B2, some ⟨B1, 0, none⟩, ps.length, rs, wd, hg, putDs wd hg ts ds⟩, rfl, ⟨hm.ext, ⟨?_, ?_, ?_, ?_, ?_, ?_, hwd, hhg⟩, ?_⟩, rfl, rfl, rfl, ?_⟩
   ·show Go.Proofs.Ytbiapeaghbndoaa.hp _ _ = some (Obj.cells #[.int .i64 (wd : Int), .int .i64 (hg : Int), .slice _ rs.length ps.length] _); rw [hrk.len]; exact hm.at 902 rfl
   ·exact SliceAt.own ptrc_len hrow hrk.len.symm rfl
   ·show ps.length ≤ Go.maxLen; unfold Go.maxLen; omega
   ·intro i r t hr ht
    obtain ⟨q, hq⟩ := hps hr
    obtain ⟨r', t', t0, h1, h2, h3, h4⟩ := hdone hq
    rw [h1] at hr; cases hr
    rw [h2] at ht; cases ht
    rcases h4 with ⟨rfl, rfl⟩ | ⟨_, h5⟩
    ·exact hm.old (htl _ _ _ hq h3)
    ·exact hm.tl 904 rfl h5
   ·show rs.length = wd * hg; rw [hrk.len, hlen]
   ·show (putDs wd hg ts ds).length = rs.length; rw [putDs_len, hrk.len, hlt]
   ·rintro b (rfl | ⟨x, hx, rfl⟩ | hb)
    ·exact .inl (hm.own 902 _ rfl).1
    ·cases hx; exact .inl (Res.low (hm.own 901 _ rfl) (own_foot hrow (by omega))).1
    ·obtain ⟨i, hi⟩ := List.getElem?_of_mem hb
     obtain ⟨q, hq⟩ := hps hi
     obtain ⟨r', t', t0, h1, h2, h3, h4⟩ := hdone hq
     rw [h1] at hi; cases hi
     rcases h4 with ⟨_, rfl⟩ | ⟨_, h5⟩
     ·exact .inr ⟨_, List.mem_singleton.2 rfl, .inr (.inr (List.mem_of_getElem? hq))⟩
     ·exact .inl (hnew _ h5)
   ·intro i q hq
    obtain ⟨r', t', t0, h1, h2, h3, h4⟩ := hdone hq
    refine ⟨r', h1, ?_, ?_⟩
    ·show r' = q ↔ ts[i]? = (putDs wd hg ts ds)[i]?
     rw [h2, h3]
     rcases h4 with ⟨rfl, rfl⟩ | ⟨h5, h6⟩
     ·exact ⟨fun _ => rfl, fun _ => rfl⟩
     ·refine ⟨fun e => ?_, fun e => absurd (Option.some.inj e).symm h5⟩
      subst e
      have h7 := hnew _ h6; dsimp only at h7
      have h8 := hp_lt (htl _ _ _ hq h3)
      omega
    ·rcases h4 with ⟨_, rfl⟩ | ⟨_, h6⟩
     ·exact .inl rfl
     ·exact .inr (hnew _ h6)
  ·intro j kx vx hj hnj
   have hj2 := hj
   rw [List.getElem?_map] at hj2
   obtain ⟨⟨i1, q, t⟩, hjo, hje⟩ := Option.map_eq_some_iff.1 hj2
   cases hje
   have hjm := List.mem_of_getElem? hjo
   have hjl := (List.getElem?_eq_some_iff.1 hjo).1
   have hi1 : i1 < ps.length := by rw [← hlt]; exact hok.lt _ hjm
   refine TL_v (.bool true) (s_ex rfl rfl) rfl rfl ?_
   refine TL_seq ?_
   refine T_seq ?_
   refine T_cond_t rfl ?_
   refine T_skip' ?_
   refine p_seq ?_
   refine T_block ?_
   refine T_seq (T_region ?_)
   refine TL_v (.tuple #[iN i1, pt q 0]) (fun _ _ J hm => r_entry (fk := natK) (fv := optV) (k := i1) (u := (some q)) (j := j) (l := (own.map OwE.ent)) (J _ _ rfl) (hm.at 8 rfl) (hm.at 1 rfl) hj) rfl rfl ?_
   refine TL_v (iN i1) (s_ex rfl rfl) rfl rfl ?_
   refine TL_v (pt q 0) (s_ex rfl rfl) rfl rfl ?_
   refine TL_v (iN i1) (s_as rfl) rfl rfl ?_
   refine TL_v (pt q 0) (s_as rfl) rfl rfl ?_
   refine TL_seq ?_
   obtain ⟨q0, hqq0⟩ : ∃ x, ps[i1]? = some x := ⟨_, List.getElem?_eq_getElem (by omega)⟩
   obtain ⟨t0, hqt0⟩ : ∃ x, ts[i1]? = some x := ⟨_, List.getElem?_eq_getElem (by omega)⟩
   have hbq0 := htl _ _ _ hqq0 hqt0
   refine T_seq (T_draw (V := [(0, pt q 0), (1, pt q 0), (2, .agg (lst C4.cells t.l)), (3, pt p 0), (4, pt p 0), (5, pt p 2), (6, .slice (some ⟨b, of, none⟩) ps.length cap), (7, iN i1), (8, pt b (of + i1 * 1)), (9, pt q0 0), (10, pt q0 0), (11, .agg (lst C4.cells t0.l)), (12, .bool (!decide (t = t0)))]) [0, 1, 3, 0, 8, 24, 56, 0, 248, 504, 1016, 2040, 4095] [[(15, none)], [(103, some 0)], [(104, some 1)], [(0, none)], [(106, some 3)], [(107, some 4)], [(108, some 5)], [(14, none)], [(109, some 6), (110, some 7)], [(111, some 8)], [(112, some 9)], [(113, some 10)], [(105, some 2), (114, some 11)]] 0 mixed (by kernel_rfl) ?_)
   refine G_last [0, 1, 2, 3, 4, 5, 6, 7, 8, 9, 10, 11, 12] [(0, pt p 0), (4, .pointer none), (5, pt B2 0), (97, pt B12 0), (98, .tuple #[.bool true, iN i1, pt q 0]), (99, .bool true), (100, .tuple #[iN i1, pt q 0]), (101, iN i1), (102, pt q 0), (14, iN i1), (15, pt q 0), (103, pt q 0), (104, pt q 0), (105, .agg (lst C4.cells t.l)), (106, pt p 0), (107, pt p 0), (108, pt p 2), (109, .slice (some ⟨b, of, none⟩) ps.length cap), (110, iN i1), (111, pt b (of + i1 * 1)), (112, pt q0 0), (113, pt q0 0), (114, .agg (lst C4.cells t0.l)), (115, .bool (!decide (t = t0)))] (by kernel_rfl) (allM (all_cons (q_r (pt q 0) rfl rfl rfl (s_mv rfl)) (all_cons (q_r (pt q 0) rfl rfl rfl (s_nc rfl rfl)) (all_cons (q_r (.agg (lst C4.cells t.l)) rfl rfl rfl (fun _ _ j hm => r_loadW ag39 sz39 (j _ _ rfl) (hm.tl 904 rfl hjm) (tsz t.h))) (all_cons (q_r (pt p 0) rfl rfl rfl (s_mv rfl)) (all_cons (q_r (pt p 0) rfl rfl rfl (s_nc rfl rfl)) (all_cons (q_r (pt p 2) rfl rfl rfl (s_fa fl111_1 sz104 rfl)) (all_cons (q_r (.slice (some ⟨b, of, none⟩) ps.length cap) rfl rfl rfl (fun _ _ j hm => r_load ag104 (j _ _ rfl) (hm.old hblk) rfl)) (all_cons (q_r (iN i1) rfl rfl rfl (s_mv rfl)) (all_cons (q_r (pt b (of + i1 * 1)) rfl rfl rfl (fun _ _ j _ => r_indexAddrS (i := i1) sl104 sz106 (j _ _ rfl) (j _ _ rfl) (by omega))) (all_cons (q_r (pt q0 0) rfl rfl rfl (fun _ _ j hm => r_loadRow1 (f := ptrc) (u := q0) ag106 (j _ _ rfl) (hm.old hcr) hrr hqq0 rfl)) (all_cons (q_r (pt q0 0) rfl rfl rfl (s_nc rfl rfl)) (all_cons (q_r (.agg (lst C4.cells t0.l)) rfl rfl rfl (fun _ _ j hm => r_loadW ag39 sz39 (j _ _ rfl) (hm.old hbq0) (tsz t0.h))) (all_cons (q_r (.bool (!decide (t = t0))) rfl rfl rfl (fun _ w j _ => r_as (r_neqA (by kernel_rfl) (j _ _ rfl) (j _ _ rfl) (eq_t64 t t0 w)) (by rfl))) all_nil)))))))))))))) (end_old rfl rfl (end_old rfl rfl (end_old rfl rfl (end_old rfl rfl (end_old rfl rfl (end_old rfl rfl (end_old rfl rfl (end_old rfl rfl (end_old rfl rfl (end_old rfl rfl (end_old rfl rfl (end_new 0 rfl rfl (end_new 1 rfl rfl (end_new 2 rfl rfl (end_new 3 rfl rfl (end_new 4 rfl rfl (end_new 5 rfl rfl (end_new 6 rfl rfl (end_new 7 rfl rfl (end_new 8 rfl rfl (end_new 9 rfl rfl (end_new 10 rfl rfl (end_new 11 rfl rfl (end_new 12 rfl rfl end_nil)))))))))))))))))))))))) ?_
   refine T_cond rfl (fun h2 => ?_) (fun h2 => ?_)
   ·replace h2 := of_decide_eq_false (bnot_t h2)
    refine T_region ?_
    refine TL_v (pt B2 0) (s_mv rfl) rfl rfl ?_
    refine TL_v (pt B2 0) (s_nc rfl rfl) rfl rfl ?_
    refine TL_v (pt B2 2) (s_fa fl111_1 sz104 rfl) rfl rfl ?_
    refine TL_v (.slice (some ⟨B1, 0, none⟩) ps.length ps.length) (s_ld ag104 rfl 902 rfl rfl) rfl rfl ?_
    refine TL_v (iN i1) (s_mv rfl) rfl rfl ?_
    refine TL_v (pt q 0) (s_mv rfl) rfl rfl ?_
    refine TL_v (pt B1 (0 + i1 * 1)) (fun _ _ j _ => r_indexAddrS (i := i1) sl104 sz106 (j _ _ rfl) (j _ _ rfl) (by omega)) rfl rfl ?_
    refine TL_storeRow (f := ptrc) (l := rs) (u := q) 901 rfl hrk.len.symm rfl rfl sz106 ptrc_len (by rw [hrk.len]; exact hi1) rfl rfl (w_n rfl) ?_
    refine TL_nil ?_
    refine p_blk_n ?_
    exact p_at (seen ++ [j], rs.set i1 q) ⟨row_put hrk hok.one hnj hjo hqt0 h2 hi1, by have := row_lt hrk hnj hjl; dsimp only; rw [List.length_append, List.length_singleton]; omega⟩ (sc4 rfl rfl rfl rfl sub_nil) (sc rfl (sc rfl (sc rfl (sub_cons (by rfl) (sc rfl sub_nil)))))
   ·replace h2 := of_decide_eq_true (bnot_f h2)
    refine T_skip' ?_
    refine p_blk_n ?_
    exact p_at (seen ++ [j], rs) ⟨row_same hrk hok.one hnj hjo hqt0 h2, by have := row_lt hrk hnj hjl; dsimp only; rw [List.length_append, List.length_singleton]; omega⟩ (sc4 rfl rfl rfl rfl sub_nil) (sc rfl (sc rfl (sc rfl (sub_cons (by rfl) (sc rfl sub_nil)))))
end Go.Proofs.Ytbiapeaghbndoaa
/- canvas: dots compared; lists cut. -/
namespace Go.Proofs.Ytbiapeaghbndoaa
open Go Go.RowKit
set_option maxRecDepth 10000
theorem take_min {α : Type} (l : List α) (k : Nat) : l.take (min l.length k) = l.take k := by
  by_cases h : l.length ≤ k
  · rw [Nat.min_eq_left h, List.take_length, List.take_of_length_le h]
  · rw [Nat.min_eq_right (by omega)]
end Go.Proofs.Ytbiapeaghbndoaa
/- A row that is one's own, or is another one. Over any program. -/
namespace Go.Proofs.Ytbiapeaghbndoaa
open Go Go.RowKit
abbrev Res.rowB (t : Bool) (v : Value) (e : TypeId) (s n : Nat) (xs : List Value) : Res := .abs (fun b => t = true ∧ v.ownBlock = some b) (fun w => t = true → w.ownsRow 0 e s v n xs)
theorem rowB_keep {t : Bool} {v : Value} {e : TypeId} {s n : Nat} {xs : List Value} (w1 w2 : World) (h : t = true → w1.ownsRow 0 e s v n xs) (hb : ∀ b, t = true ∧ v.ownBlock = some b → hp w2 b = hp w1 b) : t = true → w2.ownsRow 0 e s v n xs :=
  fun ht => Res.keep (r := .row v e s n xs) (h ht) fun b hf => hb b ⟨ht, hf⟩
theorem rowB_own {base : Nat} {w : World} {v : Value} {e : TypeId} {s n : Nat} {xs : List Value} (h : w.ownsRow base e s v n xs) : (Res.rowB true v e s n xs).ok base w :=
  ⟨fun _ => Res.lift (r := .row v e s n xs) h (Nat.zero_le _), fun _ hb => Res.low (r := .row v e s n xs) h hb.2, rowB_keep⟩
theorem rowB_no {base : Nat} {w : World} {v : Value} {e : TypeId} {s n : Nat} {xs : List Value} : (Res.rowB false v e s n xs).ok base w :=
  ⟨(fun h => by cases h), (fun _ hb => by cases hb.1), rowB_keep⟩
theorem MemOk.rowB0 {w₀ w : World} {L : Heap} (h : MemOk w₀ L w) (i : Nat) (v : Value) (e : TypeId) (s n : Nat) (xs : List Value) : MemOk w₀ ((i, .rowB false v e s n xs) :: L) w :=
  h.set i _ h.ext rowB_no (fun _ _ _ _ _ _ => ⟨rfl, fun hb => by cases hb.1⟩)
theorem MemOk.rowB2 {w₀ w : World} {L : Heap} (h : MemOk w₀ L w) (i j : Nat) {t1 t2 : Bool} {v1 v2 : Value} {e : TypeId} {s n1 n : Nat} {xs1 xs2 : List Value} (hi : lk L i = some (.rowB t1 v1 e s n1 xs1)) (hj : lk L j = some (.rowB t2 v2 e s n xs2)) (hs : t2 = false → v2 = v1 ∧ n = n1 ∧ xs2 = xs1) (hij : Nat.beq i j = false) :
    MemOk w₀ ((i, .rowB (t1 || t2) v2 e s n xs2) :: (j, .no) :: L) w := by
  have hne : i ≠ j := fun e => by subst e; rw [Nat.beq_refl] at hij; cases hij
  have ok1 := h.own i _ hi
  have ok2 := h.own j _ hj
  have h0 : MemOk w₀ ((j, .no) :: L) w := h.set j _ h.ext ⟨trivial, (fun _ hb => hb.elim), fun _ _ _ _ => trivial⟩ (fun _ _ _ _ b _ => ⟨rfl, id⟩)
  cases t2 with
  | false =>
    obtain ⟨rfl, rfl, rfl⟩ := hs rfl
    rw [Bool.or_false]
    exact h0.set i _ h0.ext ok1 (fun k r hk hki b hb => ⟨rfl, fun hF => by
      by_cases e2 : j = k
      · subst e2; rw [lk_cons_same] at hk; cases hk; exact hb
      · rw [lk_cons_other _ _ e2] at hk
        exact h.sep i k _ _ hi hk (Ne.symm hki) b hF hb⟩)
  | true =>
    rw [Bool.or_true]
    exact h0.set i _ h0.ext ok2 (fun k r hk hki b hb => ⟨rfl, fun hF => by
      by_cases e2 : j = k
      · subst e2; rw [lk_cons_same] at hk; cases hk; exact hb
      · rw [lk_cons_other _ _ e2] at hk
        exact h.sep j k _ _ hj hk e2 b hF hb⟩)
theorem MemOk.rowB {w₀ w : World} {L : Heap} (h : MemOk w₀ L w) (i : Nat) {t : Bool} {v : Value} {e : TypeId} {s n : Nat} {xs : List Value} (hi : lk L i = some (.rowB t v e s n xs)) : t = true → w.ownsRow 0 e s v n xs := (h.own i _ hi).1
theorem rowB_at {α : Type} {s : Nat} {f : α → List Value} {t : Bool} {a a' : Option Addr} {cap cap' n : Nat} {e : TypeId} {l l' : List α} {w : World} (hf : ∀ x, (f x).length = s) (h : t = true → w.ownsRow 0 e s (.slice a' n cap') n (l'.flatMap f)) (hn : n = l'.length) (ho : t = false → a' = a ∧ cap' = cap ∧ l' = l) (hv : SliceAt w a cap s f l) : SliceAt w a' cap' s f l' := by
  cases t with
  | false => obtain ⟨rfl, rfl, rfl⟩ := ho rfl; exact hv
  | true => exact SliceAt.own hf (h rfl) hn rfl
theorem rowB_cap {s : Nat} {t : Bool} {a a' : Option Addr} {cap cap' n : Nat} {e : TypeId} {xs : List Value} {w : World} (h : t = true → w.ownsRow 0 e s (.slice a' n cap') n xs) (ho : t = false → a' = a ∧ cap' = cap) (hc : cap ≤ Go.maxLen) : cap' ≤ Go.maxLen := by
  cases t with
  | false => rw [(ho rfl).2]; exact hc
  | true => exact row_cap (h rfl)
end Go.Proofs.Ytbiapeaghbndoaa
/- canvas: references: Right, Same; own, few, Alike. Printed by a program of this seat's prover. -/
namespace Go.Proofs.Ytbiapeaghbndoaa
open Go Go.RowKit
set_option maxRecDepth 10000
theorem sizes_c (x y : Int) (w : World) : Calls Try.prog 30 #[.int .i64 x, .int .i64 y] w fun e w' => e = .returned (.bool (mayI x y)) ∧ Below w.heap.size w w' := by
 refine calls_of_T (l := [.int .i64 x, .int .i64 y]) 19 Try.func30 rfl rfl rfl ?_
 show T _ _ _ [(0, .int .i64 x), (1, .int .i64 y)] []
 refine T_seq (T_region ?_)
 refine TL_v (.bool false) (s_as rfl) rfl rfl ?_
 refine TL_seq ?_
 by_cases c1 : (1 : Int) ≤ x
 ·skip
  by_cases c2 : x ≤ 4
  ·skip
   by_cases c3 : (1 : Int) ≤ y
   ·skip
    by_cases c4 : y ≤ 4
    ·skip
     refine T_seq (T_region ?_)
     refine TL_v (.int .i64 x) (s_mv rfl) rfl rfl ?_
     refine TL_v (.bool true) (s_op r_geq rfl rfl (bool_as (decide_eq_true c1))) rfl rfl ?_
     refine TL_v (.bool true) (s_mv rfl) rfl rfl ?_
     refine TL_q (.int .i64 x) (s_mv rfl) rfl rfl rfl (want_y 7 rfl rfl rfl) ?_
     refine TL_q (.bool true) (s_op r_leq rfl rfl (bool_as (decide_eq_true c2))) rfl rfl rfl (want_y 7 rfl rfl rfl) ?_
     refine TL_v (.bool true) (s_pt rfl rfl) rfl rfl ?_
     refine TL_v (.bool true) (s_mv rfl) rfl rfl ?_
     refine TL_q (.int .i64 y) (s_mv rfl) rfl rfl rfl (want_y 11 rfl rfl rfl) ?_
     refine TL_q (.bool true) (s_op r_geq rfl rfl (bool_as (decide_eq_true c3))) rfl rfl rfl (want_y 11 rfl rfl rfl) ?_
     refine TL_v (.bool true) (s_pt rfl rfl) rfl rfl ?_
     refine TL_v (.bool true) (s_mv rfl) rfl rfl ?_
     refine TL_q (.int .i64 y) (s_mv rfl) rfl rfl rfl (want_y 15 rfl rfl rfl) ?_
     refine TL_q (.bool true) (s_op r_leq rfl rfl (bool_as (decide_eq_true c4))) rfl rfl rfl (want_y 15 rfl rfl rfl) ?_
     refine TL_v (.bool true) (s_pt rfl rfl) rfl rfl ?_
     refine TL_v (.bool true) (s_as rfl) rfl rfl ?_
     refine TL_seq ?_
     refine T_ret' ?_
     refine ret_of rfl (.bool true) (fun tmps w hk hm => res1 rfl (res_tmp (hk 4 _ rfl))) (fun w hm => ?_)
     exact ⟨congrArg Ending.returned (bool_as (decide_eq_true (by omega)).symm), hm.ext⟩
    ·skip
     refine T_seq (T_region ?_)
     refine TL_v (.int .i64 x) (s_mv rfl) rfl rfl ?_
     refine TL_v (.bool true) (s_op r_geq rfl rfl (bool_as (decide_eq_true c1))) rfl rfl ?_
     refine TL_v (.bool true) (s_mv rfl) rfl rfl ?_
     refine TL_q (.int .i64 x) (s_mv rfl) rfl rfl rfl (want_y 7 rfl rfl rfl) ?_
     refine TL_q (.bool true) (s_op r_leq rfl rfl (bool_as (decide_eq_true c2))) rfl rfl rfl (want_y 7 rfl rfl rfl) ?_
     refine TL_v (.bool true) (s_pt rfl rfl) rfl rfl ?_
     refine TL_v (.bool true) (s_mv rfl) rfl rfl ?_
     refine TL_q (.int .i64 y) (s_mv rfl) rfl rfl rfl (want_y 11 rfl rfl rfl) ?_
     refine TL_q (.bool true) (s_op r_geq rfl rfl (bool_as (decide_eq_true c3))) rfl rfl rfl (want_y 11 rfl rfl rfl) ?_
     refine TL_v (.bool true) (s_pt rfl rfl) rfl rfl ?_
     refine TL_v (.bool true) (s_mv rfl) rfl rfl ?_
     refine TL_q (.int .i64 y) (s_mv rfl) rfl rfl rfl (want_y 15 rfl rfl rfl) ?_
     refine TL_q (.bool false) (s_op r_leq rfl rfl (bool_as (decide_eq_false c4))) rfl rfl rfl (want_y 15 rfl rfl rfl) ?_
     refine TL_v (.bool false) (s_pt rfl rfl) rfl rfl ?_
     refine TL_v (.bool false) (s_as rfl) rfl rfl ?_
     refine TL_seq ?_
     refine T_ret' ?_
     refine ret_of rfl (.bool false) (fun tmps w hk hm => res1 rfl (res_tmp (hk 4 _ rfl))) (fun w hm => ?_)
     exact ⟨congrArg Ending.returned (bool_as (decide_eq_false (by omega)).symm), hm.ext⟩
   ·skip
    refine T_seq (T_region ?_)
    refine TL_v (.int .i64 x) (s_mv rfl) rfl rfl ?_
    refine TL_v (.bool true) (s_op r_geq rfl rfl (bool_as (decide_eq_true c1))) rfl rfl ?_
    refine TL_v (.bool true) (s_mv rfl) rfl rfl ?_
    refine TL_q (.int .i64 x) (s_mv rfl) rfl rfl rfl (want_y 7 rfl rfl rfl) ?_
    refine TL_q (.bool true) (s_op r_leq rfl rfl (bool_as (decide_eq_true c2))) rfl rfl rfl (want_y 7 rfl rfl rfl) ?_
    refine TL_v (.bool true) (s_pt rfl rfl) rfl rfl ?_
    refine TL_v (.bool true) (s_mv rfl) rfl rfl ?_
    refine TL_q (.int .i64 y) (s_mv rfl) rfl rfl rfl (want_y 11 rfl rfl rfl) ?_
    refine TL_q (.bool false) (s_op r_geq rfl rfl (bool_as (decide_eq_false c3))) rfl rfl rfl (want_y 11 rfl rfl rfl) ?_
    refine TL_v (.bool false) (s_pt rfl rfl) rfl rfl ?_
    refine TL_v (.bool false) (s_mv rfl) rfl rfl ?_
    refine TL_x 15 rfl rfl rfl rfl rfl ?_
    refine TL_x 15 rfl rfl rfl rfl rfl ?_
    refine TL_v (.bool false) (s_pf rfl rfl) rfl rfl ?_
    refine TL_v (.bool false) (s_as rfl) rfl rfl ?_
    refine TL_seq ?_
    refine T_ret' ?_
    refine ret_of rfl (.bool false) (fun tmps w hk hm => res1 rfl (res_tmp (hk 4 _ rfl))) (fun w hm => ?_)
    exact ⟨congrArg Ending.returned (bool_as (decide_eq_false (by omega)).symm), hm.ext⟩
  ·skip
   refine T_seq (T_region ?_)
   refine TL_v (.int .i64 x) (s_mv rfl) rfl rfl ?_
   refine TL_v (.bool true) (s_op r_geq rfl rfl (bool_as (decide_eq_true c1))) rfl rfl ?_
   refine TL_v (.bool true) (s_mv rfl) rfl rfl ?_
   refine TL_q (.int .i64 x) (s_mv rfl) rfl rfl rfl (want_y 7 rfl rfl rfl) ?_
   refine TL_q (.bool false) (s_op r_leq rfl rfl (bool_as (decide_eq_false c2))) rfl rfl rfl (want_y 7 rfl rfl rfl) ?_
   refine TL_v (.bool false) (s_pt rfl rfl) rfl rfl ?_
   refine TL_v (.bool false) (s_mv rfl) rfl rfl ?_
   refine TL_x 11 rfl rfl rfl rfl rfl ?_
   refine TL_x 11 rfl rfl rfl rfl rfl ?_
   refine TL_v (.bool false) (s_pf rfl rfl) rfl rfl ?_
   refine TL_v (.bool false) (s_mv rfl) rfl rfl ?_
   refine TL_x 15 rfl rfl rfl rfl rfl ?_
   refine TL_x 15 rfl rfl rfl rfl rfl ?_
   refine TL_v (.bool false) (s_pf rfl rfl) rfl rfl ?_
   refine TL_v (.bool false) (s_as rfl) rfl rfl ?_
   refine TL_seq ?_
   refine T_ret' ?_
   refine ret_of rfl (.bool false) (fun tmps w hk hm => res1 rfl (res_tmp (hk 4 _ rfl))) (fun w hm => ?_)
   exact ⟨congrArg Ending.returned (bool_as (decide_eq_false (by omega)).symm), hm.ext⟩
 ·skip
  refine T_seq (T_region ?_)
  refine TL_v (.int .i64 x) (s_mv rfl) rfl rfl ?_
  refine TL_v (.bool false) (s_op r_geq rfl rfl (bool_as (decide_eq_false c1))) rfl rfl ?_
  refine TL_v (.bool false) (s_mv rfl) rfl rfl ?_
  refine TL_x 7 rfl rfl rfl rfl rfl ?_
  refine TL_x 7 rfl rfl rfl rfl rfl ?_
  refine TL_v (.bool false) (s_pf rfl rfl) rfl rfl ?_
  refine TL_v (.bool false) (s_mv rfl) rfl rfl ?_
  refine TL_x 11 rfl rfl rfl rfl rfl ?_
  refine TL_x 11 rfl rfl rfl rfl rfl ?_
  refine TL_v (.bool false) (s_pf rfl rfl) rfl rfl ?_
  refine TL_v (.bool false) (s_mv rfl) rfl rfl ?_
  refine TL_x 15 rfl rfl rfl rfl rfl ?_
  refine TL_x 15 rfl rfl rfl rfl rfl ?_
  refine TL_v (.bool false) (s_pf rfl rfl) rfl rfl ?_
  refine TL_v (.bool false) (s_as rfl) rfl rfl ?_
  refine TL_seq ?_
  refine T_ret' ?_
  refine ret_of rfl (.bool false) (fun tmps w hk hm => res1 rfl (res_tmp (hk 4 _ rfl))) (fun w hm => ?_)
  exact ⟨congrArg Ending.returned (bool_as (decide_eq_false (by omega)).symm), hm.ext⟩

theorem right_no (x y : Int) (a : Option Addr) (n cap : Nat) (w : World) (hno : ¬ mayI x y = true) : Calls Try.prog 16 #[.agg #[.int .i64 x, .int .i64 y, .slice a n cap]] w fun e w' => e = .returned (.bool false) ∧ Below w.heap.size w w' := by
 refine calls_of_T (l := [.agg #[.int .i64 x, .int .i64 y, .slice a n cap]]) 19 Try.func16 rfl rfl rfl ?_
 show T _ _ _ [(0, .agg #[.int .i64 x, .int .i64 y, .slice a n cap])] []
 refine T_seq (T_region ?_)
 refine TL_new 1 (.cells #[.int .i64 x, .int .i64 y, .slice a n cap] 24) (fun B => pt B 0) (fun _ _ j _ => r_box (j _ _ rfl) rfl) rfl rfl rfl (w_n rfl) ?_
 intro B1
 refine TL_v (.bool false) (s_as rfl) rfl rfl ?_
 refine TL_seq ?_
 refine T_seq (T_region ?_)
 refine TL_v (pt B1 0) (s_fa fl24_0 sz3 rfl) rfl rfl ?_
 refine TL_v (.int .i64 x) (s_ld ag3 rfl 1 rfl rfl) rfl rfl ?_
 refine TL_v (pt B1 1) (s_fa fl24_1 sz3 rfl) rfl rfl ?_
 refine TL_v (.int .i64 y) (s_ld ag3 rfl 1 rfl rfl) rfl rfl ?_
 refine TL_call (.bool false) (fun _ _ j _ => r_call (args := [.int .i64 x, .int .i64 y]) (enters_of Try.func30 (by kernel_rfl) rfl) (j _ _ rfl) ((cons2 (j _ _ rfl) (cons2 (j _ _ rfl) rfl))) rfl) (fun w _ => (sizes_c x y w).mono fun _ _ h => ⟨h.1.trans (congrArg Ending.returned (bool_as (eq_false_of_ne_true hno))), h.2⟩) rfl rfl rfl (w_n rfl) ?_
 refine TL_v (.bool false) (s_mv rfl) rfl rfl ?_
 refine TL_x 8 rfl rfl rfl rfl rfl ?_
 refine TL_x 8 rfl rfl rfl rfl rfl ?_
 refine TL_x 8 rfl rfl rfl rfl rfl ?_
 refine TL_x 8 rfl rfl rfl rfl rfl ?_
 refine TL_x 8 rfl rfl rfl rfl rfl ?_
 refine TL_x 8 rfl rfl rfl rfl rfl ?_
 refine TL_x 8 rfl rfl rfl rfl rfl ?_
 refine TL_x 8 rfl rfl rfl rfl rfl ?_
 refine TL_x 8 rfl rfl rfl rfl rfl ?_
 refine TL_v (.bool false) (s_pf rfl rfl) rfl rfl ?_
 refine TL_v (.bool false) (s_as rfl) rfl rfl ?_
 refine TL_seq ?_
 refine T_ret' ?_
 refine ret_of rfl (.bool false) (fun tmps w hk hm => res1 rfl (res_tmp (hk 2 _ rfl))) (fun w hm => ?_)
 exact ⟨rfl, hm.ext⟩

theorem right_in (p q : Nat) (a : Option Addr) (n cap : Nat) (w : World) (hp4 : 1 ≤ p ∧ p ≤ 4) (hq4 : 1 ≤ q ∧ q ≤ 4) : Calls Try.prog 16 #[.agg #[.int .i64 (p : Int), .int .i64 (q : Int), .slice a n cap]] w fun e w' => e = .returned (.bool (decide (n = p * q))) ∧ Below w.heap.size w w' := by
 have h16 := size4 hp4 hq4
 refine calls_of_T (l := [.agg #[iN p, iN q, .slice a n cap]]) 19 Try.func16 rfl rfl rfl ?_
 show T _ _ _ [(0, .agg #[iN p, iN q, .slice a n cap])] []
 refine T_seq (T_region ?_)
 refine TL_new 1 (.cells #[iN p, iN q, .slice a n cap] 24) (fun B => pt B 0) (fun _ _ j _ => r_box (j _ _ rfl) rfl) rfl rfl rfl (w_n rfl) ?_
 intro B1
 refine TL_v (.bool false) (s_as rfl) rfl rfl ?_
 refine TL_seq ?_
 refine T_seq (T_region ?_)
 refine TL_v (pt B1 0) (s_fa fl24_0 sz3 rfl) rfl rfl ?_
 refine TL_v (iN p) (s_ld ag3 rfl 1 rfl rfl) rfl rfl ?_
 refine TL_v (pt B1 1) (s_fa fl24_1 sz3 rfl) rfl rfl ?_
 refine TL_v (iN q) (s_ld ag3 rfl 1 rfl rfl) rfl rfl ?_
 refine TL_call (.bool true) (fun _ _ j _ => r_call (args := [iN p, iN q]) (enters_of Try.func30 (by kernel_rfl) rfl) (j _ _ rfl) ((cons2 (j _ _ rfl) (cons2 (j _ _ rfl) rfl))) rfl) (fun w _ => (sizes_c ((p : Nat) : Int) ((q : Nat) : Int) w).mono fun _ _ h => ⟨h.1.trans (congrArg Ending.returned (bool_as (mayI_of hp4 hq4))), h.2⟩) rfl rfl rfl (w_n rfl) ?_
 refine TL_v (.bool true) (s_mv rfl) rfl rfl ?_
 refine TL_q (pt B1 2) (s_fa fl24_2 sz22 rfl) rfl rfl rfl (want_y 8 rfl rfl rfl) ?_
 refine TL_q (.slice a n cap) (s_ld ag22 rfl 1 rfl rfl) rfl rfl rfl (want_y 8 rfl rfl rfl) ?_
 refine TL_q (iN n) (fun _ _ j _ => r_len sl22 (j _ _ rfl)) rfl rfl rfl (want_y 8 rfl rfl rfl) ?_
 refine TL_q (pt B1 0) (s_fa fl24_0 sz3 rfl) rfl rfl rfl (want_y 8 rfl rfl rfl) ?_
 refine TL_q (iN p) (s_ld ag3 rfl 1 rfl rfl) rfl rfl rfl (want_y 8 rfl rfl rfl) ?_
 refine TL_q (pt B1 1) (s_fa fl24_1 sz3 rfl) rfl rfl rfl (want_y 8 rfl rfl rfl) ?_
 refine TL_q (iN q) (s_ld ag3 rfl 1 rfl rfl) rfl rfl rfl (want_y 8 rfl rfl rfl) ?_
 refine TL_q (iN (p * q)) (s_op r_mul rfl rfl (iw (by omega) (by omega) (by omega))) rfl rfl rfl (want_y 8 rfl rfl rfl) ?_
 refine TL_q (.bool (decide (((n : Nat) : Int) = ((p * q : Nat) : Int)))) (fun _ _ j _ => r_eql (j _ _ rfl) (j _ _ rfl)) rfl rfl rfl (want_y 8 rfl rfl rfl) ?_
 refine TL_v (.bool (decide (((n : Nat) : Int) = ((p * q : Nat) : Int)))) (s_pt rfl rfl) rfl rfl ?_
 refine TL_v (.bool (decide (((n : Nat) : Int) = ((p * q : Nat) : Int)))) (s_as rfl) rfl rfl ?_
 refine TL_seq ?_
 refine T_ret' ?_
 refine ret_of rfl (.bool (decide (((n : Nat) : Int) = ((p * q : Nat) : Int)))) (fun tmps w hk hm => res1 rfl (res_tmp (hk 2 _ rfl))) (fun w hm => ?_)
 exact ⟨congrArg Ending.returned (bool_as (nat_dec n (p * q))), hm.ext⟩

theorem right_c (x y : Int) (a : Option Addr) (n cap : Nat) (w : World) : Calls Try.prog 16 #[.agg #[.int .i64 x, .int .i64 y, .slice a n cap]] w fun e w' => e = .returned (.bool (rightI x y n)) ∧ Below w.heap.size w w' := by
 by_cases h : mayI x y = true
 ·obtain ⟨p, q, rfl, rfl, hp4, hq4⟩ := mayI_nat h
  refine (right_in p q a n cap w hp4 hq4).mono fun e w' ⟨h1, h2⟩ => ⟨h1.trans ?_, h2⟩
  by_cases e : n = p * q
  ·rw [decide_eq_true e, rightI_of hp4 hq4 e]
  ·rw [decide_eq_false e, eq_false_of_ne_true (b := rightI p q n)]
   intro h3
   have := (of_decide_eq_true h3).2
   exact e (by exact_mod_cast this)
 ·refine (right_no x y a n cap w h).mono fun e w' ⟨h1, h2⟩ => ⟨h1.trans ?_, h2⟩
  rw [eq_false_of_ne_true (b := rightI x y n)]
  intro h3
  exact h (of_decide_eq_true h3).1

set_option maxHeartbeats 1000000 in
theorem rsame_c (x y : Int) (ts : List T64) (a : Option Addr) (cap : Nat) (w : World) (hv : SliceAt w a cap 256 T64.cells ts) (hcap : cap ≤ Go.maxLen)(x2 y2 : Int) (us : List T64) (b : Option Addr) (capb : Nat) (hu : SliceAt w b capb 256 T64.cells us) (hcapb : capb ≤ Go.maxLen) (hts : ts.length ≤ 64) (hus : us.length ≤ 64) : Calls Try.prog 28 #[.agg #[.int .i64 x, .int .i64 y, .slice a ts.length cap], .agg #[.int .i64 x2, .int .i64 y2, .slice b us.length capb]] w fun e w' => e = .returned (.bool (decide (x = x2 ∧ y = y2 ∧ ts = us))) ∧ Below w.heap.size w w' := by
 have hvl := hv.1
 have hul := hu.1
 unfold Go.maxLen at hcap hcapb
 refine calls_of_T (l := [.agg #[.int .i64 x, .int .i64 y, .slice a ts.length cap], .agg #[.int .i64 x2, .int .i64 y2, .slice b us.length capb]]) 44 Try.func28 rfl rfl rfl ?_
 show T _ _ _ [(0, .agg #[.int .i64 x, .int .i64 y, .slice a ts.length cap]), (1, .agg #[.int .i64 x2, .int .i64 y2, .slice b us.length capb])] []
 refine T_seq (T_region ?_)
 refine TL_new 1 (.cells #[.int .i64 x, .int .i64 y, .slice a ts.length cap] 24) (fun B => pt B 0) (fun _ _ j _ => r_box (j _ _ rfl) rfl) rfl rfl rfl (w_n rfl) ?_
 intro B1
 refine TL_new 2 (.cells #[.int .i64 x2, .int .i64 y2, .slice b us.length capb] 24) (fun B => pt B 0) (fun _ _ j _ => r_box (j _ _ rfl) rfl) rfl rfl rfl (w_n rfl) ?_
 intro B2
 refine TL_v (.bool false) (s_as rfl) rfl rfl ?_
 refine TL_seq ?_
 refine T_seq ?_
 by_cases c1 : x = x2
 ·skip
  by_cases c2 : y = y2
  ·skip
   by_cases c3 : ((ts.length : Nat) : Int) = ((us.length : Nat) : Int)
   ·skip
    refine T_seq (T_region ?_)
    refine TL_v (pt B1 0) (s_fa fl24_0 sz3 rfl) rfl rfl ?_
    refine TL_v (.int .i64 x) (s_ld ag3 rfl 1 rfl rfl) rfl rfl ?_
    refine TL_v (pt B2 0) (s_fa fl24_0 sz3 rfl) rfl rfl ?_
    refine TL_v (.int .i64 x2) (s_ld ag3 rfl 2 rfl rfl) rfl rfl ?_
    refine TL_v (.bool false) (s_op r_neq rfl rfl (bool_as (by rw [decide_eq_true c1]; rfl))) rfl rfl ?_
    refine TL_v (.bool false) (s_mv rfl) rfl rfl ?_
    refine TL_q (pt B1 1) (s_fa fl24_1 sz3 rfl) rfl rfl rfl (want_y 12 rfl rfl rfl) ?_
    refine TL_q (.int .i64 y) (s_ld ag3 rfl 1 rfl rfl) rfl rfl rfl (want_y 12 rfl rfl rfl) ?_
    refine TL_q (pt B2 1) (s_fa fl24_1 sz3 rfl) rfl rfl rfl (want_y 12 rfl rfl rfl) ?_
    refine TL_q (.int .i64 y2) (s_ld ag3 rfl 2 rfl rfl) rfl rfl rfl (want_y 12 rfl rfl rfl) ?_
    refine TL_q (.bool false) (s_op r_neq rfl rfl (bool_as (by rw [decide_eq_true c2]; rfl))) rfl rfl rfl (want_y 12 rfl rfl rfl) ?_
    refine TL_v (.bool false) (s_pf rfl rfl) rfl rfl ?_
    refine TL_v (.bool false) (s_mv rfl) rfl rfl ?_
    refine TL_q (pt B1 2) (s_fa fl24_2 sz22 rfl) rfl rfl rfl (want_y 19 rfl rfl rfl) ?_
    refine TL_q (.slice a ts.length cap) (s_ld ag22 rfl 1 rfl rfl) rfl rfl rfl (want_y 19 rfl rfl rfl) ?_
    refine TL_q (iN ts.length) (fun _ _ j _ => r_len sl22 (j _ _ rfl)) rfl rfl rfl (want_y 19 rfl rfl rfl) ?_
    refine TL_q (pt B2 2) (s_fa fl24_2 sz22 rfl) rfl rfl rfl (want_y 19 rfl rfl rfl) ?_
    refine TL_q (.slice b us.length capb) (s_ld ag22 rfl 2 rfl rfl) rfl rfl rfl (want_y 19 rfl rfl rfl) ?_
    refine TL_q (iN us.length) (fun _ _ j _ => r_len sl22 (j _ _ rfl)) rfl rfl rfl (want_y 19 rfl rfl rfl) ?_
    refine TL_q (.bool false) (s_op r_neq rfl rfl (bool_as (by rw [decide_eq_true c3]; rfl))) rfl rfl rfl (want_y 19 rfl rfl rfl) ?_
    refine TL_v (.bool false) (s_pf rfl rfl) rfl rfl ?_
    refine TL_seq ?_
    refine T_cond_f rfl ?_
    refine T_skip' ?_
    refine p_seq ?_
    refine T_seq ?_
    refine T_seq (T_region ?_)
    refine TL_v (pt B1 2) (s_fa fl24_2 sz22 rfl) rfl rfl ?_
    refine TL_v (.slice a ts.length cap) (s_ld ag22 rfl 1 rfl rfl) rfl rfl ?_
    refine TL_v (iN ts.length) (fun _ _ j _ => r_len sl22 (j _ _ rfl)) rfl rfl ?_
    refine TL_v (.int .i64 0) (s_mv rfl) rfl rfl ?_
    refine TL_seq ?_
    refine T_block ?_
    refine T_loop (ι := Nat) (fun (k : Nat) => k ≤ ts.length ∧ ts.take k = us.take k) (fun (k : Nat) => [(3, pt B2 0), (29, .slice a ts.length cap), (30, iN ts.length), (31, iN k)]) (fun (k : Nat) => [(1, .blk B1 (.cells #[.int .i64 x, .int .i64 y, .slice a ts.length cap] 24)), (2, .blk B2 (.cells #[.int .i64 x2, .int .i64 y2, .slice b us.length capb] 24))]) (fun (k : Nat) => ts.length - k) 0 ⟨Nat.zero_le _, by simp⟩ (sc4 rfl rfl rfl rfl sub_nil) (sc rfl (sc rfl sub_nil)) ?_
    rintro k hp
    obtain ⟨hk1, hk2⟩ := hp
    show T _ _ _ [(3, pt B2 0), (29, .slice a ts.length cap), (30, iN ts.length), (31, iN k)] [(1, .blk B1 (.cells #[.int .i64 x, .int .i64 y, .slice a ts.length cap] 24)), (2, .blk B2 (.cells #[.int .i64 x2, .int .i64 y2, .slice b us.length capb] 24))]
    refine T_seq (T_region ?_)
    refine TL_v (.bool (decide (((k : Nat) : Int) < ((ts.length : Nat) : Int)))) (fun _ _ j _ => r_lss (j _ _ rfl) (j _ _ rfl)) rfl rfl ?_
    refine TL_seq ?_
    refine T_seq ?_
    refine T_cond rfl (fun h1 => ?_) (fun h1 => ?_)
    ·replace h1 := of_decide_eq_true h1
     refine T_skip' ?_
     refine p_seq ?_
     refine T_seq ?_
     refine T_block ?_
     obtain ⟨t, ht⟩ : ∃ x, ts[k]? = some x := ⟨_, List.getElem?_eq_getElem (by omega)⟩
     obtain ⟨b3, of3, cs3, T3, fz3, ha3, hq3, hr3⟩ := hv.open (i := k) (by omega)
     subst ha3
     refine T_seq (T_region ?_)
     refine TL_v (iN k) (s_mv rfl) rfl rfl ?_
     refine TL_v (pt b3 (of3 + k * 256)) (fun _ _ j _ => r_indexAddrS (i := k) sl22 sz39 (j _ _ rfl) (j _ _ rfl) (by omega)) rfl rfl ?_
     refine TL_v (.agg (lst C4.cells t.l)) (fun _ _ j hm => r_loadRow (f := T64.cells) (u := t) ag39 sz39 (j _ _ rfl) (hm.old hq3) hr3 ht) rfl rfl ?_
     refine TL_new 3 (.cells (lst C4.cells zero64) 39) (fun B => pt B 0) (fun _ _ _ _ => r_alloc (v := .agg (lst C4.cells zero64)) (by kernel_rfl) rfl) rfl rfl rfl (w_n rfl) ?_
     intro B4
     refine TL_v (iN k) (s_as rfl) rfl rfl ?_
     refine TL_store 3 (.cells (lst C4.cells t.l) 39) rfl (fun _ _ j hm => r_storeAll sz39 (j _ _ rfl) (j _ _ rfl) (hm.at 3 rfl) (tsz zero64_len) (tsz t.h) (lst_one C4.cells_all _)) rfl rfl (w_n rfl) ?_
     refine TL_seq ?_
     obtain ⟨t2, ht2⟩ : ∃ x, us[k]? = some x := ⟨_, List.getElem?_eq_getElem (by omega)⟩
     obtain ⟨b5, of5, cs5, T5, fz5, ha5, hq5, hr5⟩ := hu.open (i := k) (by omega)
     subst ha5
     refine T_seq (T_draw (V := [(0, .agg (lst C4.cells t.l)), (1, pt B2 2), (2, .slice (some ⟨b5, of5, none⟩) us.length capb), (3, iN k), (4, pt b5 (of5 + k * 256)), (5, .agg (lst C4.cells t2.l)), (6, .bool (!decide (t = t2)))]) [0, 0, 2, 0, 14, 30, 63] [[(6, none)], [(3, none)], [(37, some 1)], [(5, none)], [(38, some 2), (39, some 3)], [(40, some 4)], [(36, some 0), (41, some 5)]] 0 mixed (by kernel_rfl) ?_)
     refine G_last [0, 1, 2, 3, 4, 5, 6] [(3, pt B2 0), (29, .slice (some ⟨b3, of3, none⟩) ts.length cap), (30, iN ts.length), (31, iN k), (32, .bool (decide (((k : Nat) : Int) < ((ts.length : Nat) : Int)))), (33, iN k), (34, pt b3 (of3 + k * 256)), (35, .agg (lst C4.cells t.l)), (6, pt B4 0), (5, iN k), (36, .agg (lst C4.cells t.l)), (37, pt B2 2), (38, .slice (some ⟨b5, of5, none⟩) us.length capb), (39, iN k), (40, pt b5 (of5 + k * 256)), (41, .agg (lst C4.cells t2.l)), (42, .bool (!decide (t = t2)))] (by kernel_rfl) (allM (all_cons (q_r (.agg (lst C4.cells t.l)) rfl rfl rfl (fun _ _ j hm => r_loadW ag39 sz39 (j _ _ rfl) (hm.at 3 rfl) (tsz t.h))) (all_cons (q_r (pt B2 2) rfl rfl rfl (s_fa fl24_2 sz22 rfl)) (all_cons (q_r (.slice (some ⟨b5, of5, none⟩) us.length capb) rfl rfl rfl (s_ld ag22 rfl 2 rfl rfl)) (all_cons (q_r (iN k) rfl rfl rfl (s_mv rfl)) (all_cons (q_r (pt b5 (of5 + k * 256)) rfl rfl rfl (fun _ _ j _ => r_indexAddrS (i := k) sl22 sz39 (j _ _ rfl) (j _ _ rfl) (by omega))) (all_cons (q_r (.agg (lst C4.cells t2.l)) rfl rfl rfl (fun _ _ j hm => r_loadRow (f := T64.cells) (u := t2) ag39 sz39 (j _ _ rfl) (hm.old hq5) hr5 ht2)) (all_cons (q_r (.bool (!decide (t = t2))) rfl rfl rfl (fun _ w j _ => r_as (r_neqA (by kernel_rfl) (j _ _ rfl) (j _ _ rfl) (eq_t64 t t2 w)) (by rfl))) all_nil)))))))) (end_old rfl rfl (end_old rfl rfl (end_old rfl rfl (end_old rfl rfl (end_old rfl rfl (end_old rfl rfl (end_old rfl rfl (end_old rfl rfl (end_old rfl rfl (end_old rfl rfl (end_new 0 rfl rfl (end_new 1 rfl rfl (end_new 2 rfl rfl (end_new 3 rfl rfl (end_new 4 rfl rfl (end_new 5 rfl rfl (end_new 6 rfl rfl end_nil))))))))))))))))) ?_
     refine T_cond rfl (fun h2 => ?_) (fun h2 => ?_)
     ·replace h2 := of_decide_eq_false (bnot_t h2)
      refine T_seq (T_region ?_)
      refine TL_v (.bool false) (s_as rfl) rfl rfl ?_
      refine TL_seq ?_
      refine T_ret' ?_
      refine p_blk_r ?_
      refine p_then_r ?_
      refine p_then_r ?_
      refine p_blk_r ?_
      refine p_then_r ?_
      refine ret_of rfl (.bool false) (fun tmps w hk hm => res1 rfl (res_tmp (hk 4 _ rfl))) (fun w hm => ?_)
      exact ⟨congrArg Ending.returned (bool_as (decide_eq_false (fun e => h2 (by have e3 := e.2.2; subst e3; rw [ht] at ht2; exact Option.some.inj ht2))).symm), hm.ext⟩
     ·replace h2 := of_decide_eq_true (bnot_f h2)
      refine T_skip' ?_
      refine p_blk_n ?_
      refine p_seq ?_
      refine T_region ?_
      refine TL_v (iN (k + 1)) (s_op r_add rfl rfl (iw (by omega) (by omega) (by omega))) rfl rfl ?_
      refine TL_v (iN (k + 1)) (s_mv rfl) rfl rfl ?_
      refine TL_nil ?_
      exact p_at (k + 1) ⟨⟨by omega, by rw [List.take_add_one, List.take_add_one, ht, ht2, hk2, h2]⟩, by omega⟩ (sc4 rfl rfl rfl rfl sub_nil) (sc rfl (sc rfl sub_nil))
    ·replace h1 := of_decide_eq_false h1
     refine T_exit' ?_
     refine p_then_x ?_
     refine p_then_x ?_
     refine p_blk_x ?_
     refine p_seq ?_
     refine T_seq (T_region ?_)
     refine TL_v (.bool true) (s_as rfl) rfl rfl ?_
     refine TL_seq ?_
     refine T_ret' ?_
     refine ret_of rfl (.bool true) (fun tmps w hk hm => res1 rfl (res_tmp (hk 4 _ rfl))) (fun w hm => ?_)
     have hk : k = ts.length := by omega
     subst hk
     exact ⟨congrArg Ending.returned (bool_as (decide_eq_true ⟨c1, c2, by rw [← List.take_length (l := ts), ← List.take_length (l := us), show us.length = ts.length by omega]; exact hk2⟩).symm), hm.ext⟩
   ·skip
    refine T_seq (T_region ?_)
    refine TL_v (pt B1 0) (s_fa fl24_0 sz3 rfl) rfl rfl ?_
    refine TL_v (.int .i64 x) (s_ld ag3 rfl 1 rfl rfl) rfl rfl ?_
    refine TL_v (pt B2 0) (s_fa fl24_0 sz3 rfl) rfl rfl ?_
    refine TL_v (.int .i64 x2) (s_ld ag3 rfl 2 rfl rfl) rfl rfl ?_
    refine TL_v (.bool false) (s_op r_neq rfl rfl (bool_as (by rw [decide_eq_true c1]; rfl))) rfl rfl ?_
    refine TL_v (.bool false) (s_mv rfl) rfl rfl ?_
    refine TL_q (pt B1 1) (s_fa fl24_1 sz3 rfl) rfl rfl rfl (want_y 12 rfl rfl rfl) ?_
    refine TL_q (.int .i64 y) (s_ld ag3 rfl 1 rfl rfl) rfl rfl rfl (want_y 12 rfl rfl rfl) ?_
    refine TL_q (pt B2 1) (s_fa fl24_1 sz3 rfl) rfl rfl rfl (want_y 12 rfl rfl rfl) ?_
    refine TL_q (.int .i64 y2) (s_ld ag3 rfl 2 rfl rfl) rfl rfl rfl (want_y 12 rfl rfl rfl) ?_
    refine TL_q (.bool false) (s_op r_neq rfl rfl (bool_as (by rw [decide_eq_true c2]; rfl))) rfl rfl rfl (want_y 12 rfl rfl rfl) ?_
    refine TL_v (.bool false) (s_pf rfl rfl) rfl rfl ?_
    refine TL_v (.bool false) (s_mv rfl) rfl rfl ?_
    refine TL_q (pt B1 2) (s_fa fl24_2 sz22 rfl) rfl rfl rfl (want_y 19 rfl rfl rfl) ?_
    refine TL_q (.slice a ts.length cap) (s_ld ag22 rfl 1 rfl rfl) rfl rfl rfl (want_y 19 rfl rfl rfl) ?_
    refine TL_q (iN ts.length) (fun _ _ j _ => r_len sl22 (j _ _ rfl)) rfl rfl rfl (want_y 19 rfl rfl rfl) ?_
    refine TL_q (pt B2 2) (s_fa fl24_2 sz22 rfl) rfl rfl rfl (want_y 19 rfl rfl rfl) ?_
    refine TL_q (.slice b us.length capb) (s_ld ag22 rfl 2 rfl rfl) rfl rfl rfl (want_y 19 rfl rfl rfl) ?_
    refine TL_q (iN us.length) (fun _ _ j _ => r_len sl22 (j _ _ rfl)) rfl rfl rfl (want_y 19 rfl rfl rfl) ?_
    refine TL_q (.bool true) (s_op r_neq rfl rfl (bool_as (by rw [decide_eq_false c3]; rfl))) rfl rfl rfl (want_y 19 rfl rfl rfl) ?_
    refine TL_v (.bool true) (s_pf rfl rfl) rfl rfl ?_
    refine TL_seq ?_
    refine T_cond_t rfl ?_
    refine T_seq (T_region ?_)
    refine TL_v (.bool false) (s_as rfl) rfl rfl ?_
    refine TL_seq ?_
    refine T_ret' ?_
    refine p_then_r ?_
    refine ret_of rfl (.bool false) (fun tmps w hk hm => res1 rfl (res_tmp (hk 4 _ rfl))) (fun w hm => ?_)
    exact ⟨congrArg Ending.returned (bool_as (decide_eq_false (fun e => c3 (by rw [e.2.2]))).symm), hm.ext⟩
  ·skip
   refine T_seq (T_region ?_)
   refine TL_v (pt B1 0) (s_fa fl24_0 sz3 rfl) rfl rfl ?_
   refine TL_v (.int .i64 x) (s_ld ag3 rfl 1 rfl rfl) rfl rfl ?_
   refine TL_v (pt B2 0) (s_fa fl24_0 sz3 rfl) rfl rfl ?_
   refine TL_v (.int .i64 x2) (s_ld ag3 rfl 2 rfl rfl) rfl rfl ?_
   refine TL_v (.bool false) (s_op r_neq rfl rfl (bool_as (by rw [decide_eq_true c1]; rfl))) rfl rfl ?_
   refine TL_v (.bool false) (s_mv rfl) rfl rfl ?_
   refine TL_q (pt B1 1) (s_fa fl24_1 sz3 rfl) rfl rfl rfl (want_y 12 rfl rfl rfl) ?_
   refine TL_q (.int .i64 y) (s_ld ag3 rfl 1 rfl rfl) rfl rfl rfl (want_y 12 rfl rfl rfl) ?_
   refine TL_q (pt B2 1) (s_fa fl24_1 sz3 rfl) rfl rfl rfl (want_y 12 rfl rfl rfl) ?_
   refine TL_q (.int .i64 y2) (s_ld ag3 rfl 2 rfl rfl) rfl rfl rfl (want_y 12 rfl rfl rfl) ?_
   refine TL_q (.bool true) (s_op r_neq rfl rfl (bool_as (by rw [decide_eq_false c2]; rfl))) rfl rfl rfl (want_y 12 rfl rfl rfl) ?_
   refine TL_v (.bool true) (s_pf rfl rfl) rfl rfl ?_
   refine TL_v (.bool true) (s_mv rfl) rfl rfl ?_
   refine TL_x 19 rfl rfl rfl rfl rfl ?_
   refine TL_x 19 rfl rfl rfl rfl rfl ?_
   refine TL_x 19 rfl rfl rfl rfl rfl ?_
   refine TL_x 19 rfl rfl rfl rfl rfl ?_
   refine TL_x 19 rfl rfl rfl rfl rfl ?_
   refine TL_x 19 rfl rfl rfl rfl rfl ?_
   refine TL_x 19 rfl rfl rfl rfl rfl ?_
   refine TL_v (.bool true) (s_pt rfl rfl) rfl rfl ?_
   refine TL_seq ?_
   refine T_cond_t rfl ?_
   refine T_seq (T_region ?_)
   refine TL_v (.bool false) (s_as rfl) rfl rfl ?_
   refine TL_seq ?_
   refine T_ret' ?_
   refine p_then_r ?_
   refine ret_of rfl (.bool false) (fun tmps w hk hm => res1 rfl (res_tmp (hk 4 _ rfl))) (fun w hm => ?_)
   exact ⟨congrArg Ending.returned (bool_as (decide_eq_false (fun e => by obtain ⟨e1, e2, e3⟩ := e; contradiction)).symm), hm.ext⟩
 ·skip
  refine T_seq (T_region ?_)
  refine TL_v (pt B1 0) (s_fa fl24_0 sz3 rfl) rfl rfl ?_
  refine TL_v (.int .i64 x) (s_ld ag3 rfl 1 rfl rfl) rfl rfl ?_
  refine TL_v (pt B2 0) (s_fa fl24_0 sz3 rfl) rfl rfl ?_
  refine TL_v (.int .i64 x2) (s_ld ag3 rfl 2 rfl rfl) rfl rfl ?_
  refine TL_v (.bool true) (s_op r_neq rfl rfl (bool_as (by rw [decide_eq_false c1]; rfl))) rfl rfl ?_
  refine TL_v (.bool true) (s_mv rfl) rfl rfl ?_
  refine TL_x 12 rfl rfl rfl rfl rfl ?_
  refine TL_x 12 rfl rfl rfl rfl rfl ?_
  refine TL_x 12 rfl rfl rfl rfl rfl ?_
  refine TL_x 12 rfl rfl rfl rfl rfl ?_
  refine TL_x 12 rfl rfl rfl rfl rfl ?_
  refine TL_v (.bool true) (s_pt rfl rfl) rfl rfl ?_
  refine TL_v (.bool true) (s_mv rfl) rfl rfl ?_
  refine TL_x 19 rfl rfl rfl rfl rfl ?_
  refine TL_x 19 rfl rfl rfl rfl rfl ?_
  refine TL_x 19 rfl rfl rfl rfl rfl ?_
  refine TL_x 19 rfl rfl rfl rfl rfl ?_
  refine TL_x 19 rfl rfl rfl rfl rfl ?_
  refine TL_x 19 rfl rfl rfl rfl rfl ?_
  refine TL_x 19 rfl rfl rfl rfl rfl ?_
  refine TL_v (.bool true) (s_pt rfl rfl) rfl rfl ?_
  refine TL_seq ?_
  refine T_cond_t rfl ?_
  refine T_seq (T_region ?_)
  refine TL_v (.bool false) (s_as rfl) rfl rfl ?_
  refine TL_seq ?_
  refine T_ret' ?_
  refine p_then_r ?_
  refine ret_of rfl (.bool false) (fun tmps w hk hm => res1 rfl (res_tmp (hk 4 _ rfl))) (fun w hm => ?_)
  exact ⟨congrArg Ending.returned (bool_as (decide_eq_false (fun e => by obtain ⟨e1, e2, e3⟩ := e; contradiction)).symm), hm.ext⟩
end Go.Proofs.Ytbiapeaghbndoaa
/- canvas: pixels of tiles in rows, read and written. -/
namespace Go.Proofs.Ytbiapeaghbndoaa
open Go Go.RowKit
theorem Row.inner {α β : Type} {s r : Nat} {f : α → List Value} {h : β → List Value} {cs : Array Value} {off : Nat} {l : List α} (hr : Row s f cs off l) {i : Nat} {x : α} (hx : l[i]? = some x) {m : List β} (hm : f x = m.flatMap h) (hf : (f x).length = s) (hh : ∀ y, (h y).length = r) : Row r h cs (off + i * s) m := by
  obtain ⟨h1, h2⟩ := hr i x hx
  intro j y hy
  have hj := (List.getElem?_eq_some_iff.1 hy).1
  have hl : m.length * r = s := by rw [← hf, hm, flat_len hh]
  have hle : j * r + r ≤ s := by
    have := Nat.mul_le_mul_right r (show j + 1 ≤ m.length from hj)
    rw [Nat.add_mul, Nat.one_mul] at this; omega
  refine ⟨by omega, ?_⟩
  have e1 : cs.extract (off + i * s + j * r) (off + i * s + j * r + r) = (cs.extract (off + i * s) (off + i * s + s)).extract (j * r) (j * r + r) := by
    rw [Array.extract_extract]
    congr 1
    omega
  rw [e1, h2, hm]
  have := (row_of_take (cs := (m.flatMap h).toArray) (l := m) hh (by show (m.flatMap h).take _ = _; rw [List.take_of_length_le (by rw [flat_len hh]; exact Nat.le_refl _)])) j y hy
  rw [Nat.zero_add] at this
  exact this.2
section
variable {P : Program} {w : World} {ρ : Operand → Value} {d : Option Tmp} {ty : TypeId} {ps : String} {af : Array Edge} {g : Option (Nat × Bool)} {x : Operand}
theorem r_loadPix {t b of i j : Nat} {cs : Array Value} {T : TypeId} {fz : Nat × Nat} {l : List T64} {u : T64} (ha : aggOf P t = some true) (hs : szOf P t = some 4) (hx : ρ x = .pointer (some ⟨b, of + i * 256 + j * 4, none⟩)) (hb : hp w b = some (.cells cs T fz)) (hr : Row 256 T64.cells cs of l) (hu : l[i]? = some u) (hj : j < 64) :
    (execOp ρ (mk d (.load t x) ty ps af g)).run P w = .ok (.value (.agg (get u.l j).cells.toArray)) w :=
  r_loadRow ha hs hx hb (hr.inner hu rfl (T64.cells_len u) C4.cells_len) (get_some u.h hj)
end
theorem flat_split {l : List C4} {j : Nat} (hj : j < l.length) (c : C4) : l.flatMap C4.cells = (l.take j).flatMap C4.cells ++ l[j].cells ++ (l.drop (j + 1)).flatMap C4.cells ∧ (l.set j c).flatMap C4.cells = (l.take j).flatMap C4.cells ++ c.cells ++ (l.drop (j + 1)).flatMap C4.cells := by
  refine ⟨?_, ?_⟩
  · conv => lhs; rw [← List.take_append_drop j l, List.drop_eq_getElem_cons hj]
    rw [List.flatMap_append, List.flatMap_cons, List.append_assoc]
  · rw [List.set_eq_take_append_cons_drop, if_pos hj, List.flatMap_append, List.flatMap_cons, List.append_assoc]
theorem wr_pix {l : List T64} {i j : Nat} {u : T64} (hu : l[i]? = some u) (hj : j < 64) (c : C4) (post : List Value) : wrC (l.flatMap T64.cells ++ post).toArray (0 + i * 256 + j * 4) c.cells = ((l.set i (u.set j c)).flatMap T64.cells ++ post).toArray := by
  have hj2 : j < u.l.length := by rw [u.h]; exact hj
  obtain ⟨h1, h2⟩ := flat_split hj2 c
  refine wr_part (f := T64.cells) (u := u) (u' := u.set j c) (pre := (u.l.take j).flatMap C4.cells) (mid := u.l[j].cells) (suf := (u.l.drop (j + 1)).flatMap C4.cells) (vs := c.cells) T64.cells_len hu h1 h2 (by rw [C4.cells_len, C4.cells_len]) _ ?_ post
  rw [flat_len C4.cells_len, List.length_take, Nat.min_eq_left (Nat.le_of_lt hj2)]; omega
theorem putD_at {wd hg p q : Nat} {ts : List T64} {t : T64} {c : C4} (hp : p < 8 * wd) (hq : q < 8 * hg) (ht : ts[q / 8 * wd + p / 8]? = some t) : putD wd hg ts ⟨(p : Int), (q : Int), c⟩ = ts.set (q / 8 * wd + p / 8) (t.set (q % 8 * 8 + p % 8) c) := by
  have h : onC wd hg (p : Int) (q : Int) = true := decide_eq_true ⟨by omega, by omega, by omega, by omega⟩
  unfold putD
  rw [if_pos h]
  show ts.set (q / 8 * wd + p / 8) ((tileAt ts (q / 8 * wd + p / 8)).set _ _) = _
  rw [tileAt_some ht]; rfl
end Go.Proofs.Ytbiapeaghbndoaa
/- canvas: references: New, On, At, Put, Puts. Printed by a program of this seat's prover. -/
namespace Go.Proofs.Ytbiapeaghbndoaa
open Go Go.RowKit
set_option maxRecDepth 10000
theorem on_c (wd hg n : Nat) (a : Option Addr) (cap : Nat) (x y : Int) (w : World) (hwd : 1 ≤ wd ∧ wd ≤ 4) (hhg : 1 ≤ hg ∧ hg ≤ 4) : Calls Try.prog 35 #[.agg #[.int .i64 (wd : Int), .int .i64 (hg : Int), .slice a n cap], .int .i64 x, .int .i64 y] w fun e w' => e = .returned (.bool (onC wd hg x y)) ∧ Below w.heap.size w w' := by
 refine calls_of_T (l := [.agg #[iN wd, iN hg, .slice a n cap], .int .i64 x, .int .i64 y]) 27 Try.func35 rfl rfl rfl ?_
 show T _ _ _ [(0, .agg #[iN wd, iN hg, .slice a n cap]), (1, .int .i64 x), (2, .int .i64 y)] []
 refine T_seq (T_region ?_)
 refine TL_new 1 (.cells #[iN wd, iN hg, .slice a n cap] 24) (fun B => pt B 0) (fun _ _ j _ => r_box (j _ _ rfl) rfl) rfl rfl rfl (w_n rfl) ?_
 intro B1
 refine TL_v (.bool false) (s_as rfl) rfl rfl ?_
 refine TL_seq ?_
 by_cases c1 : (0 : Int) ≤ x
 ·skip
  by_cases c2 : x < ((8 * wd : Nat) : Int)
  ·skip
   by_cases c3 : (0 : Int) ≤ y
   ·skip
    by_cases c4 : y < ((8 * hg : Nat) : Int)
    ·skip
     refine T_seq (T_region ?_)
     refine TL_v (.int .i64 x) (s_mv rfl) rfl rfl ?_
     refine TL_v (.bool true) (s_op r_geq rfl rfl (bool_as (decide_eq_true c1))) rfl rfl ?_
     refine TL_v (.bool true) (s_mv rfl) rfl rfl ?_
     refine TL_q (.int .i64 x) (s_mv rfl) rfl rfl rfl (want_y 9 rfl rfl rfl) ?_
     refine TL_q (pt B1 0) (s_fa fl24_0 sz3 rfl) rfl rfl rfl (want_y 9 rfl rfl rfl) ?_
     refine TL_q (iN wd) (s_ld ag3 rfl 1 rfl rfl) rfl rfl rfl (want_y 9 rfl rfl rfl) ?_
     refine TL_q (iN (8 * wd)) (s_op r_mul rfl rfl (iw (by omega) (by omega) (by omega))) rfl rfl rfl (want_y 9 rfl rfl rfl) ?_
     refine TL_q (.bool true) (s_op r_lss rfl rfl (bool_as (decide_eq_true c2))) rfl rfl rfl (want_y 9 rfl rfl rfl) ?_
     refine TL_v (.bool true) (s_pt rfl rfl) rfl rfl ?_
     refine TL_v (.bool true) (s_mv rfl) rfl rfl ?_
     refine TL_q (.int .i64 y) (s_mv rfl) rfl rfl rfl (want_y 16 rfl rfl rfl) ?_
     refine TL_q (.bool true) (s_op r_geq rfl rfl (bool_as (decide_eq_true c3))) rfl rfl rfl (want_y 16 rfl rfl rfl) ?_
     refine TL_v (.bool true) (s_pt rfl rfl) rfl rfl ?_
     refine TL_v (.bool true) (s_mv rfl) rfl rfl ?_
     refine TL_q (.int .i64 y) (s_mv rfl) rfl rfl rfl (want_y 20 rfl rfl rfl) ?_
     refine TL_q (pt B1 1) (s_fa fl24_1 sz3 rfl) rfl rfl rfl (want_y 20 rfl rfl rfl) ?_
     refine TL_q (iN hg) (s_ld ag3 rfl 1 rfl rfl) rfl rfl rfl (want_y 20 rfl rfl rfl) ?_
     refine TL_q (iN (8 * hg)) (s_op r_mul rfl rfl (iw (by omega) (by omega) (by omega))) rfl rfl rfl (want_y 20 rfl rfl rfl) ?_
     refine TL_q (.bool true) (s_op r_lss rfl rfl (bool_as (decide_eq_true c4))) rfl rfl rfl (want_y 20 rfl rfl rfl) ?_
     refine TL_v (.bool true) (s_pt rfl rfl) rfl rfl ?_
     refine TL_v (.bool true) (s_as rfl) rfl rfl ?_
     refine TL_seq ?_
     refine T_ret' ?_
     refine ret_of rfl (.bool true) (fun tmps w hk hm => res1 rfl (res_tmp (hk 6 _ rfl))) (fun w hm => ?_)
     exact ⟨congrArg Ending.returned (bool_as (decide_eq_true (by omega)).symm), hm.ext⟩
    ·skip
     refine T_seq (T_region ?_)
     refine TL_v (.int .i64 x) (s_mv rfl) rfl rfl ?_
     refine TL_v (.bool true) (s_op r_geq rfl rfl (bool_as (decide_eq_true c1))) rfl rfl ?_
     refine TL_v (.bool true) (s_mv rfl) rfl rfl ?_
     refine TL_q (.int .i64 x) (s_mv rfl) rfl rfl rfl (want_y 9 rfl rfl rfl) ?_
     refine TL_q (pt B1 0) (s_fa fl24_0 sz3 rfl) rfl rfl rfl (want_y 9 rfl rfl rfl) ?_
     refine TL_q (iN wd) (s_ld ag3 rfl 1 rfl rfl) rfl rfl rfl (want_y 9 rfl rfl rfl) ?_
     refine TL_q (iN (8 * wd)) (s_op r_mul rfl rfl (iw (by omega) (by omega) (by omega))) rfl rfl rfl (want_y 9 rfl rfl rfl) ?_
     refine TL_q (.bool true) (s_op r_lss rfl rfl (bool_as (decide_eq_true c2))) rfl rfl rfl (want_y 9 rfl rfl rfl) ?_
     refine TL_v (.bool true) (s_pt rfl rfl) rfl rfl ?_
     refine TL_v (.bool true) (s_mv rfl) rfl rfl ?_
     refine TL_q (.int .i64 y) (s_mv rfl) rfl rfl rfl (want_y 16 rfl rfl rfl) ?_
     refine TL_q (.bool true) (s_op r_geq rfl rfl (bool_as (decide_eq_true c3))) rfl rfl rfl (want_y 16 rfl rfl rfl) ?_
     refine TL_v (.bool true) (s_pt rfl rfl) rfl rfl ?_
     refine TL_v (.bool true) (s_mv rfl) rfl rfl ?_
     refine TL_q (.int .i64 y) (s_mv rfl) rfl rfl rfl (want_y 20 rfl rfl rfl) ?_
     refine TL_q (pt B1 1) (s_fa fl24_1 sz3 rfl) rfl rfl rfl (want_y 20 rfl rfl rfl) ?_
     refine TL_q (iN hg) (s_ld ag3 rfl 1 rfl rfl) rfl rfl rfl (want_y 20 rfl rfl rfl) ?_
     refine TL_q (iN (8 * hg)) (s_op r_mul rfl rfl (iw (by omega) (by omega) (by omega))) rfl rfl rfl (want_y 20 rfl rfl rfl) ?_
     refine TL_q (.bool false) (s_op r_lss rfl rfl (bool_as (decide_eq_false c4))) rfl rfl rfl (want_y 20 rfl rfl rfl) ?_
     refine TL_v (.bool false) (s_pt rfl rfl) rfl rfl ?_
     refine TL_v (.bool false) (s_as rfl) rfl rfl ?_
     refine TL_seq ?_
     refine T_ret' ?_
     refine ret_of rfl (.bool false) (fun tmps w hk hm => res1 rfl (res_tmp (hk 6 _ rfl))) (fun w hm => ?_)
     exact ⟨congrArg Ending.returned (bool_as (decide_eq_false (by omega)).symm), hm.ext⟩
   ·skip
    refine T_seq (T_region ?_)
    refine TL_v (.int .i64 x) (s_mv rfl) rfl rfl ?_
    refine TL_v (.bool true) (s_op r_geq rfl rfl (bool_as (decide_eq_true c1))) rfl rfl ?_
    refine TL_v (.bool true) (s_mv rfl) rfl rfl ?_
    refine TL_q (.int .i64 x) (s_mv rfl) rfl rfl rfl (want_y 9 rfl rfl rfl) ?_
    refine TL_q (pt B1 0) (s_fa fl24_0 sz3 rfl) rfl rfl rfl (want_y 9 rfl rfl rfl) ?_
    refine TL_q (iN wd) (s_ld ag3 rfl 1 rfl rfl) rfl rfl rfl (want_y 9 rfl rfl rfl) ?_
    refine TL_q (iN (8 * wd)) (s_op r_mul rfl rfl (iw (by omega) (by omega) (by omega))) rfl rfl rfl (want_y 9 rfl rfl rfl) ?_
    refine TL_q (.bool true) (s_op r_lss rfl rfl (bool_as (decide_eq_true c2))) rfl rfl rfl (want_y 9 rfl rfl rfl) ?_
    refine TL_v (.bool true) (s_pt rfl rfl) rfl rfl ?_
    refine TL_v (.bool true) (s_mv rfl) rfl rfl ?_
    refine TL_q (.int .i64 y) (s_mv rfl) rfl rfl rfl (want_y 16 rfl rfl rfl) ?_
    refine TL_q (.bool false) (s_op r_geq rfl rfl (bool_as (decide_eq_false c3))) rfl rfl rfl (want_y 16 rfl rfl rfl) ?_
    refine TL_v (.bool false) (s_pt rfl rfl) rfl rfl ?_
    refine TL_v (.bool false) (s_mv rfl) rfl rfl ?_
    refine TL_x 20 rfl rfl rfl rfl rfl ?_
    refine TL_x 20 rfl rfl rfl rfl rfl ?_
    refine TL_x 20 rfl rfl rfl rfl rfl ?_
    refine TL_x 20 rfl rfl rfl rfl rfl ?_
    refine TL_x 20 rfl rfl rfl rfl rfl ?_
    refine TL_v (.bool false) (s_pf rfl rfl) rfl rfl ?_
    refine TL_v (.bool false) (s_as rfl) rfl rfl ?_
    refine TL_seq ?_
    refine T_ret' ?_
    refine ret_of rfl (.bool false) (fun tmps w hk hm => res1 rfl (res_tmp (hk 6 _ rfl))) (fun w hm => ?_)
    exact ⟨congrArg Ending.returned (bool_as (decide_eq_false (by omega)).symm), hm.ext⟩
  ·skip
   refine T_seq (T_region ?_)
   refine TL_v (.int .i64 x) (s_mv rfl) rfl rfl ?_
   refine TL_v (.bool true) (s_op r_geq rfl rfl (bool_as (decide_eq_true c1))) rfl rfl ?_
   refine TL_v (.bool true) (s_mv rfl) rfl rfl ?_
   refine TL_q (.int .i64 x) (s_mv rfl) rfl rfl rfl (want_y 9 rfl rfl rfl) ?_
   refine TL_q (pt B1 0) (s_fa fl24_0 sz3 rfl) rfl rfl rfl (want_y 9 rfl rfl rfl) ?_
   refine TL_q (iN wd) (s_ld ag3 rfl 1 rfl rfl) rfl rfl rfl (want_y 9 rfl rfl rfl) ?_
   refine TL_q (iN (8 * wd)) (s_op r_mul rfl rfl (iw (by omega) (by omega) (by omega))) rfl rfl rfl (want_y 9 rfl rfl rfl) ?_
   refine TL_q (.bool false) (s_op r_lss rfl rfl (bool_as (decide_eq_false c2))) rfl rfl rfl (want_y 9 rfl rfl rfl) ?_
   refine TL_v (.bool false) (s_pt rfl rfl) rfl rfl ?_
   refine TL_v (.bool false) (s_mv rfl) rfl rfl ?_
   refine TL_x 16 rfl rfl rfl rfl rfl ?_
   refine TL_x 16 rfl rfl rfl rfl rfl ?_
   refine TL_v (.bool false) (s_pf rfl rfl) rfl rfl ?_
   refine TL_v (.bool false) (s_mv rfl) rfl rfl ?_
   refine TL_x 20 rfl rfl rfl rfl rfl ?_
   refine TL_x 20 rfl rfl rfl rfl rfl ?_
   refine TL_x 20 rfl rfl rfl rfl rfl ?_
   refine TL_x 20 rfl rfl rfl rfl rfl ?_
   refine TL_x 20 rfl rfl rfl rfl rfl ?_
   refine TL_v (.bool false) (s_pf rfl rfl) rfl rfl ?_
   refine TL_v (.bool false) (s_as rfl) rfl rfl ?_
   refine TL_seq ?_
   refine T_ret' ?_
   refine ret_of rfl (.bool false) (fun tmps w hk hm => res1 rfl (res_tmp (hk 6 _ rfl))) (fun w hm => ?_)
   exact ⟨congrArg Ending.returned (bool_as (decide_eq_false (by omega)).symm), hm.ext⟩
 ·skip
  refine T_seq (T_region ?_)
  refine TL_v (.int .i64 x) (s_mv rfl) rfl rfl ?_
  refine TL_v (.bool false) (s_op r_geq rfl rfl (bool_as (decide_eq_false c1))) rfl rfl ?_
  refine TL_v (.bool false) (s_mv rfl) rfl rfl ?_
  refine TL_x 9 rfl rfl rfl rfl rfl ?_
  refine TL_x 9 rfl rfl rfl rfl rfl ?_
  refine TL_x 9 rfl rfl rfl rfl rfl ?_
  refine TL_x 9 rfl rfl rfl rfl rfl ?_
  refine TL_x 9 rfl rfl rfl rfl rfl ?_
  refine TL_v (.bool false) (s_pf rfl rfl) rfl rfl ?_
  refine TL_v (.bool false) (s_mv rfl) rfl rfl ?_
  refine TL_x 16 rfl rfl rfl rfl rfl ?_
  refine TL_x 16 rfl rfl rfl rfl rfl ?_
  refine TL_v (.bool false) (s_pf rfl rfl) rfl rfl ?_
  refine TL_v (.bool false) (s_mv rfl) rfl rfl ?_
  refine TL_x 20 rfl rfl rfl rfl rfl ?_
  refine TL_x 20 rfl rfl rfl rfl rfl ?_
  refine TL_x 20 rfl rfl rfl rfl rfl ?_
  refine TL_x 20 rfl rfl rfl rfl rfl ?_
  refine TL_x 20 rfl rfl rfl rfl rfl ?_
  refine TL_v (.bool false) (s_pf rfl rfl) rfl rfl ?_
  refine TL_v (.bool false) (s_as rfl) rfl rfl ?_
  refine TL_seq ?_
  refine T_ret' ?_
  refine ret_of rfl (.bool false) (fun tmps w hk hm => res1 rfl (res_tmp (hk 6 _ rfl))) (fun w hm => ?_)
  exact ⟨congrArg Ending.returned (bool_as (decide_eq_false (by omega)).symm), hm.ext⟩

theorem rat_c (wd hg : Nat) (ts : List T64) (a : Option Addr) (cap : Nat) (w : World) (hs : SliceAt w a cap 256 T64.cells ts) (hlen : ts.length = wd * hg) (hwd : 1 ≤ wd ∧ wd ≤ 4) (hhg : 1 ≤ hg ∧ hg ≤ 4) (u v : Nat) (hu : u < 8 * wd) (hv : v < 8 * hg) : Calls Try.prog 36 #[.agg #[.int .i64 (wd : Int), .int .i64 (hg : Int), .slice a ts.length cap], .int .i64 (u : Int), .int .i64 (v : Int)] w fun e w' => e = .returned (colAt wd ts u v).v ∧ Below w.heap.size w w' := by
 have h16 := size4 hwd hhg
 refine calls_of_T (l := [.agg #[iN wd, iN hg, .slice a ts.length cap], iN u, iN v]) 26 Try.func36 rfl rfl rfl ?_
 show T _ _ _ [(0, .agg #[iN wd, iN hg, .slice a ts.length cap]), (1, iN u), (2, iN v)] []
 refine T_seq (T_region ?_)
 refine TL_new 1 (.cells #[iN wd, iN hg, .slice a ts.length cap] 24) (fun B => pt B 0) (fun _ _ j _ => r_box (j _ _ rfl) rfl) rfl rfl rfl (w_n rfl) ?_
 intro B1
 refine TL_new 2 (.cells #[z8, z8, z8, z8] 37) (fun B => pt B 0) (fun _ _ _ _ => r_alloc (v := .agg #[z8, z8, z8, z8]) (by kernel_rfl) rfl) rfl rfl rfl (w_n rfl) ?_
 intro B2
 refine TL_seq ?_
 have hix := idx_lt hu hv
 obtain ⟨t, ht⟩ : ∃ x, ts[((v / 8) * wd) + (u / 8)]? = some x := ⟨_, List.getElem?_eq_getElem (by omega)⟩
 obtain ⟨b3, of3, cs3, T3, fz3, ha3, hq3, hr3⟩ := hs.open (i := ((v / 8) * wd) + (u / 8)) (by omega)
 subst ha3
 refine T_seq (T_region ?_)
 refine TL_v (pt B1 2) (s_fa fl24_2 sz22 rfl) rfl rfl ?_
 refine TL_v (.slice (some ⟨b3, of3, none⟩) ts.length cap) (s_ld ag22 rfl 1 rfl rfl) rfl rfl ?_
 refine TL_v (iN v) (s_mv rfl) rfl rfl ?_
 refine TL_v (iN (v / 8)) (fun _ _ j _ => r_as (r_quo (j _ _ rfl) (j _ _ rfl) (by omega)) (int_as ((quo_i64 (by omega) (by omega) (by omega)).trans (by omega)))) rfl rfl ?_
 refine TL_v (pt B1 0) (s_fa fl24_0 sz3 rfl) rfl rfl ?_
 refine TL_v (iN wd) (s_ld ag3 rfl 1 rfl rfl) rfl rfl ?_
 refine TL_v (iN ((v / 8) * wd)) (s_op r_mul rfl rfl (iw (by omega) (by omega) (by omega))) rfl rfl ?_
 refine TL_v (iN u) (s_mv rfl) rfl rfl ?_
 refine TL_v (iN (u / 8)) (fun _ _ j _ => r_as (r_quo (j _ _ rfl) (j _ _ rfl) (by omega)) (int_as ((quo_i64 (by omega) (by omega) (by omega)).trans (by omega)))) rfl rfl ?_
 refine TL_v (iN (((v / 8) * wd) + (u / 8))) (s_op r_add rfl rfl (iw (by omega) (by omega) (by omega))) rfl rfl ?_
 refine TL_v (iN v) (s_mv rfl) rfl rfl ?_
 refine TL_v (iN (v % 8)) (fun _ _ j _ => r_as (r_rem (j _ _ rfl) (j _ _ rfl) (by omega)) (int_as ((Int.tmod_eq_emod_of_nonneg (by omega)).trans (by omega)))) rfl rfl ?_
 refine TL_v (iN ((v % 8) * 8)) (s_op r_mul rfl rfl (iw (by omega) (by omega) (by omega))) rfl rfl ?_
 refine TL_v (iN u) (s_mv rfl) rfl rfl ?_
 refine TL_v (iN (u % 8)) (fun _ _ j _ => r_as (r_rem (j _ _ rfl) (j _ _ rfl) (by omega)) (int_as ((Int.tmod_eq_emod_of_nonneg (by omega)).trans (by omega)))) rfl rfl ?_
 refine TL_v (iN (((v % 8) * 8) + (u % 8))) (s_op r_add rfl rfl (iw (by omega) (by omega) (by omega))) rfl rfl ?_
 refine TL_v (pt b3 (of3 + (((v / 8) * wd) + (u / 8)) * 256)) (fun _ _ j _ => r_indexAddrS (i := ((v / 8) * wd) + (u / 8)) sl22 sz39 (j _ _ rfl) (j _ _ rfl) (by omega)) rfl rfl ?_
 refine TL_v (pt b3 (of3 + (((v / 8) * wd) + (u / 8)) * 256 + (((v % 8) * 8) + (u % 8)) * 4)) (fun _ _ j _ => r_indexAddrA (i := ((v % 8) * 8) + (u % 8)) ar39 sz37 (j _ _ rfl) (j _ _ rfl) (by omega)) rfl rfl ?_
 refine TL_v (.agg #[.int .u8 ((get t.l (((v % 8) * 8) + (u % 8))).r), .int .u8 ((get t.l (((v % 8) * 8) + (u % 8))).g), .int .u8 ((get t.l (((v % 8) * 8) + (u % 8))).b), .int .u8 ((get t.l (((v % 8) * 8) + (u % 8))).a)]) (fun _ _ J hm => r_loadPix (i := ((v / 8) * wd) + (u / 8)) (j := (((v % 8) * 8) + (u % 8))) ag37 sz37 (J _ _ rfl) (hm.old hq3) hr3 ht (by omega)) rfl rfl ?_
 refine TL_store 2 (.cells #[.int .u8 ((get t.l (((v % 8) * 8) + (u % 8))).r), .int .u8 ((get t.l (((v % 8) * 8) + (u % 8))).g), .int .u8 ((get t.l (((v % 8) * 8) + (u % 8))).b), .int .u8 ((get t.l (((v % 8) * 8) + (u % 8))).a)] 37) rfl (s_st sz37 rfl rfl 2 rfl rfl rfl rfl rfl) rfl rfl (w_n rfl) ?_
 refine TL_seq ?_
 refine T_ret' ?_
 refine ret_of rfl (.agg #[.int .u8 ((get t.l (((v % 8) * 8) + (u % 8))).r), .int .u8 ((get t.l (((v % 8) * 8) + (u % 8))).g), .int .u8 ((get t.l (((v % 8) * 8) + (u % 8))).b), .int .u8 ((get t.l (((v % 8) * 8) + (u % 8))).a)]) (fun tmps w hk hm => res1 rfl (res_cell (hk 6 _ rfl) (run_loadVar_agg ag37 sz37 (hm.at 2 rfl) (Nat.le_of_ble_eq_true rfl) rfl))) (fun w hm => ?_)
 exact ⟨by unfold colAt; rw [tileAt_some ht, Nat.mul_comm 8 (v % 8)], hm.ext⟩

theorem rput_c (wd hg : Nat) (ts : List T64) (a : Option Addr) (cap : Nat) (w : World) (hs : SliceAt w a cap 256 T64.cells ts) (hlen : ts.length = wd * hg) (hwd : 1 ≤ wd ∧ wd ≤ 4) (hhg : 1 ≤ hg ∧ hg ≤ 4) (ux uy : Int) (uc : C4) : Calls Try.prog 69 #[.agg #[.int .i64 (wd : Int), .int .i64 (hg : Int), .slice a ts.length cap], .agg #[.int .i64 ux, .int .i64 uy, .int .u8 uc.r, .int .u8 uc.g, .int .u8 uc.b, .int .u8 uc.a]] w fun e w' => ∃ (tB : Bool) (a' : Option Addr) (cap' : Nat), e = .returned (.agg #[.int .i64 (wd : Int), .int .i64 (hg : Int), .slice a' ts.length cap']) ∧ (tB = false → a' = a ∧ cap' = cap ∧ putD wd hg ts ⟨ux, uy, uc⟩ = ts) ∧ Below w.heap.size w w' ∧ (Res.rowB tB (.slice a' ts.length cap') 39 256 ts.length ((putD wd hg ts ⟨ux, uy, uc⟩).flatMap T64.cells)).ok w.heap.size w' := by
 have h16 := size4 hwd hhg
 refine calls_of_T (l := [.agg #[iN wd, iN hg, .slice a ts.length cap], .agg #[.int .i64 ux, .int .i64 uy, .int .u8 uc.r, .int .u8 uc.g, .int .u8 uc.b, .int .u8 uc.a]]) 43 Try.func69 rfl rfl rfl ?_
 show T _ _ _ [(0, .agg #[iN wd, iN hg, .slice a ts.length cap]), (1, .agg #[.int .i64 ux, .int .i64 uy, .int .u8 uc.r, .int .u8 uc.g, .int .u8 uc.b, .int .u8 uc.a])] []
 refine T_seq (T_region ?_)
 refine TL_new 1 (.cells #[iN wd, iN hg, .slice a ts.length cap] 24) (fun B => pt B 0) (fun _ _ j _ => r_box (j _ _ rfl) rfl) rfl rfl rfl (w_n rfl) ?_
 intro B1
 refine TL_new 2 (.cells #[.int .i64 ux, .int .i64 uy, .int .u8 uc.r, .int .u8 uc.g, .int .u8 uc.b, .int .u8 uc.a] 51) (fun B => pt B 0) (fun _ _ j _ => r_box (j _ _ rfl) rfl) rfl rfl rfl (w_n rfl) ?_
 intro B2
 refine TL_new 3 (.cells #[.int .i64 0, .int .i64 0, .slice none 0 0] 24) (fun B => pt B 0) (fun _ _ _ _ => r_alloc (v := .agg #[.int .i64 0, .int .i64 0, .slice none 0 0]) (by kernel_rfl) rfl) rfl rfl rfl (w_n rfl) ?_
 intro B3
 refine TL_seq ?_
 refine T_seq ?_
 by_cases hon : onC wd hg ux uy = true
 ·skip
  refine T_seq (T_region ?_)
  refine TL_v (.agg #[iN wd, iN hg, .slice a ts.length cap]) (s_la ag24 sz24 rfl 1 rfl rfl rfl) rfl rfl ?_
  refine TL_v (pt B2 0) (s_fa fl51_0 sz3 rfl) rfl rfl ?_
  refine TL_v (.int .i64 ux) (s_ld ag3 rfl 2 rfl rfl) rfl rfl ?_
  refine TL_v (pt B2 1) (s_fa fl51_1 sz3 rfl) rfl rfl ?_
  refine TL_v (.int .i64 uy) (s_ld ag3 rfl 2 rfl rfl) rfl rfl ?_
  refine TL_call (.bool true) (fun _ _ j _ => r_call (args := [.agg #[iN wd, iN hg, .slice a ts.length cap], .int .i64 ux, .int .i64 uy]) (enters_of Try.func35 (by kernel_rfl) rfl) (j _ _ rfl) ((cons2 (j _ _ rfl) (cons2 (j _ _ rfl) (cons2 (j _ _ rfl) rfl)))) rfl) (fun w _ => (on_c wd hg ts.length a cap ux uy w hwd hhg).mono fun _ _ h => ⟨h.1.trans (congrArg Ending.returned (bool_as hon)), h.2⟩) rfl rfl rfl (w_n rfl) ?_
  refine TL_v (.bool false) (fun _ _ j _ => r_not (b := true) (j _ _ rfl)) rfl rfl ?_
  refine TL_seq ?_
  refine T_cond_f rfl ?_
  refine T_skip' ?_
  refine p_seq ?_
  obtain ⟨p, q, rfl, rfl, hp, hq⟩ := onC_nat hon
  have hix := idx_lt hp hq
  refine T_seq (T_region ?_)
  refine TL_new 4 (.cells #[] 39) (fun B => .slice (some ⟨B, 0, none⟩) 0 0) (fun _ _ _ _ => r_buildSlice (vs := []) (by kernel_rfl) rfl) rfl rfl rfl (w_n rfl) ?_
  intro B4
  refine TL_v (pt B1 2) (s_fa fl24_2 sz22 rfl) rfl rfl ?_
  refine TL_v (.slice a ts.length cap) (s_ld ag22 rfl 1 rfl rfl) rfl rfl ?_
  refine TL_mem ([(4, .row (.slice (some ⟨B4, 0, none⟩) 0 0) 39 256 0 []), (1, .blk B1 (.cells #[iN wd, iN hg, .slice a ts.length cap] 24)), (2, .blk B2 (.cells #[iN p, iN q, .int .u8 uc.r, .int .u8 uc.g, .int .u8 uc.b, .int .u8 uc.a] 51)), (3, .blk B3 (.cells #[.int .i64 0, .int .i64 0, .slice none 0 0] 24))]) (fun _ hm => MemOk.sub (hm.toRow (n := 0) (cap := 0) (s := 256) 4 rfl rfl (by omega) rfl _ rfl) (sc4 rfl rfl rfl rfl sub_nil)) ?_
  refine TL_append (n := 0) (m := ts.length) (xs := []) (news := (ts.flatMap T64.cells)) (z := .agg #[z8, z8, z8, z8, z8, z8, z8, z8, z8, z8, z8, z8, z8, z8, z8, z8, z8, z8, z8, z8, z8, z8, z8, z8, z8, z8, z8, z8, z8, z8, z8, z8, z8, z8, z8, z8, z8, z8, z8, z8, z8, z8, z8, z8, z8, z8, z8, z8, z8, z8, z8, z8, z8, z8, z8, z8, z8, z8, z8, z8, z8, z8, z8, z8, z8, z8, z8, z8, z8, z8, z8, z8, z8, z8, z8, z8, z8, z8, z8, z8, z8, z8, z8, z8, z8, z8, z8, z8, z8, z8, z8, z8, z8, z8, z8, z8, z8, z8, z8, z8, z8, z8, z8, z8, z8, z8, z8, z8, z8, z8, z8, z8, z8, z8, z8, z8, z8, z8, z8, z8, z8, z8, z8, z8, z8, z8, z8, z8, z8, z8, z8, z8, z8, z8, z8, z8, z8, z8, z8, z8, z8, z8, z8, z8, z8, z8, z8, z8, z8, z8, z8, z8, z8, z8, z8, z8, z8, z8, z8, z8, z8, z8, z8, z8, z8, z8, z8, z8, z8, z8, z8, z8, z8, z8, z8, z8, z8, z8, z8, z8, z8, z8, z8, z8, z8, z8, z8, z8, z8, z8, z8, z8, z8, z8, z8, z8, z8, z8, z8, z8, z8, z8, z8, z8, z8, z8, z8, z8, z8, z8, z8, z8, z8, z8, z8, z8, z8, z8, z8, z8, z8, z8, z8, z8, z8, z8, z8, z8, z8, z8, z8, z8, z8, z8, z8, z8, z8, z8, z8, z8, z8, z8, z8, z8, z8, z8, z8, z8, z8, z8, z8, z8, z8, z8, z8, z8]) 4 rfl rfl rfl sl22 sz39 by39 (by kernel_rfl) rfl rfl (.inl rfl) (fun _ hm => by have := src_of T64.cells_len (hs.keep hm.ext); simpa using this) tile_one1 (by omega) (by omega) rfl (w_n rfl) ?_
  intro a5 cap5
  refine TL_v (pt B1 2) (s_fa fl24_2 sz22 rfl) rfl rfl ?_
  refine TL_store 1 (.cells #[iN wd, iN hg, .slice a5 (0 + ts.length) cap5] 24) rfl (s_st sz22 rfl rfl 1 rfl rfl rfl rfl rfl) rfl rfl (w_n rfl) ?_
  refine TL_seq ?_
  rw [Nat.zero_add, List.nil_append]
  obtain ⟨t, ht⟩ : ∃ x, ts[((q / 8) * wd) + (p / 8)]? = some x := ⟨_, List.getElem?_eq_getElem (by omega)⟩
  refine T_row 4 rfl (by omega) (fun g6 ha6 => ?_)
  subst ha6
  refine T_rowcap 4 rfl (fun hrc6 => ?_)
  refine T_seq (T_draw (V := [(0, pt B1 2), (1, .slice (some ⟨g6, 0, none⟩) ts.length cap5), (2, pt B2 1), (3, iN q), (4, iN (q / 8)), (5, pt B1 0), (6, iN wd), (7, iN ((q / 8) * wd)), (8, pt B2 0), (9, iN p), (10, iN (p / 8)), (11, iN (((q / 8) * wd) + (p / 8))), (12, pt B2 1), (13, iN q), (14, iN (q % 8)), (15, iN ((q % 8) * 8)), (16, pt B2 0), (17, iN p), (18, iN (p % 8)), (19, iN (((q % 8) * 8) + (p % 8))), (20, pt B2 2), (21, .agg #[.int .u8 uc.r, .int .u8 uc.g, .int .u8 uc.b, .int .u8 uc.a]), (22, pt g6 (0 + (((q / 8) * wd) + (p / 8)) * 256)), (23, pt g6 (0 + (((q / 8) * wd) + (p / 8)) * 256 + (((q % 8) * 8) + (p % 8)) * 4))]) [0, 1, 0, 4, 12, 0, 32, 124, 0, 256, 768, 2044, 0, 4096, 12288, 28672, 0, 65536, 196608, 520192, 0, 1048576, 4095, 8388607, 16777215] [[(2, none)], [(18, some 0)], [(3, none)], [(20, some 2)], [(21, some 3)], [(2, none)], [(23, some 5)], [(22, some 4), (24, some 6)], [(3, none)], [(26, some 8)], [(27, some 9)], [(25, some 7), (28, some 10)], [(3, none)], [(30, some 12)], [(31, some 13)], [(32, some 14)], [(3, none)], [(34, some 16)], [(35, some 17)], [(33, some 15), (36, some 18)], [(3, none)], [(38, some 20)], [(19, some 1), (29, some 11)], [(40, some 22), (37, some 19)], [(41, some 23), (39, some 21)]] 16777216 mixed (by kernel_rfl) ?_)
  refine G_step [0, 1, 2, 3, 4, 5, 6, 7, 8, 9, 10, 11, 12, 13, 14, 15, 16, 17, 18, 19, 20, 21, 22, 23] 24 [] (by kernel_rfl) (allM (all_cons (q_r (pt B1 2) rfl rfl rfl (s_fa fl24_2 sz22 rfl)) (all_cons (q_r (.slice (some ⟨g6, 0, none⟩) ts.length cap5) rfl rfl rfl (s_ld ag22 rfl 1 rfl rfl)) (all_cons (q_r (pt B2 1) rfl rfl rfl (s_fa fl51_1 sz3 rfl)) (all_cons (q_r (iN q) rfl rfl rfl (s_ld ag3 rfl 2 rfl rfl)) (all_cons (q_r (iN (q / 8)) rfl rfl rfl (fun _ _ j _ => r_as (r_quo (j _ _ rfl) (j _ _ rfl) (by omega)) (int_as ((quo_i64 (by omega) (by omega) (by omega)).trans (by omega))))) (all_cons (q_r (pt B1 0) rfl rfl rfl (s_fa fl24_0 sz3 rfl)) (all_cons (q_r (iN wd) rfl rfl rfl (s_ld ag3 rfl 1 rfl rfl)) (all_cons (q_r (iN ((q / 8) * wd)) rfl rfl rfl (s_op r_mul rfl rfl (iw (by omega) (by omega) (by omega)))) (all_cons (q_r (pt B2 0) rfl rfl rfl (s_fa fl51_0 sz3 rfl)) (all_cons (q_r (iN p) rfl rfl rfl (s_ld ag3 rfl 2 rfl rfl)) (all_cons (q_r (iN (p / 8)) rfl rfl rfl (fun _ _ j _ => r_as (r_quo (j _ _ rfl) (j _ _ rfl) (by omega)) (int_as ((quo_i64 (by omega) (by omega) (by omega)).trans (by omega))))) (all_cons (q_r (iN (((q / 8) * wd) + (p / 8))) rfl rfl rfl (s_op r_add rfl rfl (iw (by omega) (by omega) (by omega)))) (all_cons (q_r (pt B2 1) rfl rfl rfl (s_fa fl51_1 sz3 rfl)) (all_cons (q_r (iN q) rfl rfl rfl (s_ld ag3 rfl 2 rfl rfl)) (all_cons (q_r (iN (q % 8)) rfl rfl rfl (fun _ _ j _ => r_as (r_rem (j _ _ rfl) (j _ _ rfl) (by omega)) (int_as ((Int.tmod_eq_emod_of_nonneg (by omega)).trans (by omega))))) (all_cons (q_r (iN ((q % 8) * 8)) rfl rfl rfl (s_op r_mul rfl rfl (iw (by omega) (by omega) (by omega)))) (all_cons (q_r (pt B2 0) rfl rfl rfl (s_fa fl51_0 sz3 rfl)) (all_cons (q_r (iN p) rfl rfl rfl (s_ld ag3 rfl 2 rfl rfl)) (all_cons (q_r (iN (p % 8)) rfl rfl rfl (fun _ _ j _ => r_as (r_rem (j _ _ rfl) (j _ _ rfl) (by omega)) (int_as ((Int.tmod_eq_emod_of_nonneg (by omega)).trans (by omega))))) (all_cons (q_r (iN (((q % 8) * 8) + (p % 8))) rfl rfl rfl (s_op r_add rfl rfl (iw (by omega) (by omega) (by omega)))) (all_cons (q_r (pt B2 2) rfl rfl rfl (s_fa fl51_2 sz37 rfl)) (all_cons (q_r (.agg #[.int .u8 uc.r, .int .u8 uc.g, .int .u8 uc.b, .int .u8 uc.a]) rfl rfl rfl (s_la ag37 sz37 rfl 2 rfl rfl rfl)) (all_cons (q_r (pt g6 (0 + (((q / 8) * wd) + (p / 8)) * 256)) rfl rfl rfl (fun _ _ j _ => r_indexAddrS (i := ((q / 8) * wd) + (p / 8)) sl22 sz39 (j _ _ rfl) (j _ _ rfl) (by omega))) (all_cons (q_r (pt g6 (0 + (((q / 8) * wd) + (p / 8)) * 256 + (((q % 8) * 8) + (p % 8)) * 4)) rfl rfl rfl (fun _ _ j _ => r_indexAddrA (i := ((q % 8) * 8) + (p % 8)) ar39 sz37 (j _ _ rfl) (j _ _ rfl) (by omega))) all_nil))))))))))))))))))))))))) (allM (all_cons ?_ all_nil))
  refine LOb_opS _ [] rfl (wv_n rfl) rfl rfl (fun _ _ j hm => o_storeC (xs' := (ts.set (((q / 8) * wd) + (p / 8)) (t.set (((q % 8) * 8) + (p % 8)) uc)).flatMap T64.cells) 4 rfl (j _ _ rfl) (j _ _ rfl) sz37 rfl rfl (by omega) (by rw [flat_len T64.cells_len, List.length_set]) (fun post => wr_pix ht (by omega) uc post) hm) (by kernel_rfl) ?_
  refine G_last [] [(2, pt B1 0), (4, pt B3 0)] (by kernel_rfl) (allM all_nil) (end_old rfl rfl (end_old rfl rfl end_nil)) ?_
  refine T_seq (T_region ?_)
  refine TL_v (.agg #[iN wd, iN hg, .slice (some ⟨g6, 0, none⟩) ts.length cap5]) (s_la ag24 sz24 rfl 1 rfl rfl rfl) rfl rfl ?_
  refine TL_store 3 (.cells #[iN wd, iN hg, .slice (some ⟨g6, 0, none⟩) ts.length cap5] 24) rfl (s_st sz24 rfl rfl 3 rfl rfl rfl rfl rfl) rfl rfl (w_n rfl) ?_
  refine TL_seq ?_
  refine T_ret' ?_
  refine ret_of rfl (.agg #[iN wd, iN hg, .slice (some ⟨g6, 0, none⟩) ts.length cap5]) (fun tmps w hk hm => res1 rfl (res_cell (hk 4 _ rfl) (run_loadVar_agg ag24 sz24 (hm.at 3 rfl) (Nat.le_of_ble_eq_true rfl) rfl))) (fun w hm => ?_)
  exact ⟨true, some ⟨g6, 0, none⟩, cap5, rfl, (fun h => by cases h), hm.ext, rowB_own (by rw [putD_at hp hq ht]; exact hm.row 4 rfl)⟩
 ·skip
  refine T_seq (T_region ?_)
  refine TL_v (.agg #[iN wd, iN hg, .slice a ts.length cap]) (s_la ag24 sz24 rfl 1 rfl rfl rfl) rfl rfl ?_
  refine TL_v (pt B2 0) (s_fa fl51_0 sz3 rfl) rfl rfl ?_
  refine TL_v (.int .i64 ux) (s_ld ag3 rfl 2 rfl rfl) rfl rfl ?_
  refine TL_v (pt B2 1) (s_fa fl51_1 sz3 rfl) rfl rfl ?_
  refine TL_v (.int .i64 uy) (s_ld ag3 rfl 2 rfl rfl) rfl rfl ?_
  refine TL_call (.bool false) (fun _ _ j _ => r_call (args := [.agg #[iN wd, iN hg, .slice a ts.length cap], .int .i64 ux, .int .i64 uy]) (enters_of Try.func35 (by kernel_rfl) rfl) (j _ _ rfl) ((cons2 (j _ _ rfl) (cons2 (j _ _ rfl) (cons2 (j _ _ rfl) rfl)))) rfl) (fun w _ => (on_c wd hg ts.length a cap ux uy w hwd hhg).mono fun _ _ h => ⟨h.1.trans (congrArg Ending.returned (bool_as (eq_false_of_ne_true hon))), h.2⟩) rfl rfl rfl (w_n rfl) ?_
  refine TL_v (.bool true) (fun _ _ j _ => r_not (b := false) (j _ _ rfl)) rfl rfl ?_
  refine TL_seq ?_
  refine T_cond_t rfl ?_
  refine T_seq (T_region ?_)
  refine TL_v (.agg #[iN wd, iN hg, .slice a ts.length cap]) (s_la ag24 sz24 rfl 1 rfl rfl rfl) rfl rfl ?_
  refine TL_store 3 (.cells #[iN wd, iN hg, .slice a ts.length cap] 24) rfl (s_st sz24 rfl rfl 3 rfl rfl rfl rfl rfl) rfl rfl (w_n rfl) ?_
  refine TL_seq ?_
  refine T_ret' ?_
  refine p_then_r ?_
  refine ret_of rfl (.agg #[iN wd, iN hg, .slice a ts.length cap]) (fun tmps w hk hm => res1 rfl (res_cell (hk 4 _ rfl) (run_loadVar_agg ag24 sz24 (hm.at 3 rfl) (Nat.le_of_ble_eq_true rfl) rfl))) (fun w hm => ?_)
  exact ⟨false, a, cap, rfl, fun _ => ⟨rfl, rfl, putD_no hon⟩, hm.ext, rowB_no⟩

end Go.Proofs.Ytbiapeaghbndoaa
/- canvas: references: Differ, Kept; dots of one colour. Printed by a program of this seat's prover. -/
namespace Go.Proofs.Ytbiapeaghbndoaa
open Go Go.RowKit
set_option maxRecDepth 10000
theorem CvNew.before {w w1 w2 : World} {l : List Cv} {d : Cv} (h : CvNew w1 w2 l d) (hb : Below w.heap.size w w1) : CvNew w w2 l d :=
 ⟨below_call hb (Nat.le_refl _) h.below, h.at', fun b hf => (h.foot b hf).imp (fun h1 => Nat.le_trans hb.size h1) id⟩
theorem CvNew.after {w w1 w2 : World} {l : List Cv} {d : Cv} (h : CvNew w w1 l d) (hb : Below w1.heap.size w1 w2) : CvNew w w2 l d :=
 ⟨below_call h.below (Nat.le_refl _) hb, h.at'.below hb, h.foot⟩
theorem Shares.before {n m : Nat} {c d : Cv} (h : Shares m c d) (hn : n ≤ m) : Shares n c d := fun i q hq => by
 obtain ⟨r, h1, h2, h3⟩ := h i q hq
 exact ⟨r, h1, h2, h3.imp id fun h4 => Nat.le_trans hn h4⟩

end Go.Proofs.Ytbiapeaghbndoaa
/- Deferred calls; calls of what has no body. Over any program. -/
namespace Go.Proofs.Ytbiapeaghbndoaa
open Go Go.RowKit

section
variable {P : Program} {w w' : World} {ρ : Operand → Value} {d : Option Tmp} {ty : TypeId} {ps : String} {af : Array Edge} {g : Option (Nat × Bool)}
theorem r_defer {f : Nat} {fop : Operand} {opl : List Operand} {first cap : Array Value} {args : List Value} {ats : Array TypeId} {all : Array Value} (hf : ρ fop = .func (.func f) first cap) (ha : opl.map ρ = args) (hall : first ++ args.toArray = all) :
    (execOp ρ (mk d (.defer { callee := .value fop, args := opl.toArray, argTypes := ats }) ty ps af g)).run P w = .ok (.defer { target := .fn (.func f) cap, args := all }) w := by
  subst ha hall
  show (do pure (.defer (← resolve ρ _ ty)) : Sem Next).run P w = _
  simp only [resolve, hf]
  rw [run_bind_ok (a := { target := .fn (.func f) cap, args := first ++ (opl.map ρ).toArray }) (w' := w)]
  · rfl
  · simp only [Deferred.ofValue, List.map_toArray]
    rfl
end
abbrev Cx.push (C : Cx) (d : Deferred) : Cx := ⟨C.P, C.w₀, C.N, d :: C.D, C.ro⟩
section
variable {C : Cx} {ops : Array Oper} {os : List Oper} {Q : Post} {K : List (Nat × Value)} {L : Heap} {o : Oper}
theorem TL_defer (dd : Deferred) (hro : C.ro = none) (hr : ∀ ρ w, Rd K ρ → MemOk C.w₀ L w → (execOp ρ o).run C.P w = .ok (.defer dd) w) (hd : o.dst = none) (hw : Want ops K o true)
    (h : TL (C.push dd) ops os Q K L) : TL C ops (o :: os) Q K L := by
  obtain ⟨P, w₀, N, CD, ro⟩ := C
  cases hro
  intro a w hf hm
  unfold wpListIn
  rw [hw.is hf, if_pos rfl]
  refine ⟨fun _ _ => trivial, ?_⟩
  show o.uponIn _ _ _ _ _ _ ((execOp a.eval o).run P w)
  rw [hr _ _ hf.rd hm, Oper.uponIn_defer, hd]
  exact h _ _ ⟨hf.size, by show dd :: a.defers = _; rw [hf.defers], hf.knows⟩ hm
end
section
variable {C : Cx} {K : List (Nat × Value)} {L : Heap}
theorem ht_of_TD {P : Program} {f : FuncId} {fn : Func} {c : Code} {l : List Value} {w₀ : World} {L : Heap} {R : Ending → World → Prop} (N : Nat) (hf : P.funcs[f]? = some fn) (hN : fn.ntmps = N) (hn : Nat.ble l.length N = true) (hb : fn.body = some c)
    (h : T ⟨P, w₀, N, [], none⟩ c (bodyPostD P fn R) (argsK 0 l) L) : ∀ w, MemOk w₀ L w → Calls P f l.toArray w R := by
  intro w hm
  subst hN
  replace hn := Nat.le_of_ble_eq_true hn
  refine calls_of_wp_defers hf hb (wpIn_wide.1 (h _ w ?_ hm))
  refine lk_args (by simpa using hn) _ (fun t v ht => ?_)
  obtain ⟨_, h2⟩ := argsK_lk l 0 t v ht
  simpa using h2
theorem ret_ofP {fn : Func} {R : Ending → World → Prop} (hD : C.D = []) (v : Value)
    (hr : ∀ tmps w, (∀ t u, lk K t = some u → tmps.getD t undef = u) → MemOk C.w₀ L w → (results fn tmps).run C.P w = .ok v w) (hR : ∀ w, MemOk C.w₀ L w → R (.returned v) w) : POk C (bodyPost C.P fn R) .ret K L :=
  fun _ w hf hm => ⟨hf.defers.trans hD, v, hr _ _ hf.knows hm, hR w hm⟩
theorem p_endP {fn : Func} {R : Ending → World → Prop} (h : POk C (bodyPost C.P fn R) .ret K L) : POk C (bodyPost C.P fn R) .normal K L := h
theorem ret_ofD {fn : Func} {R : Ending → World → Prop} (ds : List Deferred) (hD : C.D = ds)
    (h : ∀ tmps, (∀ t u, lk K t = some u → tmps.getD t undef = u) → ∀ w, MemOk C.w₀ L w → Leaves C.P fn tmps R ds .returning w) : POk C (bodyPostD C.P fn R) .ret K L := fun a w hf hm => by
  show Leaves _ _ _ _ a.defers _ _
  rw [hf.defers.trans hD]
  exact h _ hf.knows w hm
theorem leavesH_cons {P : Program} {w₀ : World} {fn : Func} {tmps : Array Value} {R : Ending → World → Prop} {f : Nat} {cap args : Array Value} {ds : List Deferred} {L L' : Heap} {v : Value} (hE : Enters P f)
    (hc : ∀ w, MemOk w₀ L w → CallsD P f (args ++ cap) .returning w fun e u' w' => u' = .returning ∧ (e = .returned v ∧ MemOk w₀ L' w')) (h : ∀ w, MemOk w₀ L' w → Leaves P fn tmps R ds .returning w) :
    ∀ w, MemOk w₀ L w → Leaves P fn tmps R ({ target := .fn (.func f) cap, args := args } :: ds) .returning w := fun w hm => by
  refine ⟨by simp, .func f, cap, f, args ++ cap, rfl, hE _ w, (hc w hm).mono ?_⟩
  rintro e u' w' ⟨rfl, rfl, hm'⟩
  exact h w' hm'
theorem leavesH_nil {P : Program} {w₀ : World} {fn : Func} {tmps : Array Value} {R : Ending → World → Prop} {L : Heap} (v : Value) (hr : ∀ w, MemOk w₀ L w → (results fn tmps).run P w = .ok v w) (hR : ∀ w, MemOk w₀ L w → R (.returned v) w) :
    ∀ w, MemOk w₀ L w → Leaves P fn tmps R [] .returning w := fun w hm => ⟨v, hr w hm, hR w hm⟩
end
end Go.Proofs.Ytbiapeaghbndoaa
/- A scope with jumps back to one label. Over any program. -/
namespace Go.Proofs.Ytbiapeaghbndoaa
open Go Go.RowKit
theorem least {P : Nat → Prop} : ∀ n, P n → ∃ m, P m ∧ ∀ k, P k → m ≤ k := by
  intro n
  induction n using Nat.strongRecOn with
  | _ n ih =>
    intro h
    by_cases hx : ∃ k, k < n ∧ P k
    · obtain ⟨k, h1, h2⟩ := hx; exact ih k h1 h2
    · exact ⟨n, h, fun k hk => Nat.le_of_not_lt fun hlt => hx ⟨k, hlt, hk⟩⟩
section
variable {C : Cx} {Q : Post} {K : List (Nat × Value)} {L : Heap}
theorem T_jumps {ι : Type} (l : Nat) (p : ι → Prop) (KI : ι → List (Nat × Value)) (LI : ι → Heap) (μ : ι → Nat) {c rest : Code} (hro : C.ro = none) (hl : findLabel c l = some rest)
    (first : T C c (Exit.jump l (At C p KI LI) Q) K L) (pass : ∀ i, p i → T C rest (Exit.jump l (At C (fun j => p j ∧ μ j < μ i) KI LI) Q) (KI i) (LI i)) : T C (.scope c) Q K L := by
  obtain ⟨P, w₀, N, CD, ro⟩ := C
  cases hro
  intro a w hf hm
  let good : Act → World → Nat → Prop := fun a w m => ∃ i, p i ∧ μ i = m ∧ FrOk N CD (KI i) a ∧ MemOk w₀ (LI i) w
  have hex : ∀ a w, ∃ m, (∀ n, good a w n → good a w m) ∧ ∀ k, good a w k → m ≤ k := fun a w => by
    by_cases h : ∃ n, good a w n
    · obtain ⟨n, hn⟩ := h
      obtain ⟨m, h1, h2⟩ := least n hn
      exact ⟨m, fun _ _ => h1, h2⟩
    · exact ⟨0, fun n hn => absurd ⟨n, hn⟩ h, fun k _ => Nat.zero_le _⟩
  let M : Act → World → Nat := fun a w => Classical.choose (hex a w)
  have hM : ∀ a w, (∀ n, good a w n → good a w (M a w)) ∧ ∀ k, good a w k → M a w ≤ k := fun a w => Classical.choose_spec (hex a w)
  refine (wpIn_wide (n := 0)).2 (wp_scope_jumps l (At ⟨P, w₀, N, CD, none⟩ p KI LI) M hl (wpIn_wide.1 (first a w hf hm)) ?_)
  rintro a w ⟨i, hi, hF, hMm⟩
  obtain ⟨i, hi, hμ, hF, hMm⟩ := (hM a w).1 (μ i) ⟨i, hi, rfl, hF, hMm⟩
  refine wpIn_wide.1 (wpIn_mono (pass i hi a w hF hMm) ?_)
  intro e a' w' hq
  cases e with
  | normal => exact hq
  | exit id => exact hq
  | goto l' =>
    obtain ⟨rfl, j, ⟨hj, hlt⟩, h1, h2⟩ := hq
    exact ⟨rfl, ⟨j, hj, h1, h2⟩, by have := (hM a' w').2 (μ j) ⟨j, hj, rfl, h1, h2⟩; omega⟩
  | ret => exact hq
  | panic ch => exact hq
  | outgrown => exact hq
theorem T_goto {l : Nat} (h : POk C Q (.goto l) K L) : T C (.goto l) Q K L := fun a w hf hm => wpIn_goto (h a w hf hm)
theorem p_then_g {next : Act → World → Prop} {l : Nat} (h : POk C Q (.goto l) K L) : POk C (Exit.then next Q) (.goto l) K L := h
theorem p_jmp {ι : Type} {p : ι → Prop} {KJ : ι → List (Nat × Value)} {LJ : ι → Heap} {l : Nat} (i : ι) (hp : p i) (hK : SubK K (KJ i)) (hL : SubK L (LJ i)) : POk C (Exit.jump l (At C p KJ LJ) Q) (.goto l) K L :=
  fun _ _ hf hm => ⟨rfl, At_intro i hp hf hm hK hL⟩
theorem p_j_r {l : Nat} {J : Act → World → Prop} (h : POk C Q .ret K L) : POk C (Exit.jump l J Q) .ret K L := h
end
end Go.Proofs.Ytbiapeaghbndoaa
/- Panics, and what recovers of them. Over any program. -/
namespace Go.Proofs.Ytbiapeaghbndoaa
open Go Go.RowKit

section
variable {P : Program} {w : World} {ρ : Operand → Value} {d : Option Tmp} {ty : TypeId} {ps : String} {af : Array Edge} {g : Option (Nat × Bool)} {x : Operand}
theorem r_panic {t : TypeId} {v : Value} (h : ρ x = .iface t v) : (execOp ρ (mk d (.panic x) ty ps af g)).run P w = .halt (.panic (.iface t v)) w := by
  show (do pure (Next.value (← Instr.panic (ρ x))) : Sem Next).run P w = _
  rw [h]; rfl
theorem r_makeIface {t : TypeId} {v : Value} (ht : P.concrete t = true) (h : ρ x = v) : (execOp ρ (mk d (.makeInterface t x) ty ps af g)).run P w = .ok (.value (.iface t v)) w := by
  refine run_v ?_
  rw [h]; exact run_makeInterface _ _ _ ht
theorem r_typeAssert {t u : TypeId} {v r : Value} {ok : Bool} (h : ρ x = v) (hr : (Instr.typeAssert v t u ok).run P w = .ok r w) : (execOp ρ (mk d (.typeAssert x t u ok) ty ps af g)).run P w = .ok (.value r) w := by
  refine run_v ?_
  rw [h]; exact hr
variable {y : Operand}
theorem r_eqI {op : BinOp} {t t' : TypeId} {a : Value} {r : Bool} (hg : (eqGuard op t x y a .nilIface).run P w = .ok () w) (hx : ρ x = a) (hy : ρ y = .nilIface) (h : (binOp op t a .nilIface).run P w = .ok (.bool r) w) :
    (execOp ρ (mk d (.binOp op t x y t') ty ps af g)).run P w = .ok (.value (.bool r)) w := run_eqv hg hx hy h
end
def PAns (w₀ : World) {κ : Type} (q : κ → Prop) (x : κ → Value) (LX : κ → Heap) (e : Ending) (w' : World) : Prop := ∃ k, q k ∧ e = .panicked [{ v := x k, recovered := false }] ∧ MemOk w₀ (LX k) w'
section
variable {C : Cx} {ops : Array Oper} {os : List Oper} {Q : Post} {K : List (Nat × Value)} {L : Heap} {o : Oper} {ch : List PanicEntry}
theorem p_then_p {next : Act → World → Prop} (h : POk C Q (.panic ch) K L) : POk C (Exit.then next Q) (.panic ch) K L := h
theorem TL_panic {v : Value} (hr : ∀ ρ w, Rd K ρ → MemOk C.w₀ L w → (execOp ρ o).run C.P w = .halt (.panic v) w) (hn : isDefer o.op = false) (hw : Want ops K o true) (h : POk C Q (.panic [{ v, recovered := false }]) K L) : TL C ops (o :: os) Q K L := by
  intro a w hf hm
  unfold wpListIn
  rw [hw.is hf, if_pos rfl]
  exact step_panic hn (hr _ _ hf.rd hm) (h a w hf hm)
theorem TL_callP {κ : Type} {f : Nat} {args : Array Value} (q : κ → Prop) (x : κ → Value) (LX : κ → Heap) (hr : ∀ ρ w, Rd K ρ → MemOk C.w₀ L w → (execOp ρ o).run C.P w = .ok (.enter f args) w)
    (hc : ∀ w, MemOk C.w₀ L w → Calls C.P f args w (PAns C.w₀ q x LX)) (hn : isDefer o.op = false) (hw : Want ops K o true)
    (h : ∀ k, q k → POk C Q (.panic [{ v := x k, recovered := false }]) K (LX k)) : TL C ops (o :: os) Q K L := by
  intro a w hf hm
  unfold wpListIn
  rw [hw.is hf, if_pos rfl]
  refine step_enter hn (hr _ _ hf.rd hm) (hc w hm) ?_
  rintro e w' ⟨k, hk, rfl, hm'⟩
  exact h k hk _ _ hf hm'
theorem TL_callQ {f : Nat} {args : Array Value} {v : Value} (hr : ∀ ρ w, Rd K ρ → MemOk C.w₀ L w → (execOp ρ o).run C.P w = .ok (.enter f args) w)
    (hc : ∀ w, MemOk C.w₀ L w → Calls C.P f args w fun e w' => e = .panicked [{ v, recovered := false }] ∧ Below w.heap.size w w') (hn : isDefer o.op = false) (hw : Want ops K o true)
    (h : POk C Q (.panic [{ v, recovered := false }]) K L) : TL C ops (o :: os) Q K L :=
  TL_callP (κ := Unit) (fun _ => True) (fun _ => v) (fun _ => L) hr (fun w hm => (hc w hm).mono fun e w' ⟨he, hb⟩ => ⟨(), trivial, he, hm.below hb⟩) hn hw fun _ _ => h
theorem p_pan {fn : Func} {R : Ending → World → Prop} (hD : C.D = []) (hR : ∀ w, MemOk C.w₀ L w → R (.panicked ch) w) : POk C (bodyM C.P fn R) (.panic ch) K L := fun a w hf hm => by
  show LeavesInM _ _ _ _ _ _ _ _ _
  rw [hf.defers.trans hD]
  exact hR w hm
theorem p_panD {fn : Func} {R : Ending → World → Prop} (ds : List Deferred) (hD : C.D = ds)
    (h : ∀ tmps, (∀ t u, lk K t = some u → tmps.getD t undef = u) → ∀ w, MemOk C.w₀ L w → Leaves C.P fn tmps R ds (.panicking ch) w) : POk C (bodyPostD C.P fn R) (.panic ch) K L := fun a w hf hm => by
  show Leaves _ _ _ _ a.defers _ _
  rw [hf.defers.trans hD]
  exact h _ hf.knows w hm
end
theorem leavesP_cons {P : Program} {w₀ : World} {fn : Func} {tmps : Array Value} {R : Ending → World → Prop} {f : Nat} {cap args : Array Value} {ds : List Deferred} {L L' : Heap} {v x : Value} (hE : Enters P f)
    (hc : ∀ w, MemOk w₀ L w → CallsD P f (args ++ cap) (.panicking [{ v := x, recovered := false }]) w fun e u' w' => u' = .panicking [{ v := x, recovered := true }] ∧ (e = .returned v ∧ MemOk w₀ L' w')) (h : ∀ w, MemOk w₀ L' w → Leaves P fn tmps R ds .returning w) :
    ∀ w, MemOk w₀ L w → Leaves P fn tmps R ({ target := .fn (.func f) cap, args := args } :: ds) (.panicking [{ v := x, recovered := false }]) w := fun w hm => by
  refine ⟨by simp, .func f, cap, f, args ++ cap, rfl, hE _ w, (hc w hm).mono ?_⟩
  rintro e u' w' ⟨rfl, rfl, hm'⟩
  exact h w' hm'
def RecM (u u' : FrameMode) (v : Value) : Prop := (u = .returning ∧ u' = .returning ∧ v = .nilIface) ∨ (u = .panicking [{ v, recovered := false }] ∧ u' = .panicking [{ v, recovered := true }])
theorem dS_of_T {P : Program} {f : FuncId} {fn : Func} {c : Code} {id : Nat} {oR oA : Oper} {dR dA : Nat} {l : List Value} {w₀ : World} {L : Heap} {R : Ending → World → Prop} (N : Nat) {u u' : FrameMode} {v : Value} (hu : RecM u u' v)
    (hf : P.funcs[f]? = some fn) (hN : fn.ntmps = N) (hn : Nat.ble l.length N = true) (hb : fn.body = some (.seq (.region id #[oR, oA] false) c))
    (hgR : oR.guard = none) (hdR : oR.dst = some dR) (hrR : ∀ ρ w, (execOp ρ oR).run P w = .ok .recover w) (hgA : oA.guard = none) (hdA : oA.dst = some dA) (hrA : ∀ ρ w, (execOp ρ oA).run P w = .ok (.value (ρ (.tmp dR))) w)
    (hlR : Nat.blt dR N = true) (hlA : Nat.blt dA N = true)
    (h : T ⟨P, w₀, N, [], none⟩ c (bodyPost P fn R) ((dA, v) :: (dR, v) :: argsK 0 l) L) : ∀ w, MemOk w₀ L w → CallsD P f l.toArray u w fun e m w' => m = u' ∧ R e w' := by
  intro w hm
  subst hN
  replace hn := Nat.le_of_ble_eq_true hn
  refine callsD_of_wpS hf hb fun c₀ cs hmode => ?_
  apply wpS_seq
  apply wpS_region
  have hfr : FrOk fn.ntmps [] (argsK 0 l) { tmps := l.toArray ++ Array.replicate (fn.ntmps - l.toArray.size) undef, defers := [] } := by
    refine lk_args (by simpa using hn) _ (fun t v ht => ?_)
    obtain ⟨_, h2⟩ := argsK_lk l 0 t v ht
    simpa using h2
  obtain ⟨a, ha⟩ : ∃ a : Act, { tmps := l.toArray ++ Array.replicate (fn.ntmps - l.toArray.size) undef, defers := [] } = a := ⟨_, rfl⟩
  rw [ha] at hfr ⊢
  have hf1 := hfr.put v hlR
  have hev : (a.put (some dR) v).eval (.tmp dR) = v := hf1.knows _ _ (lk_cons_same _ _ _)
  have hf2 := hf1.put v hlA
  have key := wpIn_wide.1 (h _ w hf2 hm)
  have fin : ∀ u'', u'' = u' → (Code.wpS P c (bodyPostS P fn c₀ cs fun e m w' => m = u' ∧ R e w') ((a.put (some dR) v).put (some dA) v) ({ c₀ with mode := u'' } :: cs) w) := by
    rintro _ rfl
    refine wpS_of_wp (Code.wp_mono ?_ key)
    intro e a' w' he
    cases e with
    | normal => obtain ⟨h1, x, h2, h3⟩ := he; exact ⟨h1, _, rfl, x, h2, rfl, h3⟩
    | ret => obtain ⟨h1, x, h2, h3⟩ := he; exact ⟨h1, _, rfl, x, h2, rfl, h3⟩
    | exit id => exact he.elim
    | goto l => exact he.elim
    | panic ch => exact ⟨he.1, _, rfl, rfl, he.2⟩
    | outgrown => exact ⟨_, rfl, he⟩
  show wpOpsS P #[oR, oA] _ [0, 1] a (c₀ :: cs) w
  have hwR : ∀ j, Region.wanted oR j = true := fun j => by unfold Region.wanted; rw [hgR]
  have hwA : ∀ j, Region.wanted oA j = true := fun j => by unfold Region.wanted; rw [hgA]
  simp only [wpOpsS, List.getElem?_toArray, List.getElem?_cons_zero, List.getElem?_cons_succ, hwR, hwA, if_true, hrR, hrA, hdR, hdA, Oper.upon]
  rcases hu with ⟨rfl, rfl, rfl⟩ | ⟨rfl, rfl⟩
  · simp only [recoverD, hmode]
    rw [hev]
    have := fin _ rfl
    rwa [show ({ c₀ with mode := FrameMode.returning } : Frame) = c₀ by rw [← hmode]] at this
  · simp only [recoverD, hmode]
    rw [hev]
    exact fin _ rfl
/-! ### lists of what is known, told otherwise -/
theorem lk_none_of {A : Heap} {k : Nat} (h : ∀ p ∈ A, p.1 ≠ k) : lk A k = none := by
  induction A with
  | nil => rfl
  | cons a A ih =>
    rw [show a :: A = (a.1, a.2) :: A from rfl, lk_cons_other _ _ (h a (by simp))]
    exact ih fun p hp => h p (by simp [hp])
theorem lk_key {A : Heap} {k : Nat} {q : Res} (h : lk A k = some q) : ∃ p ∈ A, p.1 = k := by
  by_cases e : ∃ p ∈ A, p.1 = k
  · exact e
  · rw [lk_none_of (fun p hp e2 => e ⟨p, hp, e2⟩)] at h; cases h
theorem lk_front {N L : Heap} (A : Heap) (h : ∀ p ∈ A, lk N p.1 = none) : ∀ k q, lk (A ++ (N ++ L)) k = some q → lk (N ++ (A ++ L)) k = some q := fun k q hk => by
  rw [lk_append] at hk
  rw [lk_append]
  cases hA : lk A k with
  | some r =>
    rw [hA] at hk
    obtain ⟨p, hp, rfl⟩ := lk_key hA
    rw [h p hp]
    show lk (A ++ L) p.1 = _
    rw [lk_append, hA]; exact hk
  | none =>
    rw [hA] at hk
    replace hk : lk (N ++ L) k = some q := hk
    rw [lk_append] at hk
    cases hN : lk N k with
    | some r => rw [hN] at hk; exact hk
    | none => rw [hN] at hk; show lk (A ++ L) k = _; rw [lk_append, hA]; exact hk
theorem lk_drop {L : Heap} (A : Heap) (h : ∀ p ∈ A, lk L p.1 = none) : ∀ k q, lk L k = some q → lk (A ++ L) k = some q := fun k q hk => by
  rw [lk_append]
  cases hA : lk A k with
  | some r => obtain ⟨p, hp, rfl⟩ := lk_key hA; rw [h p hp] at hk; cases hk
  | none => exact hk
theorem lk_mid {L : Heap} (A M : Heap) (h : (M.map (·.1)).all (fun i => (A.map (·.1)).contains i) = true) : ∀ k q, lk (A ++ L) k = some q → lk (A ++ (M ++ L)) k = some q := fun k q hk => by
  rw [lk_append] at hk ⊢
  cases hA : lk A k with
  | some r => rw [hA] at hk; exact hk
  | none =>
    rw [hA] at hk
    show lk (M ++ L) k = _
    rw [lk_append]
    cases hM : lk M k with
    | none => exact hk
    | some r =>
      exfalso
      obtain ⟨p, hp, rfl⟩ := lk_key hM
      have := List.all_eq_true.1 h p.1 (List.mem_map_of_mem hp)
      rw [List.contains_iff_mem, List.mem_map] at this
      obtain ⟨z, hz, hzp⟩ := this
      rcases List.append_of_mem hz with ⟨s, t, rfl⟩
      have key : ∀ (s : Heap), lk (s ++ z :: t) p.1 ≠ none := fun s => by
        induction s with
        | nil => rw [List.nil_append, show z :: t = (z.1, z.2) :: t from rfl, hzp, lk_cons_same]; exact fun e => by cases e
        | cons a s ih =>
          rw [List.cons_append, show a :: (s ++ z :: t) = (a.1, a.2) :: (s ++ z :: t) from rfl]
          by_cases e : a.1 = p.1
          · rw [e, lk_cons_same]; exact fun e => by cases e
          · rw [lk_cons_other _ _ e]; exact ih
      exact key s hA
theorem lk_last {X : Heap} {i : Nat} {r s : Res} (hi : lk X i = some s) : ∀ k q, lk (X ++ [(i, r)]) k = some q → lk X k = some q := fun k q hk => by
  rw [lk_append] at hk
  cases h : lk X k with
  | some x => rw [h] at hk; exact hk
  | none =>
    rw [h] at hk
    by_cases e : i = k
    · subst e; rw [h] at hi; cases hi
    · rw [show lk [(i, r)] k = none from lk_cons_other [] r e] at hk; cases hk
theorem lk_app_none {N L : Heap} {i : Nat} (h1 : lk N i = none) (h2 : lk L i = none) : lk (N ++ L) i = none := by rw [lk_append, h1]; exact h2
theorem lk_mid2 {L : Heap} (A : Heap) (p : Nat × Res) (M : Heap) (hp : lk L p.1 = none) (hA : lk A p.1 = none) (h : (M.map (·.1)).all (fun i => (A.map (·.1)).contains i) = true) : ∀ k q, lk (A ++ L) k = some q → lk (A ++ (p :: (M ++ L))) k = some q := fun k q hk => by
  have h2 := lk_mid A M h k q hk
  rw [lk_append] at h2 ⊢
  cases e : lk A k with
  | some r => rw [e] at h2; exact h2
  | none =>
    rw [e] at h2
    show lk (p :: (M ++ L)) k = _
    rw [show p :: (M ++ L) = (p.1, p.2) :: (M ++ L) from rfl, lk_cons_other _ _ ?_]
    · exact h2
    · intro e2
      subst e2
      rw [lk_append, hA] at hk
      rw [show lk L p.1 = some q from hk] at hp
      cases hp
theorem lk_dup2 {L : Heap} {i j : Nat} {r s : Res} (hi : lk L i = some r) (hj : lk L j = some s) : ∀ k q, lk ((i, r) :: (j, s) :: L) k = some q → lk L k = some q := fun k q hk => by
  by_cases e : i = k
  · subst e; rw [lk_cons_same] at hk; rw [hi]; exact hk
  · rw [lk_cons_other _ _ e] at hk; exact lk_dup hj k q hk
end Go.Proofs.Ytbiapeaghbndoaa
/- canvas: need, and tries. Printed by a program of this seat's prover. -/
namespace Go.Proofs.Ytbiapeaghbndoaa
open Go Go.RowKit
set_option maxRecDepth 10000
theorem need_ok_st (x : Int) (w : World) : Calls Try.prog 94 #[.bool true, .int .i64 x] w fun e w' => e = .returned (.tuple #[]) ∧ Below w.heap.size w w' := by
 refine calls_of_T (l := [.bool true, .int .i64 x]) 8 Try.func94 rfl rfl rfl ?_
 show T _ _ _ [(0, .bool true), (1, .int .i64 x)] []
 refine T_seq (T_region ?_)
 refine TL_v (.bool true) (s_mv rfl) rfl rfl ?_
 refine TL_v (.bool false) (fun _ _ j _ => r_not (b := true) (j _ _ rfl)) rfl rfl ?_
 refine TL_seq ?_
 refine T_cond_f rfl ?_
 refine T_skip' ?_
 refine p_end ?_
 refine ret_of rfl (.tuple #[]) (fun tmps w hk hm => results_none rfl _ _ _) (fun w hm => ?_)
 exact ⟨rfl, hm.ext⟩

theorem need_no_st (x : Int) (w : World) : Calls Try.prog 94 #[.bool false, .int .i64 x] w fun e w' => e = .panicked [{ v := .iface 29 (.int .i64 x), recovered := false }] ∧ Below w.heap.size w w' := by
 refine calls_of_T (l := [.bool false, .int .i64 x]) 8 Try.func94 rfl rfl rfl ?_
 show T _ _ _ [(0, .bool false), (1, .int .i64 x)] []
 refine T_seq (T_region ?_)
 refine TL_v (.bool false) (s_mv rfl) rfl rfl ?_
 refine TL_v (.bool true) (fun _ _ j _ => r_not (b := false) (j _ _ rfl)) rfl rfl ?_
 refine TL_seq ?_
 refine T_cond_t rfl ?_
 refine T_region ?_
 refine TL_v (.int .i64 x) (s_mv rfl) rfl rfl ?_
 refine TL_v (.iface 29 (.int .i64 x)) (fun _ _ j _ => r_makeIface (by kernel_rfl) (j _ _ rfl)) rfl rfl ?_
 refine TL_panic (fun _ _ j _ => r_panic (j _ _ rfl)) rfl (w_n rfl) ?_
 refine p_pan rfl (fun w hm => ?_)
 exact ⟨rfl, hm.ext⟩

theorem trS_idle (w₀ : World) (L : Heap) (A B : Nat) : ∀ w, MemOk w₀ L w → CallsD Try.prog 104 #[.pointer (some ⟨A, 0, none⟩), .pointer (some ⟨B, 0, none⟩)] .returning w fun e u' w' => u' = .returning ∧ (e = .returned (.tuple #[]) ∧ MemOk w₀ L w') := by
 refine dS_of_T (l := [pt A 0, pt B 0]) (L := L) (v := .nilIface) 19 (.inl ⟨rfl, rfl, rfl⟩) Try.func104 rfl rfl rfl rfl rfl (fun _ _ => rfl) rfl rfl (fun _ _ => rfl) rfl rfl ?_
 show T _ _ _ [(2, .nilIface), (6, .nilIface), (0, pt A 0), (1, pt B 0)] L
 refine T_seq (T_region ?_)
 refine TL_v (.nilIface) (s_mv rfl) rfl rfl ?_
 refine TL_v (.bool false) (fun _ w j _ => r_eqI (by rfl) (j _ _ rfl) (j _ _ rfl) (run_neq_nil_nil w 20 (by kernel_rfl))) rfl rfl ?_
 refine TL_seq ?_
 refine T_cond_f rfl ?_
 refine T_skip' ?_
 refine p_endP ?_
 refine ret_ofP rfl (.tuple #[]) (fun tmps w hk hm => results_none rfl _ _ _) (fun w hm => ?_)
 exact ⟨rfl, hm⟩

theorem trS_rec (w₀ : World) (L : Heap) (A B : Nat) (x : Int) (hX : lk L 1902 = none) (hA : lk L 1900 = some (.blk A (.cells #[.int .i64 0, .int .i64 0, .slice none 0 0] 75))) (hB : lk L 1901 = some (.blk B (.cells #[.int .i64 0] 29))) : ∀ w, MemOk w₀ L w → CallsD Try.prog 104 #[.pointer (some ⟨A, 0, none⟩), .pointer (some ⟨B, 0, none⟩)] (.panicking [{ v := .iface 29 (.int .i64 x), recovered := false }]) w fun e u' w' => u' = .panicking [{ v := .iface 29 (.int .i64 x), recovered := true }] ∧ (e = .returned (.tuple #[]) ∧ MemOk w₀ ([(1901, .blk B (.cells #[.int .i64 x] 29)), (1900, .blk A (.cells #[.int .i64 0, .int .i64 0, .slice none 0 0] 75))] ++ L) w') := by
 refine dS_of_T (l := [pt A 0, pt B 0]) (L := L) (v := .iface 29 (.int .i64 x)) 19 (.inr ⟨rfl, rfl⟩) Try.func104 rfl rfl rfl rfl rfl (fun _ _ => rfl) rfl rfl (fun _ _ => rfl) rfl rfl ?_
 refine T_mem ((1901, .blk B (.cells #[.int .i64 0] 29)) :: (1900, .blk A (.cells #[.int .i64 0, .int .i64 0, .slice none 0 0] 75)) :: L) (fun _ hm => hm.of (lk_dup2 hB hA)) ?_
 show T _ _ _ [(2, .iface 29 (.int .i64 x)), (6, .iface 29 (.int .i64 x)), (0, pt A 0), (1, pt B 0)] ((1901, .blk B (.cells #[.int .i64 0] 29)) :: (1900, .blk A (.cells #[.int .i64 0, .int .i64 0, .slice none 0 0] 75)) :: L)
 refine T_seq (T_region ?_)
 refine TL_v (.iface 29 (.int .i64 x)) (s_mv rfl) rfl rfl ?_
 refine TL_v (.bool true) (fun _ w j _ => r_eqI (by rfl) (j _ _ rfl) (j _ _ rfl) (run_neq_held_nil w 20 _ _ (by kernel_rfl))) rfl rfl ?_
 refine TL_seq ?_
 refine T_cond_t rfl ?_
 refine T_seq (T_region ?_)
 refine TL_v (.iface 29 (.int .i64 x)) (s_mv rfl) rfl rfl ?_
 refine TL_v (.tuple #[.int .i64 x, .bool true]) (fun _ _ j _ => r_typeAssert (j _ _ rfl) (by kernel_rfl)) rfl rfl ?_
 refine TL_v (.tuple #[.int .i64 x, .bool true]) (s_mv rfl) rfl rfl ?_
 refine TL_v (.int .i64 x) (s_ex rfl rfl) rfl rfl ?_
 refine TL_v (.bool true) (s_ex rfl rfl) rfl rfl ?_
 refine TL_v (.int .i64 x) (s_as rfl) rfl rfl ?_
 refine TL_v (.bool true) (s_as rfl) rfl rfl ?_
 refine TL_seq ?_
 refine T_seq ?_
 refine T_seq (T_region ?_)
 refine TL_v (.bool true) (s_mv rfl) rfl rfl ?_
 refine TL_v (.bool false) (fun _ _ j _ => r_not (b := true) (j _ _ rfl)) rfl rfl ?_
 refine TL_seq ?_
 refine T_cond_f rfl ?_
 refine T_skip' ?_
 refine p_seq ?_
 refine T_seq (T_region ?_)
 refine TL_new 1902 (.cells #[.int .i64 0, .int .i64 0, .slice none 0 0] 75) (fun B => pt B 0) (fun _ _ _ _ => r_alloc (v := .agg #[.int .i64 0, .int .i64 0, .slice none 0 0]) (by kernel_rfl) rfl) rfl rfl rfl (w_n rfl) ?_
 intro B1
 refine TL_seq ?_
 refine T_region ?_
 refine TL_v (.agg #[.int .i64 0, .int .i64 0, .slice none 0 0]) (s_la ag75 sz75 rfl 1902 rfl rfl rfl) rfl rfl ?_
 refine TL_v (.int .i64 x) (s_mv rfl) rfl rfl ?_
 refine TL_store 1900 (.cells #[.int .i64 0, .int .i64 0, .slice none 0 0] 75) rfl (s_st sz75 rfl rfl 1900 rfl rfl rfl rfl rfl) rfl rfl (w_n rfl) ?_
 refine TL_store 1901 (.cells #[.int .i64 x] 29) rfl (s_st sz29 rfl rfl 1901 rfl rfl rfl rfl rfl) rfl rfl (w_n rfl) ?_
 refine TL_nil ?_
 refine p_endP ?_
 refine ret_ofP rfl (.tuple #[]) (fun tmps w hk hm => results_none rfl _ _ _) (fun w hm => ?_)
 exact ⟨rfl, hm.of (lk_mid2 (L := L) [(1901, .blk B (.cells #[.int .i64 x] 29)), (1900, .blk A (.cells #[.int .i64 0, .int .i64 0, .slice none 0 0] 75))] (1902, .blk B1 (.cells #[.int .i64 0, .int .i64 0, .slice none 0 0] 75)) [(1901, .blk B (.cells #[.int .i64 0] 29)), (1900, .blk A (.cells #[.int .i64 0, .int .i64 0, .slice none 0 0] 75))] hX rfl rfl)⟩

theorem trS_ok {w₀ : World} {L : Heap} (g : Nat) (cap : Array Value) {ι : Type} (p : ι → Prop) (vi0 : ι → Int) (vi1 : ι → Int) (va2 : ι → Option Addr) (vn2 : ι → Nat) (vc2 : ι → Nat) (N : ι → Heap) (hE : Enters Try.prog g) (h1901 : lk L 1901 = none) (h1900 : lk L 1900 = none) (hN1901 : ∀ x, lk (N x) 1901 = none) (hN1900 : ∀ x, lk (N x) 1900 = none) (H : ∀ A B w, MemOk w₀ ((1901, .blk B (.cells #[.int .i64 0] 29)) :: (1900, .blk A (.cells #[.int .i64 0, .int .i64 0, .slice none 0 0] 75)) :: L) w → Calls Try.prog g cap w (HAns w₀ p (fun x => .agg #[.int .i64 (vi0 x), .int .i64 (vi1 x), .slice (va2 x) (vn2 x) (vc2 x)]) (fun x => N x ++ ((1901, .blk B (.cells #[.int .i64 0] 29)) :: (1900, .blk A (.cells #[.int .i64 0, .int .i64 0, .slice none 0 0] 75)) :: L)))) : ∀ w, MemOk w₀ L w → Calls Try.prog 83 #[.func (.func g) #[] cap] w (HAns w₀ p (fun x => .tuple #[.agg #[.int .i64 (vi0 x), .int .i64 (vi1 x), .slice (va2 x) (vn2 x) (vc2 x)], .int .i64 0]) (fun x => N x ++ L)) := by
 refine ht_of_TD (l := [.func (.func g) #[] cap]) (L := L) 7 Try.func83 rfl rfl rfl ?_
 show T _ _ _ [(0, .func (.func g) #[] cap)] L
 refine T_seq (T_region ?_)
 refine TL_new 1900 (.cells #[.int .i64 0, .int .i64 0, .slice none 0 0] 75) (fun B => pt B 0) (fun _ _ _ _ => r_alloc (v := .agg #[.int .i64 0, .int .i64 0, .slice none 0 0]) (by kernel_rfl) rfl) rfl rfl rfl (w_n rfl) ?_
 intro B1
 refine TL_new 1901 (.cells #[.int .i64 0] 29) (fun B => pt B 0) (fun _ _ _ _ => r_alloc (v := .int .i64 0) (by kernel_rfl) rfl) rfl rfl rfl (w_n rfl) ?_
 intro B2
 refine TL_seq ?_
 refine T_seq (T_region ?_)
 refine TL_v (.func (.func 104) #[] #[pt B1 0, pt B2 0]) (fun _ _ j _ => r_makeFunc (by simp) (map_arr (cons2 (j _ _ rfl) (cons2 (j _ _ rfl) rfl)))) rfl rfl ?_
 refine TL_defer ({ target := .fn (.func 104) #[pt B1 0, pt B2 0], args := #[] }) rfl (fun _ _ j _ => r_defer (args := []) (j _ _ rfl) (by rfl) rfl) rfl (w_n rfl) ?_
 refine TL_seq ?_
 refine T_seq (T_region ?_)
 refine TL_v (.func (.func g) #[] cap) (s_mv rfl) rfl rfl ?_
 refine TL_callH _ _ _ (fun _ _ j _ => r_call (args := []) hE (j _ _ rfl) (by rfl) (by simp)) (fun w hm => H B1 B2 w hm) rfl rfl rfl (w_n rfl) ?_
 intro x hx
 refine TL_mem ([(1901, .blk B2 (.cells #[.int .i64 0] 29)), (1900, .blk B1 (.cells #[.int .i64 0, .int .i64 0, .slice none 0 0] 75))] ++ (N x ++ L)) (fun _ hm => hm.of (lk_front (L := L) [(1901, .blk B2 (.cells #[.int .i64 0] 29)), (1900, .blk B1 (.cells #[.int .i64 0, .int .i64 0, .slice none 0 0] 75))] (by simp [hN1901, hN1900]))) ?_
 refine TL_store 1900 (.cells #[.int .i64 (vi0 x), .int .i64 (vi1 x), .slice (va2 x) (vn2 x) (vc2 x)] 75) rfl (s_st sz75 rfl rfl 1900 rfl rfl rfl rfl rfl) rfl rfl (w_n rfl) ?_
 refine TL_store 1901 (.cells #[.int .i64 0] 29) rfl (s_st sz29 rfl rfl 1901 rfl rfl rfl rfl rfl) rfl rfl (w_n rfl) ?_
 refine TL_seq ?_
 refine T_ret' ?_
 refine ret_ofD [{ target := .fn (.func 104) #[pt B1 0, pt B2 0], args := #[] }] rfl (fun tmps hk => ?_)
 refine leavesH_cons (enters_of Try.func104 (by kernel_rfl) rfl) (fun w hm => trS_idle _ _ B1 B2 w hm) ?_
 refine leavesH_nil (.tuple #[.agg #[.int .i64 (vi0 x), .int .i64 (vi1 x), .slice (va2 x) (vn2 x) (vc2 x)], .int .i64 0]) (fun _ hm => res2 rfl (res_cell (hk 2 _ rfl) (run_loadVar_agg ag75 sz75 (hm.at 1900 rfl) (Nat.le_of_ble_eq_true rfl) rfl)) (res_cell (hk 3 _ rfl) (run_loadVar_one ag29 (hm.at 1901 rfl) rfl))) (fun w hm => ?_)
 have e1901 := lk_app_none (hN1901 x) h1901
 have e1900 := lk_app_none (hN1900 x) h1900
 exact ⟨x, hx, rfl, hm.of (lk_drop (L := N x ++ L) [(1901, .blk B2 (.cells #[.int .i64 0] 29)), (1900, .blk B1 (.cells #[.int .i64 (vi0 x), .int .i64 (vi1 x), .slice (va2 x) (vn2 x) (vc2 x)] 75)), (1901, .blk B2 (.cells #[.int .i64 0] 29)), (1900, .blk B1 (.cells #[.int .i64 0, .int .i64 0, .slice none 0 0] 75))] (by simp [e1901, e1900]))⟩

theorem trS_no {w₀ : World} {L : Heap} (g : Nat) (cap : Array Value) {ι : Type} (p : ι → Prop) (er : ι → Int) (N : ι → Heap) (hE : Enters Try.prog g) (h1901 : lk L 1901 = none) (h1900 : lk L 1900 = none) (h1902 : lk L 1902 = none) (hN1901 : ∀ x, lk (N x) 1901 = none) (hN1900 : ∀ x, lk (N x) 1900 = none) (hN1902 : ∀ x, lk (N x) 1902 = none) (H : ∀ A B w, MemOk w₀ ((1901, .blk B (.cells #[.int .i64 0] 29)) :: (1900, .blk A (.cells #[.int .i64 0, .int .i64 0, .slice none 0 0] 75)) :: L) w → Calls Try.prog g cap w (PAns w₀ p (fun x => .iface 29 (.int .i64 (er x))) (fun x => N x ++ ((1901, .blk B (.cells #[.int .i64 0] 29)) :: (1900, .blk A (.cells #[.int .i64 0, .int .i64 0, .slice none 0 0] 75)) :: L)))) : ∀ w, MemOk w₀ L w → Calls Try.prog 83 #[.func (.func g) #[] cap] w (HAns w₀ p (fun x => .tuple #[.agg #[.int .i64 0, .int .i64 0, .slice none 0 0], .int .i64 (er x)]) (fun x => N x ++ L)) := by
 refine ht_of_TD (l := [.func (.func g) #[] cap]) (L := L) 7 Try.func83 rfl rfl rfl ?_
 show T _ _ _ [(0, .func (.func g) #[] cap)] L
 refine T_seq (T_region ?_)
 refine TL_new 1900 (.cells #[.int .i64 0, .int .i64 0, .slice none 0 0] 75) (fun B => pt B 0) (fun _ _ _ _ => r_alloc (v := .agg #[.int .i64 0, .int .i64 0, .slice none 0 0]) (by kernel_rfl) rfl) rfl rfl rfl (w_n rfl) ?_
 intro B1
 refine TL_new 1901 (.cells #[.int .i64 0] 29) (fun B => pt B 0) (fun _ _ _ _ => r_alloc (v := .int .i64 0) (by kernel_rfl) rfl) rfl rfl rfl (w_n rfl) ?_
 intro B2
 refine TL_seq ?_
 refine T_seq (T_region ?_)
 refine TL_v (.func (.func 104) #[] #[pt B1 0, pt B2 0]) (fun _ _ j _ => r_makeFunc (by simp) (map_arr (cons2 (j _ _ rfl) (cons2 (j _ _ rfl) rfl)))) rfl rfl ?_
 refine TL_defer ({ target := .fn (.func 104) #[pt B1 0, pt B2 0], args := #[] }) rfl (fun _ _ j _ => r_defer (args := []) (j _ _ rfl) (by rfl) rfl) rfl (w_n rfl) ?_
 refine TL_seq ?_
 refine T_seq (T_region ?_)
 refine TL_v (.func (.func g) #[] cap) (s_mv rfl) rfl rfl ?_
 refine TL_callP _ _ _ (fun _ _ j _ => r_call (args := []) hE (j _ _ rfl) (by rfl) (by simp)) (fun w hm => H B1 B2 w hm) rfl (w_n rfl) ?_
 intro x hx
 refine p_mem ([(1901, .blk B2 (.cells #[.int .i64 0] 29)), (1900, .blk B1 (.cells #[.int .i64 0, .int .i64 0, .slice none 0 0] 75))] ++ (N x ++ L)) (fun _ hm => hm.of (lk_front (L := L) [(1901, .blk B2 (.cells #[.int .i64 0] 29)), (1900, .blk B1 (.cells #[.int .i64 0, .int .i64 0, .slice none 0 0] 75))] (by simp [hN1901, hN1900]))) ?_
 refine p_then_p ?_
 refine p_panD [{ target := .fn (.func 104) #[pt B1 0, pt B2 0], args := #[] }] rfl (fun tmps hk => ?_)
 refine leavesP_cons (L' := [(1901, .blk B2 (.cells #[.int .i64 (er x)] 29)), (1900, .blk B1 (.cells #[.int .i64 0, .int .i64 0, .slice none 0 0] 75))] ++ (N x ++ L)) (enters_of Try.func104 (by kernel_rfl) rfl) (fun w hm => ((trS_rec _ ([(1901, .blk B2 (.cells #[.int .i64 0] 29)), (1900, .blk B1 (.cells #[.int .i64 0, .int .i64 0, .slice none 0 0] 75))] ++ (N x ++ L)) B1 B2 _ (show lk (N x ++ L) 1902 = none from lk_app_none (hN1902 x) h1902) rfl rfl w hm).mono fun e u' w' h => ⟨h.1, h.2.1, h.2.2.of (lk_mid (L := N x ++ L) [(1901, .blk B2 (.cells #[.int .i64 (er x)] 29)), (1900, .blk B1 (.cells #[.int .i64 0, .int .i64 0, .slice none 0 0] 75))] [(1901, .blk B2 (.cells #[.int .i64 0] 29)), (1900, .blk B1 (.cells #[.int .i64 0, .int .i64 0, .slice none 0 0] 75))] rfl)⟩)) ?_
 refine leavesH_nil (.tuple #[.agg #[.int .i64 0, .int .i64 0, .slice none 0 0], .int .i64 (er x)]) (fun _ hm => res2 rfl (res_cell (hk 2 _ rfl) (run_loadVar_agg ag75 sz75 (hm.at 1900 rfl) (Nat.le_of_ble_eq_true rfl) rfl)) (res_cell (hk 3 _ rfl) (run_loadVar_one ag29 (hm.at 1901 rfl) rfl))) (fun w hm => ?_)
 have e1901 := lk_app_none (hN1901 x) h1901
 have e1900 := lk_app_none (hN1900 x) h1900
 exact ⟨x, hx, rfl, hm.of (lk_drop (L := N x ++ L) [(1901, .blk B2 (.cells #[.int .i64 (er x)] 29)), (1900, .blk B1 (.cells #[.int .i64 0, .int .i64 0, .slice none 0 0] 75))] (by simp [e1901, e1900]))⟩

theorem trSW_ok (g : Nat) (cap : Array Value) {ι : Type} (p : ι → Prop) (vi0 : ι → Int) (vi1 : ι → Int) (va2 : ι → Option Addr) (vn2 : ι → Nat) (vc2 : ι → Nat) (N : ι → Heap) (w : World) (hE : Enters Try.prog g) (hN1901 : ∀ x, lk (N x) 1901 = none) (hN1900 : ∀ x, lk (N x) 1900 = none) (H : ∀ w2, Below w.heap.size w w2 → Calls Try.prog g cap w2 (Ans p (fun x => .agg #[.int .i64 (vi0 x), .int .i64 (vi1 x), .slice (va2 x) (vn2 x) (vc2 x)]) N w2)) : Calls Try.prog 83 #[.func (.func g) #[] cap] w (Ans p (fun x => .tuple #[.agg #[.int .i64 (vi0 x), .int .i64 (vi1 x), .slice (va2 x) (vn2 x) (vc2 x)], .int .i64 0]) N w) := by
 refine (trS_ok (L := []) (w₀ := w) g cap p vi0 vi1 va2 vn2 vc2 N hE rfl rfl hN1901 hN1900 (fun A B w2 hm => (H w2 hm.ext).mono ?_) w (MemOk.nil w)).mono ?_
 ·rintro e w' ⟨x, hx, he, hb, hn⟩
  exact ⟨x, hx, he, hm.news hb hn⟩
 ·rintro e w' ⟨x, hx, he, hm⟩
  simp only [List.append_nil] at hm
  exact ⟨x, hx, he, hm.ext, ⟨fun i r h => hm.own i r h, fun i j r s h1 h2 => hm.sep i j r s h1 h2⟩⟩
theorem trSW_no (g : Nat) (cap : Array Value) (x : Int) (w : World) (hE : Enters Try.prog g) (H : ∀ w2, Below w.heap.size w w2 → Calls Try.prog g cap w2 fun e w' => e = .panicked [{ v := .iface 29 (.int .i64 x), recovered := false }] ∧ Below w2.heap.size w2 w') : Calls Try.prog 83 #[.func (.func g) #[] cap] w fun e w' => e = .returned (.tuple #[.agg #[.int .i64 0, .int .i64 0, .slice none 0 0], .int .i64 x]) ∧ Below w.heap.size w w' :=
 (trS_no (ι := Unit) (L := []) (w₀ := w) g cap (fun _ => True) (fun _ => x) (fun _ => []) hE rfl rfl rfl (fun _ => rfl) (fun _ => rfl) (fun _ => rfl) (fun A B w2 hm => (H w2 hm.ext).mono fun e w' h => ⟨(), trivial, h.1, hm.below h.2⟩) w (MemOk.nil w)).mono fun e w' ⟨_, _, he, hm⟩ => ⟨he, hm.ext⟩

theorem trC_idle (w₀ : World) (L : Heap) (A B : Nat) : ∀ w, MemOk w₀ L w → CallsD Try.prog 106 #[.pointer (some ⟨A, 0, none⟩), .pointer (some ⟨B, 0, none⟩)] .returning w fun e u' w' => u' = .returning ∧ (e = .returned (.tuple #[]) ∧ MemOk w₀ L w') := by
 refine dS_of_T (l := [pt A 0, pt B 0]) (L := L) (v := .nilIface) 19 (.inl ⟨rfl, rfl, rfl⟩) Try.func106 rfl rfl rfl rfl rfl (fun _ _ => rfl) rfl rfl (fun _ _ => rfl) rfl rfl ?_
 show T _ _ _ [(2, .nilIface), (6, .nilIface), (0, pt A 0), (1, pt B 0)] L
 refine T_seq (T_region ?_)
 refine TL_v (.nilIface) (s_mv rfl) rfl rfl ?_
 refine TL_v (.bool false) (fun _ w j _ => r_eqI (by rfl) (j _ _ rfl) (j _ _ rfl) (run_neq_nil_nil w 20 (by kernel_rfl))) rfl rfl ?_
 refine TL_seq ?_
 refine T_cond_f rfl ?_
 refine T_skip' ?_
 refine p_endP ?_
 refine ret_ofP rfl (.tuple #[]) (fun tmps w hk hm => results_none rfl _ _ _) (fun w hm => ?_)
 exact ⟨rfl, hm⟩

theorem trC_rec (w₀ : World) (L : Heap) (A B : Nat) (x : Int) (hA : lk L 1900 = some (.blk A (.cells #[.pointer none] 28))) (hB : lk L 1901 = some (.blk B (.cells #[.int .i64 0] 29))) : ∀ w, MemOk w₀ L w → CallsD Try.prog 106 #[.pointer (some ⟨A, 0, none⟩), .pointer (some ⟨B, 0, none⟩)] (.panicking [{ v := .iface 29 (.int .i64 x), recovered := false }]) w fun e u' w' => u' = .panicking [{ v := .iface 29 (.int .i64 x), recovered := true }] ∧ (e = .returned (.tuple #[]) ∧ MemOk w₀ ([(1901, .blk B (.cells #[.int .i64 x] 29)), (1900, .blk A (.cells #[.pointer none] 28))] ++ L) w') := by
 refine dS_of_T (l := [pt A 0, pt B 0]) (L := L) (v := .iface 29 (.int .i64 x)) 19 (.inr ⟨rfl, rfl⟩) Try.func106 rfl rfl rfl rfl rfl (fun _ _ => rfl) rfl rfl (fun _ _ => rfl) rfl rfl ?_
 refine T_mem ((1901, .blk B (.cells #[.int .i64 0] 29)) :: (1900, .blk A (.cells #[.pointer none] 28)) :: L) (fun _ hm => hm.of (lk_dup2 hB hA)) ?_
 show T _ _ _ [(2, .iface 29 (.int .i64 x)), (6, .iface 29 (.int .i64 x)), (0, pt A 0), (1, pt B 0)] ((1901, .blk B (.cells #[.int .i64 0] 29)) :: (1900, .blk A (.cells #[.pointer none] 28)) :: L)
 refine T_seq (T_region ?_)
 refine TL_v (.iface 29 (.int .i64 x)) (s_mv rfl) rfl rfl ?_
 refine TL_v (.bool true) (fun _ w j _ => r_eqI (by rfl) (j _ _ rfl) (j _ _ rfl) (run_neq_held_nil w 20 _ _ (by kernel_rfl))) rfl rfl ?_
 refine TL_seq ?_
 refine T_cond_t rfl ?_
 refine T_seq (T_region ?_)
 refine TL_v (.iface 29 (.int .i64 x)) (s_mv rfl) rfl rfl ?_
 refine TL_v (.tuple #[.int .i64 x, .bool true]) (fun _ _ j _ => r_typeAssert (j _ _ rfl) (by kernel_rfl)) rfl rfl ?_
 refine TL_v (.tuple #[.int .i64 x, .bool true]) (s_mv rfl) rfl rfl ?_
 refine TL_v (.int .i64 x) (s_ex rfl rfl) rfl rfl ?_
 refine TL_v (.bool true) (s_ex rfl rfl) rfl rfl ?_
 refine TL_v (.int .i64 x) (s_as rfl) rfl rfl ?_
 refine TL_v (.bool true) (s_as rfl) rfl rfl ?_
 refine TL_seq ?_
 refine T_seq ?_
 refine T_seq (T_region ?_)
 refine TL_v (.bool true) (s_mv rfl) rfl rfl ?_
 refine TL_v (.bool false) (fun _ _ j _ => r_not (b := true) (j _ _ rfl)) rfl rfl ?_
 refine TL_seq ?_
 refine T_cond_f rfl ?_
 refine T_skip' ?_
 refine p_seq ?_
 refine T_seq (T_region ?_)
 refine TL_v (.pointer none) (s_as rfl) rfl rfl ?_
 refine TL_seq ?_
 refine T_region ?_
 refine TL_v (.pointer none) (s_mv rfl) rfl rfl ?_
 refine TL_v (.int .i64 x) (s_mv rfl) rfl rfl ?_
 refine TL_store 1900 (.cells #[.pointer none] 28) rfl (s_st sz28 rfl rfl 1900 rfl rfl rfl rfl rfl) rfl rfl (w_n rfl) ?_
 refine TL_store 1901 (.cells #[.int .i64 x] 29) rfl (s_st sz29 rfl rfl 1901 rfl rfl rfl rfl rfl) rfl rfl (w_n rfl) ?_
 refine TL_nil ?_
 refine p_endP ?_
 refine ret_ofP rfl (.tuple #[]) (fun tmps w hk hm => results_none rfl _ _ _) (fun w hm => ?_)
 exact ⟨rfl, hm.of (lk_mid (L := L) [(1901, .blk B (.cells #[.int .i64 x] 29)), (1900, .blk A (.cells #[.pointer none] 28))] [(1901, .blk B (.cells #[.int .i64 0] 29)), (1900, .blk A (.cells #[.pointer none] 28))] rfl)⟩

theorem trC_ok {w₀ : World} {L : Heap} (g : Nat) (cap : Array Value) {ι : Type} (p : ι → Prop) (vp0 : ι → Option Addr) (N : ι → Heap) (hE : Enters Try.prog g) (h1901 : lk L 1901 = none) (h1900 : lk L 1900 = none) (hN1901 : ∀ x, lk (N x) 1901 = none) (hN1900 : ∀ x, lk (N x) 1900 = none) (H : ∀ A B w, MemOk w₀ ((1901, .blk B (.cells #[.int .i64 0] 29)) :: (1900, .blk A (.cells #[.pointer none] 28)) :: L) w → Calls Try.prog g cap w (HAns w₀ p (fun x => .pointer (vp0 x)) (fun x => N x ++ ((1901, .blk B (.cells #[.int .i64 0] 29)) :: (1900, .blk A (.cells #[.pointer none] 28)) :: L)))) : ∀ w, MemOk w₀ L w → Calls Try.prog 96 #[.func (.func g) #[] cap] w (HAns w₀ p (fun x => .tuple #[.pointer (vp0 x), .int .i64 0]) (fun x => N x ++ L)) := by
 refine ht_of_TD (l := [.func (.func g) #[] cap]) (L := L) 7 Try.func96 rfl rfl rfl ?_
 show T _ _ _ [(0, .func (.func g) #[] cap)] L
 refine T_seq (T_region ?_)
 refine TL_new 1900 (.cells #[.pointer none] 28) (fun B => pt B 0) (fun _ _ _ _ => r_alloc (v := .pointer none) (by kernel_rfl) rfl) rfl rfl rfl (w_n rfl) ?_
 intro B1
 refine TL_new 1901 (.cells #[.int .i64 0] 29) (fun B => pt B 0) (fun _ _ _ _ => r_alloc (v := .int .i64 0) (by kernel_rfl) rfl) rfl rfl rfl (w_n rfl) ?_
 intro B2
 refine TL_seq ?_
 refine T_seq (T_region ?_)
 refine TL_v (.func (.func 106) #[] #[pt B1 0, pt B2 0]) (fun _ _ j _ => r_makeFunc (by simp) (map_arr (cons2 (j _ _ rfl) (cons2 (j _ _ rfl) rfl)))) rfl rfl ?_
 refine TL_defer ({ target := .fn (.func 106) #[pt B1 0, pt B2 0], args := #[] }) rfl (fun _ _ j _ => r_defer (args := []) (j _ _ rfl) (by rfl) rfl) rfl (w_n rfl) ?_
 refine TL_seq ?_
 refine T_seq (T_region ?_)
 refine TL_v (.func (.func g) #[] cap) (s_mv rfl) rfl rfl ?_
 refine TL_callH _ _ _ (fun _ _ j _ => r_call (args := []) hE (j _ _ rfl) (by rfl) (by simp)) (fun w hm => H B1 B2 w hm) rfl rfl rfl (w_n rfl) ?_
 intro x hx
 refine TL_mem ([(1901, .blk B2 (.cells #[.int .i64 0] 29)), (1900, .blk B1 (.cells #[.pointer none] 28))] ++ (N x ++ L)) (fun _ hm => hm.of (lk_front (L := L) [(1901, .blk B2 (.cells #[.int .i64 0] 29)), (1900, .blk B1 (.cells #[.pointer none] 28))] (by simp [hN1901, hN1900]))) ?_
 refine TL_store 1900 (.cells #[.pointer (vp0 x)] 28) rfl (s_st sz28 rfl rfl 1900 rfl rfl rfl rfl rfl) rfl rfl (w_n rfl) ?_
 refine TL_store 1901 (.cells #[.int .i64 0] 29) rfl (s_st sz29 rfl rfl 1901 rfl rfl rfl rfl rfl) rfl rfl (w_n rfl) ?_
 refine TL_seq ?_
 refine T_ret' ?_
 refine ret_ofD [{ target := .fn (.func 106) #[pt B1 0, pt B2 0], args := #[] }] rfl (fun tmps hk => ?_)
 refine leavesH_cons (enters_of Try.func106 (by kernel_rfl) rfl) (fun w hm => trC_idle _ _ B1 B2 w hm) ?_
 refine leavesH_nil (.tuple #[.pointer (vp0 x), .int .i64 0]) (fun _ hm => res2 rfl (res_cell (hk 2 _ rfl) (run_loadVar_one ag28 (hm.at 1900 rfl) rfl)) (res_cell (hk 3 _ rfl) (run_loadVar_one ag29 (hm.at 1901 rfl) rfl))) (fun w hm => ?_)
 have e1901 := lk_app_none (hN1901 x) h1901
 have e1900 := lk_app_none (hN1900 x) h1900
 exact ⟨x, hx, rfl, hm.of (lk_drop (L := N x ++ L) [(1901, .blk B2 (.cells #[.int .i64 0] 29)), (1900, .blk B1 (.cells #[.pointer (vp0 x)] 28)), (1901, .blk B2 (.cells #[.int .i64 0] 29)), (1900, .blk B1 (.cells #[.pointer none] 28))] (by simp [e1901, e1900]))⟩

theorem trC_no {w₀ : World} {L : Heap} (g : Nat) (cap : Array Value) {ι : Type} (p : ι → Prop) (er : ι → Int) (N : ι → Heap) (hE : Enters Try.prog g) (h1901 : lk L 1901 = none) (h1900 : lk L 1900 = none) (hN1901 : ∀ x, lk (N x) 1901 = none) (hN1900 : ∀ x, lk (N x) 1900 = none) (H : ∀ A B w, MemOk w₀ ((1901, .blk B (.cells #[.int .i64 0] 29)) :: (1900, .blk A (.cells #[.pointer none] 28)) :: L) w → Calls Try.prog g cap w (PAns w₀ p (fun x => .iface 29 (.int .i64 (er x))) (fun x => N x ++ ((1901, .blk B (.cells #[.int .i64 0] 29)) :: (1900, .blk A (.cells #[.pointer none] 28)) :: L)))) : ∀ w, MemOk w₀ L w → Calls Try.prog 96 #[.func (.func g) #[] cap] w (HAns w₀ p (fun x => .tuple #[.pointer none, .int .i64 (er x)]) (fun x => N x ++ L)) := by
 refine ht_of_TD (l := [.func (.func g) #[] cap]) (L := L) 7 Try.func96 rfl rfl rfl ?_
 show T _ _ _ [(0, .func (.func g) #[] cap)] L
 refine T_seq (T_region ?_)
 refine TL_new 1900 (.cells #[.pointer none] 28) (fun B => pt B 0) (fun _ _ _ _ => r_alloc (v := .pointer none) (by kernel_rfl) rfl) rfl rfl rfl (w_n rfl) ?_
 intro B1
 refine TL_new 1901 (.cells #[.int .i64 0] 29) (fun B => pt B 0) (fun _ _ _ _ => r_alloc (v := .int .i64 0) (by kernel_rfl) rfl) rfl rfl rfl (w_n rfl) ?_
 intro B2
 refine TL_seq ?_
 refine T_seq (T_region ?_)
 refine TL_v (.func (.func 106) #[] #[pt B1 0, pt B2 0]) (fun _ _ j _ => r_makeFunc (by simp) (map_arr (cons2 (j _ _ rfl) (cons2 (j _ _ rfl) rfl)))) rfl rfl ?_
 refine TL_defer ({ target := .fn (.func 106) #[pt B1 0, pt B2 0], args := #[] }) rfl (fun _ _ j _ => r_defer (args := []) (j _ _ rfl) (by rfl) rfl) rfl (w_n rfl) ?_
 refine TL_seq ?_
 refine T_seq (T_region ?_)
 refine TL_v (.func (.func g) #[] cap) (s_mv rfl) rfl rfl ?_
 refine TL_callP _ _ _ (fun _ _ j _ => r_call (args := []) hE (j _ _ rfl) (by rfl) (by simp)) (fun w hm => H B1 B2 w hm) rfl (w_n rfl) ?_
 intro x hx
 refine p_mem ([(1901, .blk B2 (.cells #[.int .i64 0] 29)), (1900, .blk B1 (.cells #[.pointer none] 28))] ++ (N x ++ L)) (fun _ hm => hm.of (lk_front (L := L) [(1901, .blk B2 (.cells #[.int .i64 0] 29)), (1900, .blk B1 (.cells #[.pointer none] 28))] (by simp [hN1901, hN1900]))) ?_
 refine p_then_p ?_
 refine p_panD [{ target := .fn (.func 106) #[pt B1 0, pt B2 0], args := #[] }] rfl (fun tmps hk => ?_)
 refine leavesP_cons (L' := [(1901, .blk B2 (.cells #[.int .i64 (er x)] 29)), (1900, .blk B1 (.cells #[.pointer none] 28))] ++ (N x ++ L)) (enters_of Try.func106 (by kernel_rfl) rfl) (fun w hm => ((trC_rec _ ([(1901, .blk B2 (.cells #[.int .i64 0] 29)), (1900, .blk B1 (.cells #[.pointer none] 28))] ++ (N x ++ L)) B1 B2 _ rfl rfl w hm).mono fun e u' w' h => ⟨h.1, h.2.1, h.2.2.of (lk_mid (L := N x ++ L) [(1901, .blk B2 (.cells #[.int .i64 (er x)] 29)), (1900, .blk B1 (.cells #[.pointer none] 28))] [(1901, .blk B2 (.cells #[.int .i64 0] 29)), (1900, .blk B1 (.cells #[.pointer none] 28))] rfl)⟩)) ?_
 refine leavesH_nil (.tuple #[.pointer none, .int .i64 (er x)]) (fun _ hm => res2 rfl (res_cell (hk 2 _ rfl) (run_loadVar_one ag28 (hm.at 1900 rfl) rfl)) (res_cell (hk 3 _ rfl) (run_loadVar_one ag29 (hm.at 1901 rfl) rfl))) (fun w hm => ?_)
 have e1901 := lk_app_none (hN1901 x) h1901
 have e1900 := lk_app_none (hN1900 x) h1900
 exact ⟨x, hx, rfl, hm.of (lk_drop (L := N x ++ L) [(1901, .blk B2 (.cells #[.int .i64 (er x)] 29)), (1900, .blk B1 (.cells #[.pointer none] 28))] (by simp [e1901, e1900]))⟩

theorem trCW_no (g : Nat) (cap : Array Value) (x : Int) (w : World) (hE : Enters Try.prog g) (H : ∀ w2, Below w.heap.size w w2 → Calls Try.prog g cap w2 fun e w' => e = .panicked [{ v := .iface 29 (.int .i64 x), recovered := false }] ∧ Below w2.heap.size w2 w') : Calls Try.prog 96 #[.func (.func g) #[] cap] w fun e w' => e = .returned (.tuple #[.pointer none, .int .i64 x]) ∧ Below w.heap.size w w' :=
 (trC_no (ι := Unit) (L := []) (w₀ := w) g cap (fun _ => True) (fun _ => x) (fun _ => []) hE rfl rfl (fun _ => rfl) (fun _ => rfl) (fun A B w2 hm => (H w2 hm.ext).mono fun e w' h => ⟨(), trivial, h.1, hm.below h.2⟩) w (MemOk.nil w)).mono fun e w' ⟨_, _, he, hm⟩ => ⟨he, hm.ext⟩
end Go.Proofs.Ytbiapeaghbndoaa
