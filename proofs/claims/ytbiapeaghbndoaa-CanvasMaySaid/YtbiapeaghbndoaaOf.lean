/- canvas: Of, Check. Printed by a program of this seat's prover. -/
import Derived.Test.YtbiapeaghbndoaaNew
namespace Go.Proofs.Ytbiapeaghbndoaa
open Go Go.RowKit
set_option maxRecDepth 10000
theorem of1_c (t : T64) (w : World) : Calls Try.prog 65 #[til t.l] w fun e w' => ∃ q, e = .returned (.pointer (some ⟨q, 0, none⟩)) ∧ Below w.heap.size w w' ∧ (Res.blk q (tilO t)).ok w.heap.size w' := by
  refine calls_of_T (l := [.agg (lst C4.cells t.l)]) 3 Try.func65 rfl rfl rfl ?_
  show T _ _ _ [(0, .agg (lst C4.cells t.l))] []
  refine T_seq (T_region ?_)
  refine TL_new 1 (.cells (lst C4.cells t.l) 39) (fun B => .pointer (some ⟨B, 0, none⟩)) (fun _ _ hρ _ => r_box (hρ _ _ rfl) rfl) rfl rfl rfl (w_n rfl) ?_
  intro B1
  refine TL_q (.pointer none) (fun _ _ hρ _ => r_assign (hρ _ _ rfl)) rfl rfl rfl (w_n rfl) ?_
  refine TL_seq ?_
  refine T_seq (T_region ?_)
  refine TL_q (.pointer (some ⟨B1, 0, none⟩)) (fun _ _ hρ _ => r_assign (hρ _ _ rfl)) rfl rfl rfl (w_n rfl) ?_
  refine TL_seq ?_
  refine T_ret' ?_
  refine ret_of rfl (.pointer (some ⟨B1, 0, none⟩)) (fun tmps w hk hm => res1 rfl (res_tmp (hk 2 _ rfl))) (fun w hm => ?_)
  exact ⟨B1, rfl, hm.ext, hm.own 1 _ rfl⟩

set_option maxHeartbeats 1000000 in
theorem made_of (ts : List T64) (a : Option Addr) (cap : Nat) (w : World) (hv : SliceAt w a cap 256 T64.cells ts) (h16 : ts.length ≤ 64) : Calls Try.prog 64 #[.slice a ts.length cap, .func (.func 65) #[] #[]] w fun e w' => ∃ (l : List BT) (a' : Option Addr) (cap' : Nat), e = .returned (.slice a' l.length cap') ∧ l.map (·.2) = ts ∧ Below w.heap.size w w' ∧ (Res.row (.slice a' l.length cap') 106 1 l.length (l.flatMap BT.ptr)).ok w.heap.size w' ∧ (Res.tls (fun x : BT => x) l).ok w.heap.size w' ∧ ∀ b, (Res.row (.slice a' l.length cap') 106 1 l.length (l.flatMap BT.ptr)).foot b → ¬ (Res.tls (fun x : BT => x) l).foot b := by
  refine calls_of_T (l := [.slice a ts.length cap, .func (.func 65) #[] #[]]) 22 Try.func64 rfl rfl rfl ?_
  show T _ _ _ [(0, .slice a ts.length cap), (1, .func (.func 65) #[] #[])] []
  refine T_seq (T_region ?_)
  refine TL_q (.slice none 0 0) (fun _ _ hρ _ => r_assign (hρ _ _ rfl)) rfl rfl rfl (w_n rfl) ?_
  refine TL_seq ?_
  refine T_seq (T_region ?_)
  refine TL_q (.slice none 0 0) (fun _ _ hρ _ => r_assign (hρ _ _ rfl)) rfl rfl rfl (w_n rfl) ?_
  refine TL_seq ?_
  refine T_seq ?_
  refine T_seq (T_region ?_)
  refine TL_q (.slice a ts.length cap) (fun _ _ hρ _ => r_move (hρ _ _ rfl)) rfl rfl rfl (w_n rfl) ?_
  refine TL_q (.int .i64 ((ts.length : Nat) : Int)) (fun _ _ hρ _ => r_len sl22 (hρ _ _ rfl)) rfl rfl rfl (w_n rfl) ?_
  refine TL_q (.int .i64 0) (fun _ _ hρ _ => r_move (hρ _ _ rfl)) rfl rfl rfl (w_n rfl) ?_
  refine TL_seq ?_
  refine T_block ?_
  refine T_mem [(951, .tls (fun x : BT => x) []), (950, .row (.slice none 0 0) 106 1 0 [])] (fun _ hm => (hm.nilRow 950 106 1).tls0 951 _) ?_
  refine T_loop (ι := Nat × List BT × Option Addr × Nat) (fun (z : Nat × List BT × Option Addr × Nat) => match z with | (k, l, a2, cap2) => k ≤ ts.length ∧ l.map (·.2) = ts.take k) (fun (z : Nat × List BT × Option Addr × Nat) => match z with | (k, l, a2, cap2) => [(1, .func (.func 65) #[] #[]), (4, .slice none 0 0), (8, .slice a ts.length cap), (9, .int .i64 ((ts.length : Nat) : Int)), (10, .int .i64 ((k : Nat) : Int)), (5, .slice a2 l.length cap2)]) (fun (z : Nat × List BT × Option Addr × Nat) => match z with | (k, l, a2, cap2) => [(951, .tls (fun x : BT => x) l), (950, .row (.slice a2 l.length cap2) 106 1 l.length (l.flatMap BT.ptr))]) (fun (z : Nat × List BT × Option Addr × Nat) => match z with | (k, l, a2, cap2) => ts.length - k) (0, [], none, 0) ⟨Nat.zero_le _, rfl⟩ (sub_cons rfl (sub_cons rfl (sub_cons rfl (sub_cons rfl (sub_cons rfl (sub_cons rfl sub_nil)))))) (sub_cons rfl (sub_cons rfl sub_nil)) ?_
  rintro ⟨k, l, a2, cap2⟩ hp
  obtain ⟨hk, hl⟩ := hp
  have hlk := map_len' hl hk
  show T _ _ _ [(1, .func (.func 65) #[] #[]), (4, .slice none 0 0), (8, .slice a ts.length cap), (9, .int .i64 ((ts.length : Nat) : Int)), (10, .int .i64 ((k : Nat) : Int)), (5, .slice a2 l.length cap2)] [(951, .tls (fun x : BT => x) l), (950, .row (.slice a2 l.length cap2) 106 1 l.length (l.flatMap BT.ptr))]
  refine T_seq (T_region ?_)
  refine TL_q (.bool (decide (((k : Nat) : Int) < ((ts.length : Nat) : Int)))) (fun _ _ hρ _ => r_lss (hρ _ _ rfl) (hρ _ _ rfl)) rfl rfl rfl (w_n rfl) ?_
  refine TL_seq ?_
  refine T_seq ?_
  refine T_cond rfl (fun h1 => ?_) (fun h1 => ?_)
  · replace h1 := of_decide_eq_true h1
    refine T_skip' ?_
    refine p_seq ?_
    refine T_seq ?_
    refine T_block ?_
    obtain ⟨t, ht⟩ : ∃ x, ts[k]? = some x := ⟨_, List.getElem?_eq_getElem (by omega)⟩
    obtain ⟨b1, of1, cs1, T1, fz1, ha1, hq1, hr1⟩ := hv.open (i := k) (by omega)
    subst ha1
    refine T_seq (T_region ?_)
    refine TL_q (.pointer (some ⟨b1, of1 + k * 256, none⟩)) (fun _ _ hρ _ => r_indexAddrS (i := k) sl22 sz39 (hρ _ _ rfl) (hρ _ _ rfl) (by omega)) rfl rfl rfl (w_n rfl) ?_
    refine TL_q (.agg (lst C4.cells t.l)) (fun _ _ hρ hm => r_loadRow (f := T64.cells) (u := t) ag39 sz39 (hρ _ _ rfl) (hm.old hq1) hr1 ht) rfl rfl rfl (w_n rfl) ?_
    refine TL_new 1 (.cells (lst C4.cells zero64) 39) (fun B => .pointer (some ⟨B, 0, none⟩)) (fun _ _ _ _ => r_alloc (v := .agg (lst C4.cells zero64)) (by kernel_rfl) rfl) rfl rfl rfl (w_n rfl) ?_
    intro B2
    refine TL_store 1 (.cells (lst C4.cells t.l) 39) rfl (fun _ _ hρ hm => r_storeAll sz39 (hρ _ _ rfl) (hρ _ _ rfl) (hm.at 1 rfl) (tsz zero64_len) (tsz t.h) (lst_one C4.cells_all _)) rfl rfl (w_n rfl) ?_
    refine TL_seq ?_
    refine T_region ?_
    refine TL_q (.slice a2 l.length cap2) (fun _ _ hρ _ => r_move (hρ _ _ rfl)) rfl rfl rfl (w_n rfl) ?_
    refine TL_q (.func (.func 65) #[] #[]) (fun _ _ hρ _ => r_move (hρ _ _ rfl)) rfl rfl rfl (w_n rfl) ?_
    refine TL_q (.agg (lst C4.cells t.l)) (fun _ _ hρ hm => r_loadW ag39 sz39 (hρ _ _ rfl) (hm.at 1 rfl) (tsz t.h)) rfl rfl rfl (w_n rfl) ?_
    refine TL_callN (fun (_ : Nat) => True) (fun q3 => .pointer (some ⟨q3, 0, none⟩)) (fun q3 => [(2, .blk q3 (.cells (lst C4.cells t.l) 39))]) (fun _ _ hρ _ => r_call (args := [.agg (lst C4.cells t.l)]) (enters_of Try.func65 (by kernel_rfl) rfl) (hρ _ _ rfl) ((cons2 (hρ _ _ rfl) rfl)) rfl) (fun w _ => (of1_c t w).mono fun e w' ⟨q, he, hb, hr⟩ => ⟨q, trivial, he, hb, newOk1 2 hr⟩) rfl rfl rfl (w_n rfl) ?_
    intro q3 _
    refine TL_new 3 (.cells #[.pointer (some ⟨q3, 0, none⟩)] 106) (fun B => .slice (some ⟨B, 0, none⟩) 1 1) (fun _ _ hρ _ => r_buildSlice (vs := [(0, .pointer (some ⟨q3, 0, none⟩))]) (by kernel_rfl) (cons2 (pair2 (hρ _ _ rfl)) rfl)) rfl rfl rfl (w_n rfl) ?_
    intro B4
    refine TL_append (n := l.length) (m := 1) (xs := (l.flatMap BT.ptr)) (news := [.pointer (some ⟨q3, 0, none⟩)]) (z := .pointer none) 950 rfl rfl rfl sl104 sz106 by106 (by kernel_rfl) rfl rfl (.inl rfl) (fun _ hm => src_blk (news := [.pointer (some ⟨q3, 0, none⟩)]) (hm.at 3 rfl) rfl) (by first | exact T64.cells_one _ | simp [Value.oneCell']) (by omega) (by omega) rfl (w_n rfl) ?_
    intro a5 cap5
    refine TL_q (.slice a5 (l.length + 1) cap5) (fun _ _ hρ _ => r_assign (hρ _ _ rfl)) rfl rfl rfl (w_n rfl) ?_
    refine TL_nil ?_
    refine p_blk_n ?_
    refine p_seq ?_
    refine T_region ?_
    refine TL_q (.int .i64 ((k + 1 : Nat) : Int)) (fun _ _ hρ _ => r_as (r_add (hρ _ _ rfl) (hρ _ _ rfl)) (int_as ((wrap64 (by omega) (by omega)).trans (by omega)))) rfl rfl rfl (w_n rfl) ?_
    refine TL_q (.int .i64 ((k + 1 : Nat) : Int)) (fun _ _ hρ _ => r_move (hρ _ _ rfl)) rfl rfl rfl (w_n rfl) ?_
    refine TL_nil ?_
    have hn6 : (l.length + 1) = (l ++ [(q3, t)]).length := by simp
    have hx6 : ((l.flatMap BT.ptr) ++ [.pointer (some ⟨q3, 0, none⟩)]) = (l ++ [(q3, t)]).flatMap BT.ptr := by simp [BT.ptr]
    rw [hx6, hn6]
    refine p_mem [(951, .tls (fun x : BT => x) (l ++ [(q3, t)])), (950, .row (.slice a5 ((l ++ [(q3, t)]).length) cap5) 106 1 ((l ++ [(q3, t)]).length) ((l ++ [(q3, t)]).flatMap BT.ptr))] (fun _ hm => (hm.tlPush 951 2 (q3, t) rfl rfl rfl rfl rfl).sub (sub_cons rfl (sub_cons rfl sub_nil))) ?_
    exact p_at (k + 1, l ++ [(q3, t)], a5, cap5) ⟨⟨by omega, snd_step hl ht⟩, by dsimp only; omega⟩ (sub_cons rfl (sub_cons rfl (sub_cons rfl (sub_cons rfl (sub_cons rfl (sub_cons rfl sub_nil)))))) (sub_cons rfl (sub_cons rfl sub_nil))
  · replace h1 := of_decide_eq_false h1
    refine T_exit' ?_
    refine p_then_x ?_
    refine p_then_x ?_
    refine p_blk_x ?_
    refine p_seq ?_
    refine T_seq (T_region ?_)
    refine TL_q (.slice a2 l.length cap2) (fun _ _ hρ _ => r_move (hρ _ _ rfl)) rfl rfl rfl (w_n rfl) ?_
    refine TL_q (.slice a2 l.length cap2) (fun _ _ hρ _ => r_assign (hρ _ _ rfl)) rfl rfl rfl (w_n rfl) ?_
    refine TL_seq ?_
    refine T_ret' ?_
    refine ret_of rfl (.slice a2 l.length cap2) (fun tmps w hk hm => res1 rfl (res_tmp (hk 4 _ rfl))) (fun w hm => ?_)
    have hk : k = ts.length := by omega
    subst hk
    exact ⟨l, a2, cap2, rfl, snd_all hl, hm.ext, hm.own 950 _ rfl, hm.own 951 _ rfl, hm.sep 950 951 _ _ rfl rfl (by decide)⟩

/-- May a canvas of these sizes, of so many tiles, be? -/
def rightI (x y : Int) (n : Nat) : Bool := decide (mayI x y = true ∧ (n : Int) = x * y)
theorem rightI_nat {x y : Int} {n : Nat} (e : rightI x y n = true) : ∃ p q : Nat, x = p ∧ y = q ∧ (1 ≤ p ∧ p ≤ 4) ∧ (1 ≤ q ∧ q ≤ 4) ∧ n = p * q := by
  obtain ⟨h1, h2⟩ := of_decide_eq_true e
  obtain ⟨p, q, rfl, rfl, h3, h4⟩ := mayI_nat h1
  exact ⟨p, q, rfl, rfl, h3, h4, by exact_mod_cast h2⟩
theorem rightI_of {p q n : Nat} (hp : 1 ≤ p ∧ p ≤ 4) (hq : 1 ≤ q ∧ q ≤ 4) (hn : n = p * q) : rightI p q n = true := decide_eq_true ⟨mayI_of hp hq, by rw [hn]; simp⟩

theorem check_no (x y : Int) (a : Option Addr) (n cap : Nat) (w : World) (hno : ¬ mayI x y = true) : Calls Try.prog 26 #[.agg #[.int .i64 x, .int .i64 y, .slice a n cap]] w fun e w' => e = .returned (.int .i64 150) ∧ Below w.heap.size w w' := by
  refine calls_of_T (l := [.agg #[.int .i64 x, .int .i64 y, .slice a n cap]]) 23 Try.func26 rfl rfl rfl ?_
  show T _ _ _ [(0, .agg #[.int .i64 x, .int .i64 y, .slice a n cap])] []
  refine T_seq (T_region ?_)
  refine TL_new 1 (.cells #[.int .i64 x, .int .i64 y, .slice a n cap] 24) (fun B => .pointer (some ⟨B, 0, none⟩)) (fun _ _ hρ _ => r_box (hρ _ _ rfl) rfl) rfl rfl rfl (w_n rfl) ?_
  intro B1
  refine TL_q (.int .i64 0) (fun _ _ hρ _ => r_assign (hρ _ _ rfl)) rfl rfl rfl (w_n rfl) ?_
  refine TL_seq ?_
  refine T_seq ?_
  refine T_seq (T_region ?_)
  refine TL_q (.pointer (some ⟨B1, 0, none⟩)) (fun _ _ hρ _ => r_fieldAddr fl24_0 sz3 (hρ _ _ rfl)) rfl rfl rfl (w_n rfl) ?_
  refine TL_q (.int .i64 x) (fun _ _ hρ hm => r_load ag3 (hρ _ _ rfl) (hm.at 1 rfl) rfl) rfl rfl rfl (w_n rfl) ?_
  refine TL_q (.pointer (some ⟨B1, 1, none⟩)) (fun _ _ hρ _ => r_fieldAddr fl24_1 sz3 (hρ _ _ rfl)) rfl rfl rfl (w_n rfl) ?_
  refine TL_q (.int .i64 y) (fun _ _ hρ hm => r_load ag3 (hρ _ _ rfl) (hm.at 1 rfl) rfl) rfl rfl rfl (w_n rfl) ?_
  refine TL_q (.agg #[.int .i64 x, .int .i64 y]) (fun _ _ hρ _ => r_build (vs := [(0, .int .i64 x), (1, .int .i64 y)]) (by kernel_rfl) (cons2 (pair2 (hρ _ _ rfl)) (cons2 (pair2 (hρ _ _ rfl)) rfl))) rfl rfl rfl (w_n rfl) ?_
  refine TL_new 2 (.cells #[.int .i64 0, .int .i64 0] 109) (fun B => .pointer (some ⟨B, 0, none⟩)) (fun _ _ _ _ => r_alloc (v := .agg #[.int .i64 0, .int .i64 0]) (by kernel_rfl) rfl) rfl rfl rfl (w_n rfl) ?_
  intro B2
  refine TL_store 2 (.cells #[.int .i64 x, .int .i64 y] 109) rfl (fun _ _ hρ hm => r_store sz109 (hρ _ _ rfl) (hρ _ _ rfl) (hm.at 2 rfl) rfl rfl rfl rfl) rfl rfl (w_n rfl) ?_
  refine TL_seq ?_
  refine T_seq (T_region ?_)
  refine TL_q (.agg #[.int .i64 x, .int .i64 y]) (fun _ _ hρ hm => r_loadA ag109 sz109 (hρ _ _ rfl) (hm.at 2 rfl) rfl rfl) rfl rfl rfl (w_n rfl) ?_
  refine TL_call (.bool false) (fun _ _ hρ _ => r_call (args := [.agg #[.int .i64 x, .int .i64 y]]) (enters_of Try.func77 (by kernel_rfl) rfl) (hρ _ _ rfl) ((cons2 (hρ _ _ rfl) rfl)) rfl) (fun w _ => (may_c x y w).mono fun _ _ h => ⟨h.1.trans (congrArg Ending.returned (bool_as (eq_false_of_ne_true hno))), h.2⟩) rfl rfl rfl (w_n rfl) ?_
  refine TL_q (.bool true) (fun _ _ hρ _ => r_not (b := false) (hρ _ _ rfl)) rfl rfl rfl (w_n rfl) ?_
  refine TL_q (.bool true) (fun _ _ hρ _ => r_move (hρ _ _ rfl)) rfl rfl rfl (w_n rfl) ?_
  refine TL_no rfl rfl (want_n 12 rfl rfl rfl) ?_
  refine TL_no rfl rfl (want_n 12 rfl rfl rfl) ?_
  refine TL_no rfl rfl (want_n 12 rfl rfl rfl) ?_
  refine TL_no rfl rfl (want_n 12 rfl rfl rfl) ?_
  refine TL_no rfl rfl (want_n 12 rfl rfl rfl) ?_
  refine TL_no rfl rfl (want_n 12 rfl rfl rfl) ?_
  refine TL_no rfl rfl (want_n 12 rfl rfl rfl) ?_
  refine TL_no rfl rfl (want_n 12 rfl rfl rfl) ?_
  refine TL_no rfl rfl (want_n 12 rfl rfl rfl) ?_
  refine TL_q (.bool true) (fun _ _ hρ _ => r_pick_t (hρ _ _ rfl) (hρ _ _ rfl)) rfl rfl rfl (w_n rfl) ?_
  refine TL_seq ?_
  refine T_cond_t rfl ?_
  refine T_seq (T_region ?_)
  refine TL_q (.int .i64 150) (fun _ _ hρ _ => r_assign (hρ _ _ rfl)) rfl rfl rfl (w_n rfl) ?_
  refine TL_seq ?_
  refine T_ret' ?_
  refine p_then_r ?_
  refine ret_of rfl (.int .i64 150) (fun tmps w hk hm => res1 rfl (res_tmp (hk 2 _ rfl))) (fun w hm => ?_)
  exact ⟨rfl, hm.ext⟩

theorem check_in (p q : Nat) (a : Option Addr) (n cap : Nat) (w : World) (hp4 : 1 ≤ p ∧ p ≤ 4) (hq4 : 1 ≤ q ∧ q ≤ 4) : Calls Try.prog 26 #[.agg #[.int .i64 (p : Int), .int .i64 (q : Int), .slice a n cap]] w fun e w' => e = .returned (.int .i64 (if n = p * q then 0 else 150)) ∧ Below w.heap.size w w' := by
  have h16 := size4 hp4 hq4
  refine calls_of_T (l := [.agg #[.int .i64 ((p : Nat) : Int), .int .i64 ((q : Nat) : Int), .slice a n cap]]) 23 Try.func26 rfl rfl rfl ?_
  show T _ _ _ [(0, .agg #[.int .i64 ((p : Nat) : Int), .int .i64 ((q : Nat) : Int), .slice a n cap])] []
  refine T_seq (T_region ?_)
  refine TL_new 1 (.cells #[.int .i64 ((p : Nat) : Int), .int .i64 ((q : Nat) : Int), .slice a n cap] 24) (fun B => .pointer (some ⟨B, 0, none⟩)) (fun _ _ hρ _ => r_box (hρ _ _ rfl) rfl) rfl rfl rfl (w_n rfl) ?_
  intro B1
  refine TL_q (.int .i64 0) (fun _ _ hρ _ => r_assign (hρ _ _ rfl)) rfl rfl rfl (w_n rfl) ?_
  refine TL_seq ?_
  refine T_seq ?_
  refine T_seq (T_region ?_)
  refine TL_q (.pointer (some ⟨B1, 0, none⟩)) (fun _ _ hρ _ => r_fieldAddr fl24_0 sz3 (hρ _ _ rfl)) rfl rfl rfl (w_n rfl) ?_
  refine TL_q (.int .i64 ((p : Nat) : Int)) (fun _ _ hρ hm => r_load ag3 (hρ _ _ rfl) (hm.at 1 rfl) rfl) rfl rfl rfl (w_n rfl) ?_
  refine TL_q (.pointer (some ⟨B1, 1, none⟩)) (fun _ _ hρ _ => r_fieldAddr fl24_1 sz3 (hρ _ _ rfl)) rfl rfl rfl (w_n rfl) ?_
  refine TL_q (.int .i64 ((q : Nat) : Int)) (fun _ _ hρ hm => r_load ag3 (hρ _ _ rfl) (hm.at 1 rfl) rfl) rfl rfl rfl (w_n rfl) ?_
  refine TL_q (.agg #[.int .i64 ((p : Nat) : Int), .int .i64 ((q : Nat) : Int)]) (fun _ _ hρ _ => r_build (vs := [(0, .int .i64 ((p : Nat) : Int)), (1, .int .i64 ((q : Nat) : Int))]) (by kernel_rfl) (cons2 (pair2 (hρ _ _ rfl)) (cons2 (pair2 (hρ _ _ rfl)) rfl))) rfl rfl rfl (w_n rfl) ?_
  refine TL_new 2 (.cells #[.int .i64 0, .int .i64 0] 109) (fun B => .pointer (some ⟨B, 0, none⟩)) (fun _ _ _ _ => r_alloc (v := .agg #[.int .i64 0, .int .i64 0]) (by kernel_rfl) rfl) rfl rfl rfl (w_n rfl) ?_
  intro B2
  refine TL_store 2 (.cells #[.int .i64 ((p : Nat) : Int), .int .i64 ((q : Nat) : Int)] 109) rfl (fun _ _ hρ hm => r_store sz109 (hρ _ _ rfl) (hρ _ _ rfl) (hm.at 2 rfl) rfl rfl rfl rfl) rfl rfl (w_n rfl) ?_
  refine TL_seq ?_
  refine T_seq (T_region ?_)
  refine TL_q (.agg #[.int .i64 ((p : Nat) : Int), .int .i64 ((q : Nat) : Int)]) (fun _ _ hρ hm => r_loadA ag109 sz109 (hρ _ _ rfl) (hm.at 2 rfl) rfl rfl) rfl rfl rfl (w_n rfl) ?_
  refine TL_call (.bool true) (fun _ _ hρ _ => r_call (args := [.agg #[.int .i64 ((p : Nat) : Int), .int .i64 ((q : Nat) : Int)]]) (enters_of Try.func77 (by kernel_rfl) rfl) (hρ _ _ rfl) ((cons2 (hρ _ _ rfl) rfl)) rfl) (fun w _ => (may_c ((p : Nat) : Int) ((q : Nat) : Int) w).mono fun _ _ h => ⟨h.1.trans (congrArg Ending.returned (bool_as (mayI_of hp4 hq4))), h.2⟩) rfl rfl rfl (w_n rfl) ?_
  refine TL_q (.bool false) (fun _ _ hρ _ => r_not (b := true) (hρ _ _ rfl)) rfl rfl rfl (w_n rfl) ?_
  refine TL_q (.bool false) (fun _ _ hρ _ => r_move (hρ _ _ rfl)) rfl rfl rfl (w_n rfl) ?_
  refine TL_q (.pointer (some ⟨B1, 2, none⟩)) (fun _ _ hρ _ => r_fieldAddr fl24_2 sz22 (hρ _ _ rfl)) rfl rfl rfl (want_y 12 rfl rfl rfl) ?_
  refine TL_q (.slice a n cap) (fun _ _ hρ hm => r_load ag22 (hρ _ _ rfl) (hm.at 1 rfl) rfl) rfl rfl rfl (want_y 12 rfl rfl rfl) ?_
  refine TL_q (.int .i64 ((n : Nat) : Int)) (fun _ _ hρ _ => r_len sl22 (hρ _ _ rfl)) rfl rfl rfl (want_y 12 rfl rfl rfl) ?_
  refine TL_q (.pointer (some ⟨B2, 0, none⟩)) (fun _ _ hρ _ => r_fieldAddr fl109_0 sz3 (hρ _ _ rfl)) rfl rfl rfl (want_y 12 rfl rfl rfl) ?_
  refine TL_q (.int .i64 ((p : Nat) : Int)) (fun _ _ hρ hm => r_load ag3 (hρ _ _ rfl) (hm.at 2 rfl) rfl) rfl rfl rfl (want_y 12 rfl rfl rfl) ?_
  refine TL_q (.pointer (some ⟨B2, 1, none⟩)) (fun _ _ hρ _ => r_fieldAddr fl109_1 sz3 (hρ _ _ rfl)) rfl rfl rfl (want_y 12 rfl rfl rfl) ?_
  refine TL_q (.int .i64 ((q : Nat) : Int)) (fun _ _ hρ hm => r_load ag3 (hρ _ _ rfl) (hm.at 2 rfl) rfl) rfl rfl rfl (want_y 12 rfl rfl rfl) ?_
  refine TL_q (.int .i64 ((p * q : Nat) : Int)) (fun _ _ hρ _ => r_as (r_mul (hρ _ _ rfl) (hρ _ _ rfl)) (int_as ((wrap64 (by omega) (by omega)).trans (by omega)))) rfl rfl rfl (want_y 12 rfl rfl rfl) ?_
  refine TL_q (.bool (!decide (((n : Nat) : Int) = ((p * q : Nat) : Int)))) (fun _ _ hρ _ => r_neq (hρ _ _ rfl) (hρ _ _ rfl)) rfl rfl rfl (want_y 12 rfl rfl rfl) ?_
  refine TL_q (.bool (!decide (((n : Nat) : Int) = ((p * q : Nat) : Int)))) (fun _ _ hρ _ => r_pick_f (hρ _ _ rfl) (hρ _ _ rfl)) rfl rfl rfl (w_n rfl) ?_
  refine TL_seq ?_
  refine T_cond rfl (fun h1 => ?_) (fun h1 => ?_)
  · replace h1 := of_decide_eq_false (bnot_t h1)
    refine T_seq (T_region ?_)
    refine TL_q (.int .i64 150) (fun _ _ hρ _ => r_assign (hρ _ _ rfl)) rfl rfl rfl (w_n rfl) ?_
    refine TL_seq ?_
    refine T_ret' ?_
    refine p_then_r ?_
    refine ret_of rfl (.int .i64 150) (fun tmps w hk hm => res1 rfl (res_tmp (hk 2 _ rfl))) (fun w hm => ?_)
    exact ⟨by rw [if_neg (by omega)], hm.ext⟩
  · replace h1 := of_decide_eq_true (bnot_f h1)
    refine T_skip' ?_
    refine p_seq ?_
    refine T_seq (T_region ?_)
    refine TL_q (.int .i64 0) (fun _ _ hρ _ => r_assign (hρ _ _ rfl)) rfl rfl rfl (w_n rfl) ?_
    refine TL_seq ?_
    refine T_ret' ?_
    refine ret_of rfl (.int .i64 0) (fun tmps w hk hm => res1 rfl (res_tmp (hk 2 _ rfl))) (fun w hm => ?_)
    exact ⟨by rw [if_pos (by omega)], hm.ext⟩

theorem check_c (x y : Int) (a : Option Addr) (n cap : Nat) (w : World) : Calls Try.prog 26 #[.agg #[.int .i64 x, .int .i64 y, .slice a n cap]] w fun e w' => e = .returned (.int .i64 (if rightI x y n then 0 else 150)) ∧ Below w.heap.size w w' := by
  by_cases h : mayI x y = true
  · obtain ⟨p, q, rfl, rfl, hp4, hq4⟩ := mayI_nat h
    refine (check_in p q a n cap w hp4 hq4).mono fun e w' ⟨h1, h2⟩ => ⟨h1.trans ?_, h2⟩
    by_cases e : n = p * q
    · rw [if_pos e, if_pos (rightI_of hp4 hq4 e)]
    · rw [if_neg e, if_neg]
      intro h3
      have := (of_decide_eq_true h3).2
      exact e (by exact_mod_cast this)
  · refine (check_no x y a n cap w h).mono fun e w' ⟨h1, h2⟩ => ⟨h1.trans ?_, h2⟩
    rw [if_neg]
    intro h3
    exact h (of_decide_eq_true h3).1

theorem own_foot {w : World} {base n cap s : Nat} {e : TypeId} {x : Addr} {xs : List Value} (h : w.ownsRow base e s (.slice (some x) n cap) n xs) (hn : 0 < n) : (Value.slice (some x) n cap).ownBlock = some x.block := by
  rcases h.2 with ⟨h1, _⟩ | ⟨g, cap', cur, h1, _⟩
  · cases h1
  · cases h1; rfl

theorem of_ok (wd hg : Nat) (ts : List T64) (a : Option Addr) (cap : Nat) (w : World) (hv : SliceAt w a cap 256 T64.cells ts) (hwd : 1 ≤ wd ∧ wd ≤ 4) (hhg : 1 ≤ hg ∧ hg ≤ 4) (hlen : ts.length = wd * hg) : Calls Try.prog 15 #[.agg #[.int .i64 (wd : Int), .int .i64 (hg : Int), .slice a ts.length cap]] w fun e w' => ∃ c : Cv, e = .returned (.tuple #[.pointer (some ⟨c.p, 0, none⟩), .int .i64 0]) ∧ CvNew w w' [] c ∧ c.wd = wd ∧ c.hg = hg ∧ c.ts = ts := by
  have h16 := size4 hwd hhg
  refine calls_of_T (l := [.agg #[.int .i64 ((wd : Nat) : Int), .int .i64 ((hg : Nat) : Int), .slice a ts.length cap]]) 22 Try.func15 rfl rfl rfl ?_
  show T _ _ _ [(0, .agg #[.int .i64 ((wd : Nat) : Int), .int .i64 ((hg : Nat) : Int), .slice a ts.length cap])] []
  refine T_seq (T_region ?_)
  refine TL_new 1 (.cells #[.int .i64 ((wd : Nat) : Int), .int .i64 ((hg : Nat) : Int), .slice a ts.length cap] 24) (fun B => .pointer (some ⟨B, 0, none⟩)) (fun _ _ hρ _ => r_box (hρ _ _ rfl) rfl) rfl rfl rfl (w_n rfl) ?_
  intro B1
  refine TL_q (.pointer none) (fun _ _ hρ _ => r_assign (hρ _ _ rfl)) rfl rfl rfl (w_n rfl) ?_
  refine TL_q (.int .i64 0) (fun _ _ hρ _ => r_assign (hρ _ _ rfl)) rfl rfl rfl (w_n rfl) ?_
  refine TL_seq ?_
  refine T_seq ?_
  refine T_seq (T_region ?_)
  refine TL_q (.agg #[.int .i64 ((wd : Nat) : Int), .int .i64 ((hg : Nat) : Int), .slice a ts.length cap]) (fun _ _ hρ hm => r_loadA ag24 sz24 (hρ _ _ rfl) (hm.at 1 rfl) rfl rfl) rfl rfl rfl (w_n rfl) ?_
  refine TL_call (.int .i64 0) (fun _ _ hρ _ => r_call (args := [.agg #[.int .i64 ((wd : Nat) : Int), .int .i64 ((hg : Nat) : Int), .slice a ts.length cap]]) (enters_of Try.func26 (by kernel_rfl) rfl) (hρ _ _ rfl) ((cons2 (hρ _ _ rfl) rfl)) rfl) (fun w _ => (check_c ((wd : Nat) : Int) ((hg : Nat) : Int) a ts.length cap w).mono fun _ _ h => ⟨h.1.trans (congrArg Ending.returned (int_as (if_pos (rightI_of hwd hhg hlen)))), h.2⟩) rfl rfl rfl (w_n rfl) ?_
  refine TL_q (.int .i64 0) (fun _ _ hρ _ => r_assign (hρ _ _ rfl)) rfl rfl rfl (w_n rfl) ?_
  refine TL_seq ?_
  refine T_seq (T_region ?_)
  refine TL_q (.int .i64 0) (fun _ _ hρ _ => r_move (hρ _ _ rfl)) rfl rfl rfl (w_n rfl) ?_
  refine TL_q (.bool false) (fun _ _ hρ _ => r_as (r_neq (hρ _ _ rfl) (hρ _ _ rfl)) (by rfl)) rfl rfl rfl (w_n rfl) ?_
  refine TL_seq ?_
  refine T_cond_f rfl ?_
  refine T_skip' ?_
  refine p_seq ?_
  refine T_seq (T_region ?_)
  refine TL_q (.pointer (some ⟨B1, 2, none⟩)) (fun _ _ hρ _ => r_fieldAddr fl24_2 sz22 (hρ _ _ rfl)) rfl rfl rfl (w_n rfl) ?_
  refine TL_q (.slice a ts.length cap) (fun _ _ hρ hm => r_load ag22 (hρ _ _ rfl) (hm.at 1 rfl) rfl) rfl rfl rfl (w_n rfl) ?_
  refine TL_callN (fun (z : List BT × Option Addr × Nat) => z.1.map (·.2) = ts) (fun (lb2, ab2, cb2) => .slice ab2 lb2.length cb2) (fun (lb2, ab2, cb2) => [(2, .row (.slice ab2 lb2.length cb2) 106 1 lb2.length (lb2.flatMap BT.ptr)), (3, .tls (fun x : BT => x) lb2)]) (fun _ _ hρ _ => r_call (args := [.slice a ts.length cap, .func (.func 65) #[] #[]]) (enters_of Try.func64 (by kernel_rfl) rfl) (hρ _ _ rfl) ((cons2 (hρ _ _ rfl) (cons2 (hρ _ _ rfl) rfl))) rfl) (fun w hm => (made_of ts a cap w (hv.keep hm.ext) (by omega)).mono fun e w' ⟨l, a', cap', he, hl, hb, h1, h2, h3⟩ => ⟨(l, a', cap'), hl, he, hb, newOk2 2 3 h1 h2 h3⟩) rfl rfl rfl (w_n rfl) ?_
  rintro ⟨lb2, ab2, cb2⟩ hbt2
  dsimp only at hbt2
  refine TL_q (.slice ab2 lb2.length cb2) (fun _ _ hρ _ => r_assign (hρ _ _ rfl)) rfl rfl rfl (w_n rfl) ?_
  refine TL_seq ?_
  refine T_seq (T_region ?_)
  refine TL_q (.pointer (some ⟨B1, 0, none⟩)) (fun _ _ hρ _ => r_fieldAddr fl24_0 sz3 (hρ _ _ rfl)) rfl rfl rfl (w_n rfl) ?_
  refine TL_q (.int .i64 ((wd : Nat) : Int)) (fun _ _ hρ hm => r_load ag3 (hρ _ _ rfl) (hm.at 1 rfl) rfl) rfl rfl rfl (w_n rfl) ?_
  refine TL_q (.pointer (some ⟨B1, 1, none⟩)) (fun _ _ hρ _ => r_fieldAddr fl24_1 sz3 (hρ _ _ rfl)) rfl rfl rfl (w_n rfl) ?_
  refine TL_q (.int .i64 ((hg : Nat) : Int)) (fun _ _ hρ hm => r_load ag3 (hρ _ _ rfl) (hm.at 1 rfl) rfl) rfl rfl rfl (w_n rfl) ?_
  refine TL_q (.agg #[.int .i64 ((wd : Nat) : Int), .int .i64 ((hg : Nat) : Int)]) (fun _ _ hρ _ => r_build (vs := [(0, .int .i64 ((wd : Nat) : Int)), (1, .int .i64 ((hg : Nat) : Int))]) (by kernel_rfl) (cons2 (pair2 (hρ _ _ rfl)) (cons2 (pair2 (hρ _ _ rfl)) rfl))) rfl rfl rfl (w_n rfl) ?_
  refine TL_q (.slice ab2 lb2.length cb2) (fun _ _ hρ _ => r_move (hρ _ _ rfl)) rfl rfl rfl (w_n rfl) ?_
  refine TL_q (.agg #[.int .i64 ((wd : Nat) : Int), .int .i64 ((hg : Nat) : Int), .slice ab2 lb2.length cb2]) (fun _ _ hρ _ => r_build (vs := [(0, .agg #[.int .i64 ((wd : Nat) : Int), .int .i64 ((hg : Nat) : Int)]), (1, .slice ab2 lb2.length cb2)]) (by kernel_rfl) (cons2 (pair2 (hρ _ _ rfl)) (cons2 (pair2 (hρ _ _ rfl)) rfl))) rfl rfl rfl (w_n rfl) ?_
  refine TL_new 4 (.cells #[.int .i64 ((wd : Nat) : Int), .int .i64 ((hg : Nat) : Int), .slice ab2 lb2.length cb2] 111) (fun B => .pointer (some ⟨B, 0, none⟩)) (fun _ _ hρ _ => r_box (hρ _ _ rfl) rfl) rfl rfl rfl (w_n rfl) ?_
  intro B3
  refine TL_q (.pointer (some ⟨B3, 0, none⟩)) (fun _ _ hρ _ => r_assign (hρ _ _ rfl)) rfl rfl rfl (w_n rfl) ?_
  refine TL_q (.int .i64 0) (fun _ _ hρ _ => r_assign (hρ _ _ rfl)) rfl rfl rfl (w_n rfl) ?_
  refine TL_seq ?_
  refine T_ret' ?_
  refine ret_of rfl (.tuple #[.pointer (some ⟨B3, 0, none⟩), .int .i64 0]) (fun tmps w hk hm => res2 rfl (res_tmp (hk 2 _ rfl)) (res_tmp (hk 3 _ rfl))) (fun w hm => ?_)
  have hlb := map_len hbt2
  have hrow := hm.row 2 rfl
  rw [bt_flat] at hrow
  refine ⟨⟨B3, ab2, cb2, lb2.map (·.1), wd, hg, ts⟩, rfl, ⟨hm.ext, ⟨?_, ?_, row_cap hrow, ?_, ?_, ?_, hwd, hhg⟩, ?_⟩, rfl, rfl, rfl⟩
  · have := hm.at 4 rfl; simpa using this
  · exact SliceAt.own ptrc_len hrow (by simp) rfl
  · intro i q t hq ht; exact hm.tl 3 rfl (bt_at hbt2 hq ht)
  · show (lb2.map (·.1)).length = wd * hg; rw [List.length_map]; omega
  · show ts.length = (lb2.map (·.1)).length; rw [List.length_map]; omega
  · rintro b (rfl | ⟨x, hx, rfl⟩ | hb)
    · exact .inl (hm.own 4 _ rfl).1
    · cases hx; exact .inl (Res.low (hm.own 2 _ rfl) (own_foot (hm.row 2 rfl) (by omega))).1
    · obtain ⟨x, hx, rfl⟩ := List.mem_map.1 hb
      exact .inl ((hm.own 3 _ rfl).2.1 x.1 ⟨x, hx, rfl⟩).1

theorem of_no (x y : Int) (a : Option Addr) (n cap : Nat) (w : World) (hno : ¬ rightI x y n = true) : Calls Try.prog 15 #[.agg #[.int .i64 x, .int .i64 y, .slice a n cap]] w fun e w' => e = .returned (.tuple #[.pointer none, .int .i64 150]) ∧ Below w.heap.size w w' := by
  refine calls_of_T (l := [.agg #[.int .i64 x, .int .i64 y, .slice a n cap]]) 22 Try.func15 rfl rfl rfl ?_
  show T _ _ _ [(0, .agg #[.int .i64 x, .int .i64 y, .slice a n cap])] []
  refine T_seq (T_region ?_)
  refine TL_new 1 (.cells #[.int .i64 x, .int .i64 y, .slice a n cap] 24) (fun B => .pointer (some ⟨B, 0, none⟩)) (fun _ _ hρ _ => r_box (hρ _ _ rfl) rfl) rfl rfl rfl (w_n rfl) ?_
  intro B1
  refine TL_q (.pointer none) (fun _ _ hρ _ => r_assign (hρ _ _ rfl)) rfl rfl rfl (w_n rfl) ?_
  refine TL_q (.int .i64 0) (fun _ _ hρ _ => r_assign (hρ _ _ rfl)) rfl rfl rfl (w_n rfl) ?_
  refine TL_seq ?_
  refine T_seq ?_
  refine T_seq (T_region ?_)
  refine TL_q (.agg #[.int .i64 x, .int .i64 y, .slice a n cap]) (fun _ _ hρ hm => r_loadA ag24 sz24 (hρ _ _ rfl) (hm.at 1 rfl) rfl rfl) rfl rfl rfl (w_n rfl) ?_
  refine TL_call (.int .i64 150) (fun _ _ hρ _ => r_call (args := [.agg #[.int .i64 x, .int .i64 y, .slice a n cap]]) (enters_of Try.func26 (by kernel_rfl) rfl) (hρ _ _ rfl) ((cons2 (hρ _ _ rfl) rfl)) rfl) (fun w _ => (check_c x y a n cap w).mono fun _ _ h => ⟨h.1.trans (congrArg Ending.returned (int_as (if_neg hno))), h.2⟩) rfl rfl rfl (w_n rfl) ?_
  refine TL_q (.int .i64 150) (fun _ _ hρ _ => r_assign (hρ _ _ rfl)) rfl rfl rfl (w_n rfl) ?_
  refine TL_seq ?_
  refine T_seq (T_region ?_)
  refine TL_q (.int .i64 150) (fun _ _ hρ _ => r_move (hρ _ _ rfl)) rfl rfl rfl (w_n rfl) ?_
  refine TL_q (.bool true) (fun _ _ hρ _ => r_as (r_neq (hρ _ _ rfl) (hρ _ _ rfl)) (by rfl)) rfl rfl rfl (w_n rfl) ?_
  refine TL_seq ?_
  refine T_cond_t rfl ?_
  refine T_seq (T_region ?_)
  refine TL_q (.int .i64 150) (fun _ _ hρ _ => r_move (hρ _ _ rfl)) rfl rfl rfl (w_n rfl) ?_
  refine TL_q (.pointer none) (fun _ _ hρ _ => r_assign (hρ _ _ rfl)) rfl rfl rfl (w_n rfl) ?_
  refine TL_q (.int .i64 150) (fun _ _ hρ _ => r_assign (hρ _ _ rfl)) rfl rfl rfl (w_n rfl) ?_
  refine TL_seq ?_
  refine T_ret' ?_
  refine p_then_r ?_
  refine ret_of rfl (.tuple #[.pointer none, .int .i64 150]) (fun tmps w hk hm => res2 rfl (res_tmp (hk 2 _ rfl)) (res_tmp (hk 3 _ rfl))) (fun w hm => ?_)
  exact ⟨rfl, hm.ext⟩
end Go.Proofs.Ytbiapeaghbndoaa
