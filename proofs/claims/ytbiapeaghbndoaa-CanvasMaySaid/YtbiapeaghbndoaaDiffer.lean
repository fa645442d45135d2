/- canvas: Differ. Printed by a program of this seat's prover. -/
import Derived.Test.YtbiapeaghbndoaaPts
import Derived.Test.YtbiapeaghbndoaaRanB
namespace Go.Proofs.Ytbiapeaghbndoaa
open Go Go.RowKit
set_option maxRecDepth 10000
/-- The points, row by row. Those of the first k at which two have other colours. -/
abbrev NP := Nat × Nat
abbrev ptn (x : NP) : List Value := [.int .i64 ((x.1 : Nat) : Int), .int .i64 ((x.2 : Nat) : Int)]
theorem ptn_len (x : NP) : (ptn x).length = 2 := rfl
def isD (wd : Nat) (ts us : List T64) (x : NP) : Bool := decide (¬ colAt wd ts x.1 x.2 = colAt wd us x.1 x.2)
def difN (wd hg : Nat) (ts us : List T64) (k : Nat) : List NP := ((ptsC wd hg).take k).filter (isD wd ts us)
def difC (wd hg : Nat) (ts us : List T64) : List NP := (ptsC wd hg).filter (isD wd ts us)
theorem dif_t {wd hg : Nat} {ts us : List T64} {k : Nat} {x : NP} (hx : (ptsC wd hg)[k]? = some x) (h : ¬ colAt wd ts x.1 x.2 = colAt wd us x.1 x.2) : difN wd hg ts us (k + 1) = difN wd hg ts us k ++ [x] := by
  unfold difN
  rw [List.take_add_one, hx, List.filter_append]
  have : isD wd ts us x = true := decide_eq_true h
  simp [this]
theorem dif_f {wd hg : Nat} {ts us : List T64} {k : Nat} {x : NP} (hx : (ptsC wd hg)[k]? = some x) (h : colAt wd ts x.1 x.2 = colAt wd us x.1 x.2) : difN wd hg ts us (k + 1) = difN wd hg ts us k := by
  unfold difN
  rw [List.take_add_one, hx, List.filter_append]
  have : isD wd ts us x = false := decide_eq_false (fun e => e h)
  simp [this]
theorem dif_all (wd hg : Nat) (ts us : List T64) : difN wd hg ts us (ptsC wd hg).length = difC wd hg ts us := by unfold difN difC; rw [List.take_length]
theorem dif_le (wd hg : Nat) (ts us : List T64) (k : Nat) (hwd : 1 ≤ wd ∧ wd ≤ 4) (hhg : 1 ≤ hg ∧ hg ≤ 4) : (difN wd hg ts us k).length ≤ 1024 := by
  have h1 := List.length_filter_le (isD wd ts us) ((ptsC wd hg).take k)
  have h2 : ((ptsC wd hg).take k).length ≤ (ptsC wd hg).length := by rw [List.length_take]; omega
  rw [ptsC_len] at h2
  have h3 : 8 * hg * (8 * wd) ≤ 32 * 32 := Nat.mul_le_mul (by omega) (by omega)
  show (((ptsC wd hg).take k).filter (isD wd ts us)).length ≤ 1024
  omega
theorem cat_c (c : Cv) (x y : Int) (w : World) (hc : CvAt w c) : Calls Try.prog 23 #[.pointer (some ⟨c.p, 0, none⟩), .int .i64 x, .int .i64 y] w fun e w' => e = .returned (.tuple #[(colI c.wd c.hg c.ts x y).v, .bool (onC c.wd c.hg x y)]) ∧ Below w.heap.size w w' := by
  by_cases h : onC c.wd c.hg x y = true
  · obtain ⟨u, v, rfl, rfl, hu, hv⟩ := onC_nat h
    refine (cat_in c u v w hc hu hv).mono fun e w' ⟨h1, h2⟩ => ⟨h1.trans ?_, h2⟩
    rw [h, colI_on hu hv]
  · refine (cat_out c x y w hc h).mono fun e w' ⟨h1, h2⟩ => ⟨h1.trans ?_, h2⟩
    rw [colI_off h, eq_false_of_ne_true h]

theorem differ1_c (c d : Cv) (bc bd u v : Nat) (w : World) (hc : CvAt w c) (hd : CvAt w d) (hbc : hp w bc = some (.cells #[.pointer (some ⟨c.p, 0, none⟩)] 28)) (hbd : hp w bd = some (.cells #[.pointer (some ⟨d.p, 0, none⟩)] 28)) (hu : u < 8 * c.wd) (hv : v < 8 * c.hg) (hwe : c.wd = d.wd) (hhe : c.hg = d.hg) : Calls Try.prog 70 #[.agg #[.int .i64 (u : Int), .int .i64 (v : Int)], .pointer (some ⟨bc, 0, none⟩), .pointer (some ⟨bd, 0, none⟩)] w fun e w' => e = .returned (.bool (!decide (colAt c.wd c.ts u v = colAt c.wd d.ts u v))) ∧ Below w.heap.size w w' := by
  refine calls_of_T (l := [.agg #[.int .i64 ((u : Nat) : Int), .int .i64 ((v : Nat) : Int)], .pointer (some ⟨bc, 0, none⟩), .pointer (some ⟨bd, 0, none⟩)]) 30 Try.func70 rfl rfl rfl ?_
  show T _ _ _ [(0, .agg #[.int .i64 ((u : Nat) : Int), .int .i64 ((v : Nat) : Int)]), (1, .pointer (some ⟨bc, 0, none⟩)), (2, .pointer (some ⟨bd, 0, none⟩))] []
  refine T_seq (T_region ?_)
  refine TL_new 1 (.cells #[.int .i64 ((u : Nat) : Int), .int .i64 ((v : Nat) : Int)] 47) (fun B => .pointer (some ⟨B, 0, none⟩)) (fun _ _ hρ _ => r_box (hρ _ _ rfl) rfl) rfl rfl rfl (w_n rfl) ?_
  intro B1
  refine TL_q (.bool false) (fun _ _ hρ _ => r_assign (hρ _ _ rfl)) rfl rfl rfl (w_n rfl) ?_
  refine TL_seq ?_
  refine T_seq (T_region ?_)
  refine TL_q (.pointer (some ⟨c.p, 0, none⟩)) (fun _ _ hρ hm => r_load ag28 (hρ _ _ rfl) (hm.old hbc) rfl) rfl rfl rfl (w_n rfl) ?_
  refine TL_q (.pointer (some ⟨B1, 0, none⟩)) (fun _ _ hρ _ => r_fieldAddr fl47_0 sz3 (hρ _ _ rfl)) rfl rfl rfl (w_n rfl) ?_
  refine TL_q (.int .i64 ((u : Nat) : Int)) (fun _ _ hρ hm => r_load ag3 (hρ _ _ rfl) (hm.at 1 rfl) rfl) rfl rfl rfl (w_n rfl) ?_
  refine TL_q (.pointer (some ⟨B1, 1, none⟩)) (fun _ _ hρ _ => r_fieldAddr fl47_1 sz3 (hρ _ _ rfl)) rfl rfl rfl (w_n rfl) ?_
  refine TL_q (.int .i64 ((v : Nat) : Int)) (fun _ _ hρ hm => r_load ag3 (hρ _ _ rfl) (hm.at 1 rfl) rfl) rfl rfl rfl (w_n rfl) ?_
  refine TL_call (.tuple #[.agg #[.int .u8 ((colAt c.wd c.ts u v).r), .int .u8 ((colAt c.wd c.ts u v).g), .int .u8 ((colAt c.wd c.ts u v).b), .int .u8 ((colAt c.wd c.ts u v).a)], .bool true]) (fun _ _ hρ _ => r_call (args := [.pointer (some ⟨c.p, 0, none⟩), .int .i64 ((u : Nat) : Int), .int .i64 ((v : Nat) : Int)]) (enters_of Try.func23 (by kernel_rfl) rfl) (hρ _ _ rfl) ((cons2 (hρ _ _ rfl) (cons2 (hρ _ _ rfl) (cons2 (hρ _ _ rfl) rfl)))) rfl) (fun w hm => cat_in c u v w (hc.below hm.ext) hu hv) rfl rfl rfl (w_n rfl) ?_
  refine TL_q (.tuple #[.agg #[.int .u8 ((colAt c.wd c.ts u v).r), .int .u8 ((colAt c.wd c.ts u v).g), .int .u8 ((colAt c.wd c.ts u v).b), .int .u8 ((colAt c.wd c.ts u v).a)], .bool true]) (fun _ _ hρ _ => r_move (hρ _ _ rfl)) rfl rfl rfl (w_n rfl) ?_
  refine TL_q (.agg #[.int .u8 ((colAt c.wd c.ts u v).r), .int .u8 ((colAt c.wd c.ts u v).g), .int .u8 ((colAt c.wd c.ts u v).b), .int .u8 ((colAt c.wd c.ts u v).a)]) (fun _ _ hρ _ => r_extract (hρ _ _ rfl) rfl) rfl rfl rfl (w_n rfl) ?_
  refine TL_q (.bool true) (fun _ _ hρ _ => r_extract (hρ _ _ rfl) rfl) rfl rfl rfl (w_n rfl) ?_
  refine TL_new 2 (.cells #[.int .u8 0, .int .u8 0, .int .u8 0, .int .u8 0] 37) (fun B => .pointer (some ⟨B, 0, none⟩)) (fun _ _ _ _ => r_alloc (v := .agg #[.int .u8 0, .int .u8 0, .int .u8 0, .int .u8 0]) (by kernel_rfl) rfl) rfl rfl rfl (w_n rfl) ?_
  intro B2
  refine TL_store 2 (.cells #[.int .u8 ((colAt c.wd c.ts u v).r), .int .u8 ((colAt c.wd c.ts u v).g), .int .u8 ((colAt c.wd c.ts u v).b), .int .u8 ((colAt c.wd c.ts u v).a)] 37) rfl (fun _ _ hρ hm => r_store sz37 (hρ _ _ rfl) (hρ _ _ rfl) (hm.at 2 rfl) rfl rfl rfl rfl) rfl rfl (w_n rfl) ?_
  refine TL_q (.bool true) (fun _ _ hρ _ => r_assign (hρ _ _ rfl)) rfl rfl rfl (w_n rfl) ?_
  refine TL_seq ?_
  refine T_seq (T_region ?_)
  refine TL_q (.pointer (some ⟨d.p, 0, none⟩)) (fun _ _ hρ hm => r_load ag28 (hρ _ _ rfl) (hm.old hbd) rfl) rfl rfl rfl (w_n rfl) ?_
  refine TL_q (.pointer (some ⟨B1, 0, none⟩)) (fun _ _ hρ _ => r_fieldAddr fl47_0 sz3 (hρ _ _ rfl)) rfl rfl rfl (w_n rfl) ?_
  refine TL_q (.int .i64 ((u : Nat) : Int)) (fun _ _ hρ hm => r_load ag3 (hρ _ _ rfl) (hm.at 1 rfl) rfl) rfl rfl rfl (w_n rfl) ?_
  refine TL_q (.pointer (some ⟨B1, 1, none⟩)) (fun _ _ hρ _ => r_fieldAddr fl47_1 sz3 (hρ _ _ rfl)) rfl rfl rfl (w_n rfl) ?_
  refine TL_q (.int .i64 ((v : Nat) : Int)) (fun _ _ hρ hm => r_load ag3 (hρ _ _ rfl) (hm.at 1 rfl) rfl) rfl rfl rfl (w_n rfl) ?_
  refine TL_call (.tuple #[.agg #[.int .u8 ((colAt d.wd d.ts u v).r), .int .u8 ((colAt d.wd d.ts u v).g), .int .u8 ((colAt d.wd d.ts u v).b), .int .u8 ((colAt d.wd d.ts u v).a)], .bool true]) (fun _ _ hρ _ => r_call (args := [.pointer (some ⟨d.p, 0, none⟩), .int .i64 ((u : Nat) : Int), .int .i64 ((v : Nat) : Int)]) (enters_of Try.func23 (by kernel_rfl) rfl) (hρ _ _ rfl) ((cons2 (hρ _ _ rfl) (cons2 (hρ _ _ rfl) (cons2 (hρ _ _ rfl) rfl)))) rfl) (fun w hm => cat_in d u v w (hd.below hm.ext) (hwe ▸ hu) (hhe ▸ hv)) rfl rfl rfl (w_n rfl) ?_
  refine TL_q (.tuple #[.agg #[.int .u8 ((colAt d.wd d.ts u v).r), .int .u8 ((colAt d.wd d.ts u v).g), .int .u8 ((colAt d.wd d.ts u v).b), .int .u8 ((colAt d.wd d.ts u v).a)], .bool true]) (fun _ _ hρ _ => r_move (hρ _ _ rfl)) rfl rfl rfl (w_n rfl) ?_
  refine TL_q (.agg #[.int .u8 ((colAt d.wd d.ts u v).r), .int .u8 ((colAt d.wd d.ts u v).g), .int .u8 ((colAt d.wd d.ts u v).b), .int .u8 ((colAt d.wd d.ts u v).a)]) (fun _ _ hρ _ => r_extract (hρ _ _ rfl) rfl) rfl rfl rfl (w_n rfl) ?_
  refine TL_q (.bool true) (fun _ _ hρ _ => r_extract (hρ _ _ rfl) rfl) rfl rfl rfl (w_n rfl) ?_
  refine TL_new 3 (.cells #[.int .u8 0, .int .u8 0, .int .u8 0, .int .u8 0] 37) (fun B => .pointer (some ⟨B, 0, none⟩)) (fun _ _ _ _ => r_alloc (v := .agg #[.int .u8 0, .int .u8 0, .int .u8 0, .int .u8 0]) (by kernel_rfl) rfl) rfl rfl rfl (w_n rfl) ?_
  intro B3
  refine TL_store 3 (.cells #[.int .u8 ((colAt d.wd d.ts u v).r), .int .u8 ((colAt d.wd d.ts u v).g), .int .u8 ((colAt d.wd d.ts u v).b), .int .u8 ((colAt d.wd d.ts u v).a)] 37) rfl (fun _ _ hρ hm => r_store sz37 (hρ _ _ rfl) (hρ _ _ rfl) (hm.at 3 rfl) rfl rfl rfl rfl) rfl rfl (w_n rfl) ?_
  refine TL_q (.bool true) (fun _ _ hρ _ => r_assign (hρ _ _ rfl)) rfl rfl rfl (w_n rfl) ?_
  refine TL_seq ?_
  refine T_seq (T_region ?_)
  refine TL_q (.agg #[.int .u8 ((colAt c.wd c.ts u v).r), .int .u8 ((colAt c.wd c.ts u v).g), .int .u8 ((colAt c.wd c.ts u v).b), .int .u8 ((colAt c.wd c.ts u v).a)]) (fun _ _ hρ hm => r_loadA ag37 sz37 (hρ _ _ rfl) (hm.at 2 rfl) rfl rfl) rfl rfl rfl (w_n rfl) ?_
  refine TL_q (.agg #[.int .u8 ((colAt d.wd d.ts u v).r), .int .u8 ((colAt d.wd d.ts u v).g), .int .u8 ((colAt d.wd d.ts u v).b), .int .u8 ((colAt d.wd d.ts u v).a)]) (fun _ _ hρ hm => r_loadA ag37 sz37 (hρ _ _ rfl) (hm.at 3 rfl) rfl rfl) rfl rfl rfl (w_n rfl) ?_
  refine TL_q (.bool (!decide ((colAt c.wd c.ts u v) = (colAt d.wd d.ts u v)))) (fun _ _ hρ _ => r_as (r_neqA (by kernel_rfl) (hρ _ _ rfl) (hρ _ _ rfl) (run_equalI (l := [(0, .u8), (1, .u8), (2, .u8), (3, .u8)]) (by kernel_rfl) rfl rfl)) (bool_as (congrArg (fun b => !b) (eqC (colAt c.wd c.ts u v) (colAt d.wd d.ts u v))))) rfl rfl rfl (w_n rfl) ?_
  refine TL_q (.bool (!decide ((colAt c.wd c.ts u v) = (colAt d.wd d.ts u v)))) (fun _ _ hρ _ => r_assign (hρ _ _ rfl)) rfl rfl rfl (w_n rfl) ?_
  refine TL_seq ?_
  refine T_ret' ?_
  refine ret_of rfl (.bool (!decide ((colAt c.wd c.ts u v) = (colAt d.wd d.ts u v)))) (fun tmps w hk hm => res1 rfl (res_tmp (hk 4 _ rfl))) (fun w hm => ?_)
  exact ⟨by rw [hwe], hm.ext⟩

theorem points_c (wd hg : Nat) (w : World) : Calls Try.prog 71 #[.agg #[.int .i64 (wd : Int), .int .i64 (hg : Int)]] w fun e w' => ∃ q, e = .returned (.func (.func 101) #[] #[.pointer (some ⟨q, 0, none⟩)]) ∧ Below w.heap.size w w' ∧ (Res.blk q (.cells #[.int .i64 (wd : Int), .int .i64 (hg : Int)] 109)).ok w.heap.size w' := by
  refine calls_of_T (l := [.agg #[.int .i64 ((wd : Nat) : Int), .int .i64 ((hg : Nat) : Int)]]) 4 Try.func71 rfl rfl rfl ?_
  show T _ _ _ [(0, .agg #[.int .i64 ((wd : Nat) : Int), .int .i64 ((hg : Nat) : Int)])] []
  refine T_seq (T_region ?_)
  refine TL_new 1 (.cells #[.int .i64 ((wd : Nat) : Int), .int .i64 ((hg : Nat) : Int)] 109) (fun B => .pointer (some ⟨B, 0, none⟩)) (fun _ _ hρ _ => r_box (hρ _ _ rfl) rfl) rfl rfl rfl (w_n rfl) ?_
  intro B1
  refine TL_q (.nilFunc) (fun _ _ hρ _ => r_assign (hρ _ _ rfl)) rfl rfl rfl (w_n rfl) ?_
  refine TL_seq ?_
  refine T_seq (T_region ?_)
  refine TL_q (.func (.func 101) #[] #[.pointer (some ⟨B1, 0, none⟩)]) (fun _ _ hρ _ => r_makeFunc (by simp) (map_arr (cons2 (hρ _ _ rfl) rfl))) rfl rfl rfl (w_n rfl) ?_
  refine TL_q (.func (.func 101) #[] #[.pointer (some ⟨B1, 0, none⟩)]) (fun _ _ hρ _ => r_assign (hρ _ _ rfl)) rfl rfl rfl (w_n rfl) ?_
  refine TL_seq ?_
  refine T_ret' ?_
  refine ret_of rfl (.func (.func 101) #[] #[.pointer (some ⟨B1, 0, none⟩)]) (fun tmps w hk hm => res1 rfl (res_tmp (hk 2 _ rfl))) (fun w hm => ?_)
  exact ⟨B1, rfl, hm.ext, hm.own 1 _ rfl⟩

set_option maxHeartbeats 1000000 in
theorem differ_eq (c d : Cv) (w : World) (hc : CvAt w c) (hd : CvAt w d) (hwe : c.wd = d.wd) (hhe : c.hg = d.hg) : Calls Try.prog 22 #[.pointer (some ⟨c.p, 0, none⟩), .pointer (some ⟨d.p, 0, none⟩)] w fun e w' => ∃ a' cap', e = .returned (.slice a' (difC c.wd c.hg c.ts d.ts).length cap') ∧ Below w.heap.size w w' ∧ w'.ownsRow w.heap.size 47 2 (.slice a' (difC c.wd c.hg c.ts d.ts).length cap') (difC c.wd c.hg c.ts d.ts).length ((difC c.wd c.hg c.ts d.ts).flatMap ptn) := by
  have hblk := hc.blk
  have hblkd := hd.blk
  refine calls_of_T (l := [.pointer (some ⟨c.p, 0, none⟩), .pointer (some ⟨d.p, 0, none⟩)]) 40 Try.func22 rfl rfl rfl ?_
  show T _ _ _ [(0, .pointer (some ⟨c.p, 0, none⟩)), (1, .pointer (some ⟨d.p, 0, none⟩))] []
  refine T_seq (T_region ?_)
  refine TL_new 1 (.cells #[.pointer (some ⟨c.p, 0, none⟩)] 28) (fun B => .pointer (some ⟨B, 0, none⟩)) (fun _ _ hρ _ => r_box (hρ _ _ rfl) rfl) rfl rfl rfl (w_n rfl) ?_
  intro B1
  refine TL_new 2 (.cells #[.pointer (some ⟨d.p, 0, none⟩)] 28) (fun B => .pointer (some ⟨B, 0, none⟩)) (fun _ _ hρ _ => r_box (hρ _ _ rfl) rfl) rfl rfl rfl (w_n rfl) ?_
  intro B2
  refine TL_q (.slice none 0 0) (fun _ _ hρ _ => r_assign (hρ _ _ rfl)) rfl rfl rfl (w_n rfl) ?_
  refine TL_seq ?_
  refine T_seq ?_
  have hse : (c.wd, c.hg) = (d.wd, d.hg) := by rw [hwe, hhe]
  refine T_seq (T_draw (V := [(0, .pointer (some ⟨c.p, 0, none⟩)), (1, .bool false), (2, .bool false), (3, .pointer (some ⟨d.p, 0, none⟩)), (4, .bool false), (5, .bool false), (6, .bool false), (7, .pointer (some ⟨c.p, 0, none⟩)), (8, .pointer (some ⟨c.p, 0, none⟩)), (9, .pointer (some ⟨c.p, 0, none⟩)), (10, .agg #[.int .i64 ((c.wd : Nat) : Int), .int .i64 ((c.hg : Nat) : Int)]), (11, .pointer (some ⟨d.p, 0, none⟩)), (12, .pointer (some ⟨d.p, 0, none⟩)), (13, .pointer (some ⟨d.p, 0, none⟩)), (14, .agg #[.int .i64 ((d.wd : Nat) : Int), .int .i64 ((d.hg : Nat) : Int)]), (15, .bool false), (16, .bool false)]) [0, 1, 3, 7, 15, 31, 63, 127, 255, 511, 1023, 127, 2175, 6271, 14463, 32767, 65535] [[(2, none)], [(8, some 0)], [(9, some 1)], [(3, none)], [(11, some 3)], [(12, some 4), (10, some 2)], [(13, some 5)], [(2, none)], [(15, some 7)], [(16, some 8)], [(17, some 9)], [(3, none)], [(19, some 11)], [(20, some 12)], [(21, some 13)], [(18, some 10), (22, some 14)], [(23, some 15), (14, some 6)]] 0 mixed (by kernel_rfl) ?_)
  refine G_last [0, 1, 2, 3, 4, 5, 6, 7, 8, 9, 10, 11, 12, 13, 14, 15, 16] [(2, .pointer (some ⟨B1, 0, none⟩)), (3, .pointer (some ⟨B2, 0, none⟩)), (4, .slice none 0 0), (24, .bool false)] (by kernel_rfl) (allM (all_cons (q_run (.pointer (some ⟨c.p, 0, none⟩)) rfl rfl (wv_n rfl) rfl (fun _ _ hρ hm => r_load ag28 (hρ _ _ rfl) (hm.at 1 rfl) rfl)) (all_cons (q_run (.bool false) rfl rfl (wv_n rfl) rfl (fun _ _ hρ _ => r_as (r_eqlPn po28 (hρ _ _ rfl) (hρ _ _ rfl)) (by rfl))) (all_cons (q_run (.bool false) rfl rfl (wv_n rfl) rfl (fun _ _ hρ _ => r_move (hρ _ _ rfl))) (all_cons (q_run (.pointer (some ⟨d.p, 0, none⟩)) rfl rfl (wv_y rfl rfl) rfl (fun _ _ hρ hm => r_load ag28 (hρ _ _ rfl) (hm.at 2 rfl) rfl)) (all_cons (q_run (.bool false) rfl rfl (wv_y rfl rfl) rfl (fun _ _ hρ _ => r_as (r_eqlPn po28 (hρ _ _ rfl) (hρ _ _ rfl)) (by rfl))) (all_cons (q_run (.bool false) rfl rfl (wv_n rfl) rfl (fun _ _ hρ _ => r_pick_f (hρ _ _ rfl) (hρ _ _ rfl))) (all_cons (q_run (.bool false) rfl rfl (wv_n rfl) rfl (fun _ _ hρ _ => r_move (hρ _ _ rfl))) (all_cons (q_run (.pointer (some ⟨c.p, 0, none⟩)) rfl rfl (wv_y rfl rfl) rfl (fun _ _ hρ hm => r_load ag28 (hρ _ _ rfl) (hm.at 1 rfl) rfl)) (all_cons (q_run (.pointer (some ⟨c.p, 0, none⟩)) rfl rfl (wv_y rfl rfl) rfl (fun _ _ hρ _ => r_nilCheck (hρ _ _ rfl) rfl)) (all_cons (q_run (.pointer (some ⟨c.p, 0, none⟩)) rfl rfl (wv_y rfl rfl) rfl (fun _ _ hρ _ => r_fieldAddr fl111_0 sz109 (hρ _ _ rfl))) (all_cons (q_run (.agg #[.int .i64 ((c.wd : Nat) : Int), .int .i64 ((c.hg : Nat) : Int)]) rfl rfl (wv_y rfl rfl) rfl (fun _ _ hρ hm => r_loadA ag109 sz109 (hρ _ _ rfl) (hm.old hblk) rfl rfl)) (all_cons (q_run (.pointer (some ⟨d.p, 0, none⟩)) rfl rfl (wv_y rfl rfl) rfl (fun _ _ hρ hm => r_load ag28 (hρ _ _ rfl) (hm.at 2 rfl) rfl)) (all_cons (q_run (.pointer (some ⟨d.p, 0, none⟩)) rfl rfl (wv_y rfl rfl) rfl (fun _ _ hρ _ => r_nilCheck (hρ _ _ rfl) rfl)) (all_cons (q_run (.pointer (some ⟨d.p, 0, none⟩)) rfl rfl (wv_y rfl rfl) rfl (fun _ _ hρ _ => r_fieldAddr fl111_0 sz109 (hρ _ _ rfl))) (all_cons (q_run (.agg #[.int .i64 ((d.wd : Nat) : Int), .int .i64 ((d.hg : Nat) : Int)]) rfl rfl (wv_y rfl rfl) rfl (fun _ _ hρ hm => r_loadA ag109 sz109 (hρ _ _ rfl) (hm.old hblkd) rfl rfl)) (all_cons (q_run (.bool false) rfl rfl (wv_y rfl rfl) rfl (fun _ _ hρ _ => r_as (r_as (r_neqA (by kernel_rfl) (hρ _ _ rfl) (hρ _ _ rfl) (run_equalI (l := [(0, .i64), (1, .i64)]) (by kernel_rfl) rfl rfl)) (bool_as (congrArg (fun b => !b) (eqSz c.wd c.hg d.wd d.hg)))) (bool_as (by rw [decide_eq_true hse]; rfl)))) (all_cons (q_run (.bool false) rfl rfl (wv_n rfl) rfl (fun _ _ hρ _ => r_pick_f (hρ _ _ rfl) (hρ _ _ rfl))) all_nil)))))))))))))))))) (end_old rfl rfl (end_old rfl rfl (end_old rfl rfl (end_new 16 rfl rfl end_nil)))) ?_
  refine T_cond_f rfl ?_
  refine T_skip' ?_
  refine p_seq ?_
  refine T_seq (T_region ?_)
  refine TL_q (.func (.func 70) #[] #[.pointer (some ⟨B1, 0, none⟩), .pointer (some ⟨B2, 0, none⟩)]) (fun _ _ hρ _ => r_makeFunc (by simp) (map_arr (cons2 (hρ _ _ rfl) (cons2 (hρ _ _ rfl) rfl)))) rfl rfl rfl (w_n rfl) ?_
  refine TL_new 3 (.cells #[.nilFunc] 118) (fun B => .pointer (some ⟨B, 0, none⟩)) (fun _ _ _ _ => r_alloc (v := .nilFunc) (by kernel_rfl) rfl) rfl rfl rfl (w_n rfl) ?_
  intro B3
  refine TL_store 3 (.cells #[.func (.func 70) #[] #[.pointer (some ⟨B1, 0, none⟩), .pointer (some ⟨B2, 0, none⟩)]] 118) rfl (fun _ _ hρ hm => r_store sz118 (hρ _ _ rfl) (hρ _ _ rfl) (hm.at 3 rfl) rfl rfl rfl rfl) rfl rfl (w_n rfl) ?_
  refine TL_seq ?_
  refine T_seq (T_region ?_)
  refine TL_new 4 (.cells #[.slice none 0 0] 44) (fun B => .pointer (some ⟨B, 0, none⟩)) (fun _ _ _ _ => r_alloc (v := .slice none 0 0) (by kernel_rfl) rfl) rfl rfl rfl (w_n rfl) ?_
  intro B4
  refine TL_seq ?_
  refine T_seq ?_
  refine T_seq (T_region ?_)
  refine TL_q (.pointer (some ⟨c.p, 0, none⟩)) (fun _ _ hρ hm => r_load ag28 (hρ _ _ rfl) (hm.at 1 rfl) rfl) rfl rfl rfl (w_n rfl) ?_
  refine TL_q (.pointer (some ⟨c.p, 0, none⟩)) (fun _ _ hρ _ => r_nilCheck (hρ _ _ rfl) rfl) rfl rfl rfl (w_n rfl) ?_
  refine TL_q (.pointer (some ⟨c.p, 0, none⟩)) (fun _ _ hρ _ => r_fieldAddr fl111_0 sz109 (hρ _ _ rfl)) rfl rfl rfl (w_n rfl) ?_
  refine TL_q (.agg #[.int .i64 ((c.wd : Nat) : Int), .int .i64 ((c.hg : Nat) : Int)]) (fun _ _ hρ hm => r_loadA ag109 sz109 (hρ _ _ rfl) (hm.old hblk) rfl rfl) rfl rfl rfl (w_n rfl) ?_
  refine TL_callN (fun (_ : Nat) => True) (fun q5 => .func (.func 101) #[] #[.pointer (some ⟨q5, 0, none⟩)]) (fun q5 => [(5, .blk q5 (.cells #[.int .i64 ((c.wd : Nat) : Int), .int .i64 ((c.hg : Nat) : Int)] 109))]) (fun _ _ hρ _ => r_call (args := [.agg #[.int .i64 ((c.wd : Nat) : Int), .int .i64 ((c.hg : Nat) : Int)]]) (enters_of Try.func71 (by kernel_rfl) rfl) (hρ _ _ rfl) ((cons2 (hρ _ _ rfl) rfl)) rfl) (fun w _ => (points_c c.wd c.hg w).mono fun e w' ⟨q, he, hb, hr⟩ => ⟨q, trivial, he, hb, newOk1 5 hr⟩) rfl rfl rfl (w_n rfl) ?_
  intro q5 _
  refine TL_seq ?_
  refine T_block ?_
  refine T_mem (_ :: _) (fun _ hm => hm.nilRow 950 47 2) ?_
  refine T_sub [(4, .slice none 0 0), (5, .pointer (some ⟨B3, 0, none⟩)), (6, .pointer (some ⟨B4, 0, none⟩)), (30, .func (.func 101) #[] #[.pointer (some ⟨q5, 0, none⟩)])] [(950, .row (.slice none 0 0) 47 2 0 []), (5, .blk q5 (.cells #[.int .i64 ((c.wd : Nat) : Int), .int .i64 ((c.hg : Nat) : Int)] 109)), (1, .blk B1 (.cells #[.pointer (some ⟨c.p, 0, none⟩)] 28)), (2, .blk B2 (.cells #[.pointer (some ⟨d.p, 0, none⟩)] 28)), (3, .blk B3 (.cells #[.func (.func 70) #[] #[.pointer (some ⟨B1, 0, none⟩), .pointer (some ⟨B2, 0, none⟩)]] 118)), (4, .blk B4 (.cells #[.slice none 0 0] 44))] (sub_cons rfl (sub_cons rfl (sub_cons rfl (sub_cons rfl sub_nil)))) (sub_cons rfl (sub_cons rfl (sub_cons rfl (sub_cons rfl (sub_cons rfl (sub_cons rfl sub_nil)))))) ?_
  refine T_rangeB (ι := Option Addr × Nat) (ζ := Nat) (encs := encPt) (xs := ptsC c.wd c.hg) rfl rfl (enters_of Try.func101 (by kernel_rfl) rfl) (fun _ => rfl) rfl 801 802 rfl (fun (k : Nat) (z : Option Addr × Nat) => True) (fun (k : Nat) (z : Option Addr × Nat) => [(4, .blk B4 (.cells #[.slice z.1 ((difN c.wd c.hg c.ts d.ts k).length) z.2] 44)), (950, .row (.slice z.1 ((difN c.wd c.hg c.ts d.ts k).length) z.2) 47 2 ((difN c.wd c.hg c.ts d.ts k).length) ((difN c.wd c.hg c.ts d.ts k).flatMap ptn)), (5, .blk q5 (.cells #[.int .i64 ((c.wd : Nat) : Int), .int .i64 ((c.hg : Nat) : Int)] 109)), (1, .blk B1 (.cells #[.pointer (some ⟨c.p, 0, none⟩)] 28)), (2, .blk B2 (.cells #[.pointer (some ⟨d.p, 0, none⟩)] 28)), (3, .blk B3 (.cells #[.func (.func 70) #[] #[.pointer (some ⟨B1, 0, none⟩), .pointer (some ⟨B2, 0, none⟩)]] 118))]) (fun _ _ => False) (fun _ => []) (fun x Bz => [(4, .slice none 0 0), (5, .pointer (some ⟨B3, 0, none⟩)), (6, .pointer (some ⟨B4, 0, none⟩)), (30, .func (.func 101) #[] #[.pointer (some ⟨q5, 0, none⟩)]), (7, .pointer (some ⟨Bz, 0, none⟩))]) (fun x Bz => [(7, .blk Bz (.cells #[.int .i64 ((x.1 : Nat) : Int), .int .i64 ((x.2 : Nat) : Int)] 47))]) (fun D l rec => points_iter _ _ _ 5 q5 c.wd c.hg hc.wd4 hc.hg4 (fun _ _ => rfl)) (fun _ _ => ⟨rfl, rfl⟩) (fun _ => ⟨rfl, rfl⟩) (none, 0) trivial (sub_cons rfl (sub_cons rfl (sub_cons rfl (sub_cons rfl (sub_cons rfl (sub_cons rfl sub_nil)))))) ?_ ?_ ?_ (fun _ _ _ h => h.elim)
  · intro D1 l1 rec1 k x z hx1 hp1
    refine T_sub [(4, .slice none 0 0), (5, .pointer (some ⟨B3, 0, none⟩)), (6, .pointer (some ⟨B4, 0, none⟩)), (30, .func (.func 101) #[] #[.pointer (some ⟨q5, 0, none⟩)]), (31, .agg #[.int .i64 ((x.1 : Nat) : Int), .int .i64 ((x.2 : Nat) : Int)])] [(801, .blk D1 (.deferred (some []))), (802, .blk l1 (.loop rec1)), (4, .blk B4 (.cells #[.slice z.1 ((difN c.wd c.hg c.ts d.ts k).length) z.2] 44)), (950, .row (.slice z.1 ((difN c.wd c.hg c.ts d.ts k).length) z.2) 47 2 ((difN c.wd c.hg c.ts d.ts k).length) ((difN c.wd c.hg c.ts d.ts k).flatMap ptn)), (5, .blk q5 (.cells #[.int .i64 ((c.wd : Nat) : Int), .int .i64 ((c.hg : Nat) : Int)] 109)), (1, .blk B1 (.cells #[.pointer (some ⟨c.p, 0, none⟩)] 28)), (2, .blk B2 (.cells #[.pointer (some ⟨d.p, 0, none⟩)] 28)), (3, .blk B3 (.cells #[.func (.func 70) #[] #[.pointer (some ⟨B1, 0, none⟩), .pointer (some ⟨B2, 0, none⟩)]] 118))] (sub_cons rfl (sub_cons rfl (sub_cons rfl (sub_cons rfl (sub_cons rfl sub_nil))))) (sub_cons rfl (sub_cons rfl (sub_cons rfl (sub_cons rfl (sub_cons rfl (sub_cons rfl (sub_cons rfl (sub_cons rfl sub_nil)))))))) ?_
    refine T_region ?_
    refine TL_new 7 (.cells #[.int .i64 0, .int .i64 0] 47) (fun B => .pointer (some ⟨B, 0, none⟩)) (fun _ _ _ _ => r_alloc (v := .agg #[.int .i64 0, .int .i64 0]) (by kernel_rfl) rfl) rfl rfl rfl (w_n rfl) ?_
    intro B6
    refine TL_store 7 (.cells #[.int .i64 ((x.1 : Nat) : Int), .int .i64 ((x.2 : Nat) : Int)] 47) rfl (fun _ _ hρ hm => r_store sz47 (hρ _ _ rfl) (hρ _ _ rfl) (hm.at 7 rfl) rfl rfl rfl rfl) rfl rfl (w_n rfl) ?_
    refine TL_nil ?_
    exact p_at B6 trivial (sub_cons rfl (sub_cons rfl (sub_cons rfl (sub_cons rfl (sub_cons rfl sub_nil))))) (sub_cons rfl (sub_cons rfl (sub_cons rfl (sub_cons rfl (sub_cons rfl (sub_cons rfl (sub_cons rfl (sub_cons rfl (sub_cons rfl sub_nil)))))))))
  · intro D1 l1 rec1 k x z Bz hx1 hp1
    show T _ _ _ [(4, .slice none 0 0), (5, .pointer (some ⟨B3, 0, none⟩)), (6, .pointer (some ⟨B4, 0, none⟩)), (30, .func (.func 101) #[] #[.pointer (some ⟨q5, 0, none⟩)]), (7, .pointer (some ⟨Bz, 0, none⟩))] [(801, .blk D1 (.deferred (some []))), (802, .blk l1 (.loop { rec1 with state := .busy })), (7, .blk Bz (.cells #[.int .i64 ((x.1 : Nat) : Int), .int .i64 ((x.2 : Nat) : Int)] 47)), (4, .blk B4 (.cells #[.slice z.1 ((difN c.wd c.hg c.ts d.ts k).length) z.2] 44)), (950, .row (.slice z.1 ((difN c.wd c.hg c.ts d.ts k).length) z.2) 47 2 ((difN c.wd c.hg c.ts d.ts k).length) ((difN c.wd c.hg c.ts d.ts k).flatMap ptn)), (5, .blk q5 (.cells #[.int .i64 ((c.wd : Nat) : Int), .int .i64 ((c.hg : Nat) : Int)] 109)), (1, .blk B1 (.cells #[.pointer (some ⟨c.p, 0, none⟩)] 28)), (2, .blk B2 (.cells #[.pointer (some ⟨d.p, 0, none⟩)] 28)), (3, .blk B3 (.cells #[.func (.func 70) #[] #[.pointer (some ⟨B1, 0, none⟩), .pointer (some ⟨B2, 0, none⟩)]] 118))]
    have hxi := ptsC_in hx1
    have hdl := dif_le c.wd c.hg c.ts d.ts k hc.wd4 hc.hg4
    refine T_block ?_
    refine T_seq (T_region ?_)
    refine TL_q (.func (.func 70) #[] #[.pointer (some ⟨B1, 0, none⟩), .pointer (some ⟨B2, 0, none⟩)]) (fun _ _ hρ hm => r_load ag118 (hρ _ _ rfl) (hm.at 3 rfl) rfl) rfl rfl rfl (w_n rfl) ?_
    refine TL_q (.agg #[.int .i64 ((x.1 : Nat) : Int), .int .i64 ((x.2 : Nat) : Int)]) (fun _ _ hρ hm => r_loadA ag47 sz47 (hρ _ _ rfl) (hm.at 7 rfl) rfl rfl) rfl rfl rfl (w_n rfl) ?_
    refine TL_call (.bool (!decide (colAt c.wd c.ts x.1 x.2 = colAt c.wd d.ts x.1 x.2))) (fun _ _ hρ _ => r_call (args := [.agg #[.int .i64 ((x.1 : Nat) : Int), .int .i64 ((x.2 : Nat) : Int)]]) (enters_of Try.func70 (by kernel_rfl) rfl) (hρ _ _ rfl) ((cons2 (hρ _ _ rfl) rfl)) rfl) (fun w hm => differ1_c c d B1 B2 x.1 x.2 w (hc.below hm.ext) (hd.below hm.ext) (hm.at 1 rfl) (hm.at 2 rfl) hxi.1 hxi.2 hwe hhe) rfl rfl rfl (w_n rfl) ?_
    refine TL_seq ?_
    refine T_cond rfl (fun h1 => ?_) (fun h1 => ?_)
    · replace h1 := of_decide_eq_false (bnot_t h1)
      refine T_region ?_
      refine TL_q (.slice z.1 ((difN c.wd c.hg c.ts d.ts k).length) z.2) (fun _ _ hρ hm => r_load ag44 (hρ _ _ rfl) (hm.at 4 rfl) rfl) rfl rfl rfl (w_n rfl) ?_
      refine TL_q (.agg #[.int .i64 ((x.1 : Nat) : Int), .int .i64 ((x.2 : Nat) : Int)]) (fun _ _ hρ hm => r_loadA ag47 sz47 (hρ _ _ rfl) (hm.at 7 rfl) rfl rfl) rfl rfl rfl (w_n rfl) ?_
      refine TL_new 8 (.cells #[.int .i64 ((x.1 : Nat) : Int), .int .i64 ((x.2 : Nat) : Int)] 47) (fun B => .slice (some ⟨B, 0, none⟩) 1 1) (fun _ _ hρ _ => r_buildSlice (vs := [(0, .agg #[.int .i64 ((x.1 : Nat) : Int), .int .i64 ((x.2 : Nat) : Int)])]) (by kernel_rfl) (cons2 (pair2 (hρ _ _ rfl)) rfl)) rfl rfl rfl (w_n rfl) ?_
      intro B7
      refine TL_append (n := (difN c.wd c.hg c.ts d.ts k).length) (m := 1) (xs := ((difN c.wd c.hg c.ts d.ts k).flatMap ptn)) (news := [.int .i64 ((x.1 : Nat) : Int), .int .i64 ((x.2 : Nat) : Int)]) (z := .agg #[.int .i64 0, .int .i64 0]) 950 rfl rfl rfl sl44 sz47 by47 (by kernel_rfl) rfl rfl (.inl rfl) (fun _ hm => src_blk (news := [.int .i64 ((x.1 : Nat) : Int), .int .i64 ((x.2 : Nat) : Int)]) (hm.at 8 rfl) rfl) (by first | exact T64.cells_one _ | simp [Value.oneCell']) (by omega) (by omega) rfl (w_n rfl) ?_
      intro a8 cap8
      refine TL_store 4 (.cells #[.slice a8 ((difN c.wd c.hg c.ts d.ts k).length + 1) cap8] 44) rfl (fun _ _ hρ hm => r_store sz44 (hρ _ _ rfl) (hρ _ _ rfl) (hm.at 4 rfl) rfl rfl rfl rfl) rfl rfl (w_n rfl) ?_
      refine TL_nil ?_
      refine p_blk_n ?_
      have hdt := dif_t hx1 h1
      rw [show ((difN c.wd c.hg c.ts d.ts k).length + 1) = (difN c.wd c.hg c.ts d.ts (k + 1)).length from by rw [hdt]; simp, show (((difN c.wd c.hg c.ts d.ts k).flatMap ptn) ++ [.int .i64 ((x.1 : Nat) : Int), .int .i64 ((x.2 : Nat) : Int)]) = (difN c.wd c.hg c.ts d.ts (k + 1)).flatMap ptn from by rw [hdt]; simp [ptn]]
      exact p_round_n (a8, cap8) trivial (sub_cons rfl (sub_cons rfl (sub_cons rfl (sub_cons rfl (sub_cons rfl (sub_cons rfl (sub_cons rfl (sub_cons rfl sub_nil))))))))
    · replace h1 := of_decide_eq_true (bnot_f h1)
      refine T_skip' ?_
      refine p_blk_n ?_
      have hdf := dif_f hx1 h1
      rw [← hdf]
      exact p_round_n z trivial (sub_cons rfl (sub_cons rfl (sub_cons rfl (sub_cons rfl (sub_cons rfl (sub_cons rfl (sub_cons rfl (sub_cons rfl sub_nil))))))))
  · intro D1 z hp1
    rw [dif_all]
    refine p_sub [(4, .slice none 0 0), (5, .pointer (some ⟨B3, 0, none⟩)), (6, .pointer (some ⟨B4, 0, none⟩)), (30, .func (.func 101) #[] #[.pointer (some ⟨q5, 0, none⟩)])] [(801, .blk D1 (.deferred (some []))), (5, .blk q5 (.cells #[.int .i64 ((c.wd : Nat) : Int), .int .i64 ((c.hg : Nat) : Int)] 109)), (1, .blk B1 (.cells #[.pointer (some ⟨c.p, 0, none⟩)] 28)), (2, .blk B2 (.cells #[.pointer (some ⟨d.p, 0, none⟩)] 28)), (3, .blk B3 (.cells #[.func (.func 70) #[] #[.pointer (some ⟨B1, 0, none⟩), .pointer (some ⟨B2, 0, none⟩)]] 118)), (4, .blk B4 (.cells #[.slice z.1 ((difC c.wd c.hg c.ts d.ts).length) z.2] 44)), (950, .row (.slice z.1 ((difC c.wd c.hg c.ts d.ts).length) z.2) 47 2 ((difC c.wd c.hg c.ts d.ts).length) ((difC c.wd c.hg c.ts d.ts).flatMap ptn))] (sub_cons rfl (sub_cons rfl (sub_cons rfl (sub_cons rfl sub_nil)))) (sub_cons rfl (sub_cons rfl (sub_cons rfl (sub_cons rfl (sub_cons rfl (sub_cons rfl (sub_cons rfl sub_nil))))))) ?_
    refine p_blk_n ?_
    refine p_seq ?_
    refine T_seq (T_region ?_)
    refine TL_q (.slice z.1 ((difC c.wd c.hg c.ts d.ts).length) z.2) (fun _ _ hρ hm => r_load ag44 (hρ _ _ rfl) (hm.at 4 rfl) rfl) rfl rfl rfl (w_n rfl) ?_
    refine TL_q (.slice z.1 ((difC c.wd c.hg c.ts d.ts).length) z.2) (fun _ _ hρ _ => r_assign (hρ _ _ rfl)) rfl rfl rfl (w_n rfl) ?_
    refine TL_seq ?_
    refine T_ret' ?_
    refine ret_of1 801 D1 rfl rfl (.slice z.1 ((difC c.wd c.hg c.ts d.ts).length) z.2) (fun tmps w hk hm => res1 rfl (res_tmp (hk 4 _ rfl))) (fun w hm => ?_)
    exact ⟨z.1, z.2, rfl, hm.ext, hm.row 950 rfl⟩

set_option maxHeartbeats 1000000 in
theorem differ_ne (c d : Cv) (w : World) (hc : CvAt w c) (hd : CvAt w d) (hne : ¬ (c.wd = d.wd ∧ c.hg = d.hg)) : Calls Try.prog 22 #[.pointer (some ⟨c.p, 0, none⟩), .pointer (some ⟨d.p, 0, none⟩)] w fun e w' => e = .returned (.slice none 0 0) ∧ Below w.heap.size w w' := by
  obtain ⟨p, a, cap, ps, wd, hg, ts⟩ := c
  have hblk : hp w p = some (.cells #[.int .i64 (wd : Int), .int .i64 (hg : Int), .slice a ps.length cap] 111) := hc.blk
  have hrow : SliceAt w a cap 1 ptrc ps := hc.row
  have hcap : cap ≤ Go.maxLen := hc.capok
  unfold Go.maxLen at hcap
  have htl : ∀ (i q : Nat) (t : T64), ps[i]? = some q → ts[i]? = some t → hp w q = some (tilO t) := hc.tl
  have hlen : ps.length = wd * hg := hc.len
  have hlt : ts.length = ps.length := hc.len2
  have hwd : 1 ≤ wd ∧ wd ≤ 4 := hc.wd4
  have hhg : 1 ≤ hg ∧ hg ≤ 4 := hc.hg4
  have h16 := size4 hwd hhg
  have hrl := hrow.1
  obtain ⟨b, of, cs, TY, fz, ha, hcr, hrr⟩ := hrow.open (i := 0) (by omega)
  subst ha
  obtain ⟨pd, ad, capd, psd, wdd, hgd, tsd⟩ := d
  have hblkd : hp w pd = some (.cells #[.int .i64 (wdd : Int), .int .i64 (hgd : Int), .slice ad psd.length capd] 111) := hd.blk
  have hrowd : SliceAt w ad capd 1 ptrc psd := hd.row
  have hcapd : capd ≤ Go.maxLen := hd.capok
  unfold Go.maxLen at hcapd
  have htld : ∀ (i q : Nat) (t : T64), psd[i]? = some q → tsd[i]? = some t → hp w q = some (tilO t) := hd.tl
  have hlend : psd.length = wdd * hgd := hd.len
  have hltd : tsd.length = psd.length := hd.len2
  have hwdd : 1 ≤ wdd ∧ wdd ≤ 4 := hd.wd4
  have hhgd : 1 ≤ hgd ∧ hgd ≤ 4 := hd.hg4
  have h16d := size4 hwdd hhgd
  have hrld := hrowd.1
  obtain ⟨bd, ofd, csd, TYd, fzd, had, hcrd, hrrd⟩ := hrowd.open (i := 0) (by omega)
  subst had
  have hne : ¬ (wd, hg) = (wdd, hgd) := sz_ne hne
  refine calls_of_T (l := [.pointer (some ⟨p, 0, none⟩), .pointer (some ⟨pd, 0, none⟩)]) 40 Try.func22 rfl rfl rfl ?_
  show T _ _ _ [(0, .pointer (some ⟨p, 0, none⟩)), (1, .pointer (some ⟨pd, 0, none⟩))] []
  refine T_seq (T_region ?_)
  refine TL_new 1 (.cells #[.pointer (some ⟨p, 0, none⟩)] 28) (fun B => .pointer (some ⟨B, 0, none⟩)) (fun _ _ hρ _ => r_box (hρ _ _ rfl) rfl) rfl rfl rfl (w_n rfl) ?_
  intro B1
  refine TL_new 2 (.cells #[.pointer (some ⟨pd, 0, none⟩)] 28) (fun B => .pointer (some ⟨B, 0, none⟩)) (fun _ _ hρ _ => r_box (hρ _ _ rfl) rfl) rfl rfl rfl (w_n rfl) ?_
  intro B2
  refine TL_q (.slice none 0 0) (fun _ _ hρ _ => r_assign (hρ _ _ rfl)) rfl rfl rfl (w_n rfl) ?_
  refine TL_seq ?_
  refine T_seq ?_
  refine T_seq (T_draw (V := [(0, .pointer (some ⟨p, 0, none⟩)), (1, .bool false), (2, .bool false), (3, .pointer (some ⟨pd, 0, none⟩)), (4, .bool false), (5, .bool false), (6, .bool false), (7, .pointer (some ⟨p, 0, none⟩)), (8, .pointer (some ⟨p, 0, none⟩)), (9, .pointer (some ⟨p, 0, none⟩)), (10, .agg #[.int .i64 ((wd : Nat) : Int), .int .i64 ((hg : Nat) : Int)]), (11, .pointer (some ⟨pd, 0, none⟩)), (12, .pointer (some ⟨pd, 0, none⟩)), (13, .pointer (some ⟨pd, 0, none⟩)), (14, .agg #[.int .i64 ((wdd : Nat) : Int), .int .i64 ((hgd : Nat) : Int)]), (15, .bool true), (16, .bool true)]) [0, 1, 3, 7, 15, 31, 63, 127, 255, 511, 1023, 127, 2175, 6271, 14463, 32767, 65535] [[(2, none)], [(8, some 0)], [(9, some 1)], [(3, none)], [(11, some 3)], [(12, some 4), (10, some 2)], [(13, some 5)], [(2, none)], [(15, some 7)], [(16, some 8)], [(17, some 9)], [(3, none)], [(19, some 11)], [(20, some 12)], [(21, some 13)], [(18, some 10), (22, some 14)], [(23, some 15), (14, some 6)]] 0 mixed (by kernel_rfl) ?_)
  refine G_last [0, 1, 2, 3, 4, 5, 6, 7, 8, 9, 10, 11, 12, 13, 14, 15, 16] [(2, .pointer (some ⟨B1, 0, none⟩)), (3, .pointer (some ⟨B2, 0, none⟩)), (4, .slice none 0 0), (24, .bool true)] (by kernel_rfl) (allM (all_cons (q_run (.pointer (some ⟨p, 0, none⟩)) rfl rfl (wv_n rfl) rfl (fun _ _ hρ hm => r_load ag28 (hρ _ _ rfl) (hm.at 1 rfl) rfl)) (all_cons (q_run (.bool false) rfl rfl (wv_n rfl) rfl (fun _ _ hρ _ => r_as (r_eqlPn po28 (hρ _ _ rfl) (hρ _ _ rfl)) (by rfl))) (all_cons (q_run (.bool false) rfl rfl (wv_n rfl) rfl (fun _ _ hρ _ => r_move (hρ _ _ rfl))) (all_cons (q_run (.pointer (some ⟨pd, 0, none⟩)) rfl rfl (wv_y rfl rfl) rfl (fun _ _ hρ hm => r_load ag28 (hρ _ _ rfl) (hm.at 2 rfl) rfl)) (all_cons (q_run (.bool false) rfl rfl (wv_y rfl rfl) rfl (fun _ _ hρ _ => r_as (r_eqlPn po28 (hρ _ _ rfl) (hρ _ _ rfl)) (by rfl))) (all_cons (q_run (.bool false) rfl rfl (wv_n rfl) rfl (fun _ _ hρ _ => r_pick_f (hρ _ _ rfl) (hρ _ _ rfl))) (all_cons (q_run (.bool false) rfl rfl (wv_n rfl) rfl (fun _ _ hρ _ => r_move (hρ _ _ rfl))) (all_cons (q_run (.pointer (some ⟨p, 0, none⟩)) rfl rfl (wv_y rfl rfl) rfl (fun _ _ hρ hm => r_load ag28 (hρ _ _ rfl) (hm.at 1 rfl) rfl)) (all_cons (q_run (.pointer (some ⟨p, 0, none⟩)) rfl rfl (wv_y rfl rfl) rfl (fun _ _ hρ _ => r_nilCheck (hρ _ _ rfl) rfl)) (all_cons (q_run (.pointer (some ⟨p, 0, none⟩)) rfl rfl (wv_y rfl rfl) rfl (fun _ _ hρ _ => r_fieldAddr fl111_0 sz109 (hρ _ _ rfl))) (all_cons (q_run (.agg #[.int .i64 ((wd : Nat) : Int), .int .i64 ((hg : Nat) : Int)]) rfl rfl (wv_y rfl rfl) rfl (fun _ _ hρ hm => r_loadA ag109 sz109 (hρ _ _ rfl) (hm.old hblk) rfl rfl)) (all_cons (q_run (.pointer (some ⟨pd, 0, none⟩)) rfl rfl (wv_y rfl rfl) rfl (fun _ _ hρ hm => r_load ag28 (hρ _ _ rfl) (hm.at 2 rfl) rfl)) (all_cons (q_run (.pointer (some ⟨pd, 0, none⟩)) rfl rfl (wv_y rfl rfl) rfl (fun _ _ hρ _ => r_nilCheck (hρ _ _ rfl) rfl)) (all_cons (q_run (.pointer (some ⟨pd, 0, none⟩)) rfl rfl (wv_y rfl rfl) rfl (fun _ _ hρ _ => r_fieldAddr fl111_0 sz109 (hρ _ _ rfl))) (all_cons (q_run (.agg #[.int .i64 ((wdd : Nat) : Int), .int .i64 ((hgd : Nat) : Int)]) rfl rfl (wv_y rfl rfl) rfl (fun _ _ hρ hm => r_loadA ag109 sz109 (hρ _ _ rfl) (hm.old hblkd) rfl rfl)) (all_cons (q_run (.bool true) rfl rfl (wv_y rfl rfl) rfl (fun _ _ hρ _ => r_as (r_as (r_neqA (by kernel_rfl) (hρ _ _ rfl) (hρ _ _ rfl) (run_equalI (l := [(0, .i64), (1, .i64)]) (by kernel_rfl) rfl rfl)) (bool_as (congrArg (fun b => !b) (eqSz wd hg wdd hgd)))) (bool_as (by rw [decide_eq_false hne]; rfl)))) (all_cons (q_run (.bool true) rfl rfl (wv_n rfl) rfl (fun _ _ hρ _ => r_pick_f (hρ _ _ rfl) (hρ _ _ rfl))) all_nil)))))))))))))))))) (end_old rfl rfl (end_old rfl rfl (end_old rfl rfl (end_new 16 rfl rfl end_nil)))) ?_
  refine T_cond_t rfl ?_
  refine T_seq (T_region ?_)
  refine TL_q (.slice none 0 0) (fun _ _ hρ _ => r_assign (hρ _ _ rfl)) rfl rfl rfl (w_n rfl) ?_
  refine TL_seq ?_
  refine T_ret' ?_
  refine p_then_r ?_
  refine ret_of rfl (.slice none 0 0) (fun tmps w hk hm => res1 rfl (res_tmp (hk 4 _ rfl))) (fun w hm => ?_)
  exact ⟨rfl, hm.ext⟩

theorem differ_nn (w : World) : Calls Try.prog 22 #[.pointer none, .pointer none] w fun e w' => e = .returned (.slice none 0 0) ∧ Below w.heap.size w w' := by
  refine calls_of_T (l := [.pointer none, .pointer none]) 40 Try.func22 rfl rfl rfl ?_
  show T _ _ _ [(0, .pointer none), (1, .pointer none)] []
  refine T_seq (T_region ?_)
  refine TL_new 1 (.cells #[.pointer none] 28) (fun B => .pointer (some ⟨B, 0, none⟩)) (fun _ _ hρ _ => r_box (hρ _ _ rfl) rfl) rfl rfl rfl (w_n rfl) ?_
  intro B1
  refine TL_new 2 (.cells #[.pointer none] 28) (fun B => .pointer (some ⟨B, 0, none⟩)) (fun _ _ hρ _ => r_box (hρ _ _ rfl) rfl) rfl rfl rfl (w_n rfl) ?_
  intro B2
  refine TL_q (.slice none 0 0) (fun _ _ hρ _ => r_assign (hρ _ _ rfl)) rfl rfl rfl (w_n rfl) ?_
  refine TL_seq ?_
  refine T_seq ?_
  refine T_seq (T_draw (V := [(0, .pointer none), (1, .bool true), (2, .bool true), (3, undef), (4, undef), (5, .bool true), (6, .bool true), (7, undef), (8, undef), (9, undef), (10, undef), (11, undef), (12, undef), (13, undef), (14, undef), (15, undef), (16, .bool true)]) [0, 1, 3, 7, 15, 31, 63, 127, 255, 511, 1023, 127, 2175, 6271, 14463, 32767, 65535] [[(2, none)], [(8, some 0)], [(9, some 1)], [(3, none)], [(11, some 3)], [(12, some 4), (10, some 2)], [(13, some 5)], [(2, none)], [(15, some 7)], [(16, some 8)], [(17, some 9)], [(3, none)], [(19, some 11)], [(20, some 12)], [(21, some 13)], [(18, some 10), (22, some 14)], [(23, some 15), (14, some 6)]] 0 mixed (by kernel_rfl) ?_)
  refine G_last [0, 1, 2, 3, 4, 5, 6, 7, 8, 9, 10, 11, 12, 13, 14, 15, 16] [(2, .pointer (some ⟨B1, 0, none⟩)), (3, .pointer (some ⟨B2, 0, none⟩)), (4, .slice none 0 0), (24, .bool true)] (by kernel_rfl) (allM (all_cons (q_run (.pointer none) rfl rfl (wv_n rfl) rfl (fun _ _ hρ hm => r_load ag28 (hρ _ _ rfl) (hm.at 1 rfl) rfl)) (all_cons (q_run (.bool true) rfl rfl (wv_n rfl) rfl (fun _ _ hρ _ => r_as (r_eqlPn po28 (hρ _ _ rfl) (hρ _ _ rfl)) (by rfl))) (all_cons (q_run (.bool true) rfl rfl (wv_n rfl) rfl (fun _ _ hρ _ => r_move (hρ _ _ rfl))) (all_cons (q_no rfl rfl (wv_no rfl rfl)) (all_cons (q_no rfl rfl (wv_no rfl rfl)) (all_cons (q_run (.bool true) rfl rfl (wv_n rfl) rfl (fun _ _ hρ _ => r_pick_t (hρ _ _ rfl) (hρ _ _ rfl))) (all_cons (q_run (.bool true) rfl rfl (wv_n rfl) rfl (fun _ _ hρ _ => r_move (hρ _ _ rfl))) (all_cons (q_no rfl rfl (wv_no rfl rfl)) (all_cons (q_no rfl rfl (wv_no rfl rfl)) (all_cons (q_no rfl rfl (wv_no rfl rfl)) (all_cons (q_no rfl rfl (wv_no rfl rfl)) (all_cons (q_no rfl rfl (wv_no rfl rfl)) (all_cons (q_no rfl rfl (wv_no rfl rfl)) (all_cons (q_no rfl rfl (wv_no rfl rfl)) (all_cons (q_no rfl rfl (wv_no rfl rfl)) (all_cons (q_no rfl rfl (wv_no rfl rfl)) (all_cons (q_run (.bool true) rfl rfl (wv_n rfl) rfl (fun _ _ hρ _ => r_pick_t (hρ _ _ rfl) (hρ _ _ rfl))) all_nil)))))))))))))))))) (end_old rfl rfl (end_old rfl rfl (end_old rfl rfl (end_new 16 rfl rfl end_nil)))) ?_
  refine T_cond_t rfl ?_
  refine T_seq (T_region ?_)
  refine TL_q (.slice none 0 0) (fun _ _ hρ _ => r_assign (hρ _ _ rfl)) rfl rfl rfl (w_n rfl) ?_
  refine TL_seq ?_
  refine T_ret' ?_
  refine p_then_r ?_
  refine ret_of rfl (.slice none 0 0) (fun tmps w hk hm => res1 rfl (res_tmp (hk 4 _ rfl))) (fun w hm => ?_)
  exact ⟨rfl, hm.ext⟩

theorem differ_nc (c : Cv) (w : World) (hc : CvAt w c) : Calls Try.prog 22 #[.pointer none, .pointer (some ⟨c.p, 0, none⟩)] w fun e w' => e = .returned (.slice none 0 0) ∧ Below w.heap.size w w' := by
  obtain ⟨p, a, cap, ps, wd, hg, ts⟩ := c
  have hblk : hp w p = some (.cells #[.int .i64 (wd : Int), .int .i64 (hg : Int), .slice a ps.length cap] 111) := hc.blk
  have hrow : SliceAt w a cap 1 ptrc ps := hc.row
  have hcap : cap ≤ Go.maxLen := hc.capok
  unfold Go.maxLen at hcap
  have htl : ∀ (i q : Nat) (t : T64), ps[i]? = some q → ts[i]? = some t → hp w q = some (tilO t) := hc.tl
  have hlen : ps.length = wd * hg := hc.len
  have hlt : ts.length = ps.length := hc.len2
  have hwd : 1 ≤ wd ∧ wd ≤ 4 := hc.wd4
  have hhg : 1 ≤ hg ∧ hg ≤ 4 := hc.hg4
  have h16 := size4 hwd hhg
  have hrl := hrow.1
  obtain ⟨b, of, cs, TY, fz, ha, hcr, hrr⟩ := hrow.open (i := 0) (by omega)
  subst ha
  refine calls_of_T (l := [.pointer none, .pointer (some ⟨p, 0, none⟩)]) 40 Try.func22 rfl rfl rfl ?_
  show T _ _ _ [(0, .pointer none), (1, .pointer (some ⟨p, 0, none⟩))] []
  refine T_seq (T_region ?_)
  refine TL_new 1 (.cells #[.pointer none] 28) (fun B => .pointer (some ⟨B, 0, none⟩)) (fun _ _ hρ _ => r_box (hρ _ _ rfl) rfl) rfl rfl rfl (w_n rfl) ?_
  intro B1
  refine TL_new 2 (.cells #[.pointer (some ⟨p, 0, none⟩)] 28) (fun B => .pointer (some ⟨B, 0, none⟩)) (fun _ _ hρ _ => r_box (hρ _ _ rfl) rfl) rfl rfl rfl (w_n rfl) ?_
  intro B2
  refine TL_q (.slice none 0 0) (fun _ _ hρ _ => r_assign (hρ _ _ rfl)) rfl rfl rfl (w_n rfl) ?_
  refine TL_seq ?_
  refine T_seq ?_
  refine T_seq (T_draw (V := [(0, .pointer none), (1, .bool true), (2, .bool true), (3, undef), (4, undef), (5, .bool true), (6, .bool true), (7, undef), (8, undef), (9, undef), (10, undef), (11, undef), (12, undef), (13, undef), (14, undef), (15, undef), (16, .bool true)]) [0, 1, 3, 7, 15, 31, 63, 127, 255, 511, 1023, 127, 2175, 6271, 14463, 32767, 65535] [[(2, none)], [(8, some 0)], [(9, some 1)], [(3, none)], [(11, some 3)], [(12, some 4), (10, some 2)], [(13, some 5)], [(2, none)], [(15, some 7)], [(16, some 8)], [(17, some 9)], [(3, none)], [(19, some 11)], [(20, some 12)], [(21, some 13)], [(18, some 10), (22, some 14)], [(23, some 15), (14, some 6)]] 0 mixed (by kernel_rfl) ?_)
  refine G_last [0, 1, 2, 3, 4, 5, 6, 7, 8, 9, 10, 11, 12, 13, 14, 15, 16] [(2, .pointer (some ⟨B1, 0, none⟩)), (3, .pointer (some ⟨B2, 0, none⟩)), (4, .slice none 0 0), (24, .bool true)] (by kernel_rfl) (allM (all_cons (q_run (.pointer none) rfl rfl (wv_n rfl) rfl (fun _ _ hρ hm => r_load ag28 (hρ _ _ rfl) (hm.at 1 rfl) rfl)) (all_cons (q_run (.bool true) rfl rfl (wv_n rfl) rfl (fun _ _ hρ _ => r_as (r_eqlPn po28 (hρ _ _ rfl) (hρ _ _ rfl)) (by rfl))) (all_cons (q_run (.bool true) rfl rfl (wv_n rfl) rfl (fun _ _ hρ _ => r_move (hρ _ _ rfl))) (all_cons (q_no rfl rfl (wv_no rfl rfl)) (all_cons (q_no rfl rfl (wv_no rfl rfl)) (all_cons (q_run (.bool true) rfl rfl (wv_n rfl) rfl (fun _ _ hρ _ => r_pick_t (hρ _ _ rfl) (hρ _ _ rfl))) (all_cons (q_run (.bool true) rfl rfl (wv_n rfl) rfl (fun _ _ hρ _ => r_move (hρ _ _ rfl))) (all_cons (q_no rfl rfl (wv_no rfl rfl)) (all_cons (q_no rfl rfl (wv_no rfl rfl)) (all_cons (q_no rfl rfl (wv_no rfl rfl)) (all_cons (q_no rfl rfl (wv_no rfl rfl)) (all_cons (q_no rfl rfl (wv_no rfl rfl)) (all_cons (q_no rfl rfl (wv_no rfl rfl)) (all_cons (q_no rfl rfl (wv_no rfl rfl)) (all_cons (q_no rfl rfl (wv_no rfl rfl)) (all_cons (q_no rfl rfl (wv_no rfl rfl)) (all_cons (q_run (.bool true) rfl rfl (wv_n rfl) rfl (fun _ _ hρ _ => r_pick_t (hρ _ _ rfl) (hρ _ _ rfl))) all_nil)))))))))))))))))) (end_old rfl rfl (end_old rfl rfl (end_old rfl rfl (end_new 16 rfl rfl end_nil)))) ?_
  refine T_cond_t rfl ?_
  refine T_seq (T_region ?_)
  refine TL_q (.slice none 0 0) (fun _ _ hρ _ => r_assign (hρ _ _ rfl)) rfl rfl rfl (w_n rfl) ?_
  refine TL_seq ?_
  refine T_ret' ?_
  refine p_then_r ?_
  refine ret_of rfl (.slice none 0 0) (fun tmps w hk hm => res1 rfl (res_tmp (hk 4 _ rfl))) (fun w hm => ?_)
  exact ⟨rfl, hm.ext⟩

theorem differ_cn (c : Cv) (w : World) (hc : CvAt w c) : Calls Try.prog 22 #[.pointer (some ⟨c.p, 0, none⟩), .pointer none] w fun e w' => e = .returned (.slice none 0 0) ∧ Below w.heap.size w w' := by
  obtain ⟨p, a, cap, ps, wd, hg, ts⟩ := c
  have hblk : hp w p = some (.cells #[.int .i64 (wd : Int), .int .i64 (hg : Int), .slice a ps.length cap] 111) := hc.blk
  have hrow : SliceAt w a cap 1 ptrc ps := hc.row
  have hcap : cap ≤ Go.maxLen := hc.capok
  unfold Go.maxLen at hcap
  have htl : ∀ (i q : Nat) (t : T64), ps[i]? = some q → ts[i]? = some t → hp w q = some (tilO t) := hc.tl
  have hlen : ps.length = wd * hg := hc.len
  have hlt : ts.length = ps.length := hc.len2
  have hwd : 1 ≤ wd ∧ wd ≤ 4 := hc.wd4
  have hhg : 1 ≤ hg ∧ hg ≤ 4 := hc.hg4
  have h16 := size4 hwd hhg
  have hrl := hrow.1
  obtain ⟨b, of, cs, TY, fz, ha, hcr, hrr⟩ := hrow.open (i := 0) (by omega)
  subst ha
  refine calls_of_T (l := [.pointer (some ⟨p, 0, none⟩), .pointer none]) 40 Try.func22 rfl rfl rfl ?_
  show T _ _ _ [(0, .pointer (some ⟨p, 0, none⟩)), (1, .pointer none)] []
  refine T_seq (T_region ?_)
  refine TL_new 1 (.cells #[.pointer (some ⟨p, 0, none⟩)] 28) (fun B => .pointer (some ⟨B, 0, none⟩)) (fun _ _ hρ _ => r_box (hρ _ _ rfl) rfl) rfl rfl rfl (w_n rfl) ?_
  intro B1
  refine TL_new 2 (.cells #[.pointer none] 28) (fun B => .pointer (some ⟨B, 0, none⟩)) (fun _ _ hρ _ => r_box (hρ _ _ rfl) rfl) rfl rfl rfl (w_n rfl) ?_
  intro B2
  refine TL_q (.slice none 0 0) (fun _ _ hρ _ => r_assign (hρ _ _ rfl)) rfl rfl rfl (w_n rfl) ?_
  refine TL_seq ?_
  refine T_seq ?_
  refine T_seq (T_draw (V := [(0, .pointer (some ⟨p, 0, none⟩)), (1, .bool false), (2, .bool false), (3, .pointer none), (4, .bool true), (5, .bool true), (6, .bool true), (7, undef), (8, undef), (9, undef), (10, undef), (11, undef), (12, undef), (13, undef), (14, undef), (15, undef), (16, .bool true)]) [0, 1, 3, 7, 15, 31, 63, 127, 255, 511, 1023, 127, 2175, 6271, 14463, 32767, 65535] [[(2, none)], [(8, some 0)], [(9, some 1)], [(3, none)], [(11, some 3)], [(12, some 4), (10, some 2)], [(13, some 5)], [(2, none)], [(15, some 7)], [(16, some 8)], [(17, some 9)], [(3, none)], [(19, some 11)], [(20, some 12)], [(21, some 13)], [(18, some 10), (22, some 14)], [(23, some 15), (14, some 6)]] 0 mixed (by kernel_rfl) ?_)
  refine G_last [0, 1, 2, 3, 4, 5, 6, 7, 8, 9, 10, 11, 12, 13, 14, 15, 16] [(2, .pointer (some ⟨B1, 0, none⟩)), (3, .pointer (some ⟨B2, 0, none⟩)), (4, .slice none 0 0), (24, .bool true)] (by kernel_rfl) (allM (all_cons (q_run (.pointer (some ⟨p, 0, none⟩)) rfl rfl (wv_n rfl) rfl (fun _ _ hρ hm => r_load ag28 (hρ _ _ rfl) (hm.at 1 rfl) rfl)) (all_cons (q_run (.bool false) rfl rfl (wv_n rfl) rfl (fun _ _ hρ _ => r_as (r_eqlPn po28 (hρ _ _ rfl) (hρ _ _ rfl)) (by rfl))) (all_cons (q_run (.bool false) rfl rfl (wv_n rfl) rfl (fun _ _ hρ _ => r_move (hρ _ _ rfl))) (all_cons (q_run (.pointer none) rfl rfl (wv_y rfl rfl) rfl (fun _ _ hρ hm => r_load ag28 (hρ _ _ rfl) (hm.at 2 rfl) rfl)) (all_cons (q_run (.bool true) rfl rfl (wv_y rfl rfl) rfl (fun _ _ hρ _ => r_as (r_eqlPn po28 (hρ _ _ rfl) (hρ _ _ rfl)) (by rfl))) (all_cons (q_run (.bool true) rfl rfl (wv_n rfl) rfl (fun _ _ hρ _ => r_pick_f (hρ _ _ rfl) (hρ _ _ rfl))) (all_cons (q_run (.bool true) rfl rfl (wv_n rfl) rfl (fun _ _ hρ _ => r_move (hρ _ _ rfl))) (all_cons (q_no rfl rfl (wv_no rfl rfl)) (all_cons (q_no rfl rfl (wv_no rfl rfl)) (all_cons (q_no rfl rfl (wv_no rfl rfl)) (all_cons (q_no rfl rfl (wv_no rfl rfl)) (all_cons (q_no rfl rfl (wv_no rfl rfl)) (all_cons (q_no rfl rfl (wv_no rfl rfl)) (all_cons (q_no rfl rfl (wv_no rfl rfl)) (all_cons (q_no rfl rfl (wv_no rfl rfl)) (all_cons (q_no rfl rfl (wv_no rfl rfl)) (all_cons (q_run (.bool true) rfl rfl (wv_n rfl) rfl (fun _ _ hρ _ => r_pick_t (hρ _ _ rfl) (hρ _ _ rfl))) all_nil)))))))))))))))))) (end_old rfl rfl (end_old rfl rfl (end_old rfl rfl (end_new 16 rfl rfl end_nil)))) ?_
  refine T_cond_t rfl ?_
  refine T_seq (T_region ?_)
  refine TL_q (.slice none 0 0) (fun _ _ hρ _ => r_assign (hρ _ _ rfl)) rfl rfl rfl (w_n rfl) ?_
  refine TL_seq ?_
  refine T_ret' ?_
  refine p_then_r ?_
  refine ret_of rfl (.slice none 0 0) (fun tmps w hk hm => res1 rfl (res_tmp (hk 4 _ rfl))) (fun w hm => ?_)
  exact ⟨rfl, hm.ext⟩
end Go.Proofs.Ytbiapeaghbndoaa
