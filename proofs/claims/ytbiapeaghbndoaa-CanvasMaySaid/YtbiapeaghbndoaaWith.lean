/- canvas: With. Printed by a program of this seat's prover. -/
import Derived.Test.YtbiapeaghbndoaaDiffer
import Derived.Test.YtbiapeaghbndoaaKeyN
import Derived.Test.YtbiapeaghbndoaaOpx
namespace Go.Proofs.Ytbiapeaghbndoaa
open Go Go.RowKit
set_option maxRecDepth 10000
theorem place_on (wd hg : Nat) (x y : Int) (w : World) (hwd : 1 ≤ wd ∧ wd ≤ 4) (hhg : 1 ≤ hg ∧ hg ≤ 4) (hon : onC wd hg x y = true) : Calls Try.prog 66 #[.agg #[.int .i64 (wd : Int), .int .i64 (hg : Int)], .int .i64 x, .int .i64 y] w fun e w' => e = .returned (.tuple #[.int .i64 ((tix wd x y : Nat) : Int), .agg #[.int .i64 ((x.toNat % 8 : Nat) : Int), .int .i64 ((y.toNat % 8 : Nat) : Int)], .bool true]) ∧ Below w.heap.size w w' := by
  obtain ⟨u, v, rfl, rfl, hu, hv⟩ := onC_nat hon
  exact place_in wd hg u v w hwd hhg hu hv

set_option maxHeartbeats 4000000 in
theorem with_canvas (c : Cv) (ds : List Dt) (ad : Option Addr) (capd : Nat) (w : World) (hc : CvAt w c) (hvd : SliceAt w ad capd 6 Dt.cells ds) (hcapd : capd ≤ Go.maxLen) : Calls Try.prog 17 #[.pointer (some ⟨c.p, 0, none⟩), .slice ad ds.length capd] w fun e w' => ∃ d : Cv, e = .returned (.pointer (some ⟨d.p, 0, none⟩)) ∧ CvNew w w' [c] d ∧ d.wd = c.wd ∧ d.hg = c.hg ∧ d.ts = putDs c.wd c.hg c.ts ds ∧ Shares w.heap.size c d := by
  obtain ⟨p, a, cap, ps, wd, hg, ts⟩ := c
  have hblk : hp w p = some (.cells #[.int .i64 (wd : Int), .int .i64 (hg : Int), .slice a ps.length cap] 111) := hc.blk
  have hrow : SliceAt w a cap 1 ptrc ps := hc.row
  have hcap : cap ≤ Go.maxLen := hc.capok
  unfold Go.maxLen at hcap
  have htl : ∀ (i q : Nat) (t : T64), ps[i]? = some q → ts[i]? = some t → hp w q = some (tilO t) := hc.tl
  have hlen : ps.length = wd * hg := hc.len
  have hlt : ts.length = ps.length := hc.len2
  have hwd : 1 ≤ wd ∧ wd ≤ 4 := hc.wd4
  have hhg : 1 ≤ hg ∧ hg ≤ 4 := hc.hg4
  have h16 := size4 hwd hhg
  have hrl := hrow.1
  obtain ⟨b, of, cs, TY, fz, ha, hcr, hrr⟩ := hrow.open (i := 0) (by omega)
  subst ha
  have hvl := hvd.1
  unfold Go.maxLen at hcapd
  refine calls_of_T (l := [.pointer (some ⟨p, 0, none⟩), .slice ad ds.length capd]) 124 Try.func17 rfl rfl rfl ?_
  show T _ _ _ [(0, .pointer (some ⟨p, 0, none⟩)), (1, .slice ad ds.length capd)] []
  refine T_seq (T_region ?_)
  refine TL_q (.pointer none) (fun _ _ hρ _ => r_assign (hρ _ _ rfl)) rfl rfl rfl (w_n rfl) ?_
  refine TL_seq ?_
  refine T_seq ?_
  refine T_seq (T_region ?_)
  refine TL_q (.pointer (some ⟨p, 0, none⟩)) (fun _ _ hρ _ => r_move (hρ _ _ rfl)) rfl rfl rfl (w_n rfl) ?_
  refine TL_q (.bool false) (fun _ _ hρ _ => r_as (r_eqlPn po28 (hρ _ _ rfl) (hρ _ _ rfl)) (by rfl)) rfl rfl rfl (w_n rfl) ?_
  refine TL_seq ?_
  refine T_cond_f rfl ?_
  refine T_skip' ?_
  refine p_seq ?_
  refine T_seq (T_draw (V := [(0, .pointer (some ⟨p, 0, none⟩)), (1, .pointer (some ⟨p, 0, none⟩)), (2, .pointer (some ⟨p, 0, none⟩)), (3, .agg #[.int .i64 ((wd : Nat) : Int), .int .i64 ((hg : Nat) : Int)]), (4, .pointer (some ⟨p, 0, none⟩)), (5, .pointer (some ⟨p, 0, none⟩)), (6, .pointer (some ⟨p, 2, none⟩)), (7, .slice (some ⟨b, of, none⟩) ps.length cap), (8, .int .i64 ((ps.length : Nat) : Int))]) [0, 1, 3, 7, 0, 16, 48, 112, 240, 496, 1023, 2047, 4095] [[(0, none)], [(18, some 0)], [(19, some 1)], [(20, some 2)], [(0, none)], [(22, some 4)], [(23, some 5)], [(24, some 6)], [(25, some 7)], [(26, some 8)], [(21, some 3), (27, some 9)], [(28, some 10)], [(29, some 11)]] 2560 mixed (by kernel_rfl) ?_)
  refine G_step [0, 1, 2, 3, 4, 5, 6, 7, 8] 9 [] (by kernel_rfl) (allM (all_cons (q_run (.pointer (some ⟨p, 0, none⟩)) rfl rfl (wv_n rfl) rfl (fun _ _ hρ _ => r_move (hρ _ _ rfl))) (all_cons (q_run (.pointer (some ⟨p, 0, none⟩)) rfl rfl (wv_n rfl) rfl (fun _ _ hρ _ => r_nilCheck (hρ _ _ rfl) rfl)) (all_cons (q_run (.pointer (some ⟨p, 0, none⟩)) rfl rfl (wv_n rfl) rfl (fun _ _ hρ _ => r_fieldAddr fl111_0 sz109 (hρ _ _ rfl))) (all_cons (q_run (.agg #[.int .i64 ((wd : Nat) : Int), .int .i64 ((hg : Nat) : Int)]) rfl rfl (wv_n rfl) rfl (fun _ _ hρ hm => r_loadA ag109 sz109 (hρ _ _ rfl) (hm.old hblk) rfl rfl)) (all_cons (q_run (.pointer (some ⟨p, 0, none⟩)) rfl rfl (wv_n rfl) rfl (fun _ _ hρ _ => r_move (hρ _ _ rfl))) (all_cons (q_run (.pointer (some ⟨p, 0, none⟩)) rfl rfl (wv_n rfl) rfl (fun _ _ hρ _ => r_nilCheck (hρ _ _ rfl) rfl)) (all_cons (q_run (.pointer (some ⟨p, 2, none⟩)) rfl rfl (wv_n rfl) rfl (fun _ _ hρ _ => r_fieldAddr fl111_1 sz104 (hρ _ _ rfl))) (all_cons (q_run (.slice (some ⟨b, of, none⟩) ps.length cap) rfl rfl (wv_n rfl) rfl (fun _ _ hρ hm => r_load ag104 (hρ _ _ rfl) (hm.old hblk) rfl)) (all_cons (q_run (.int .i64 ((ps.length : Nat) : Int)) rfl rfl (wv_n rfl) rfl (fun _ _ hρ _ => r_len sl104 (hρ _ _ rfl))) all_nil)))))))))) (allM (all_cons ?_ all_nil))
  refine LOb_op (ι := Nat) (fun B => .slice (some ⟨B, 0, none⟩) ps.length ps.length) _ (fun B => [(10, .agg #[.int .i64 ((wd : Nat) : Int), .int .i64 ((hg : Nat) : Int), .slice (some ⟨B, 0, none⟩) ps.length ps.length])]) rfl (wv_n rfl) rfl rfl (fun _ _ hρ hm => o_make (n := ps.length) (cap := ps.length) (z := .pointer none) (f := optc) (u := none) 901 rfl (hρ _ _ rfl) (hρ _ _ rfl) sl104 by106 sz106 rfl (by kernel_rfl) rfl optc_len (by omega) (by omega) (by omega) hm) (fun B => by kernel_rfl) ?_
  intro B1
  refine G_step [0, 1, 2, 3, 10] 11 [] (by kernel_rfl) (allM (all_cons (q_run (.pointer (some ⟨p, 0, none⟩)) rfl rfl (wv_n rfl) rfl (fun _ _ hρ _ => r_move (hρ _ _ rfl))) (all_cons (q_run (.pointer (some ⟨p, 0, none⟩)) rfl rfl (wv_n rfl) rfl (fun _ _ hρ _ => r_nilCheck (hρ _ _ rfl) rfl)) (all_cons (q_run (.pointer (some ⟨p, 0, none⟩)) rfl rfl (wv_n rfl) rfl (fun _ _ hρ _ => r_fieldAddr fl111_0 sz109 (hρ _ _ rfl))) (all_cons (q_run (.agg #[.int .i64 ((wd : Nat) : Int), .int .i64 ((hg : Nat) : Int)]) rfl rfl (wv_n rfl) rfl (fun _ _ hρ hm => r_loadA ag109 sz109 (hρ _ _ rfl) (hm.old hblk) rfl rfl)) (all_cons (q_run (.agg #[.int .i64 ((wd : Nat) : Int), .int .i64 ((hg : Nat) : Int), .slice (some ⟨B1, 0, none⟩) ps.length ps.length]) rfl rfl (wv_n rfl) rfl (fun _ _ hρ _ => r_build (vs := [(0, .agg #[.int .i64 ((wd : Nat) : Int), .int .i64 ((hg : Nat) : Int)]), (1, .slice (some ⟨B1, 0, none⟩) ps.length ps.length)]) (by kernel_rfl) (cons2 (pair2 (hρ _ _ rfl)) (cons2 (pair2 (hρ _ _ rfl)) rfl)))) all_nil)))))) (allM (all_cons ?_ all_nil))
  refine LOb_new 902 (.cells #[.int .i64 ((wd : Nat) : Int), .int .i64 ((hg : Nat) : Int), .slice (some ⟨B1, 0, none⟩) ps.length ps.length] 111) (fun B => .pointer (some ⟨B, 0, none⟩)) (fun B => [(12, .pointer (some ⟨B, 0, none⟩))]) rfl (wv_n rfl) rfl rfl (fun _ _ hρ _ => r_box (hρ _ _ rfl) rfl) (fun B => by kernel_rfl) ?_
  intro B2
  refine G_last [12] [(0, .pointer (some ⟨p, 0, none⟩)), (1, .slice ad ds.length capd), (4, .pointer none), (5, .pointer (some ⟨B2, 0, none⟩))] (by kernel_rfl) (allM (all_cons (q_run (.pointer (some ⟨B2, 0, none⟩)) rfl rfl (wv_n rfl) rfl (fun _ _ hρ _ => r_assign (hρ _ _ rfl))) all_nil)) (end_old rfl rfl (end_old rfl rfl (end_old rfl rfl (end_new 12 rfl rfl end_nil)))) ?_
  refine T_seq (T_draw (V := [(0, .pointer (some ⟨B2, 0, none⟩)), (1, .pointer (some ⟨B2, 0, none⟩)), (2, .pointer (some ⟨B2, 2, none⟩)), (3, .slice (some ⟨B1, 0, none⟩) ps.length ps.length), (4, .pointer (some ⟨p, 0, none⟩)), (5, .pointer (some ⟨p, 0, none⟩)), (6, .pointer (some ⟨p, 2, none⟩)), (7, .slice (some ⟨b, of, none⟩) ps.length cap)]) [0, 1, 3, 7, 0, 16, 48, 112, 255] [[(5, none)], [(30, some 0)], [(31, some 1)], [(32, some 2)], [(0, none)], [(34, some 4)], [(35, some 5)], [(36, some 6)], [(33, some 3), (37, some 7)]] 256 mixed (by kernel_rfl) ?_)
  refine G_step [0, 1, 2, 3, 4, 5, 6, 7] 8 [] (by kernel_rfl) (allM (all_cons (q_run (.pointer (some ⟨B2, 0, none⟩)) rfl rfl (wv_n rfl) rfl (fun _ _ hρ _ => r_move (hρ _ _ rfl))) (all_cons (q_run (.pointer (some ⟨B2, 0, none⟩)) rfl rfl (wv_n rfl) rfl (fun _ _ hρ _ => r_nilCheck (hρ _ _ rfl) rfl)) (all_cons (q_run (.pointer (some ⟨B2, 2, none⟩)) rfl rfl (wv_n rfl) rfl (fun _ _ hρ _ => r_fieldAddr fl111_1 sz104 (hρ _ _ rfl))) (all_cons (q_run (.slice (some ⟨B1, 0, none⟩) ps.length ps.length) rfl rfl (wv_n rfl) rfl (fun _ _ hρ hm => r_load ag104 (hρ _ _ rfl) (hm.at 902 rfl) rfl)) (all_cons (q_run (.pointer (some ⟨p, 0, none⟩)) rfl rfl (wv_n rfl) rfl (fun _ _ hρ _ => r_move (hρ _ _ rfl))) (all_cons (q_run (.pointer (some ⟨p, 0, none⟩)) rfl rfl (wv_n rfl) rfl (fun _ _ hρ _ => r_nilCheck (hρ _ _ rfl) rfl)) (all_cons (q_run (.pointer (some ⟨p, 2, none⟩)) rfl rfl (wv_n rfl) rfl (fun _ _ hρ _ => r_fieldAddr fl111_1 sz104 (hρ _ _ rfl))) (all_cons (q_run (.slice (some ⟨b, of, none⟩) ps.length cap) rfl rfl (wv_n rfl) rfl (fun _ _ hρ hm => r_load ag104 (hρ _ _ rfl) (hm.old hblk) rfl)) all_nil))))))))) (allM (all_cons ?_ all_nil))
  refine LOb_op1 (.int .i64 ((ps.length : Nat) : Int)) _ [] rfl (wv_n rfl) rfl rfl (fun _ _ hρ hm => o_copy (s := 1) (news := (ps.flatMap ptrc)) 901 rfl (hρ _ _ rfl) (hρ _ _ rfl) rfl sl104 sz106 (src_of ptrc_len (hrow.keep hm.ext)) ptrc_one1 hm) (by kernel_rfl) ?_
  refine G_last [] [(0, .pointer (some ⟨p, 0, none⟩)), (1, .slice ad ds.length capd), (4, .pointer none), (5, .pointer (some ⟨B2, 0, none⟩))] (by kernel_rfl) (allM all_nil) (end_old rfl rfl (end_old rfl rfl (end_old rfl rfl (end_old rfl rfl end_nil)))) ?_
  refine T_seq (T_region ?_)
  refine TL_q (.pointer (some ⟨B2, 0, none⟩)) (fun _ _ hρ _ => r_move (hρ _ _ rfl)) rfl rfl rfl (w_n rfl) ?_
  refine TL_q (.pointer (some ⟨B2, 0, none⟩)) (fun _ _ hρ _ => r_nilCheck (hρ _ _ rfl) rfl) rfl rfl rfl (w_n rfl) ?_
  refine TL_q (.pointer (some ⟨B2, 0, none⟩)) (fun _ _ hρ _ => r_fieldAddr fl111_0 sz109 (hρ _ _ rfl)) rfl rfl rfl (w_n rfl) ?_
  refine TL_q (.agg #[.int .i64 ((wd : Nat) : Int), .int .i64 ((hg : Nat) : Int)]) (fun _ _ hρ hm => r_loadA ag109 sz109 (hρ _ _ rfl) (hm.at 902 rfl) rfl rfl) rfl rfl rfl (w_n rfl) ?_
  refine TL_q (.func (.func 66) #[.agg #[.int .i64 ((wd : Nat) : Int), .int .i64 ((hg : Nat) : Int)]] #[]) (fun _ _ hρ _ => r_makeFunc (map_arr (cons2 (hρ _ _ rfl) rfl)) (by simp)) rfl rfl rfl (w_n rfl) ?_
  refine TL_q (.func (.func 66) #[.agg #[.int .i64 ((wd : Nat) : Int), .int .i64 ((hg : Nat) : Int)]] #[]) (fun _ _ hρ _ => r_assign (hρ _ _ rfl)) rfl rfl rfl (w_n rfl) ?_
  refine TL_seq ?_
  refine T_seq (T_region ?_)
  refine TL_new 1 ((mapO natK optV [])) (fun B => .map (some B)) (fun _ _ _ _ => r_makeMap) rfl rfl rfl (w_n rfl) ?_
  intro B4
  refine TL_q (.map (some B4)) (fun _ _ hρ _ => r_assign (hρ _ _ rfl)) rfl rfl rfl (w_n rfl) ?_
  refine TL_seq ?_
  refine T_seq ?_
  refine T_seq (T_region ?_)
  refine TL_q (.slice ad ds.length capd) (fun _ _ hρ _ => r_move (hρ _ _ rfl)) rfl rfl rfl (w_n rfl) ?_
  refine TL_q (.int .i64 ((ds.length : Nat) : Int)) (fun _ _ hρ _ => r_len sl25 (hρ _ _ rfl)) rfl rfl rfl (w_n rfl) ?_
  refine TL_q (.int .i64 0) (fun _ _ hρ _ => r_move (hρ _ _ rfl)) rfl rfl rfl (w_n rfl) ?_
  refine TL_seq ?_
  refine T_block ?_
  refine T_mem (_ :: _) (fun _ hm => hm.tls0 904 OwE.bt) ?_
  refine T_loop (ι := Nat × List OwE) (fun (z : Nat × List OwE) => match z with | (k, own) => k ≤ ds.length ∧ OwnOk ts own (putDs wd hg ts (ds.take k))) (fun (z : Nat × List OwE) => match z with | (k, own) => [(0, .pointer (some ⟨p, 0, none⟩)), (4, .pointer none), (5, .pointer (some ⟨B2, 0, none⟩)), (6, .func (.func 66) #[.agg #[.int .i64 ((wd : Nat) : Int), .int .i64 ((hg : Nat) : Int)]] #[]), (7, .map (some B4)), (45, .slice ad ds.length capd), (46, .int .i64 ((ds.length : Nat) : Int)), (47, .int .i64 ((k : Nat) : Int))]) (fun (z : Nat × List OwE) => match z with | (k, own) => [(901, .row (.slice (some ⟨B1, 0, none⟩) ps.length ps.length) 106 1 ps.length (ps.flatMap ptrc)), (902, .blk B2 (.cells #[.int .i64 ((wd : Nat) : Int), .int .i64 ((hg : Nat) : Int), .slice (some ⟨B1, 0, none⟩) ps.length ps.length] 111)), (904, .tls OwE.bt own), (1, .blk B4 ((mapO natK optV (own.map OwE.ent))))]) (fun (z : Nat × List OwE) => match z with | (k, own) => ds.length - k) (0, []) ⟨Nat.zero_le _, ⟨List.Pairwise.nil, rfl, (fun e he => nomatch he), fun i t h => .inr ⟨(fun e he => nomatch he), h⟩⟩⟩ (sub_cons rfl (sub_cons rfl (sub_cons rfl (sub_cons rfl (sub_cons rfl (sub_cons rfl (sub_cons rfl (sub_cons rfl sub_nil)))))))) (sub_cons rfl (sub_cons rfl (sub_cons rfl (sub_cons rfl sub_nil)))) ?_
  rintro ⟨k, own⟩ hp
  obtain ⟨hk, hok⟩ := hp
  show T _ _ _ [(0, .pointer (some ⟨p, 0, none⟩)), (4, .pointer none), (5, .pointer (some ⟨B2, 0, none⟩)), (6, .func (.func 66) #[.agg #[.int .i64 ((wd : Nat) : Int), .int .i64 ((hg : Nat) : Int)]] #[]), (7, .map (some B4)), (45, .slice ad ds.length capd), (46, .int .i64 ((ds.length : Nat) : Int)), (47, .int .i64 ((k : Nat) : Int))] [(901, .row (.slice (some ⟨B1, 0, none⟩) ps.length ps.length) 106 1 ps.length (ps.flatMap ptrc)), (902, .blk B2 (.cells #[.int .i64 ((wd : Nat) : Int), .int .i64 ((hg : Nat) : Int), .slice (some ⟨B1, 0, none⟩) ps.length ps.length] 111)), (904, .tls OwE.bt own), (1, .blk B4 ((mapO natK optV (own.map OwE.ent))))]
  refine T_seq (T_region ?_)
  refine TL_q (.bool (decide (((k : Nat) : Int) < ((ds.length : Nat) : Int)))) (fun _ _ hρ _ => r_lss (hρ _ _ rfl) (hρ _ _ rfl)) rfl rfl rfl (w_n rfl) ?_
  refine TL_seq ?_
  refine T_seq ?_
  refine T_cond rfl (fun h1 => ?_) (fun h1 => ?_)
  · replace h1 := of_decide_eq_true h1
    refine T_skip' ?_
    refine p_seq ?_
    refine T_seq ?_
    refine T_block ?_
    obtain ⟨u, hu⟩ : ∃ x, ds[k]? = some x := ⟨_, List.getElem?_eq_getElem (by omega)⟩
    obtain ⟨b5, of5, cs5, T5, fz5, ha5, hq5, hr5⟩ := hvd.open (i := k) (by omega)
    subst ha5
    refine T_seq (T_region ?_)
    refine TL_q (.pointer (some ⟨b5, of5 + k * 6, none⟩)) (fun _ _ hρ _ => r_indexAddrS (i := k) sl25 sz51 (hρ _ _ rfl) (hρ _ _ rfl) (by omega)) rfl rfl rfl (w_n rfl) ?_
    refine TL_q (.agg #[.int .i64 u.x, .int .i64 u.y, .int .u8 u.c.r, .int .u8 u.c.g, .int .u8 u.c.b, .int .u8 u.c.a]) (fun _ _ hρ hm => r_loadRow (f := Dt.cells) (u := u) ag51 sz51 (hρ _ _ rfl) (hm.old hq5) hr5 hu) rfl rfl rfl (w_n rfl) ?_
    refine TL_new 2 (.cells #[.int .i64 0, .int .i64 0, .int .u8 0, .int .u8 0, .int .u8 0, .int .u8 0] 51) (fun B => .pointer (some ⟨B, 0, none⟩)) (fun _ _ _ _ => r_alloc (v := .agg #[.int .i64 0, .int .i64 0, .int .u8 0, .int .u8 0, .int .u8 0, .int .u8 0]) (by kernel_rfl) rfl) rfl rfl rfl (w_n rfl) ?_
    intro B6
    refine TL_store 2 (.cells #[.int .i64 u.x, .int .i64 u.y, .int .u8 u.c.r, .int .u8 u.c.g, .int .u8 u.c.b, .int .u8 u.c.a] 51) rfl (fun _ _ hρ hm => r_store sz51 (hρ _ _ rfl) (hρ _ _ rfl) (hm.at 2 rfl) rfl rfl rfl rfl) rfl rfl (w_n rfl) ?_
    refine TL_seq ?_
    by_cases hon : onC wd hg u.x u.y = true
    · skip
      refine T_seq (T_region ?_)
      refine TL_q (.func (.func 66) #[.agg #[.int .i64 ((wd : Nat) : Int), .int .i64 ((hg : Nat) : Int)]] #[]) (fun _ _ hρ _ => r_move (hρ _ _ rfl)) rfl rfl rfl (w_n rfl) ?_
      refine TL_q (.pointer (some ⟨B6, 0, none⟩)) (fun _ _ hρ _ => r_fieldAddr fl51_0 sz3 (hρ _ _ rfl)) rfl rfl rfl (w_n rfl) ?_
      refine TL_q (.int .i64 u.x) (fun _ _ hρ hm => r_load ag3 (hρ _ _ rfl) (hm.at 2 rfl) rfl) rfl rfl rfl (w_n rfl) ?_
      refine TL_q (.pointer (some ⟨B6, 1, none⟩)) (fun _ _ hρ _ => r_fieldAddr fl51_1 sz3 (hρ _ _ rfl)) rfl rfl rfl (w_n rfl) ?_
      refine TL_q (.int .i64 u.y) (fun _ _ hρ hm => r_load ag3 (hρ _ _ rfl) (hm.at 2 rfl) rfl) rfl rfl rfl (w_n rfl) ?_
      refine TL_call (.tuple #[.int .i64 ((tix wd u.x u.y : Nat) : Int), .agg #[.int .i64 ((u.x.toNat % 8 : Nat) : Int), .int .i64 ((u.y.toNat % 8 : Nat) : Int)], .bool true]) (fun _ _ hρ _ => r_call (args := [.int .i64 u.x, .int .i64 u.y]) (enters_of Try.func66 (by kernel_rfl) rfl) (hρ _ _ rfl) ((cons2 (hρ _ _ rfl) (cons2 (hρ _ _ rfl) rfl))) rfl) (fun w _ => place_on wd hg u.x u.y w hwd hhg hon) rfl rfl rfl (w_n rfl) ?_
      refine TL_q (.tuple #[.int .i64 ((tix wd u.x u.y : Nat) : Int), .agg #[.int .i64 ((u.x.toNat % 8 : Nat) : Int), .int .i64 ((u.y.toNat % 8 : Nat) : Int)], .bool true]) (fun _ _ hρ _ => r_move (hρ _ _ rfl)) rfl rfl rfl (w_n rfl) ?_
      refine TL_q (.int .i64 ((tix wd u.x u.y : Nat) : Int)) (fun _ _ hρ _ => r_extract (hρ _ _ rfl) rfl) rfl rfl rfl (w_n rfl) ?_
      refine TL_q (.agg #[.int .i64 ((u.x.toNat % 8 : Nat) : Int), .int .i64 ((u.y.toNat % 8 : Nat) : Int)]) (fun _ _ hρ _ => r_extract (hρ _ _ rfl) rfl) rfl rfl rfl (w_n rfl) ?_
      refine TL_q (.bool true) (fun _ _ hρ _ => r_extract (hρ _ _ rfl) rfl) rfl rfl rfl (w_n rfl) ?_
      refine TL_new 3 (.cells #[.int .i64 0, .int .i64 0] 47) (fun B => .pointer (some ⟨B, 0, none⟩)) (fun _ _ _ _ => r_alloc (v := .agg #[.int .i64 0, .int .i64 0]) (by kernel_rfl) rfl) rfl rfl rfl (w_n rfl) ?_
      intro B7
      refine TL_q (.int .i64 ((tix wd u.x u.y : Nat) : Int)) (fun _ _ hρ _ => r_assign (hρ _ _ rfl)) rfl rfl rfl (w_n rfl) ?_
      refine TL_store 3 (.cells #[.int .i64 ((u.x.toNat % 8 : Nat) : Int), .int .i64 ((u.y.toNat % 8 : Nat) : Int)] 47) rfl (fun _ _ hρ hm => r_store sz47 (hρ _ _ rfl) (hρ _ _ rfl) (hm.at 3 rfl) rfl rfl rfl rfl) rfl rfl (w_n rfl) ?_
      refine TL_q (.bool true) (fun _ _ hρ _ => r_assign (hρ _ _ rfl)) rfl rfl rfl (w_n rfl) ?_
      refine TL_seq ?_
      refine T_seq ?_
      refine T_seq (T_region ?_)
      refine TL_q (.bool true) (fun _ _ hρ _ => r_move (hρ _ _ rfl)) rfl rfl rfl (w_n rfl) ?_
      refine TL_q (.bool false) (fun _ _ hρ _ => r_not (b := true) (hρ _ _ rfl)) rfl rfl rfl (w_n rfl) ?_
      refine TL_seq ?_
      refine T_cond_f rfl ?_
      refine T_skip' ?_
      refine p_seq ?_
      refine T_seq ?_
      by_cases hno : ∃ e ∈ own, e.1 = tix wd u.x u.y
      · skip
        obtain ⟨⟨nz, q, t0⟩, hin, hnz⟩ := hno
        dsimp only at hnz
        subst hnz
        have ht0 := own_cur hok hin (by rw [hlt, hlen]; exact tix_lt hon)
        refine T_seq (T_region ?_)
        refine TL_q (.map (some B4)) (fun _ _ hρ _ => r_move (hρ _ _ rfl)) rfl rfl rfl (w_n rfl) ?_
        refine TL_q (.int .i64 ((tix wd u.x u.y : Nat) : Int)) (fun _ _ hρ _ => r_move (hρ _ _ rfl)) rfl rfl rfl (w_n rfl) ?_
        refine TL_q (.pointer (some ⟨q, 0, none⟩)) (fun _ _ hρ hm => r_as (r_lookup (fk := natK) (fv := optV) (c := (tix wd u.x u.y)) (z := none) (l := (own.map OwE.ent)) keyN mp113 rfl (hρ _ _ rfl) (hρ _ _ rfl) (hm.at 1 rfl)) (congrArg optV (own_in hok.one hin))) rfl rfl rfl (w_n rfl) ?_
        refine TL_q (.bool false) (fun _ _ hρ _ => r_as (r_eqlPn po106 (hρ _ _ rfl) (hρ _ _ rfl)) (by rfl)) rfl rfl rfl (w_n rfl) ?_
        refine TL_seq ?_
        refine T_cond_f rfl ?_
        refine T_skip' ?_
        refine p_seq ?_
        refine T_draw (V := [(0, .map (some B4)), (1, .int .i64 ((tix wd u.x u.y : Nat) : Int)), (2, .pointer (some ⟨q, 0, none⟩)), (3, .map (some B4)), (4, .int .i64 ((tix wd u.x u.y : Nat) : Int)), (5, .pointer (some ⟨q, 0, none⟩)), (6, .pointer (some ⟨q, 0, none⟩)), (7, .agg (lst C4.cells t0.l)), (8, .pointer (some ⟨B6, 2, none⟩)), (9, .agg #[.int .u8 u.c.r, .int .u8 u.c.g, .int .u8 u.c.b, .int .u8 u.c.a]), (10, .agg #[.int .i64 ((u.x.toNat % 8 : Nat) : Int), .int .i64 ((u.y.toNat % 8 : Nat) : Int)])]) [0, 0, 3, 0, 0, 24, 56, 120, 0, 256, 0, 1024, 4088, 8184, 16376, 16376, 32767, 98303] [[(7, none)], [(10, none)], [(79, some 0), (80, some 1)], [(7, none)], [(10, none)], [(82, some 3), (83, some 4)], [(84, some 5)], [(85, some 6)], [(9, none)], [(87, some 8)], [(11, none)], [(89, some 10)], [(86, some 7), (88, some 9), (90, some 11)], [(91, some 12)], [(78, some 13)], [(78, some 13)], [(81, some 2)], [(94, some 16), (92, some 14)]] 137216 mixed (by kernel_rfl) ?_
        refine G_step [0, 1, 2, 3, 4, 5, 6, 7, 8, 9, 10] 11 [] (by kernel_rfl) (allM (all_cons (q_run (.map (some B4)) rfl rfl (wv_n rfl) rfl (fun _ _ hρ _ => r_move (hρ _ _ rfl))) (all_cons (q_run (.int .i64 ((tix wd u.x u.y : Nat) : Int)) rfl rfl (wv_n rfl) rfl (fun _ _ hρ _ => r_move (hρ _ _ rfl))) (all_cons (q_run (.pointer (some ⟨q, 0, none⟩)) rfl rfl (wv_n rfl) rfl (fun _ _ hρ hm => r_as (r_lookup (fk := natK) (fv := optV) (c := (tix wd u.x u.y)) (z := none) (l := (own.map OwE.ent)) keyN mp113 rfl (hρ _ _ rfl) (hρ _ _ rfl) (hm.at 1 rfl)) (congrArg optV (own_in hok.one hin)))) (all_cons (q_run (.map (some B4)) rfl rfl (wv_n rfl) rfl (fun _ _ hρ _ => r_move (hρ _ _ rfl))) (all_cons (q_run (.int .i64 ((tix wd u.x u.y : Nat) : Int)) rfl rfl (wv_n rfl) rfl (fun _ _ hρ _ => r_move (hρ _ _ rfl))) (all_cons (q_run (.pointer (some ⟨q, 0, none⟩)) rfl rfl (wv_n rfl) rfl (fun _ _ hρ hm => r_as (r_lookup (fk := natK) (fv := optV) (c := (tix wd u.x u.y)) (z := none) (l := (own.map OwE.ent)) keyN mp113 rfl (hρ _ _ rfl) (hρ _ _ rfl) (hm.at 1 rfl)) (congrArg optV (own_in hok.one hin)))) (all_cons (q_run (.pointer (some ⟨q, 0, none⟩)) rfl rfl (wv_n rfl) rfl (fun _ _ hρ _ => r_nilCheck (hρ _ _ rfl) rfl)) (all_cons (q_run (.agg (lst C4.cells t0.l)) rfl rfl (wv_n rfl) rfl (fun _ _ hρ hm => r_loadW ag39 sz39 (hρ _ _ rfl) (hm.tl 904 rfl hin) (tsz t0.h))) (all_cons (q_run (.pointer (some ⟨B6, 2, none⟩)) rfl rfl (wv_n rfl) rfl (fun _ _ hρ _ => r_fieldAddr fl51_2 sz37 (hρ _ _ rfl))) (all_cons (q_run (.agg #[.int .u8 u.c.r, .int .u8 u.c.g, .int .u8 u.c.b, .int .u8 u.c.a]) rfl rfl (wv_n rfl) rfl (fun _ _ hρ hm => r_loadA ag37 sz37 (hρ _ _ rfl) (hm.at 2 rfl) rfl rfl)) (all_cons (q_run (.agg #[.int .i64 ((u.x.toNat % 8 : Nat) : Int), .int .i64 ((u.y.toNat % 8 : Nat) : Int)]) rfl rfl (wv_n rfl) rfl (fun _ _ hρ hm => r_loadA ag47 sz47 (hρ _ _ rfl) (hm.at 3 rfl) rfl rfl)) all_nil)))))))))))) (allM (all_cons ?_ all_nil))
        refine LOb_new 4 (.cells #[.int .i64 ((u.x.toNat % 8 : Nat) : Int), .int .i64 ((u.y.toNat % 8 : Nat) : Int)] 47) (fun B => .slice (some ⟨B, 0, none⟩) 1 1) (fun B => []) rfl (wv_n rfl) rfl rfl (fun _ _ hρ _ => r_buildSlice (vs := [(0, .agg #[.int .i64 ((u.x.toNat % 8 : Nat) : Int), .int .i64 ((u.y.toNat % 8 : Nat) : Int)])]) (by kernel_rfl) (cons2 (pair2 (hρ _ _ rfl)) rfl)) (fun B => by kernel_rfl) ?_
        intro B8
        refine G_step [0, 1, 2, 3, 4, 5, 6, 7, 8, 9] 12 [] (by kernel_rfl) (allM (all_cons (q_run (.map (some B4)) rfl rfl (wv_n rfl) rfl (fun _ _ hρ _ => r_move (hρ _ _ rfl))) (all_cons (q_run (.int .i64 ((tix wd u.x u.y : Nat) : Int)) rfl rfl (wv_n rfl) rfl (fun _ _ hρ _ => r_move (hρ _ _ rfl))) (all_cons (q_run (.pointer (some ⟨q, 0, none⟩)) rfl rfl (wv_n rfl) rfl (fun _ _ hρ hm => r_as (r_lookup (fk := natK) (fv := optV) (c := (tix wd u.x u.y)) (z := none) (l := (own.map OwE.ent)) keyN mp113 rfl (hρ _ _ rfl) (hρ _ _ rfl) (hm.at 1 rfl)) (congrArg optV (own_in hok.one hin)))) (all_cons (q_run (.map (some B4)) rfl rfl (wv_n rfl) rfl (fun _ _ hρ _ => r_move (hρ _ _ rfl))) (all_cons (q_run (.int .i64 ((tix wd u.x u.y : Nat) : Int)) rfl rfl (wv_n rfl) rfl (fun _ _ hρ _ => r_move (hρ _ _ rfl))) (all_cons (q_run (.pointer (some ⟨q, 0, none⟩)) rfl rfl (wv_n rfl) rfl (fun _ _ hρ hm => r_as (r_lookup (fk := natK) (fv := optV) (c := (tix wd u.x u.y)) (z := none) (l := (own.map OwE.ent)) keyN mp113 rfl (hρ _ _ rfl) (hρ _ _ rfl) (hm.at 1 rfl)) (congrArg optV (own_in hok.one hin)))) (all_cons (q_run (.pointer (some ⟨q, 0, none⟩)) rfl rfl (wv_n rfl) rfl (fun _ _ hρ _ => r_nilCheck (hρ _ _ rfl) rfl)) (all_cons (q_run (.agg (lst C4.cells t0.l)) rfl rfl (wv_n rfl) rfl (fun _ _ hρ hm => r_loadW ag39 sz39 (hρ _ _ rfl) (hm.tl 904 rfl hin) (tsz t0.h))) (all_cons (q_run (.pointer (some ⟨B6, 2, none⟩)) rfl rfl (wv_n rfl) rfl (fun _ _ hρ _ => r_fieldAddr fl51_2 sz37 (hρ _ _ rfl))) (all_cons (q_run (.agg #[.int .u8 u.c.r, .int .u8 u.c.g, .int .u8 u.c.b, .int .u8 u.c.a]) rfl rfl (wv_n rfl) rfl (fun _ _ hρ hm => r_loadA ag37 sz37 (hρ _ _ rfl) (hm.at 2 rfl) rfl rfl)) all_nil))))))))))) (allM (all_cons ?_ all_nil))
        refine LOb_call (.tuple #[.agg (lst C4.cells (t0.set (tpos u.x u.y) u.c).l), .int .i64 0]) [(13, .tuple #[.agg (lst C4.cells (t0.set (tpos u.x u.y) u.c).l), .int .i64 0]), (14, .agg (lst C4.cells (t0.set (tpos u.x u.y) u.c).l)), (15, .int .i64 0), (16, .pointer (some ⟨q, 0, none⟩))] rfl (wv_n rfl) rfl rfl (fun _ _ hρ _ => r_call (args := [.agg (lst C4.cells t0.l), .agg #[.int .u8 u.c.r, .int .u8 u.c.g, .int .u8 u.c.b, .int .u8 u.c.a], .slice (some ⟨B8, 0, none⟩) 1 1]) (enters_of Try.func67 (by kernel_rfl) rfl) (hρ _ _ rfl) ((cons2 (hρ _ _ rfl) (cons2 (hρ _ _ rfl) (cons2 (hρ _ _ rfl) rfl)))) rfl) (fun w hm => (with_c t0.l u.c [⟨((u.x.toNat % 8 : Nat) : Int), ((u.y.toNat % 8 : Nat) : Int)⟩] (some ⟨B8, 0, none⟩) 1 w t0.h ⟨by simp, (fun e => by cases e), .inr ⟨_, 0, _, _, _, rfl, (hm.at 4 rfl), row_of_take (fun _ => rfl) rfl⟩⟩ (by decide)).mono fun _ _ h => ⟨h.1.trans (by rw [with_one (by omega) (by omega)]; rfl), h.2⟩) (by kernel_rfl) ?_
        refine G_step [0, 1, 2, 13, 14, 15, 16] 17 [] (by kernel_rfl) (allM (all_cons (q_run (.map (some B4)) rfl rfl (wv_n rfl) rfl (fun _ _ hρ _ => r_move (hρ _ _ rfl))) (all_cons (q_run (.int .i64 ((tix wd u.x u.y : Nat) : Int)) rfl rfl (wv_n rfl) rfl (fun _ _ hρ _ => r_move (hρ _ _ rfl))) (all_cons (q_run (.pointer (some ⟨q, 0, none⟩)) rfl rfl (wv_n rfl) rfl (fun _ _ hρ hm => r_as (r_lookup (fk := natK) (fv := optV) (c := (tix wd u.x u.y)) (z := none) (l := (own.map OwE.ent)) keyN mp113 rfl (hρ _ _ rfl) (hρ _ _ rfl) (hm.at 1 rfl)) (congrArg optV (own_in hok.one hin)))) (all_cons (q_run (.tuple #[.agg (lst C4.cells (t0.set (tpos u.x u.y) u.c).l), .int .i64 0]) rfl rfl (wv_n rfl) rfl (fun _ _ hρ _ => r_move (hρ _ _ rfl))) (all_cons (q_run (.agg (lst C4.cells (t0.set (tpos u.x u.y) u.c).l)) rfl rfl (wv_n rfl) rfl (fun _ _ hρ _ => r_extract (hρ _ _ rfl) rfl)) (all_cons (q_run (.int .i64 0) rfl rfl (wv_n rfl) rfl (fun _ _ hρ _ => r_extract (hρ _ _ rfl) rfl)) (all_cons (q_run (.pointer (some ⟨q, 0, none⟩)) rfl rfl (wv_n rfl) rfl (fun _ _ hρ _ => r_nilCheck (hρ _ _ rfl) rfl)) all_nil)))))))) (allM (all_cons ?_ all_nil))
        refine LOb_opS _ [] rfl (wv_n rfl) rfl rfl (fun _ _ hρ hm => o_storeTl (t := t0) (t1 := (t0.set (tpos u.x u.y) u.c)) 904 rfl hin hok.one (hρ _ _ rfl) (hρ _ _ rfl) sz39 hm) (by kernel_rfl) ?_
        refine G_lastQ [15] [(0, .pointer (some ⟨p, 0, none⟩)), (4, .pointer none), (5, .pointer (some ⟨B2, 0, none⟩)), (6, .func (.func 66) #[.agg #[.int .i64 ((wd : Nat) : Int), .int .i64 ((hg : Nat) : Int)]] #[]), (7, .map (some B4)), (45, .slice (some ⟨b5, of5, none⟩) ds.length capd), (46, .int .i64 ((ds.length : Nat) : Int)), (47, .int .i64 ((k : Nat) : Int)), (48, .bool (decide (((k : Nat) : Int) < ((ds.length : Nat) : Int)))), (49, .pointer (some ⟨b5, of5 + k * 6, none⟩)), (50, .agg #[.int .i64 u.x, .int .i64 u.y, .int .u8 u.c.r, .int .u8 u.c.g, .int .u8 u.c.b, .int .u8 u.c.a]), (9, .pointer (some ⟨B6, 0, none⟩)), (52, .func (.func 66) #[.agg #[.int .i64 ((wd : Nat) : Int), .int .i64 ((hg : Nat) : Int)]] #[]), (53, .pointer (some ⟨B6, 0, none⟩)), (54, .int .i64 u.x), (55, .pointer (some ⟨B6, 1, none⟩)), (56, .int .i64 u.y), (57, .tuple #[.int .i64 ((tix wd u.x u.y : Nat) : Int), .agg #[.int .i64 ((u.x.toNat % 8 : Nat) : Int), .int .i64 ((u.y.toNat % 8 : Nat) : Int)], .bool true]), (51, .tuple #[.int .i64 ((tix wd u.x u.y : Nat) : Int), .agg #[.int .i64 ((u.x.toNat % 8 : Nat) : Int), .int .i64 ((u.y.toNat % 8 : Nat) : Int)], .bool true]), (58, .int .i64 ((tix wd u.x u.y : Nat) : Int)), (59, .agg #[.int .i64 ((u.x.toNat % 8 : Nat) : Int), .int .i64 ((u.y.toNat % 8 : Nat) : Int)]), (60, .bool true), (11, .pointer (some ⟨B7, 0, none⟩)), (10, .int .i64 ((tix wd u.x u.y : Nat) : Int)), (12, .bool true), (61, .bool true), (62, .bool false), (63, .map (some B4)), (64, .int .i64 ((tix wd u.x u.y : Nat) : Int)), (65, .pointer (some ⟨q, 0, none⟩)), (66, .bool false), (79, .map (some B4)), (80, .int .i64 ((tix wd u.x u.y : Nat) : Int)), (81, .pointer (some ⟨q, 0, none⟩)), (82, .map (some B4)), (83, .int .i64 ((tix wd u.x u.y : Nat) : Int)), (84, .pointer (some ⟨q, 0, none⟩)), (85, .pointer (some ⟨q, 0, none⟩)), (86, .agg (lst C4.cells t0.l)), (87, .pointer (some ⟨B6, 2, none⟩)), (88, .agg #[.int .u8 u.c.r, .int .u8 u.c.g, .int .u8 u.c.b, .int .u8 u.c.a]), (89, .agg #[.int .i64 ((u.x.toNat % 8 : Nat) : Int), .int .i64 ((u.y.toNat % 8 : Nat) : Int)]), (90, .slice (some ⟨B8, 0, none⟩) 1 1), (91, .tuple #[.agg (lst C4.cells (t0.set (tpos u.x u.y) u.c).l), .int .i64 0]), (78, .tuple #[.agg (lst C4.cells (t0.set (tpos u.x u.y) u.c).l), .int .i64 0]), (92, .agg (lst C4.cells (t0.set (tpos u.x u.y) u.c).l)), (94, .pointer (some ⟨q, 0, none⟩))] (by kernel_rfl) (allM (all_cons (q_run (.int .i64 0) rfl rfl (wv_n rfl) rfl (fun _ _ hρ _ => r_extract (hρ _ _ rfl) rfl)) all_nil)) (end_old rfl rfl (end_old rfl rfl (end_old rfl rfl (end_old rfl rfl (end_old rfl rfl (end_old rfl rfl (end_old rfl rfl (end_old rfl rfl (end_old rfl rfl (end_old rfl rfl (end_old rfl rfl (end_old rfl rfl (end_old rfl rfl (end_old rfl rfl (end_old rfl rfl (end_old rfl rfl (end_old rfl rfl (end_old rfl rfl (end_old rfl rfl (end_old rfl rfl (end_old rfl rfl (end_old rfl rfl (end_old rfl rfl (end_old rfl rfl (end_old rfl rfl (end_old rfl rfl (end_old rfl rfl (end_old rfl rfl (end_old rfl rfl (end_old rfl rfl (end_old rfl rfl (end_new 0 rfl rfl (end_new 1 rfl rfl (end_new 2 rfl rfl (end_new 3 rfl rfl (end_new 4 rfl rfl (end_new 5 rfl rfl (end_new 6 rfl rfl (end_new 7 rfl rfl (end_new 8 rfl rfl (end_new 9 rfl rfl (end_new 10 rfl rfl (end_new 11 rfl rfl (end_new 12 rfl rfl (end_new 13 rfl rfl (end_new 14 rfl rfl (end_new 16 rfl rfl end_nil))))))))))))))))))))))))))))))))))))))))))))))) ?_
        refine p_blk_n ?_
        refine p_seq ?_
        refine T_region ?_
        refine TL_q (.int .i64 ((k + 1 : Nat) : Int)) (fun _ _ hρ _ => r_as (r_add (hρ _ _ rfl) (hρ _ _ rfl)) (int_as ((wrap64 (by omega) (by omega)).trans (by omega)))) rfl rfl rfl (w_n rfl) ?_
        refine TL_q (.int .i64 ((k + 1 : Nat) : Int)) (fun _ _ hρ _ => r_move (hρ _ _ rfl)) rfl rfl rfl (w_n rfl) ?_
        refine TL_nil ?_
        exact p_at (k + 1, updO own (tix wd u.x u.y) (t0.set (tpos u.x u.y) u.c)) ⟨⟨by omega, by rw [putDs_step hu]; exact own_step hok hon (by rw [hlt, hlen]) hin⟩, by dsimp only; omega⟩ (sub_cons rfl (sub_cons rfl (sub_cons rfl (sub_cons rfl (sub_cons rfl (sub_cons rfl (sub_cons rfl (sub_cons rfl sub_nil)))))))) (sub_cons rfl (sub_cons rfl (sub_cons rfl (sub_cons (by rw [upd_ent]; rfl) sub_nil))))
      · skip
        refine T_seq (T_region ?_)
        refine TL_q (.map (some B4)) (fun _ _ hρ _ => r_move (hρ _ _ rfl)) rfl rfl rfl (w_n rfl) ?_
        refine TL_q (.int .i64 ((tix wd u.x u.y : Nat) : Int)) (fun _ _ hρ _ => r_move (hρ _ _ rfl)) rfl rfl rfl (w_n rfl) ?_
        refine TL_q (.pointer none) (fun _ _ hρ hm => r_as (r_lookup (fk := natK) (fv := optV) (c := (tix wd u.x u.y)) (z := none) (l := (own.map OwE.ent)) keyN mp113 rfl (hρ _ _ rfl) (hρ _ _ rfl) (hm.at 1 rfl)) (congrArg optV (own_out hno))) rfl rfl rfl (w_n rfl) ?_
        refine TL_q (.bool true) (fun _ _ hρ _ => r_as (r_eqlPn po106 (hρ _ _ rfl) (hρ _ _ rfl)) (by rfl)) rfl rfl rfl (w_n rfl) ?_
        refine TL_seq ?_
        refine T_cond_t rfl ?_
        have htx : tix wd u.x u.y < ps.length := by rw [hlen]; exact tix_lt hon
        obtain ⟨q0, hqq0⟩ : ∃ x, ps[tix wd u.x u.y]? = some x := ⟨_, List.getElem?_eq_getElem (by omega)⟩
        obtain ⟨t0, hqt0⟩ : ∃ x, ts[tix wd u.x u.y]? = some x := ⟨_, List.getElem?_eq_getElem (by omega)⟩
        have hbq0 := htl _ _ _ hqq0 hqt0
        refine T_seq (T_region ?_)
        refine TL_q (.pointer (some ⟨p, 0, none⟩)) (fun _ _ hρ _ => r_move (hρ _ _ rfl)) rfl rfl rfl (w_n rfl) ?_
        refine TL_q (.pointer (some ⟨p, 0, none⟩)) (fun _ _ hρ _ => r_nilCheck (hρ _ _ rfl) rfl) rfl rfl rfl (w_n rfl) ?_
        refine TL_q (.pointer (some ⟨p, 2, none⟩)) (fun _ _ hρ _ => r_fieldAddr fl111_1 sz104 (hρ _ _ rfl)) rfl rfl rfl (w_n rfl) ?_
        refine TL_q (.slice (some ⟨b, of, none⟩) ps.length cap) (fun _ _ hρ hm => r_load ag104 (hρ _ _ rfl) (hm.old hblk) rfl) rfl rfl rfl (w_n rfl) ?_
        refine TL_q (.int .i64 ((tix wd u.x u.y : Nat) : Int)) (fun _ _ hρ _ => r_move (hρ _ _ rfl)) rfl rfl rfl (w_n rfl) ?_
        refine TL_q (.pointer (some ⟨b, of + (tix wd u.x u.y) * 1, none⟩)) (fun _ _ hρ _ => r_indexAddrS (i := tix wd u.x u.y) sl104 sz106 (hρ _ _ rfl) (hρ _ _ rfl) (by omega)) rfl rfl rfl (w_n rfl) ?_
        refine TL_q (.pointer (some ⟨q0, 0, none⟩)) (fun _ _ hρ hm => r_loadRow1 (f := ptrc) (u := q0) ag106 (hρ _ _ rfl) (hm.old hcr) hrr hqq0 rfl) rfl rfl rfl (w_n rfl) ?_
        refine TL_q (.pointer (some ⟨q0, 0, none⟩)) (fun _ _ hρ _ => r_nilCheck (hρ _ _ rfl) rfl) rfl rfl rfl (w_n rfl) ?_
        refine TL_q (.agg (lst C4.cells t0.l)) (fun _ _ hρ hm => r_loadW ag39 sz39 (hρ _ _ rfl) (hm.old hbq0) (tsz t0.h)) rfl rfl rfl (w_n rfl) ?_
        refine TL_new 5 (.cells (lst C4.cells zero64) 39) (fun B => .pointer (some ⟨B, 0, none⟩)) (fun _ _ _ _ => r_alloc (v := .agg (lst C4.cells zero64)) (by kernel_rfl) rfl) rfl rfl rfl (w_n rfl) ?_
        intro B9
        refine TL_store 5 (.cells (lst C4.cells t0.l) 39) rfl (fun _ _ hρ hm => r_storeAll sz39 (hρ _ _ rfl) (hρ _ _ rfl) (hm.at 5 rfl) (tsz zero64_len) (tsz t0.h) (lst_one C4.cells_all _)) rfl rfl (w_n rfl) ?_
        refine TL_seq ?_
        refine T_sub [(0, .pointer (some ⟨p, 0, none⟩)), (4, .pointer none), (5, .pointer (some ⟨B2, 0, none⟩)), (6, .func (.func 66) #[.agg #[.int .i64 ((wd : Nat) : Int), .int .i64 ((hg : Nat) : Int)]] #[]), (7, .map (some B4)), (45, .slice (some ⟨b5, of5, none⟩) ds.length capd), (46, .int .i64 ((ds.length : Nat) : Int)), (47, .int .i64 ((k : Nat) : Int)), (48, .bool (decide (((k : Nat) : Int) < ((ds.length : Nat) : Int)))), (49, .pointer (some ⟨b5, of5 + k * 6, none⟩)), (50, .agg #[.int .i64 u.x, .int .i64 u.y, .int .u8 u.c.r, .int .u8 u.c.g, .int .u8 u.c.b, .int .u8 u.c.a]), (9, .pointer (some ⟨B6, 0, none⟩)), (52, .func (.func 66) #[.agg #[.int .i64 ((wd : Nat) : Int), .int .i64 ((hg : Nat) : Int)]] #[]), (53, .pointer (some ⟨B6, 0, none⟩)), (54, .int .i64 u.x), (55, .pointer (some ⟨B6, 1, none⟩)), (56, .int .i64 u.y), (57, .tuple #[.int .i64 ((tix wd u.x u.y : Nat) : Int), .agg #[.int .i64 ((u.x.toNat % 8 : Nat) : Int), .int .i64 ((u.y.toNat % 8 : Nat) : Int)], .bool true]), (51, .tuple #[.int .i64 ((tix wd u.x u.y : Nat) : Int), .agg #[.int .i64 ((u.x.toNat % 8 : Nat) : Int), .int .i64 ((u.y.toNat % 8 : Nat) : Int)], .bool true]), (58, .int .i64 ((tix wd u.x u.y : Nat) : Int)), (59, .agg #[.int .i64 ((u.x.toNat % 8 : Nat) : Int), .int .i64 ((u.y.toNat % 8 : Nat) : Int)]), (60, .bool true), (11, .pointer (some ⟨B7, 0, none⟩)), (10, .int .i64 ((tix wd u.x u.y : Nat) : Int)), (12, .bool true), (61, .bool true), (62, .bool false), (63, .map (some B4)), (64, .int .i64 ((tix wd u.x u.y : Nat) : Int)), (65, .pointer none), (66, .bool true), (67, .pointer (some ⟨p, 0, none⟩)), (68, .pointer (some ⟨p, 0, none⟩)), (69, .pointer (some ⟨p, 2, none⟩)), (70, .slice (some ⟨b, of, none⟩) ps.length cap), (71, .int .i64 ((tix wd u.x u.y : Nat) : Int)), (72, .pointer (some ⟨b, of + (tix wd u.x u.y) * 1, none⟩)), (73, .pointer (some ⟨q0, 0, none⟩)), (74, .pointer (some ⟨q0, 0, none⟩)), (75, .agg (lst C4.cells t0.l)), (13, .pointer (some ⟨B9, 0, none⟩))] [(901, .row (.slice (some ⟨B1, 0, none⟩) ps.length ps.length) 106 1 ps.length (ps.flatMap ptrc)), (902, .blk B2 (.cells #[.int .i64 ((wd : Nat) : Int), .int .i64 ((hg : Nat) : Int), .slice (some ⟨B1, 0, none⟩) ps.length ps.length] 111)), (904, .tls OwE.bt own), (1, .blk B4 ((mapO natK optV (own.map OwE.ent)))), (2, .blk B6 (.cells #[.int .i64 u.x, .int .i64 u.y, .int .u8 u.c.r, .int .u8 u.c.g, .int .u8 u.c.b, .int .u8 u.c.a] 51)), (3, .blk B7 (.cells #[.int .i64 ((u.x.toNat % 8 : Nat) : Int), .int .i64 ((u.y.toNat % 8 : Nat) : Int)] 47)), (5, .blk B9 (.cells (lst C4.cells t0.l) 39))] (sub_cons rfl (sub_cons rfl (sub_cons rfl (sub_cons rfl (sub_cons rfl (sub_cons rfl (sub_cons rfl (sub_cons rfl (sub_cons rfl (sub_cons rfl (sub_cons rfl (sub_cons rfl (sub_cons rfl (sub_cons rfl (sub_cons rfl (sub_cons rfl (sub_cons rfl (sub_cons rfl (sub_cons rfl (sub_cons rfl (sub_cons rfl (sub_cons rfl (sub_cons rfl (sub_cons rfl (sub_cons rfl (sub_cons rfl (sub_cons rfl (sub_cons rfl (sub_cons rfl (sub_cons rfl (sub_cons rfl (sub_cons rfl (sub_cons rfl (sub_cons rfl (sub_cons rfl (sub_cons rfl (sub_cons rfl (sub_cons rfl (sub_cons rfl (sub_cons rfl (sub_cons rfl sub_nil))))))))))))))))))))))))))))))))))))))))) (sub_cons rfl (sub_cons rfl (sub_cons rfl (sub_cons rfl (sub_cons rfl (sub_cons rfl (sub_cons rfl sub_nil))))))) ?_
        refine T_region ?_
        refine TL_q (.map (some B4)) (fun _ _ hρ _ => r_move (hρ _ _ rfl)) rfl rfl rfl (w_n rfl) ?_
        refine TL_q (.int .i64 ((tix wd u.x u.y : Nat) : Int)) (fun _ _ hρ _ => r_move (hρ _ _ rfl)) rfl rfl rfl (w_n rfl) ?_
        refine TL_store 1 ((mapO natK optV ((own ++ [((tix wd u.x u.y), B9, t0)]).map OwE.ent))) rfl (fun _ _ hρ hm => (by rw [← put_out t0 hno]; exact r_mapUpdate (fk := natK) (fv := optV) (c := (tix wd u.x u.y)) (z := none) (u := (some B9)) (l := (own.map OwE.ent)) keyN mp113 (hρ _ _ rfl) (hρ _ _ rfl) (hρ _ _ rfl) (hm.at 1 rfl))) rfl rfl (w_n rfl) ?_
        refine TL_nil ?_
        refine p_seq ?_
        have hok2 := own_push (q := B9) hok hno hqt0
        have hin : (tix wd u.x u.y, B9, t0) ∈ own ++ [(tix wd u.x u.y, B9, t0)] := List.mem_append_right _ (List.mem_singleton.2 rfl)
        refine T_mem (_ :: _) (fun _ hm => hm.tlPush 904 5 (tix wd u.x u.y, B9, t0) rfl rfl rfl rfl rfl) ?_
        refine T_draw (V := [(0, .map (some B4)), (1, .int .i64 ((tix wd u.x u.y : Nat) : Int)), (2, .pointer (some ⟨B9, 0, none⟩)), (3, .map (some B4)), (4, .int .i64 ((tix wd u.x u.y : Nat) : Int)), (5, .pointer (some ⟨B9, 0, none⟩)), (6, .pointer (some ⟨B9, 0, none⟩)), (7, .agg (lst C4.cells t0.l)), (8, .pointer (some ⟨B6, 2, none⟩)), (9, .agg #[.int .u8 u.c.r, .int .u8 u.c.g, .int .u8 u.c.b, .int .u8 u.c.a]), (10, .agg #[.int .i64 ((u.x.toNat % 8 : Nat) : Int), .int .i64 ((u.y.toNat % 8 : Nat) : Int)])]) [0, 0, 3, 0, 0, 24, 56, 120, 0, 256, 0, 1024, 4088, 8184, 16376, 16376, 32767, 98303] [[(7, none)], [(10, none)], [(79, some 0), (80, some 1)], [(7, none)], [(10, none)], [(82, some 3), (83, some 4)], [(84, some 5)], [(85, some 6)], [(9, none)], [(87, some 8)], [(11, none)], [(89, some 10)], [(86, some 7), (88, some 9), (90, some 11)], [(91, some 12)], [(78, some 13)], [(78, some 13)], [(81, some 2)], [(94, some 16), (92, some 14)]] 137216 mixed (by kernel_rfl) ?_
        refine G_step [0, 1, 2, 3, 4, 5, 6, 7, 8, 9, 10] 11 [] (by kernel_rfl) (allM (all_cons (q_run (.map (some B4)) rfl rfl (wv_n rfl) rfl (fun _ _ hρ _ => r_move (hρ _ _ rfl))) (all_cons (q_run (.int .i64 ((tix wd u.x u.y : Nat) : Int)) rfl rfl (wv_n rfl) rfl (fun _ _ hρ _ => r_move (hρ _ _ rfl))) (all_cons (q_run (.pointer (some ⟨B9, 0, none⟩)) rfl rfl (wv_n rfl) rfl (fun _ _ hρ hm => r_as (r_lookup (fk := natK) (fv := optV) (c := (tix wd u.x u.y)) (z := none) (l := ((own ++ [((tix wd u.x u.y), B9, t0)]).map OwE.ent)) keyN mp113 rfl (hρ _ _ rfl) (hρ _ _ rfl) (hm.at 1 rfl)) (congrArg optV (own_in hok2.one hin)))) (all_cons (q_run (.map (some B4)) rfl rfl (wv_n rfl) rfl (fun _ _ hρ _ => r_move (hρ _ _ rfl))) (all_cons (q_run (.int .i64 ((tix wd u.x u.y : Nat) : Int)) rfl rfl (wv_n rfl) rfl (fun _ _ hρ _ => r_move (hρ _ _ rfl))) (all_cons (q_run (.pointer (some ⟨B9, 0, none⟩)) rfl rfl (wv_n rfl) rfl (fun _ _ hρ hm => r_as (r_lookup (fk := natK) (fv := optV) (c := (tix wd u.x u.y)) (z := none) (l := ((own ++ [((tix wd u.x u.y), B9, t0)]).map OwE.ent)) keyN mp113 rfl (hρ _ _ rfl) (hρ _ _ rfl) (hm.at 1 rfl)) (congrArg optV (own_in hok2.one hin)))) (all_cons (q_run (.pointer (some ⟨B9, 0, none⟩)) rfl rfl (wv_n rfl) rfl (fun _ _ hρ _ => r_nilCheck (hρ _ _ rfl) rfl)) (all_cons (q_run (.agg (lst C4.cells t0.l)) rfl rfl (wv_n rfl) rfl (fun _ _ hρ hm => r_loadW ag39 sz39 (hρ _ _ rfl) (hm.tl 904 rfl hin) (tsz t0.h))) (all_cons (q_run (.pointer (some ⟨B6, 2, none⟩)) rfl rfl (wv_n rfl) rfl (fun _ _ hρ _ => r_fieldAddr fl51_2 sz37 (hρ _ _ rfl))) (all_cons (q_run (.agg #[.int .u8 u.c.r, .int .u8 u.c.g, .int .u8 u.c.b, .int .u8 u.c.a]) rfl rfl (wv_n rfl) rfl (fun _ _ hρ hm => r_loadA ag37 sz37 (hρ _ _ rfl) (hm.at 2 rfl) rfl rfl)) (all_cons (q_run (.agg #[.int .i64 ((u.x.toNat % 8 : Nat) : Int), .int .i64 ((u.y.toNat % 8 : Nat) : Int)]) rfl rfl (wv_n rfl) rfl (fun _ _ hρ hm => r_loadA ag47 sz47 (hρ _ _ rfl) (hm.at 3 rfl) rfl rfl)) all_nil)))))))))))) (allM (all_cons ?_ all_nil))
        refine LOb_new 6 (.cells #[.int .i64 ((u.x.toNat % 8 : Nat) : Int), .int .i64 ((u.y.toNat % 8 : Nat) : Int)] 47) (fun B => .slice (some ⟨B, 0, none⟩) 1 1) (fun B => []) rfl (wv_n rfl) rfl rfl (fun _ _ hρ _ => r_buildSlice (vs := [(0, .agg #[.int .i64 ((u.x.toNat % 8 : Nat) : Int), .int .i64 ((u.y.toNat % 8 : Nat) : Int)])]) (by kernel_rfl) (cons2 (pair2 (hρ _ _ rfl)) rfl)) (fun B => by kernel_rfl) ?_
        intro B10
        refine G_step [0, 1, 2, 3, 4, 5, 6, 7, 8, 9] 12 [] (by kernel_rfl) (allM (all_cons (q_run (.map (some B4)) rfl rfl (wv_n rfl) rfl (fun _ _ hρ _ => r_move (hρ _ _ rfl))) (all_cons (q_run (.int .i64 ((tix wd u.x u.y : Nat) : Int)) rfl rfl (wv_n rfl) rfl (fun _ _ hρ _ => r_move (hρ _ _ rfl))) (all_cons (q_run (.pointer (some ⟨B9, 0, none⟩)) rfl rfl (wv_n rfl) rfl (fun _ _ hρ hm => r_as (r_lookup (fk := natK) (fv := optV) (c := (tix wd u.x u.y)) (z := none) (l := ((own ++ [((tix wd u.x u.y), B9, t0)]).map OwE.ent)) keyN mp113 rfl (hρ _ _ rfl) (hρ _ _ rfl) (hm.at 1 rfl)) (congrArg optV (own_in hok2.one hin)))) (all_cons (q_run (.map (some B4)) rfl rfl (wv_n rfl) rfl (fun _ _ hρ _ => r_move (hρ _ _ rfl))) (all_cons (q_run (.int .i64 ((tix wd u.x u.y : Nat) : Int)) rfl rfl (wv_n rfl) rfl (fun _ _ hρ _ => r_move (hρ _ _ rfl))) (all_cons (q_run (.pointer (some ⟨B9, 0, none⟩)) rfl rfl (wv_n rfl) rfl (fun _ _ hρ hm => r_as (r_lookup (fk := natK) (fv := optV) (c := (tix wd u.x u.y)) (z := none) (l := ((own ++ [((tix wd u.x u.y), B9, t0)]).map OwE.ent)) keyN mp113 rfl (hρ _ _ rfl) (hρ _ _ rfl) (hm.at 1 rfl)) (congrArg optV (own_in hok2.one hin)))) (all_cons (q_run (.pointer (some ⟨B9, 0, none⟩)) rfl rfl (wv_n rfl) rfl (fun _ _ hρ _ => r_nilCheck (hρ _ _ rfl) rfl)) (all_cons (q_run (.agg (lst C4.cells t0.l)) rfl rfl (wv_n rfl) rfl (fun _ _ hρ hm => r_loadW ag39 sz39 (hρ _ _ rfl) (hm.tl 904 rfl hin) (tsz t0.h))) (all_cons (q_run (.pointer (some ⟨B6, 2, none⟩)) rfl rfl (wv_n rfl) rfl (fun _ _ hρ _ => r_fieldAddr fl51_2 sz37 (hρ _ _ rfl))) (all_cons (q_run (.agg #[.int .u8 u.c.r, .int .u8 u.c.g, .int .u8 u.c.b, .int .u8 u.c.a]) rfl rfl (wv_n rfl) rfl (fun _ _ hρ hm => r_loadA ag37 sz37 (hρ _ _ rfl) (hm.at 2 rfl) rfl rfl)) all_nil))))))))))) (allM (all_cons ?_ all_nil))
        refine LOb_call (.tuple #[.agg (lst C4.cells (t0.set (tpos u.x u.y) u.c).l), .int .i64 0]) [(13, .tuple #[.agg (lst C4.cells (t0.set (tpos u.x u.y) u.c).l), .int .i64 0]), (14, .agg (lst C4.cells (t0.set (tpos u.x u.y) u.c).l)), (15, .int .i64 0), (16, .pointer (some ⟨B9, 0, none⟩))] rfl (wv_n rfl) rfl rfl (fun _ _ hρ _ => r_call (args := [.agg (lst C4.cells t0.l), .agg #[.int .u8 u.c.r, .int .u8 u.c.g, .int .u8 u.c.b, .int .u8 u.c.a], .slice (some ⟨B10, 0, none⟩) 1 1]) (enters_of Try.func67 (by kernel_rfl) rfl) (hρ _ _ rfl) ((cons2 (hρ _ _ rfl) (cons2 (hρ _ _ rfl) (cons2 (hρ _ _ rfl) rfl)))) rfl) (fun w hm => (with_c t0.l u.c [⟨((u.x.toNat % 8 : Nat) : Int), ((u.y.toNat % 8 : Nat) : Int)⟩] (some ⟨B10, 0, none⟩) 1 w t0.h ⟨by simp, (fun e => by cases e), .inr ⟨_, 0, _, _, _, rfl, (hm.at 6 rfl), row_of_take (fun _ => rfl) rfl⟩⟩ (by decide)).mono fun _ _ h => ⟨h.1.trans (by rw [with_one (by omega) (by omega)]; rfl), h.2⟩) (by kernel_rfl) ?_
        refine G_step [0, 1, 2, 13, 14, 15, 16] 17 [] (by kernel_rfl) (allM (all_cons (q_run (.map (some B4)) rfl rfl (wv_n rfl) rfl (fun _ _ hρ _ => r_move (hρ _ _ rfl))) (all_cons (q_run (.int .i64 ((tix wd u.x u.y : Nat) : Int)) rfl rfl (wv_n rfl) rfl (fun _ _ hρ _ => r_move (hρ _ _ rfl))) (all_cons (q_run (.pointer (some ⟨B9, 0, none⟩)) rfl rfl (wv_n rfl) rfl (fun _ _ hρ hm => r_as (r_lookup (fk := natK) (fv := optV) (c := (tix wd u.x u.y)) (z := none) (l := ((own ++ [((tix wd u.x u.y), B9, t0)]).map OwE.ent)) keyN mp113 rfl (hρ _ _ rfl) (hρ _ _ rfl) (hm.at 1 rfl)) (congrArg optV (own_in hok2.one hin)))) (all_cons (q_run (.tuple #[.agg (lst C4.cells (t0.set (tpos u.x u.y) u.c).l), .int .i64 0]) rfl rfl (wv_n rfl) rfl (fun _ _ hρ _ => r_move (hρ _ _ rfl))) (all_cons (q_run (.agg (lst C4.cells (t0.set (tpos u.x u.y) u.c).l)) rfl rfl (wv_n rfl) rfl (fun _ _ hρ _ => r_extract (hρ _ _ rfl) rfl)) (all_cons (q_run (.int .i64 0) rfl rfl (wv_n rfl) rfl (fun _ _ hρ _ => r_extract (hρ _ _ rfl) rfl)) (all_cons (q_run (.pointer (some ⟨B9, 0, none⟩)) rfl rfl (wv_n rfl) rfl (fun _ _ hρ _ => r_nilCheck (hρ _ _ rfl) rfl)) all_nil)))))))) (allM (all_cons ?_ all_nil))
        refine LOb_opS _ [] rfl (wv_n rfl) rfl rfl (fun _ _ hρ hm => o_storeTl (t := t0) (t1 := (t0.set (tpos u.x u.y) u.c)) 904 rfl hin hok2.one (hρ _ _ rfl) (hρ _ _ rfl) sz39 hm) (by kernel_rfl) ?_
        refine G_lastQ [15] [(0, .pointer (some ⟨p, 0, none⟩)), (4, .pointer none), (5, .pointer (some ⟨B2, 0, none⟩)), (6, .func (.func 66) #[.agg #[.int .i64 ((wd : Nat) : Int), .int .i64 ((hg : Nat) : Int)]] #[]), (7, .map (some B4)), (45, .slice (some ⟨b5, of5, none⟩) ds.length capd), (46, .int .i64 ((ds.length : Nat) : Int)), (47, .int .i64 ((k : Nat) : Int)), (48, .bool (decide (((k : Nat) : Int) < ((ds.length : Nat) : Int)))), (49, .pointer (some ⟨b5, of5 + k * 6, none⟩)), (50, .agg #[.int .i64 u.x, .int .i64 u.y, .int .u8 u.c.r, .int .u8 u.c.g, .int .u8 u.c.b, .int .u8 u.c.a]), (9, .pointer (some ⟨B6, 0, none⟩)), (52, .func (.func 66) #[.agg #[.int .i64 ((wd : Nat) : Int), .int .i64 ((hg : Nat) : Int)]] #[]), (53, .pointer (some ⟨B6, 0, none⟩)), (54, .int .i64 u.x), (55, .pointer (some ⟨B6, 1, none⟩)), (56, .int .i64 u.y), (57, .tuple #[.int .i64 ((tix wd u.x u.y : Nat) : Int), .agg #[.int .i64 ((u.x.toNat % 8 : Nat) : Int), .int .i64 ((u.y.toNat % 8 : Nat) : Int)], .bool true]), (51, .tuple #[.int .i64 ((tix wd u.x u.y : Nat) : Int), .agg #[.int .i64 ((u.x.toNat % 8 : Nat) : Int), .int .i64 ((u.y.toNat % 8 : Nat) : Int)], .bool true]), (58, .int .i64 ((tix wd u.x u.y : Nat) : Int)), (59, .agg #[.int .i64 ((u.x.toNat % 8 : Nat) : Int), .int .i64 ((u.y.toNat % 8 : Nat) : Int)]), (60, .bool true), (11, .pointer (some ⟨B7, 0, none⟩)), (10, .int .i64 ((tix wd u.x u.y : Nat) : Int)), (12, .bool true), (61, .bool true), (62, .bool false), (63, .map (some B4)), (64, .int .i64 ((tix wd u.x u.y : Nat) : Int)), (65, .pointer none), (66, .bool true), (67, .pointer (some ⟨p, 0, none⟩)), (68, .pointer (some ⟨p, 0, none⟩)), (69, .pointer (some ⟨p, 2, none⟩)), (70, .slice (some ⟨b, of, none⟩) ps.length cap), (71, .int .i64 ((tix wd u.x u.y : Nat) : Int)), (72, .pointer (some ⟨b, of + (tix wd u.x u.y) * 1, none⟩)), (73, .pointer (some ⟨q0, 0, none⟩)), (74, .pointer (some ⟨q0, 0, none⟩)), (75, .agg (lst C4.cells t0.l)), (13, .pointer (some ⟨B9, 0, none⟩)), (76, .map (some B4)), (77, .int .i64 ((tix wd u.x u.y : Nat) : Int)), (79, .map (some B4)), (80, .int .i64 ((tix wd u.x u.y : Nat) : Int)), (81, .pointer (some ⟨B9, 0, none⟩)), (82, .map (some B4)), (83, .int .i64 ((tix wd u.x u.y : Nat) : Int)), (84, .pointer (some ⟨B9, 0, none⟩)), (85, .pointer (some ⟨B9, 0, none⟩)), (86, .agg (lst C4.cells t0.l)), (87, .pointer (some ⟨B6, 2, none⟩)), (88, .agg #[.int .u8 u.c.r, .int .u8 u.c.g, .int .u8 u.c.b, .int .u8 u.c.a]), (89, .agg #[.int .i64 ((u.x.toNat % 8 : Nat) : Int), .int .i64 ((u.y.toNat % 8 : Nat) : Int)]), (90, .slice (some ⟨B10, 0, none⟩) 1 1), (91, .tuple #[.agg (lst C4.cells (t0.set (tpos u.x u.y) u.c).l), .int .i64 0]), (78, .tuple #[.agg (lst C4.cells (t0.set (tpos u.x u.y) u.c).l), .int .i64 0]), (92, .agg (lst C4.cells (t0.set (tpos u.x u.y) u.c).l)), (94, .pointer (some ⟨B9, 0, none⟩))] (by kernel_rfl) (allM (all_cons (q_run (.int .i64 0) rfl rfl (wv_n rfl) rfl (fun _ _ hρ _ => r_extract (hρ _ _ rfl) rfl)) all_nil)) (end_old rfl rfl (end_old rfl rfl (end_old rfl rfl (end_old rfl rfl (end_old rfl rfl (end_old rfl rfl (end_old rfl rfl (end_old rfl rfl (end_old rfl rfl (end_old rfl rfl (end_old rfl rfl (end_old rfl rfl (end_old rfl rfl (end_old rfl rfl (end_old rfl rfl (end_old rfl rfl (end_old rfl rfl (end_old rfl rfl (end_old rfl rfl (end_old rfl rfl (end_old rfl rfl (end_old rfl rfl (end_old rfl rfl (end_old rfl rfl (end_old rfl rfl (end_old rfl rfl (end_old rfl rfl (end_old rfl rfl (end_old rfl rfl (end_old rfl rfl (end_old rfl rfl (end_old rfl rfl (end_old rfl rfl (end_old rfl rfl (end_old rfl rfl (end_old rfl rfl (end_old rfl rfl (end_old rfl rfl (end_old rfl rfl (end_old rfl rfl (end_old rfl rfl (end_old rfl rfl (end_old rfl rfl (end_new 0 rfl rfl (end_new 1 rfl rfl (end_new 2 rfl rfl (end_new 3 rfl rfl (end_new 4 rfl rfl (end_new 5 rfl rfl (end_new 6 rfl rfl (end_new 7 rfl rfl (end_new 8 rfl rfl (end_new 9 rfl rfl (end_new 10 rfl rfl (end_new 11 rfl rfl (end_new 12 rfl rfl (end_new 13 rfl rfl (end_new 14 rfl rfl (end_new 16 rfl rfl end_nil))))))))))))))))))))))))))))))))))))))))))))))))))))))))))) ?_
        refine p_blk_n ?_
        refine p_seq ?_
        refine T_region ?_
        refine TL_q (.int .i64 ((k + 1 : Nat) : Int)) (fun _ _ hρ _ => r_as (r_add (hρ _ _ rfl) (hρ _ _ rfl)) (int_as ((wrap64 (by omega) (by omega)).trans (by omega)))) rfl rfl rfl (w_n rfl) ?_
        refine TL_q (.int .i64 ((k + 1 : Nat) : Int)) (fun _ _ hρ _ => r_move (hρ _ _ rfl)) rfl rfl rfl (w_n rfl) ?_
        refine TL_nil ?_
        exact p_at (k + 1, updO (own ++ [(tix wd u.x u.y, B9, t0)]) (tix wd u.x u.y) (t0.set (tpos u.x u.y) u.c)) ⟨⟨by omega, by rw [putDs_step hu]; exact own_step hok2 hon (by rw [hlt, hlen]) hin⟩, by dsimp only; omega⟩ (sub_cons rfl (sub_cons rfl (sub_cons rfl (sub_cons rfl (sub_cons rfl (sub_cons rfl (sub_cons rfl (sub_cons rfl sub_nil)))))))) (sub_cons rfl (sub_cons rfl (sub_cons rfl (sub_cons (by rw [upd_ent]; rfl) sub_nil))))
    · skip
      refine T_seq (T_region ?_)
      refine TL_q (.func (.func 66) #[.agg #[.int .i64 ((wd : Nat) : Int), .int .i64 ((hg : Nat) : Int)]] #[]) (fun _ _ hρ _ => r_move (hρ _ _ rfl)) rfl rfl rfl (w_n rfl) ?_
      refine TL_q (.pointer (some ⟨B6, 0, none⟩)) (fun _ _ hρ _ => r_fieldAddr fl51_0 sz3 (hρ _ _ rfl)) rfl rfl rfl (w_n rfl) ?_
      refine TL_q (.int .i64 u.x) (fun _ _ hρ hm => r_load ag3 (hρ _ _ rfl) (hm.at 2 rfl) rfl) rfl rfl rfl (w_n rfl) ?_
      refine TL_q (.pointer (some ⟨B6, 1, none⟩)) (fun _ _ hρ _ => r_fieldAddr fl51_1 sz3 (hρ _ _ rfl)) rfl rfl rfl (w_n rfl) ?_
      refine TL_q (.int .i64 u.y) (fun _ _ hρ hm => r_load ag3 (hρ _ _ rfl) (hm.at 2 rfl) rfl) rfl rfl rfl (w_n rfl) ?_
      refine TL_call (.tuple #[.int .i64 0, .agg #[.int .i64 0, .int .i64 0], .bool false]) (fun _ _ hρ _ => r_call (args := [.int .i64 u.x, .int .i64 u.y]) (enters_of Try.func66 (by kernel_rfl) rfl) (hρ _ _ rfl) ((cons2 (hρ _ _ rfl) (cons2 (hρ _ _ rfl) rfl))) rfl) (fun w _ => place_out wd hg u.x u.y w hwd hhg hon) rfl rfl rfl (w_n rfl) ?_
      refine TL_q (.tuple #[.int .i64 0, .agg #[.int .i64 0, .int .i64 0], .bool false]) (fun _ _ hρ _ => r_move (hρ _ _ rfl)) rfl rfl rfl (w_n rfl) ?_
      refine TL_q (.int .i64 0) (fun _ _ hρ _ => r_extract (hρ _ _ rfl) rfl) rfl rfl rfl (w_n rfl) ?_
      refine TL_q (.agg #[.int .i64 0, .int .i64 0]) (fun _ _ hρ _ => r_extract (hρ _ _ rfl) rfl) rfl rfl rfl (w_n rfl) ?_
      refine TL_q (.bool false) (fun _ _ hρ _ => r_extract (hρ _ _ rfl) rfl) rfl rfl rfl (w_n rfl) ?_
      refine TL_new 7 (.cells #[.int .i64 0, .int .i64 0] 47) (fun B => .pointer (some ⟨B, 0, none⟩)) (fun _ _ _ _ => r_alloc (v := .agg #[.int .i64 0, .int .i64 0]) (by kernel_rfl) rfl) rfl rfl rfl (w_n rfl) ?_
      intro B11
      refine TL_q (.int .i64 0) (fun _ _ hρ _ => r_assign (hρ _ _ rfl)) rfl rfl rfl (w_n rfl) ?_
      refine TL_store 7 (.cells #[.int .i64 0, .int .i64 0] 47) rfl (fun _ _ hρ hm => r_store sz47 (hρ _ _ rfl) (hρ _ _ rfl) (hm.at 7 rfl) rfl rfl rfl rfl) rfl rfl (w_n rfl) ?_
      refine TL_q (.bool false) (fun _ _ hρ _ => r_assign (hρ _ _ rfl)) rfl rfl rfl (w_n rfl) ?_
      refine TL_seq ?_
      refine T_seq ?_
      refine T_seq (T_region ?_)
      refine TL_q (.bool false) (fun _ _ hρ _ => r_move (hρ _ _ rfl)) rfl rfl rfl (w_n rfl) ?_
      refine TL_q (.bool true) (fun _ _ hρ _ => r_not (b := false) (hρ _ _ rfl)) rfl rfl rfl (w_n rfl) ?_
      refine TL_seq ?_
      refine T_cond_t rfl ?_
      refine T_exit' ?_
      refine p_then_x ?_
      refine p_blk_x ?_
      refine p_seq ?_
      refine T_region ?_
      refine TL_q (.int .i64 ((k + 1 : Nat) : Int)) (fun _ _ hρ _ => r_as (r_add (hρ _ _ rfl) (hρ _ _ rfl)) (int_as ((wrap64 (by omega) (by omega)).trans (by omega)))) rfl rfl rfl (w_n rfl) ?_
      refine TL_q (.int .i64 ((k + 1 : Nat) : Int)) (fun _ _ hρ _ => r_move (hρ _ _ rfl)) rfl rfl rfl (w_n rfl) ?_
      refine TL_nil ?_
      exact p_at (k + 1, own) ⟨⟨by omega, by rw [putDs_step hu, putD_no hon]; exact hok⟩, by dsimp only; omega⟩ (sub_cons rfl (sub_cons rfl (sub_cons rfl (sub_cons rfl (sub_cons rfl (sub_cons rfl (sub_cons rfl (sub_cons rfl sub_nil)))))))) (sub_cons rfl (sub_cons rfl (sub_cons rfl (sub_cons rfl sub_nil))))
  · replace h1 := of_decide_eq_false h1
    refine T_exit' ?_
    refine p_then_x ?_
    refine p_then_x ?_
    refine p_blk_x ?_
    refine p_seq ?_
    refine T_seq ?_
    refine T_seq (T_region ?_)
    refine TL_q (.map (some B4)) (fun _ _ hρ _ => r_move (hρ _ _ rfl)) rfl rfl rfl (w_n rfl) ?_
    refine TL_new 8 ((itO B4 (((own.map OwE.ent)).length) [])) (fun B => .pointer (some ⟨B, 0, none⟩)) (fun _ _ hρ hm => r_rangeMap (fk := natK) (fv := optV) (l := (own.map OwE.ent)) mp113 (hρ _ _ rfl) (hm.at 1 rfl)) rfl rfl rfl (w_n rfl) ?_
    intro B12
    refine TL_seq ?_
    refine T_block ?_
    refine T_loop (ι := List Nat × List Nat) (fun (z : List Nat × List Nat) => match z with | (seen, rs) => RowOk ts own ps seen rs) (fun (z : List Nat × List Nat) => match z with | (seen, rs) => [(0, .pointer (some ⟨p, 0, none⟩)), (4, .pointer none), (5, .pointer (some ⟨B2, 0, none⟩)), (97, .pointer (some ⟨B12, 0, none⟩))]) (fun (z : List Nat × List Nat) => match z with | (seen, rs) => [(902, .blk B2 (.cells #[.int .i64 ((wd : Nat) : Int), .int .i64 ((hg : Nat) : Int), .slice (some ⟨B1, 0, none⟩) ps.length ps.length] 111)), (904, .tls OwE.bt own), (1, .blk B4 ((mapO natK optV (own.map OwE.ent)))), (8, .blk B12 ((itO B4 ((own.map OwE.ent).length) seen))), (901, .row (.slice (some ⟨B1, 0, none⟩) ps.length ps.length) 106 1 ps.length (rs.flatMap ptrc))]) (fun (z : List Nat × List Nat) => match z with | (seen, rs) => own.length - seen.length) ([], ps) (row_zero _ _ _) (sub_cons rfl (sub_cons rfl (sub_cons rfl (sub_cons rfl sub_nil)))) (sub_cons rfl (sub_cons rfl (sub_cons rfl (sub_cons rfl (sub_cons rfl sub_nil))))) ?_
    rintro ⟨seen, rs⟩ hp
    have hrk := hp
    show T _ _ _ [(0, .pointer (some ⟨p, 0, none⟩)), (4, .pointer none), (5, .pointer (some ⟨B2, 0, none⟩)), (97, .pointer (some ⟨B12, 0, none⟩))] [(902, .blk B2 (.cells #[.int .i64 ((wd : Nat) : Int), .int .i64 ((hg : Nat) : Int), .slice (some ⟨B1, 0, none⟩) ps.length ps.length] 111)), (904, .tls OwE.bt own), (1, .blk B4 ((mapO natK optV (own.map OwE.ent)))), (8, .blk B12 ((itO B4 ((own.map OwE.ent).length) seen))), (901, .row (.slice (some ⟨B1, 0, none⟩) ps.length ps.length) 106 1 ps.length (rs.flatMap ptrc))]
    refine T_seq (T_region ?_)
    refine TL_next (fk := natK) (fv := optV) (l := (own.map OwE.ent)) (seen := seen) 8 1 rfl rfl rfl rfl (w_n rfl) ?_ ?_
    · intro hall
      refine TL_q (.bool false) (fun _ _ hρ _ => r_extract (hρ _ _ rfl) rfl) rfl rfl rfl (w_n rfl) ?_
      refine TL_seq ?_
      refine T_seq ?_
      refine T_cond_f rfl ?_
      refine T_exit' ?_
      refine p_then_x ?_
      refine p_then_x ?_
      refine p_blk_x ?_
      refine p_seq ?_
      refine T_seq (T_region ?_)
      refine TL_q (.pointer (some ⟨B2, 0, none⟩)) (fun _ _ hρ _ => r_move (hρ _ _ rfl)) rfl rfl rfl (w_n rfl) ?_
      refine TL_q (.pointer (some ⟨B2, 0, none⟩)) (fun _ _ hρ _ => r_assign (hρ _ _ rfl)) rfl rfl rfl (w_n rfl) ?_
      refine TL_seq ?_
      refine T_ret' ?_
      refine ret_of rfl (.pointer (some ⟨B2, 0, none⟩)) (fun tmps w hk hm => res1 rfl (res_tmp (hk 4 _ rfl))) (fun w hm => ?_)
      have hk : k = ds.length := by omega
      subst hk
      rw [List.take_length] at hok
      have hall2 : ∀ j, j < own.length → j ∈ seen := fun j hj => hall j (by rw [List.length_map]; exact hj)
      have hdone := fun {i q : Nat} (hq : ps[i]? = some q) => row_done hrk hok hall2 hlt hq
      have hrow := hm.row 901 rfl
      have hnew := fun (e : OwE) (he : e ∈ own) => ((hm.own 904 _ rfl).2.1 e.2.1 ⟨e, he, rfl⟩).1
      dsimp only at hnew
      have hps : ∀ {i r : Nat}, rs[i]? = some r → ∃ q, ps[i]? = some q := fun {i r} hr => ⟨_, List.getElem?_eq_getElem (by rw [← hrk.len]; exact (List.getElem?_eq_some_iff.1 hr).1)⟩
      refine ⟨⟨B2, some ⟨B1, 0, none⟩, ps.length, rs, wd, hg, putDs wd hg ts ds⟩, rfl, ⟨hm.ext, ⟨?_, ?_, ?_, ?_, ?_, ?_, hwd, hhg⟩, ?_⟩, rfl, rfl, rfl, ?_⟩
      · show Go.Proofs.Ytbiapeaghbndoaa.hp _ _ = some (Obj.cells #[.int .i64 (wd : Int), .int .i64 (hg : Int), .slice _ rs.length ps.length] _); rw [hrk.len]; exact hm.at 902 rfl
      · exact SliceAt.own ptrc_len hrow hrk.len.symm rfl
      · show ps.length ≤ Go.maxLen; unfold Go.maxLen; omega
      · intro i r t hr ht
        obtain ⟨q, hq⟩ := hps hr
        obtain ⟨r', t', t0, h1, h2, h3, h4⟩ := hdone hq
        rw [h1] at hr; cases hr
        rw [h2] at ht; cases ht
        rcases h4 with ⟨rfl, rfl⟩ | ⟨_, h5⟩
        · exact hm.old (htl _ _ _ hq h3)
        · exact hm.tl 904 rfl h5
      · show rs.length = wd * hg; rw [hrk.len, hlen]
      · show (putDs wd hg ts ds).length = rs.length; rw [putDs_len, hrk.len, hlt]
      · rintro b (rfl | ⟨x, hx, rfl⟩ | hb)
        · exact .inl (hm.own 902 _ rfl).1
        · cases hx; exact .inl (Res.low (hm.own 901 _ rfl) (own_foot hrow (by omega))).1
        · obtain ⟨i, hi⟩ := List.getElem?_of_mem hb
          obtain ⟨q, hq⟩ := hps hi
          obtain ⟨r', t', t0, h1, h2, h3, h4⟩ := hdone hq
          rw [h1] at hi; cases hi
          rcases h4 with ⟨_, rfl⟩ | ⟨_, h5⟩
          · exact .inr ⟨_, List.mem_singleton.2 rfl, .inr (.inr (List.mem_of_getElem? hq))⟩
          · exact .inl (hnew _ h5)
      · intro i q hq
        obtain ⟨r', t', t0, h1, h2, h3, h4⟩ := hdone hq
        refine ⟨r', h1, ?_, ?_⟩
        · show r' = q ↔ ts[i]? = (putDs wd hg ts ds)[i]?
          rw [h2, h3]
          rcases h4 with ⟨rfl, rfl⟩ | ⟨h5, h6⟩
          · exact ⟨fun _ => rfl, fun _ => rfl⟩
          · refine ⟨fun e => ?_, fun e => absurd (Option.some.inj e).symm h5⟩
            subst e
            have h7 := hnew _ h6; dsimp only at h7
            have h8 := hp_lt (htl _ _ _ hq h3)
            omega
        · rcases h4 with ⟨_, rfl⟩ | ⟨_, h6⟩
          · exact .inl rfl
          · exact .inr (hnew _ h6)
    · intro j kx vx hj hnj
      have hj2 := hj
      rw [List.getElem?_map] at hj2
      obtain ⟨⟨i1, q, t⟩, hjo, hje⟩ := Option.map_eq_some_iff.1 hj2
      cases hje
      have hjm := List.mem_of_getElem? hjo
      have hjl := (List.getElem?_eq_some_iff.1 hjo).1
      have hi1 : i1 < ps.length := by rw [← hlt]; exact hok.lt _ hjm
      refine TL_q (.bool true) (fun _ _ hρ _ => r_extract (hρ _ _ rfl) rfl) rfl rfl rfl (w_n rfl) ?_
      refine TL_seq ?_
      refine T_seq ?_
      refine T_cond_t rfl ?_
      refine T_skip' ?_
      refine p_seq ?_
      refine T_block ?_
      refine T_seq (T_region ?_)
      refine TL_q (.tuple #[.int .i64 ((i1 : Nat) : Int), .pointer (some ⟨q, 0, none⟩)]) (fun _ _ hρ hm => r_entry (fk := natK) (fv := optV) (k := i1) (u := (some q)) (j := j) (l := (own.map OwE.ent)) (hρ _ _ rfl) (hm.at 8 rfl) (hm.at 1 rfl) hj) rfl rfl rfl (w_n rfl) ?_
      refine TL_q (.int .i64 ((i1 : Nat) : Int)) (fun _ _ hρ _ => r_extract (hρ _ _ rfl) rfl) rfl rfl rfl (w_n rfl) ?_
      refine TL_q (.pointer (some ⟨q, 0, none⟩)) (fun _ _ hρ _ => r_extract (hρ _ _ rfl) rfl) rfl rfl rfl (w_n rfl) ?_
      refine TL_q (.int .i64 ((i1 : Nat) : Int)) (fun _ _ hρ _ => r_assign (hρ _ _ rfl)) rfl rfl rfl (w_n rfl) ?_
      refine TL_q (.pointer (some ⟨q, 0, none⟩)) (fun _ _ hρ _ => r_assign (hρ _ _ rfl)) rfl rfl rfl (w_n rfl) ?_
      refine TL_seq ?_
      obtain ⟨q0, hqq0⟩ : ∃ x, ps[i1]? = some x := ⟨_, List.getElem?_eq_getElem (by omega)⟩
      obtain ⟨t0, hqt0⟩ : ∃ x, ts[i1]? = some x := ⟨_, List.getElem?_eq_getElem (by omega)⟩
      have hbq0 := htl _ _ _ hqq0 hqt0
      refine T_seq (T_draw (V := [(0, .pointer (some ⟨q, 0, none⟩)), (1, .pointer (some ⟨q, 0, none⟩)), (2, .agg (lst C4.cells t.l)), (3, .pointer (some ⟨p, 0, none⟩)), (4, .pointer (some ⟨p, 0, none⟩)), (5, .pointer (some ⟨p, 2, none⟩)), (6, .slice (some ⟨b, of, none⟩) ps.length cap), (7, .int .i64 ((i1 : Nat) : Int)), (8, .pointer (some ⟨b, of + i1 * 1, none⟩)), (9, .pointer (some ⟨q0, 0, none⟩)), (10, .pointer (some ⟨q0, 0, none⟩)), (11, .agg (lst C4.cells t0.l)), (12, .bool (!decide (t = t0)))]) [0, 1, 3, 0, 8, 24, 56, 0, 248, 504, 1016, 2040, 4095] [[(15, none)], [(103, some 0)], [(104, some 1)], [(0, none)], [(106, some 3)], [(107, some 4)], [(108, some 5)], [(14, none)], [(109, some 6), (110, some 7)], [(111, some 8)], [(112, some 9)], [(113, some 10)], [(105, some 2), (114, some 11)]] 0 mixed (by kernel_rfl) ?_)
      refine G_last [0, 1, 2, 3, 4, 5, 6, 7, 8, 9, 10, 11, 12] [(0, .pointer (some ⟨p, 0, none⟩)), (4, .pointer none), (5, .pointer (some ⟨B2, 0, none⟩)), (97, .pointer (some ⟨B12, 0, none⟩)), (98, .tuple #[.bool true, .int .i64 ((i1 : Nat) : Int), .pointer (some ⟨q, 0, none⟩)]), (99, .bool true), (100, .tuple #[.int .i64 ((i1 : Nat) : Int), .pointer (some ⟨q, 0, none⟩)]), (101, .int .i64 ((i1 : Nat) : Int)), (102, .pointer (some ⟨q, 0, none⟩)), (14, .int .i64 ((i1 : Nat) : Int)), (15, .pointer (some ⟨q, 0, none⟩)), (103, .pointer (some ⟨q, 0, none⟩)), (104, .pointer (some ⟨q, 0, none⟩)), (105, .agg (lst C4.cells t.l)), (106, .pointer (some ⟨p, 0, none⟩)), (107, .pointer (some ⟨p, 0, none⟩)), (108, .pointer (some ⟨p, 2, none⟩)), (109, .slice (some ⟨b, of, none⟩) ps.length cap), (110, .int .i64 ((i1 : Nat) : Int)), (111, .pointer (some ⟨b, of + i1 * 1, none⟩)), (112, .pointer (some ⟨q0, 0, none⟩)), (113, .pointer (some ⟨q0, 0, none⟩)), (114, .agg (lst C4.cells t0.l)), (115, .bool (!decide (t = t0)))] (by kernel_rfl) (allM (all_cons (q_run (.pointer (some ⟨q, 0, none⟩)) rfl rfl (wv_n rfl) rfl (fun _ _ hρ _ => r_move (hρ _ _ rfl))) (all_cons (q_run (.pointer (some ⟨q, 0, none⟩)) rfl rfl (wv_n rfl) rfl (fun _ _ hρ _ => r_nilCheck (hρ _ _ rfl) rfl)) (all_cons (q_run (.agg (lst C4.cells t.l)) rfl rfl (wv_n rfl) rfl (fun _ _ hρ hm => r_loadW ag39 sz39 (hρ _ _ rfl) (hm.tl 904 rfl hjm) (tsz t.h))) (all_cons (q_run (.pointer (some ⟨p, 0, none⟩)) rfl rfl (wv_n rfl) rfl (fun _ _ hρ _ => r_move (hρ _ _ rfl))) (all_cons (q_run (.pointer (some ⟨p, 0, none⟩)) rfl rfl (wv_n rfl) rfl (fun _ _ hρ _ => r_nilCheck (hρ _ _ rfl) rfl)) (all_cons (q_run (.pointer (some ⟨p, 2, none⟩)) rfl rfl (wv_n rfl) rfl (fun _ _ hρ _ => r_fieldAddr fl111_1 sz104 (hρ _ _ rfl))) (all_cons (q_run (.slice (some ⟨b, of, none⟩) ps.length cap) rfl rfl (wv_n rfl) rfl (fun _ _ hρ hm => r_load ag104 (hρ _ _ rfl) (hm.old hblk) rfl)) (all_cons (q_run (.int .i64 ((i1 : Nat) : Int)) rfl rfl (wv_n rfl) rfl (fun _ _ hρ _ => r_move (hρ _ _ rfl))) (all_cons (q_run (.pointer (some ⟨b, of + i1 * 1, none⟩)) rfl rfl (wv_n rfl) rfl (fun _ _ hρ _ => r_indexAddrS (i := i1) sl104 sz106 (hρ _ _ rfl) (hρ _ _ rfl) (by omega))) (all_cons (q_run (.pointer (some ⟨q0, 0, none⟩)) rfl rfl (wv_n rfl) rfl (fun _ _ hρ hm => r_loadRow1 (f := ptrc) (u := q0) ag106 (hρ _ _ rfl) (hm.old hcr) hrr hqq0 rfl)) (all_cons (q_run (.pointer (some ⟨q0, 0, none⟩)) rfl rfl (wv_n rfl) rfl (fun _ _ hρ _ => r_nilCheck (hρ _ _ rfl) rfl)) (all_cons (q_run (.agg (lst C4.cells t0.l)) rfl rfl (wv_n rfl) rfl (fun _ _ hρ hm => r_loadW ag39 sz39 (hρ _ _ rfl) (hm.old hbq0) (tsz t0.h))) (all_cons (q_run (.bool (!decide (t = t0))) rfl rfl (wv_n rfl) rfl (fun _ w hρ _ => r_as (r_neqA (by kernel_rfl) (hρ _ _ rfl) (hρ _ _ rfl) (eq_t64 t t0 w)) (by rfl))) all_nil)))))))))))))) (end_old rfl rfl (end_old rfl rfl (end_old rfl rfl (end_old rfl rfl (end_old rfl rfl (end_old rfl rfl (end_old rfl rfl (end_old rfl rfl (end_old rfl rfl (end_old rfl rfl (end_old rfl rfl (end_new 0 rfl rfl (end_new 1 rfl rfl (end_new 2 rfl rfl (end_new 3 rfl rfl (end_new 4 rfl rfl (end_new 5 rfl rfl (end_new 6 rfl rfl (end_new 7 rfl rfl (end_new 8 rfl rfl (end_new 9 rfl rfl (end_new 10 rfl rfl (end_new 11 rfl rfl (end_new 12 rfl rfl end_nil)))))))))))))))))))))))) ?_
      refine T_cond rfl (fun h2 => ?_) (fun h2 => ?_)
      · replace h2 := of_decide_eq_false (bnot_t h2)
        refine T_region ?_
        refine TL_q (.pointer (some ⟨B2, 0, none⟩)) (fun _ _ hρ _ => r_move (hρ _ _ rfl)) rfl rfl rfl (w_n rfl) ?_
        refine TL_q (.pointer (some ⟨B2, 0, none⟩)) (fun _ _ hρ _ => r_nilCheck (hρ _ _ rfl) rfl) rfl rfl rfl (w_n rfl) ?_
        refine TL_q (.pointer (some ⟨B2, 2, none⟩)) (fun _ _ hρ _ => r_fieldAddr fl111_1 sz104 (hρ _ _ rfl)) rfl rfl rfl (w_n rfl) ?_
        refine TL_q (.slice (some ⟨B1, 0, none⟩) ps.length ps.length) (fun _ _ hρ hm => r_load ag104 (hρ _ _ rfl) (hm.at 902 rfl) rfl) rfl rfl rfl (w_n rfl) ?_
        refine TL_q (.int .i64 ((i1 : Nat) : Int)) (fun _ _ hρ _ => r_move (hρ _ _ rfl)) rfl rfl rfl (w_n rfl) ?_
        refine TL_q (.pointer (some ⟨q, 0, none⟩)) (fun _ _ hρ _ => r_move (hρ _ _ rfl)) rfl rfl rfl (w_n rfl) ?_
        refine TL_q (.pointer (some ⟨B1, 0 + i1 * 1, none⟩)) (fun _ _ hρ _ => r_indexAddrS (i := i1) sl104 sz106 (hρ _ _ rfl) (hρ _ _ rfl) (by omega)) rfl rfl rfl (w_n rfl) ?_
        refine TL_storeRow (f := ptrc) (l := rs) (u := q) 901 rfl hrk.len.symm rfl rfl sz106 ptrc_len (by rw [hrk.len]; exact hi1) rfl rfl (w_n rfl) ?_
        refine TL_nil ?_
        refine p_blk_n ?_
        exact p_at (seen ++ [j], rs.set i1 q) ⟨row_put hrk hok.one hnj hjo hqt0 h2 hi1, by have := row_lt hrk hnj hjl; dsimp only; rw [List.length_append, List.length_singleton]; omega⟩ (sub_cons rfl (sub_cons rfl (sub_cons rfl (sub_cons rfl sub_nil)))) (sub_cons rfl (sub_cons rfl (sub_cons rfl (sub_cons (by rfl) (sub_cons rfl sub_nil)))))
      · replace h2 := of_decide_eq_true (bnot_f h2)
        refine T_skip' ?_
        refine p_blk_n ?_
        exact p_at (seen ++ [j], rs) ⟨row_same hrk hok.one hnj hjo hqt0 h2, by have := row_lt hrk hnj hjl; dsimp only; rw [List.length_append, List.length_singleton]; omega⟩ (sub_cons rfl (sub_cons rfl (sub_cons rfl (sub_cons rfl sub_nil)))) (sub_cons rfl (sub_cons rfl (sub_cons rfl (sub_cons (by rfl) (sub_cons rfl sub_nil)))))
end Go.Proofs.Ytbiapeaghbndoaa
