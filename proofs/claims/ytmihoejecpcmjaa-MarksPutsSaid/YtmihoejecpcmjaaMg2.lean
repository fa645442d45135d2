/- Texts of this seat, merged: part 2. -/
import Derived.Test.YtmihoejecpcmjaaMg1
import Derived.Defers
import Derived.Laws.LoneSync
import Derived.Lib.AppendZerosOnto
import Derived.Lib.Overlaps
import Derived.Laws.Externs
/- canvas: With. Printed by a program of this seat's prover. -/
namespace Go.Proofs.Ytmihoejecpcmjaa
open Go Go.RowKit
set_option maxRecDepth 10000
theorem place_on (wd hg : Nat) (x y : Int) (w : World) (hwd : 1 ≤ wd ∧ wd ≤ 4) (hhg : 1 ≤ hg ∧ hg ≤ 4) (hon : onC wd hg x y = true) : Calls Try.prog 75 #[.agg #[.int .i64 (wd : Int), .int .i64 (hg : Int)], .int .i64 x, .int .i64 y] w fun e w' => e = .returned (.tuple #[.int .i64 ((tix wd x y : Nat) : Int), .agg #[.int .i64 ((x.toNat % 8 : Nat) : Int), .int .i64 ((y.toNat % 8 : Nat) : Int)], .bool true]) ∧ Below w.heap.size w w' := by
  obtain ⟨u, v, rfl, rfl, hu, hv⟩ := onC_nat hon
  exact place_in wd hg u v w hwd hhg hu hv

set_option maxHeartbeats 4000000 in
theorem with_canvas (c : Cv) (ds : List Dt) (ad : Option Addr) (capd : Nat) (w : World) (hc : CvAt w c) (hvd : SliceAt w ad capd 6 Dt.cells ds) (hcapd : capd ≤ Go.maxLen) : Calls Try.prog 58 #[.pointer (some ⟨c.p, 0, none⟩), .slice ad ds.length capd] w fun e w' => ∃ d : Cv, e = .returned (.pointer (some ⟨d.p, 0, none⟩)) ∧ CvNew w w' [c] d ∧ d.wd = c.wd ∧ d.hg = c.hg ∧ d.ts = putDs c.wd c.hg c.ts ds ∧ Shares w.heap.size c d := by
  obtain ⟨p, a, cap, ps, wd, hg, ts⟩ := c
  have hblk : hp w p = some (.cells #[.int .i64 (wd : Int), .int .i64 (hg : Int), .slice a ps.length cap] 85) := hc.blk
  have hrow : SliceAt w a cap 1 ptrc ps := hc.row
  have hcap : cap ≤ Go.maxLen := hc.capok
  unfold Go.maxLen at hcap
  have htl : ∀ (i q : Nat) (t : T64), ps[i]? = some q → ts[i]? = some t → hp w q = some (tilO t) := hc.tl
  have hlen : ps.length = wd * hg := hc.len
  have hlt : ts.length = ps.length := hc.len2
  have hwd : 1 ≤ wd ∧ wd ≤ 4 := hc.wd4
  have hhg : 1 ≤ hg ∧ hg ≤ 4 := hc.hg4
  have h16 := size4 hwd hhg
  have hrl := hrow.1
  obtain ⟨b, of, cs, TY, fz, ha, hcr, hrr⟩ := hrow.open (i := 0) (by omega)
  subst ha
  have hvl := hvd.1
  unfold Go.maxLen at hcapd
  refine calls_of_T (l := [.pointer (some ⟨p, 0, none⟩), .slice ad ds.length capd]) 124 Try.func58 rfl rfl rfl ?_
  show T _ _ _ [(0, .pointer (some ⟨p, 0, none⟩)), (1, .slice ad ds.length capd)] []
  refine T_seq (T_region ?_)
  refine TL_q (.pointer none) (fun _ _ hρ _ => r_assign (hρ _ _ rfl)) rfl rfl rfl (w_n rfl) ?_
  refine TL_seq ?_
  refine T_seq ?_
  refine T_seq (T_region ?_)
  refine TL_q (.pointer (some ⟨p, 0, none⟩)) (fun _ _ hρ _ => r_move (hρ _ _ rfl)) rfl rfl rfl (w_n rfl) ?_
  refine TL_q (.bool false) (fun _ _ hρ _ => r_as (r_eqlPn po34 (hρ _ _ rfl) (hρ _ _ rfl)) (by rfl)) rfl rfl rfl (w_n rfl) ?_
  refine TL_seq ?_
  refine T_cond_f rfl ?_
  refine T_skip' ?_
  refine p_seq ?_
  refine T_seq (T_draw (V := [(0, .pointer (some ⟨p, 0, none⟩)), (1, .pointer (some ⟨p, 0, none⟩)), (2, .pointer (some ⟨p, 0, none⟩)), (3, .agg #[.int .i64 ((wd : Nat) : Int), .int .i64 ((hg : Nat) : Int)]), (4, .pointer (some ⟨p, 0, none⟩)), (5, .pointer (some ⟨p, 0, none⟩)), (6, .pointer (some ⟨p, 2, none⟩)), (7, .slice (some ⟨b, of, none⟩) ps.length cap), (8, .int .i64 ((ps.length : Nat) : Int))]) [0, 1, 3, 7, 0, 16, 48, 112, 240, 496, 1023, 2047, 4095] [[(0, none)], [(18, some 0)], [(19, some 1)], [(20, some 2)], [(0, none)], [(22, some 4)], [(23, some 5)], [(24, some 6)], [(25, some 7)], [(26, some 8)], [(21, some 3), (27, some 9)], [(28, some 10)], [(29, some 11)]] 2560 mixed (by kernel_rfl) ?_)
  refine G_step [0, 1, 2, 3, 4, 5, 6, 7, 8] 9 [] (by kernel_rfl) (allM (all_cons (q_run (.pointer (some ⟨p, 0, none⟩)) rfl rfl (wv_n rfl) rfl (fun _ _ hρ _ => r_move (hρ _ _ rfl))) (all_cons (q_run (.pointer (some ⟨p, 0, none⟩)) rfl rfl (wv_n rfl) rfl (fun _ _ hρ _ => r_nilCheck (hρ _ _ rfl) rfl)) (all_cons (q_run (.pointer (some ⟨p, 0, none⟩)) rfl rfl (wv_n rfl) rfl (fun _ _ hρ _ => r_fieldAddr fl85_0 sz82 (hρ _ _ rfl))) (all_cons (q_run (.agg #[.int .i64 ((wd : Nat) : Int), .int .i64 ((hg : Nat) : Int)]) rfl rfl (wv_n rfl) rfl (fun _ _ hρ hm => r_loadA ag82 sz82 (hρ _ _ rfl) (hm.old hblk) rfl rfl)) (all_cons (q_run (.pointer (some ⟨p, 0, none⟩)) rfl rfl (wv_n rfl) rfl (fun _ _ hρ _ => r_move (hρ _ _ rfl))) (all_cons (q_run (.pointer (some ⟨p, 0, none⟩)) rfl rfl (wv_n rfl) rfl (fun _ _ hρ _ => r_nilCheck (hρ _ _ rfl) rfl)) (all_cons (q_run (.pointer (some ⟨p, 2, none⟩)) rfl rfl (wv_n rfl) rfl (fun _ _ hρ _ => r_fieldAddr fl85_1 sz83 (hρ _ _ rfl))) (all_cons (q_run (.slice (some ⟨b, of, none⟩) ps.length cap) rfl rfl (wv_n rfl) rfl (fun _ _ hρ hm => r_load ag83 (hρ _ _ rfl) (hm.old hblk) rfl)) (all_cons (q_run (.int .i64 ((ps.length : Nat) : Int)) rfl rfl (wv_n rfl) rfl (fun _ _ hρ _ => r_len sl83 (hρ _ _ rfl))) all_nil)))))))))) (allM (all_cons ?_ all_nil))
  refine LOb_op (ι := Nat) (fun B => .slice (some ⟨B, 0, none⟩) ps.length ps.length) _ (fun B => [(10, .agg #[.int .i64 ((wd : Nat) : Int), .int .i64 ((hg : Nat) : Int), .slice (some ⟨B, 0, none⟩) ps.length ps.length])]) rfl (wv_n rfl) rfl rfl (fun _ _ hρ hm => o_make (n := ps.length) (cap := ps.length) (z := .pointer none) (f := optc) (u := none) 901 rfl (hρ _ _ rfl) (hρ _ _ rfl) sl83 by87 sz87 rfl (by kernel_rfl) rfl optc_len (by omega) (by omega) (by omega) hm) (fun B => by kernel_rfl) ?_
  intro B1
  refine G_step [0, 1, 2, 3, 10] 11 [] (by kernel_rfl) (allM (all_cons (q_run (.pointer (some ⟨p, 0, none⟩)) rfl rfl (wv_n rfl) rfl (fun _ _ hρ _ => r_move (hρ _ _ rfl))) (all_cons (q_run (.pointer (some ⟨p, 0, none⟩)) rfl rfl (wv_n rfl) rfl (fun _ _ hρ _ => r_nilCheck (hρ _ _ rfl) rfl)) (all_cons (q_run (.pointer (some ⟨p, 0, none⟩)) rfl rfl (wv_n rfl) rfl (fun _ _ hρ _ => r_fieldAddr fl85_0 sz82 (hρ _ _ rfl))) (all_cons (q_run (.agg #[.int .i64 ((wd : Nat) : Int), .int .i64 ((hg : Nat) : Int)]) rfl rfl (wv_n rfl) rfl (fun _ _ hρ hm => r_loadA ag82 sz82 (hρ _ _ rfl) (hm.old hblk) rfl rfl)) (all_cons (q_run (.agg #[.int .i64 ((wd : Nat) : Int), .int .i64 ((hg : Nat) : Int), .slice (some ⟨B1, 0, none⟩) ps.length ps.length]) rfl rfl (wv_n rfl) rfl (fun _ _ hρ _ => r_build (vs := [(0, .agg #[.int .i64 ((wd : Nat) : Int), .int .i64 ((hg : Nat) : Int)]), (1, .slice (some ⟨B1, 0, none⟩) ps.length ps.length)]) (by kernel_rfl) (cons2 (pair2 (hρ _ _ rfl)) (cons2 (pair2 (hρ _ _ rfl)) rfl)))) all_nil)))))) (allM (all_cons ?_ all_nil))
  refine LOb_new 902 (.cells #[.int .i64 ((wd : Nat) : Int), .int .i64 ((hg : Nat) : Int), .slice (some ⟨B1, 0, none⟩) ps.length ps.length] 85) (fun B => .pointer (some ⟨B, 0, none⟩)) (fun B => [(12, .pointer (some ⟨B, 0, none⟩))]) rfl (wv_n rfl) rfl rfl (fun _ _ hρ _ => r_box (hρ _ _ rfl) rfl) (fun B => by kernel_rfl) ?_
  intro B2
  refine G_last [12] [(0, .pointer (some ⟨p, 0, none⟩)), (1, .slice ad ds.length capd), (4, .pointer none), (5, .pointer (some ⟨B2, 0, none⟩))] (by kernel_rfl) (allM (all_cons (q_run (.pointer (some ⟨B2, 0, none⟩)) rfl rfl (wv_n rfl) rfl (fun _ _ hρ _ => r_assign (hρ _ _ rfl))) all_nil)) (end_old rfl rfl (end_old rfl rfl (end_old rfl rfl (end_new 12 rfl rfl end_nil)))) ?_
  refine T_seq (T_draw (V := [(0, .pointer (some ⟨B2, 0, none⟩)), (1, .pointer (some ⟨B2, 0, none⟩)), (2, .pointer (some ⟨B2, 2, none⟩)), (3, .slice (some ⟨B1, 0, none⟩) ps.length ps.length), (4, .pointer (some ⟨p, 0, none⟩)), (5, .pointer (some ⟨p, 0, none⟩)), (6, .pointer (some ⟨p, 2, none⟩)), (7, .slice (some ⟨b, of, none⟩) ps.length cap)]) [0, 1, 3, 7, 0, 16, 48, 112, 255] [[(5, none)], [(30, some 0)], [(31, some 1)], [(32, some 2)], [(0, none)], [(34, some 4)], [(35, some 5)], [(36, some 6)], [(33, some 3), (37, some 7)]] 256 mixed (by kernel_rfl) ?_)
  refine G_step [0, 1, 2, 3, 4, 5, 6, 7] 8 [] (by kernel_rfl) (allM (all_cons (q_run (.pointer (some ⟨B2, 0, none⟩)) rfl rfl (wv_n rfl) rfl (fun _ _ hρ _ => r_move (hρ _ _ rfl))) (all_cons (q_run (.pointer (some ⟨B2, 0, none⟩)) rfl rfl (wv_n rfl) rfl (fun _ _ hρ _ => r_nilCheck (hρ _ _ rfl) rfl)) (all_cons (q_run (.pointer (some ⟨B2, 2, none⟩)) rfl rfl (wv_n rfl) rfl (fun _ _ hρ _ => r_fieldAddr fl85_1 sz83 (hρ _ _ rfl))) (all_cons (q_run (.slice (some ⟨B1, 0, none⟩) ps.length ps.length) rfl rfl (wv_n rfl) rfl (fun _ _ hρ hm => r_load ag83 (hρ _ _ rfl) (hm.at 902 rfl) rfl)) (all_cons (q_run (.pointer (some ⟨p, 0, none⟩)) rfl rfl (wv_n rfl) rfl (fun _ _ hρ _ => r_move (hρ _ _ rfl))) (all_cons (q_run (.pointer (some ⟨p, 0, none⟩)) rfl rfl (wv_n rfl) rfl (fun _ _ hρ _ => r_nilCheck (hρ _ _ rfl) rfl)) (all_cons (q_run (.pointer (some ⟨p, 2, none⟩)) rfl rfl (wv_n rfl) rfl (fun _ _ hρ _ => r_fieldAddr fl85_1 sz83 (hρ _ _ rfl))) (all_cons (q_run (.slice (some ⟨b, of, none⟩) ps.length cap) rfl rfl (wv_n rfl) rfl (fun _ _ hρ hm => r_load ag83 (hρ _ _ rfl) (hm.old hblk) rfl)) all_nil))))))))) (allM (all_cons ?_ all_nil))
  refine LOb_op1 (.int .i64 ((ps.length : Nat) : Int)) _ [] rfl (wv_n rfl) rfl rfl (fun _ _ hρ hm => o_copy (s := 1) (news := (ps.flatMap ptrc)) 901 rfl (hρ _ _ rfl) (hρ _ _ rfl) rfl sl83 sz87 (src_of ptrc_len (hrow.keep hm.ext)) ptrc_one1 hm) (by kernel_rfl) ?_
  refine G_last [] [(0, .pointer (some ⟨p, 0, none⟩)), (1, .slice ad ds.length capd), (4, .pointer none), (5, .pointer (some ⟨B2, 0, none⟩))] (by kernel_rfl) (allM all_nil) (end_old rfl rfl (end_old rfl rfl (end_old rfl rfl (end_old rfl rfl end_nil)))) ?_
  refine T_seq (T_region ?_)
  refine TL_q (.pointer (some ⟨B2, 0, none⟩)) (fun _ _ hρ _ => r_move (hρ _ _ rfl)) rfl rfl rfl (w_n rfl) ?_
  refine TL_q (.pointer (some ⟨B2, 0, none⟩)) (fun _ _ hρ _ => r_nilCheck (hρ _ _ rfl) rfl) rfl rfl rfl (w_n rfl) ?_
  refine TL_q (.pointer (some ⟨B2, 0, none⟩)) (fun _ _ hρ _ => r_fieldAddr fl85_0 sz82 (hρ _ _ rfl)) rfl rfl rfl (w_n rfl) ?_
  refine TL_q (.agg #[.int .i64 ((wd : Nat) : Int), .int .i64 ((hg : Nat) : Int)]) (fun _ _ hρ hm => r_loadA ag82 sz82 (hρ _ _ rfl) (hm.at 902 rfl) rfl rfl) rfl rfl rfl (w_n rfl) ?_
  refine TL_q (.func (.func 75) #[.agg #[.int .i64 ((wd : Nat) : Int), .int .i64 ((hg : Nat) : Int)]] #[]) (fun _ _ hρ _ => r_makeFunc (map_arr (cons2 (hρ _ _ rfl) rfl)) (by simp)) rfl rfl rfl (w_n rfl) ?_
  refine TL_q (.func (.func 75) #[.agg #[.int .i64 ((wd : Nat) : Int), .int .i64 ((hg : Nat) : Int)]] #[]) (fun _ _ hρ _ => r_assign (hρ _ _ rfl)) rfl rfl rfl (w_n rfl) ?_
  refine TL_seq ?_
  refine T_seq (T_region ?_)
  refine TL_new 1 ((mapO natK optV [])) (fun B => .map (some B)) (fun _ _ _ _ => r_makeMap) rfl rfl rfl (w_n rfl) ?_
  intro B4
  refine TL_q (.map (some B4)) (fun _ _ hρ _ => r_assign (hρ _ _ rfl)) rfl rfl rfl (w_n rfl) ?_
  refine TL_seq ?_
  refine T_seq ?_
  refine T_seq (T_region ?_)
  refine TL_q (.slice ad ds.length capd) (fun _ _ hρ _ => r_move (hρ _ _ rfl)) rfl rfl rfl (w_n rfl) ?_
  refine TL_q (.int .i64 ((ds.length : Nat) : Int)) (fun _ _ hρ _ => r_len sl115 (hρ _ _ rfl)) rfl rfl rfl (w_n rfl) ?_
  refine TL_q (.int .i64 0) (fun _ _ hρ _ => r_move (hρ _ _ rfl)) rfl rfl rfl (w_n rfl) ?_
  refine TL_seq ?_
  refine T_block ?_
  refine T_mem (_ :: _) (fun _ hm => hm.tls0 904 OwE.bt) ?_
  refine T_loop (ι := Nat × List OwE) (fun (z : Nat × List OwE) => match z with | (k, own) => k ≤ ds.length ∧ OwnOk ts own (putDs wd hg ts (ds.take k))) (fun (z : Nat × List OwE) => match z with | (k, own) => [(0, .pointer (some ⟨p, 0, none⟩)), (4, .pointer none), (5, .pointer (some ⟨B2, 0, none⟩)), (6, .func (.func 75) #[.agg #[.int .i64 ((wd : Nat) : Int), .int .i64 ((hg : Nat) : Int)]] #[]), (7, .map (some B4)), (45, .slice ad ds.length capd), (46, .int .i64 ((ds.length : Nat) : Int)), (47, .int .i64 ((k : Nat) : Int))]) (fun (z : Nat × List OwE) => match z with | (k, own) => [(901, .row (.slice (some ⟨B1, 0, none⟩) ps.length ps.length) 87 1 ps.length (ps.flatMap ptrc)), (902, .blk B2 (.cells #[.int .i64 ((wd : Nat) : Int), .int .i64 ((hg : Nat) : Int), .slice (some ⟨B1, 0, none⟩) ps.length ps.length] 85)), (904, .tls OwE.bt own), (1, .blk B4 ((mapO natK optV (own.map OwE.ent))))]) (fun (z : Nat × List OwE) => match z with | (k, own) => ds.length - k) (0, []) ⟨Nat.zero_le _, ⟨List.Pairwise.nil, rfl, (fun e he => nomatch he), fun i t h => .inr ⟨(fun e he => nomatch he), h⟩⟩⟩ (sub_cons rfl (sub_cons rfl (sub_cons rfl (sub_cons rfl (sub_cons rfl (sub_cons rfl (sub_cons rfl (sub_cons rfl sub_nil)))))))) (sub_cons rfl (sub_cons rfl (sub_cons rfl (sub_cons rfl sub_nil)))) ?_
  rintro ⟨k, own⟩ hp
  obtain ⟨hk, hok⟩ := hp
  show T _ _ _ [(0, .pointer (some ⟨p, 0, none⟩)), (4, .pointer none), (5, .pointer (some ⟨B2, 0, none⟩)), (6, .func (.func 75) #[.agg #[.int .i64 ((wd : Nat) : Int), .int .i64 ((hg : Nat) : Int)]] #[]), (7, .map (some B4)), (45, .slice ad ds.length capd), (46, .int .i64 ((ds.length : Nat) : Int)), (47, .int .i64 ((k : Nat) : Int))] [(901, .row (.slice (some ⟨B1, 0, none⟩) ps.length ps.length) 87 1 ps.length (ps.flatMap ptrc)), (902, .blk B2 (.cells #[.int .i64 ((wd : Nat) : Int), .int .i64 ((hg : Nat) : Int), .slice (some ⟨B1, 0, none⟩) ps.length ps.length] 85)), (904, .tls OwE.bt own), (1, .blk B4 ((mapO natK optV (own.map OwE.ent))))]
  refine T_seq (T_region ?_)
  refine TL_q (.bool (decide (((k : Nat) : Int) < ((ds.length : Nat) : Int)))) (fun _ _ hρ _ => r_lss (hρ _ _ rfl) (hρ _ _ rfl)) rfl rfl rfl (w_n rfl) ?_
  refine TL_seq ?_
  refine T_seq ?_
  refine T_cond rfl (fun h1 => ?_) (fun h1 => ?_)
  · replace h1 := of_decide_eq_true h1
    refine T_skip' ?_
    refine p_seq ?_
    refine T_seq ?_
    refine T_block ?_
    obtain ⟨u, hu⟩ : ∃ x, ds[k]? = some x := ⟨_, List.getElem?_eq_getElem (by omega)⟩
    obtain ⟨b5, of5, cs5, T5, fz5, ha5, hq5, hr5⟩ := hvd.open (i := k) (by omega)
    subst ha5
    refine T_seq (T_region ?_)
    refine TL_q (.pointer (some ⟨b5, of5 + k * 6, none⟩)) (fun _ _ hρ _ => r_indexAddrS (i := k) sl115 sz97 (hρ _ _ rfl) (hρ _ _ rfl) (by omega)) rfl rfl rfl (w_n rfl) ?_
    refine TL_q (.agg #[.int .i64 u.x, .int .i64 u.y, .int .u8 u.c.r, .int .u8 u.c.g, .int .u8 u.c.b, .int .u8 u.c.a]) (fun _ _ hρ hm => r_loadRow (f := Dt.cells) (u := u) ag97 sz97 (hρ _ _ rfl) (hm.old hq5) hr5 hu) rfl rfl rfl (w_n rfl) ?_
    refine TL_new 2 (.cells #[.int .i64 0, .int .i64 0, .int .u8 0, .int .u8 0, .int .u8 0, .int .u8 0] 97) (fun B => .pointer (some ⟨B, 0, none⟩)) (fun _ _ _ _ => r_alloc (v := .agg #[.int .i64 0, .int .i64 0, .int .u8 0, .int .u8 0, .int .u8 0, .int .u8 0]) (by kernel_rfl) rfl) rfl rfl rfl (w_n rfl) ?_
    intro B6
    refine TL_store 2 (.cells #[.int .i64 u.x, .int .i64 u.y, .int .u8 u.c.r, .int .u8 u.c.g, .int .u8 u.c.b, .int .u8 u.c.a] 97) rfl (fun _ _ hρ hm => r_store sz97 (hρ _ _ rfl) (hρ _ _ rfl) (hm.at 2 rfl) rfl rfl rfl rfl) rfl rfl (w_n rfl) ?_
    refine TL_seq ?_
    by_cases hon : onC wd hg u.x u.y = true
    · skip
      refine T_seq (T_region ?_)
      refine TL_q (.func (.func 75) #[.agg #[.int .i64 ((wd : Nat) : Int), .int .i64 ((hg : Nat) : Int)]] #[]) (fun _ _ hρ _ => r_move (hρ _ _ rfl)) rfl rfl rfl (w_n rfl) ?_
      refine TL_q (.pointer (some ⟨B6, 0, none⟩)) (fun _ _ hρ _ => r_fieldAddr fl97_0 sz3 (hρ _ _ rfl)) rfl rfl rfl (w_n rfl) ?_
      refine TL_q (.int .i64 u.x) (fun _ _ hρ hm => r_load ag3 (hρ _ _ rfl) (hm.at 2 rfl) rfl) rfl rfl rfl (w_n rfl) ?_
      refine TL_q (.pointer (some ⟨B6, 1, none⟩)) (fun _ _ hρ _ => r_fieldAddr fl97_1 sz3 (hρ _ _ rfl)) rfl rfl rfl (w_n rfl) ?_
      refine TL_q (.int .i64 u.y) (fun _ _ hρ hm => r_load ag3 (hρ _ _ rfl) (hm.at 2 rfl) rfl) rfl rfl rfl (w_n rfl) ?_
      refine TL_call (.tuple #[.int .i64 ((tix wd u.x u.y : Nat) : Int), .agg #[.int .i64 ((u.x.toNat % 8 : Nat) : Int), .int .i64 ((u.y.toNat % 8 : Nat) : Int)], .bool true]) (fun _ _ hρ _ => r_call (args := [.int .i64 u.x, .int .i64 u.y]) (enters_of Try.func75 (by kernel_rfl) rfl) (hρ _ _ rfl) ((cons2 (hρ _ _ rfl) (cons2 (hρ _ _ rfl) rfl))) rfl) (fun w _ => place_on wd hg u.x u.y w hwd hhg hon) rfl rfl rfl (w_n rfl) ?_
      refine TL_q (.tuple #[.int .i64 ((tix wd u.x u.y : Nat) : Int), .agg #[.int .i64 ((u.x.toNat % 8 : Nat) : Int), .int .i64 ((u.y.toNat % 8 : Nat) : Int)], .bool true]) (fun _ _ hρ _ => r_move (hρ _ _ rfl)) rfl rfl rfl (w_n rfl) ?_
      refine TL_q (.int .i64 ((tix wd u.x u.y : Nat) : Int)) (fun _ _ hρ _ => r_extract (hρ _ _ rfl) rfl) rfl rfl rfl (w_n rfl) ?_
      refine TL_q (.agg #[.int .i64 ((u.x.toNat % 8 : Nat) : Int), .int .i64 ((u.y.toNat % 8 : Nat) : Int)]) (fun _ _ hρ _ => r_extract (hρ _ _ rfl) rfl) rfl rfl rfl (w_n rfl) ?_
      refine TL_q (.bool true) (fun _ _ hρ _ => r_extract (hρ _ _ rfl) rfl) rfl rfl rfl (w_n rfl) ?_
      refine TL_new 3 (.cells #[.int .i64 0, .int .i64 0] 119) (fun B => .pointer (some ⟨B, 0, none⟩)) (fun _ _ _ _ => r_alloc (v := .agg #[.int .i64 0, .int .i64 0]) (by kernel_rfl) rfl) rfl rfl rfl (w_n rfl) ?_
      intro B7
      refine TL_q (.int .i64 ((tix wd u.x u.y : Nat) : Int)) (fun _ _ hρ _ => r_assign (hρ _ _ rfl)) rfl rfl rfl (w_n rfl) ?_
      refine TL_store 3 (.cells #[.int .i64 ((u.x.toNat % 8 : Nat) : Int), .int .i64 ((u.y.toNat % 8 : Nat) : Int)] 119) rfl (fun _ _ hρ hm => r_store sz119 (hρ _ _ rfl) (hρ _ _ rfl) (hm.at 3 rfl) rfl rfl rfl rfl) rfl rfl (w_n rfl) ?_
      refine TL_q (.bool true) (fun _ _ hρ _ => r_assign (hρ _ _ rfl)) rfl rfl rfl (w_n rfl) ?_
      refine TL_seq ?_
      refine T_seq ?_
      refine T_seq (T_region ?_)
      refine TL_q (.bool true) (fun _ _ hρ _ => r_move (hρ _ _ rfl)) rfl rfl rfl (w_n rfl) ?_
      refine TL_q (.bool false) (fun _ _ hρ _ => r_not (b := true) (hρ _ _ rfl)) rfl rfl rfl (w_n rfl) ?_
      refine TL_seq ?_
      refine T_cond_f rfl ?_
      refine T_skip' ?_
      refine p_seq ?_
      refine T_seq ?_
      by_cases hno : ∃ e ∈ own, e.1 = tix wd u.x u.y
      · skip
        obtain ⟨⟨nz, q, t0⟩, hin, hnz⟩ := hno
        dsimp only at hnz
        subst hnz
        have ht0 := own_cur hok hin (by rw [hlt, hlen]; exact tix_lt hon)
        refine T_seq (T_region ?_)
        refine TL_q (.map (some B4)) (fun _ _ hρ _ => r_move (hρ _ _ rfl)) rfl rfl rfl (w_n rfl) ?_
        refine TL_q (.int .i64 ((tix wd u.x u.y : Nat) : Int)) (fun _ _ hρ _ => r_move (hρ _ _ rfl)) rfl rfl rfl (w_n rfl) ?_
        refine TL_q (.pointer (some ⟨q, 0, none⟩)) (fun _ _ hρ hm => r_as (r_lookup (fk := natK) (fv := optV) (c := (tix wd u.x u.y)) (z := none) (l := (own.map OwE.ent)) keyN mp117 rfl (hρ _ _ rfl) (hρ _ _ rfl) (hm.at 1 rfl)) (congrArg optV (own_in hok.one hin))) rfl rfl rfl (w_n rfl) ?_
        refine TL_q (.bool false) (fun _ _ hρ _ => r_as (r_eqlPn po87 (hρ _ _ rfl) (hρ _ _ rfl)) (by rfl)) rfl rfl rfl (w_n rfl) ?_
        refine TL_seq ?_
        refine T_cond_f rfl ?_
        refine T_skip' ?_
        refine p_seq ?_
        refine T_draw (V := [(0, .map (some B4)), (1, .int .i64 ((tix wd u.x u.y : Nat) : Int)), (2, .pointer (some ⟨q, 0, none⟩)), (3, .map (some B4)), (4, .int .i64 ((tix wd u.x u.y : Nat) : Int)), (5, .pointer (some ⟨q, 0, none⟩)), (6, .pointer (some ⟨q, 0, none⟩)), (7, .agg (lst C4.cells t0.l)), (8, .pointer (some ⟨B6, 2, none⟩)), (9, .agg #[.int .u8 u.c.r, .int .u8 u.c.g, .int .u8 u.c.b, .int .u8 u.c.a]), (10, .agg #[.int .i64 ((u.x.toNat % 8 : Nat) : Int), .int .i64 ((u.y.toNat % 8 : Nat) : Int)])]) [0, 0, 3, 0, 0, 24, 56, 120, 0, 256, 0, 1024, 4088, 8184, 16376, 16376, 32767, 98303] [[(7, none)], [(10, none)], [(79, some 0), (80, some 1)], [(7, none)], [(10, none)], [(82, some 3), (83, some 4)], [(84, some 5)], [(85, some 6)], [(9, none)], [(87, some 8)], [(11, none)], [(89, some 10)], [(86, some 7), (88, some 9), (90, some 11)], [(91, some 12)], [(78, some 13)], [(78, some 13)], [(81, some 2)], [(94, some 16), (92, some 14)]] 137216 mixed (by kernel_rfl) ?_
        refine G_step [0, 1, 2, 3, 4, 5, 6, 7, 8, 9, 10] 11 [] (by kernel_rfl) (allM (all_cons (q_run (.map (some B4)) rfl rfl (wv_n rfl) rfl (fun _ _ hρ _ => r_move (hρ _ _ rfl))) (all_cons (q_run (.int .i64 ((tix wd u.x u.y : Nat) : Int)) rfl rfl (wv_n rfl) rfl (fun _ _ hρ _ => r_move (hρ _ _ rfl))) (all_cons (q_run (.pointer (some ⟨q, 0, none⟩)) rfl rfl (wv_n rfl) rfl (fun _ _ hρ hm => r_as (r_lookup (fk := natK) (fv := optV) (c := (tix wd u.x u.y)) (z := none) (l := (own.map OwE.ent)) keyN mp117 rfl (hρ _ _ rfl) (hρ _ _ rfl) (hm.at 1 rfl)) (congrArg optV (own_in hok.one hin)))) (all_cons (q_run (.map (some B4)) rfl rfl (wv_n rfl) rfl (fun _ _ hρ _ => r_move (hρ _ _ rfl))) (all_cons (q_run (.int .i64 ((tix wd u.x u.y : Nat) : Int)) rfl rfl (wv_n rfl) rfl (fun _ _ hρ _ => r_move (hρ _ _ rfl))) (all_cons (q_run (.pointer (some ⟨q, 0, none⟩)) rfl rfl (wv_n rfl) rfl (fun _ _ hρ hm => r_as (r_lookup (fk := natK) (fv := optV) (c := (tix wd u.x u.y)) (z := none) (l := (own.map OwE.ent)) keyN mp117 rfl (hρ _ _ rfl) (hρ _ _ rfl) (hm.at 1 rfl)) (congrArg optV (own_in hok.one hin)))) (all_cons (q_run (.pointer (some ⟨q, 0, none⟩)) rfl rfl (wv_n rfl) rfl (fun _ _ hρ _ => r_nilCheck (hρ _ _ rfl) rfl)) (all_cons (q_run (.agg (lst C4.cells t0.l)) rfl rfl (wv_n rfl) rfl (fun _ _ hρ hm => r_loadW ag91 sz91 (hρ _ _ rfl) (hm.tl 904 rfl hin) (tsz t0.h))) (all_cons (q_run (.pointer (some ⟨B6, 2, none⟩)) rfl rfl (wv_n rfl) rfl (fun _ _ hρ _ => r_fieldAddr fl97_2 sz89 (hρ _ _ rfl))) (all_cons (q_run (.agg #[.int .u8 u.c.r, .int .u8 u.c.g, .int .u8 u.c.b, .int .u8 u.c.a]) rfl rfl (wv_n rfl) rfl (fun _ _ hρ hm => r_loadA ag89 sz89 (hρ _ _ rfl) (hm.at 2 rfl) rfl rfl)) (all_cons (q_run (.agg #[.int .i64 ((u.x.toNat % 8 : Nat) : Int), .int .i64 ((u.y.toNat % 8 : Nat) : Int)]) rfl rfl (wv_n rfl) rfl (fun _ _ hρ hm => r_loadA ag119 sz119 (hρ _ _ rfl) (hm.at 3 rfl) rfl rfl)) all_nil)))))))))))) (allM (all_cons ?_ all_nil))
        refine LOb_new 4 (.cells #[.int .i64 ((u.x.toNat % 8 : Nat) : Int), .int .i64 ((u.y.toNat % 8 : Nat) : Int)] 119) (fun B => .slice (some ⟨B, 0, none⟩) 1 1) (fun B => []) rfl (wv_n rfl) rfl rfl (fun _ _ hρ _ => r_buildSlice (vs := [(0, .agg #[.int .i64 ((u.x.toNat % 8 : Nat) : Int), .int .i64 ((u.y.toNat % 8 : Nat) : Int)])]) (by kernel_rfl) (cons2 (pair2 (hρ _ _ rfl)) rfl)) (fun B => by kernel_rfl) ?_
        intro B8
        refine G_step [0, 1, 2, 3, 4, 5, 6, 7, 8, 9] 12 [] (by kernel_rfl) (allM (all_cons (q_run (.map (some B4)) rfl rfl (wv_n rfl) rfl (fun _ _ hρ _ => r_move (hρ _ _ rfl))) (all_cons (q_run (.int .i64 ((tix wd u.x u.y : Nat) : Int)) rfl rfl (wv_n rfl) rfl (fun _ _ hρ _ => r_move (hρ _ _ rfl))) (all_cons (q_run (.pointer (some ⟨q, 0, none⟩)) rfl rfl (wv_n rfl) rfl (fun _ _ hρ hm => r_as (r_lookup (fk := natK) (fv := optV) (c := (tix wd u.x u.y)) (z := none) (l := (own.map OwE.ent)) keyN mp117 rfl (hρ _ _ rfl) (hρ _ _ rfl) (hm.at 1 rfl)) (congrArg optV (own_in hok.one hin)))) (all_cons (q_run (.map (some B4)) rfl rfl (wv_n rfl) rfl (fun _ _ hρ _ => r_move (hρ _ _ rfl))) (all_cons (q_run (.int .i64 ((tix wd u.x u.y : Nat) : Int)) rfl rfl (wv_n rfl) rfl (fun _ _ hρ _ => r_move (hρ _ _ rfl))) (all_cons (q_run (.pointer (some ⟨q, 0, none⟩)) rfl rfl (wv_n rfl) rfl (fun _ _ hρ hm => r_as (r_lookup (fk := natK) (fv := optV) (c := (tix wd u.x u.y)) (z := none) (l := (own.map OwE.ent)) keyN mp117 rfl (hρ _ _ rfl) (hρ _ _ rfl) (hm.at 1 rfl)) (congrArg optV (own_in hok.one hin)))) (all_cons (q_run (.pointer (some ⟨q, 0, none⟩)) rfl rfl (wv_n rfl) rfl (fun _ _ hρ _ => r_nilCheck (hρ _ _ rfl) rfl)) (all_cons (q_run (.agg (lst C4.cells t0.l)) rfl rfl (wv_n rfl) rfl (fun _ _ hρ hm => r_loadW ag91 sz91 (hρ _ _ rfl) (hm.tl 904 rfl hin) (tsz t0.h))) (all_cons (q_run (.pointer (some ⟨B6, 2, none⟩)) rfl rfl (wv_n rfl) rfl (fun _ _ hρ _ => r_fieldAddr fl97_2 sz89 (hρ _ _ rfl))) (all_cons (q_run (.agg #[.int .u8 u.c.r, .int .u8 u.c.g, .int .u8 u.c.b, .int .u8 u.c.a]) rfl rfl (wv_n rfl) rfl (fun _ _ hρ hm => r_loadA ag89 sz89 (hρ _ _ rfl) (hm.at 2 rfl) rfl rfl)) all_nil))))))))))) (allM (all_cons ?_ all_nil))
        refine LOb_call (.tuple #[.agg (lst C4.cells (t0.set (tpos u.x u.y) u.c).l), .int .i64 0]) [(13, .tuple #[.agg (lst C4.cells (t0.set (tpos u.x u.y) u.c).l), .int .i64 0]), (14, .agg (lst C4.cells (t0.set (tpos u.x u.y) u.c).l)), (15, .int .i64 0), (16, .pointer (some ⟨q, 0, none⟩))] rfl (wv_n rfl) rfl rfl (fun _ _ hρ _ => r_call (args := [.agg (lst C4.cells t0.l), .agg #[.int .u8 u.c.r, .int .u8 u.c.g, .int .u8 u.c.b, .int .u8 u.c.a], .slice (some ⟨B8, 0, none⟩) 1 1]) (enters_of Try.func76 (by kernel_rfl) rfl) (hρ _ _ rfl) ((cons2 (hρ _ _ rfl) (cons2 (hρ _ _ rfl) (cons2 (hρ _ _ rfl) rfl)))) rfl) (fun w hm => (with_c t0.l u.c [⟨((u.x.toNat % 8 : Nat) : Int), ((u.y.toNat % 8 : Nat) : Int)⟩] (some ⟨B8, 0, none⟩) 1 w t0.h ⟨by simp, (fun e => by cases e), .inr ⟨_, 0, _, _, _, rfl, (hm.at 4 rfl), row_of_take (fun _ => rfl) rfl⟩⟩ (by decide)).mono fun _ _ h => ⟨h.1.trans (by rw [with_one (by omega) (by omega)]; rfl), h.2⟩) (by kernel_rfl) ?_
        refine G_step [0, 1, 2, 13, 14, 15, 16] 17 [] (by kernel_rfl) (allM (all_cons (q_run (.map (some B4)) rfl rfl (wv_n rfl) rfl (fun _ _ hρ _ => r_move (hρ _ _ rfl))) (all_cons (q_run (.int .i64 ((tix wd u.x u.y : Nat) : Int)) rfl rfl (wv_n rfl) rfl (fun _ _ hρ _ => r_move (hρ _ _ rfl))) (all_cons (q_run (.pointer (some ⟨q, 0, none⟩)) rfl rfl (wv_n rfl) rfl (fun _ _ hρ hm => r_as (r_lookup (fk := natK) (fv := optV) (c := (tix wd u.x u.y)) (z := none) (l := (own.map OwE.ent)) keyN mp117 rfl (hρ _ _ rfl) (hρ _ _ rfl) (hm.at 1 rfl)) (congrArg optV (own_in hok.one hin)))) (all_cons (q_run (.tuple #[.agg (lst C4.cells (t0.set (tpos u.x u.y) u.c).l), .int .i64 0]) rfl rfl (wv_n rfl) rfl (fun _ _ hρ _ => r_move (hρ _ _ rfl))) (all_cons (q_run (.agg (lst C4.cells (t0.set (tpos u.x u.y) u.c).l)) rfl rfl (wv_n rfl) rfl (fun _ _ hρ _ => r_extract (hρ _ _ rfl) rfl)) (all_cons (q_run (.int .i64 0) rfl rfl (wv_n rfl) rfl (fun _ _ hρ _ => r_extract (hρ _ _ rfl) rfl)) (all_cons (q_run (.pointer (some ⟨q, 0, none⟩)) rfl rfl (wv_n rfl) rfl (fun _ _ hρ _ => r_nilCheck (hρ _ _ rfl) rfl)) all_nil)))))))) (allM (all_cons ?_ all_nil))
        refine LOb_opS _ [] rfl (wv_n rfl) rfl rfl (fun _ _ hρ hm => o_storeTl (t := t0) (t1 := (t0.set (tpos u.x u.y) u.c)) 904 rfl hin hok.one (hρ _ _ rfl) (hρ _ _ rfl) sz91 hm) (by kernel_rfl) ?_
        refine G_lastQ [15] [(0, .pointer (some ⟨p, 0, none⟩)), (4, .pointer none), (5, .pointer (some ⟨B2, 0, none⟩)), (6, .func (.func 75) #[.agg #[.int .i64 ((wd : Nat) : Int), .int .i64 ((hg : Nat) : Int)]] #[]), (7, .map (some B4)), (45, .slice (some ⟨b5, of5, none⟩) ds.length capd), (46, .int .i64 ((ds.length : Nat) : Int)), (47, .int .i64 ((k : Nat) : Int)), (48, .bool (decide (((k : Nat) : Int) < ((ds.length : Nat) : Int)))), (49, .pointer (some ⟨b5, of5 + k * 6, none⟩)), (50, .agg #[.int .i64 u.x, .int .i64 u.y, .int .u8 u.c.r, .int .u8 u.c.g, .int .u8 u.c.b, .int .u8 u.c.a]), (9, .pointer (some ⟨B6, 0, none⟩)), (52, .func (.func 75) #[.agg #[.int .i64 ((wd : Nat) : Int), .int .i64 ((hg : Nat) : Int)]] #[]), (53, .pointer (some ⟨B6, 0, none⟩)), (54, .int .i64 u.x), (55, .pointer (some ⟨B6, 1, none⟩)), (56, .int .i64 u.y), (57, .tuple #[.int .i64 ((tix wd u.x u.y : Nat) : Int), .agg #[.int .i64 ((u.x.toNat % 8 : Nat) : Int), .int .i64 ((u.y.toNat % 8 : Nat) : Int)], .bool true]), (51, .tuple #[.int .i64 ((tix wd u.x u.y : Nat) : Int), .agg #[.int .i64 ((u.x.toNat % 8 : Nat) : Int), .int .i64 ((u.y.toNat % 8 : Nat) : Int)], .bool true]), (58, .int .i64 ((tix wd u.x u.y : Nat) : Int)), (59, .agg #[.int .i64 ((u.x.toNat % 8 : Nat) : Int), .int .i64 ((u.y.toNat % 8 : Nat) : Int)]), (60, .bool true), (11, .pointer (some ⟨B7, 0, none⟩)), (10, .int .i64 ((tix wd u.x u.y : Nat) : Int)), (12, .bool true), (61, .bool true), (62, .bool false), (63, .map (some B4)), (64, .int .i64 ((tix wd u.x u.y : Nat) : Int)), (65, .pointer (some ⟨q, 0, none⟩)), (66, .bool false), (79, .map (some B4)), (80, .int .i64 ((tix wd u.x u.y : Nat) : Int)), (81, .pointer (some ⟨q, 0, none⟩)), (82, .map (some B4)), (83, .int .i64 ((tix wd u.x u.y : Nat) : Int)), (84, .pointer (some ⟨q, 0, none⟩)), (85, .pointer (some ⟨q, 0, none⟩)), (86, .agg (lst C4.cells t0.l)), (87, .pointer (some ⟨B6, 2, none⟩)), (88, .agg #[.int .u8 u.c.r, .int .u8 u.c.g, .int .u8 u.c.b, .int .u8 u.c.a]), (89, .agg #[.int .i64 ((u.x.toNat % 8 : Nat) : Int), .int .i64 ((u.y.toNat % 8 : Nat) : Int)]), (90, .slice (some ⟨B8, 0, none⟩) 1 1), (91, .tuple #[.agg (lst C4.cells (t0.set (tpos u.x u.y) u.c).l), .int .i64 0]), (78, .tuple #[.agg (lst C4.cells (t0.set (tpos u.x u.y) u.c).l), .int .i64 0]), (92, .agg (lst C4.cells (t0.set (tpos u.x u.y) u.c).l)), (94, .pointer (some ⟨q, 0, none⟩))] (by kernel_rfl) (allM (all_cons (q_run (.int .i64 0) rfl rfl (wv_n rfl) rfl (fun _ _ hρ _ => r_extract (hρ _ _ rfl) rfl)) all_nil)) (end_old rfl rfl (end_old rfl rfl (end_old rfl rfl (end_old rfl rfl (end_old rfl rfl (end_old rfl rfl (end_old rfl rfl (end_old rfl rfl (end_old rfl rfl (end_old rfl rfl (end_old rfl rfl (end_old rfl rfl (end_old rfl rfl (end_old rfl rfl (end_old rfl rfl (end_old rfl rfl (end_old rfl rfl (end_old rfl rfl (end_old rfl rfl (end_old rfl rfl (end_old rfl rfl (end_old rfl rfl (end_old rfl rfl (end_old rfl rfl (end_old rfl rfl (end_old rfl rfl (end_old rfl rfl (end_old rfl rfl (end_old rfl rfl (end_old rfl rfl (end_old rfl rfl (end_new 0 rfl rfl (end_new 1 rfl rfl (end_new 2 rfl rfl (end_new 3 rfl rfl (end_new 4 rfl rfl (end_new 5 rfl rfl (end_new 6 rfl rfl (end_new 7 rfl rfl (end_new 8 rfl rfl (end_new 9 rfl rfl (end_new 10 rfl rfl (end_new 11 rfl rfl (end_new 12 rfl rfl (end_new 13 rfl rfl (end_new 14 rfl rfl (end_new 16 rfl rfl end_nil))))))))))))))))))))))))))))))))))))))))))))))) ?_
        refine p_blk_n ?_
        refine p_seq ?_
        refine T_region ?_
        refine TL_q (.int .i64 ((k + 1 : Nat) : Int)) (fun _ _ hρ _ => r_as (r_add (hρ _ _ rfl) (hρ _ _ rfl)) (int_as ((wrap64 (by omega) (by omega)).trans (by omega)))) rfl rfl rfl (w_n rfl) ?_
        refine TL_q (.int .i64 ((k + 1 : Nat) : Int)) (fun _ _ hρ _ => r_move (hρ _ _ rfl)) rfl rfl rfl (w_n rfl) ?_
        refine TL_nil ?_
        exact p_at (k + 1, updO own (tix wd u.x u.y) (t0.set (tpos u.x u.y) u.c)) ⟨⟨by omega, by rw [putDs_step hu]; exact own_step hok hon (by rw [hlt, hlen]) hin⟩, by dsimp only; omega⟩ (sub_cons rfl (sub_cons rfl (sub_cons rfl (sub_cons rfl (sub_cons rfl (sub_cons rfl (sub_cons rfl (sub_cons rfl sub_nil)))))))) (sub_cons rfl (sub_cons rfl (sub_cons rfl (sub_cons (by rw [upd_ent]; rfl) sub_nil))))
      · skip
        refine T_seq (T_region ?_)
        refine TL_q (.map (some B4)) (fun _ _ hρ _ => r_move (hρ _ _ rfl)) rfl rfl rfl (w_n rfl) ?_
        refine TL_q (.int .i64 ((tix wd u.x u.y : Nat) : Int)) (fun _ _ hρ _ => r_move (hρ _ _ rfl)) rfl rfl rfl (w_n rfl) ?_
        refine TL_q (.pointer none) (fun _ _ hρ hm => r_as (r_lookup (fk := natK) (fv := optV) (c := (tix wd u.x u.y)) (z := none) (l := (own.map OwE.ent)) keyN mp117 rfl (hρ _ _ rfl) (hρ _ _ rfl) (hm.at 1 rfl)) (congrArg optV (own_out hno))) rfl rfl rfl (w_n rfl) ?_
        refine TL_q (.bool true) (fun _ _ hρ _ => r_as (r_eqlPn po87 (hρ _ _ rfl) (hρ _ _ rfl)) (by rfl)) rfl rfl rfl (w_n rfl) ?_
        refine TL_seq ?_
        refine T_cond_t rfl ?_
        have htx : tix wd u.x u.y < ps.length := by rw [hlen]; exact tix_lt hon
        obtain ⟨q0, hqq0⟩ : ∃ x, ps[tix wd u.x u.y]? = some x := ⟨_, List.getElem?_eq_getElem (by omega)⟩
        obtain ⟨t0, hqt0⟩ : ∃ x, ts[tix wd u.x u.y]? = some x := ⟨_, List.getElem?_eq_getElem (by omega)⟩
        have hbq0 := htl _ _ _ hqq0 hqt0
        refine T_seq (T_region ?_)
        refine TL_q (.pointer (some ⟨p, 0, none⟩)) (fun _ _ hρ _ => r_move (hρ _ _ rfl)) rfl rfl rfl (w_n rfl) ?_
        refine TL_q (.pointer (some ⟨p, 0, none⟩)) (fun _ _ hρ _ => r_nilCheck (hρ _ _ rfl) rfl) rfl rfl rfl (w_n rfl) ?_
        refine TL_q (.pointer (some ⟨p, 2, none⟩)) (fun _ _ hρ _ => r_fieldAddr fl85_1 sz83 (hρ _ _ rfl)) rfl rfl rfl (w_n rfl) ?_
        refine TL_q (.slice (some ⟨b, of, none⟩) ps.length cap) (fun _ _ hρ hm => r_load ag83 (hρ _ _ rfl) (hm.old hblk) rfl) rfl rfl rfl (w_n rfl) ?_
        refine TL_q (.int .i64 ((tix wd u.x u.y : Nat) : Int)) (fun _ _ hρ _ => r_move (hρ _ _ rfl)) rfl rfl rfl (w_n rfl) ?_
        refine TL_q (.pointer (some ⟨b, of + (tix wd u.x u.y) * 1, none⟩)) (fun _ _ hρ _ => r_indexAddrS (i := tix wd u.x u.y) sl83 sz87 (hρ _ _ rfl) (hρ _ _ rfl) (by omega)) rfl rfl rfl (w_n rfl) ?_
        refine TL_q (.pointer (some ⟨q0, 0, none⟩)) (fun _ _ hρ hm => r_loadRow1 (f := ptrc) (u := q0) ag87 (hρ _ _ rfl) (hm.old hcr) hrr hqq0 rfl) rfl rfl rfl (w_n rfl) ?_
        refine TL_q (.pointer (some ⟨q0, 0, none⟩)) (fun _ _ hρ _ => r_nilCheck (hρ _ _ rfl) rfl) rfl rfl rfl (w_n rfl) ?_
        refine TL_q (.agg (lst C4.cells t0.l)) (fun _ _ hρ hm => r_loadW ag91 sz91 (hρ _ _ rfl) (hm.old hbq0) (tsz t0.h)) rfl rfl rfl (w_n rfl) ?_
        refine TL_new 5 (.cells (lst C4.cells zero64) 91) (fun B => .pointer (some ⟨B, 0, none⟩)) (fun _ _ _ _ => r_alloc (v := .agg (lst C4.cells zero64)) (by kernel_rfl) rfl) rfl rfl rfl (w_n rfl) ?_
        intro B9
        refine TL_store 5 (.cells (lst C4.cells t0.l) 91) rfl (fun _ _ hρ hm => r_storeAll sz91 (hρ _ _ rfl) (hρ _ _ rfl) (hm.at 5 rfl) (tsz zero64_len) (tsz t0.h) (lst_one C4.cells_all _)) rfl rfl (w_n rfl) ?_
        refine TL_seq ?_
        refine T_sub [(0, .pointer (some ⟨p, 0, none⟩)), (4, .pointer none), (5, .pointer (some ⟨B2, 0, none⟩)), (6, .func (.func 75) #[.agg #[.int .i64 ((wd : Nat) : Int), .int .i64 ((hg : Nat) : Int)]] #[]), (7, .map (some B4)), (45, .slice (some ⟨b5, of5, none⟩) ds.length capd), (46, .int .i64 ((ds.length : Nat) : Int)), (47, .int .i64 ((k : Nat) : Int)), (48, .bool (decide (((k : Nat) : Int) < ((ds.length : Nat) : Int)))), (49, .pointer (some ⟨b5, of5 + k * 6, none⟩)), (50, .agg #[.int .i64 u.x, .int .i64 u.y, .int .u8 u.c.r, .int .u8 u.c.g, .int .u8 u.c.b, .int .u8 u.c.a]), (9, .pointer (some ⟨B6, 0, none⟩)), (52, .func (.func 75) #[.agg #[.int .i64 ((wd : Nat) : Int), .int .i64 ((hg : Nat) : Int)]] #[]), (53, .pointer (some ⟨B6, 0, none⟩)), (54, .int .i64 u.x), (55, .pointer (some ⟨B6, 1, none⟩)), (56, .int .i64 u.y), (57, .tuple #[.int .i64 ((tix wd u.x u.y : Nat) : Int), .agg #[.int .i64 ((u.x.toNat % 8 : Nat) : Int), .int .i64 ((u.y.toNat % 8 : Nat) : Int)], .bool true]), (51, .tuple #[.int .i64 ((tix wd u.x u.y : Nat) : Int), .agg #[.int .i64 ((u.x.toNat % 8 : Nat) : Int), .int .i64 ((u.y.toNat % 8 : Nat) : Int)], .bool true]), (58, .int .i64 ((tix wd u.x u.y : Nat) : Int)), (59, .agg #[.int .i64 ((u.x.toNat % 8 : Nat) : Int), .int .i64 ((u.y.toNat % 8 : Nat) : Int)]), (60, .bool true), (11, .pointer (some ⟨B7, 0, none⟩)), (10, .int .i64 ((tix wd u.x u.y : Nat) : Int)), (12, .bool true), (61, .bool true), (62, .bool false), (63, .map (some B4)), (64, .int .i64 ((tix wd u.x u.y : Nat) : Int)), (65, .pointer none), (66, .bool true), (67, .pointer (some ⟨p, 0, none⟩)), (68, .pointer (some ⟨p, 0, none⟩)), (69, .pointer (some ⟨p, 2, none⟩)), (70, .slice (some ⟨b, of, none⟩) ps.length cap), (71, .int .i64 ((tix wd u.x u.y : Nat) : Int)), (72, .pointer (some ⟨b, of + (tix wd u.x u.y) * 1, none⟩)), (73, .pointer (some ⟨q0, 0, none⟩)), (74, .pointer (some ⟨q0, 0, none⟩)), (75, .agg (lst C4.cells t0.l)), (13, .pointer (some ⟨B9, 0, none⟩))] [(901, .row (.slice (some ⟨B1, 0, none⟩) ps.length ps.length) 87 1 ps.length (ps.flatMap ptrc)), (902, .blk B2 (.cells #[.int .i64 ((wd : Nat) : Int), .int .i64 ((hg : Nat) : Int), .slice (some ⟨B1, 0, none⟩) ps.length ps.length] 85)), (904, .tls OwE.bt own), (1, .blk B4 ((mapO natK optV (own.map OwE.ent)))), (2, .blk B6 (.cells #[.int .i64 u.x, .int .i64 u.y, .int .u8 u.c.r, .int .u8 u.c.g, .int .u8 u.c.b, .int .u8 u.c.a] 97)), (3, .blk B7 (.cells #[.int .i64 ((u.x.toNat % 8 : Nat) : Int), .int .i64 ((u.y.toNat % 8 : Nat) : Int)] 119)), (5, .blk B9 (.cells (lst C4.cells t0.l) 91))] (sub_cons rfl (sub_cons rfl (sub_cons rfl (sub_cons rfl (sub_cons rfl (sub_cons rfl (sub_cons rfl (sub_cons rfl (sub_cons rfl (sub_cons rfl (sub_cons rfl (sub_cons rfl (sub_cons rfl (sub_cons rfl (sub_cons rfl (sub_cons rfl (sub_cons rfl (sub_cons rfl (sub_cons rfl (sub_cons rfl (sub_cons rfl (sub_cons rfl (sub_cons rfl (sub_cons rfl (sub_cons rfl (sub_cons rfl (sub_cons rfl (sub_cons rfl (sub_cons rfl (sub_cons rfl (sub_cons rfl (sub_cons rfl (sub_cons rfl (sub_cons rfl (sub_cons rfl (sub_cons rfl (sub_cons rfl (sub_cons rfl (sub_cons rfl (sub_cons rfl (sub_cons rfl sub_nil))))))))))))))))))))))))))))))))))))))))) (sub_cons rfl (sub_cons rfl (sub_cons rfl (sub_cons rfl (sub_cons rfl (sub_cons rfl (sub_cons rfl sub_nil))))))) ?_
        refine T_region ?_
        refine TL_q (.map (some B4)) (fun _ _ hρ _ => r_move (hρ _ _ rfl)) rfl rfl rfl (w_n rfl) ?_
        refine TL_q (.int .i64 ((tix wd u.x u.y : Nat) : Int)) (fun _ _ hρ _ => r_move (hρ _ _ rfl)) rfl rfl rfl (w_n rfl) ?_
        refine TL_store 1 ((mapO natK optV ((own ++ [((tix wd u.x u.y), B9, t0)]).map OwE.ent))) rfl (fun _ _ hρ hm => (by rw [← put_out t0 hno]; exact r_mapUpdate (fk := natK) (fv := optV) (c := (tix wd u.x u.y)) (z := none) (u := (some B9)) (l := (own.map OwE.ent)) keyN mp117 (hρ _ _ rfl) (hρ _ _ rfl) (hρ _ _ rfl) (hm.at 1 rfl))) rfl rfl (w_n rfl) ?_
        refine TL_nil ?_
        refine p_seq ?_
        have hok2 := own_push (q := B9) hok hno hqt0
        have hin : (tix wd u.x u.y, B9, t0) ∈ own ++ [(tix wd u.x u.y, B9, t0)] := List.mem_append_right _ (List.mem_singleton.2 rfl)
        refine T_mem (_ :: _) (fun _ hm => hm.tlPush 904 5 (tix wd u.x u.y, B9, t0) rfl rfl rfl rfl rfl) ?_
        refine T_draw (V := [(0, .map (some B4)), (1, .int .i64 ((tix wd u.x u.y : Nat) : Int)), (2, .pointer (some ⟨B9, 0, none⟩)), (3, .map (some B4)), (4, .int .i64 ((tix wd u.x u.y : Nat) : Int)), (5, .pointer (some ⟨B9, 0, none⟩)), (6, .pointer (some ⟨B9, 0, none⟩)), (7, .agg (lst C4.cells t0.l)), (8, .pointer (some ⟨B6, 2, none⟩)), (9, .agg #[.int .u8 u.c.r, .int .u8 u.c.g, .int .u8 u.c.b, .int .u8 u.c.a]), (10, .agg #[.int .i64 ((u.x.toNat % 8 : Nat) : Int), .int .i64 ((u.y.toNat % 8 : Nat) : Int)])]) [0, 0, 3, 0, 0, 24, 56, 120, 0, 256, 0, 1024, 4088, 8184, 16376, 16376, 32767, 98303] [[(7, none)], [(10, none)], [(79, some 0), (80, some 1)], [(7, none)], [(10, none)], [(82, some 3), (83, some 4)], [(84, some 5)], [(85, some 6)], [(9, none)], [(87, some 8)], [(11, none)], [(89, some 10)], [(86, some 7), (88, some 9), (90, some 11)], [(91, some 12)], [(78, some 13)], [(78, some 13)], [(81, some 2)], [(94, some 16), (92, some 14)]] 137216 mixed (by kernel_rfl) ?_
        refine G_step [0, 1, 2, 3, 4, 5, 6, 7, 8, 9, 10] 11 [] (by kernel_rfl) (allM (all_cons (q_run (.map (some B4)) rfl rfl (wv_n rfl) rfl (fun _ _ hρ _ => r_move (hρ _ _ rfl))) (all_cons (q_run (.int .i64 ((tix wd u.x u.y : Nat) : Int)) rfl rfl (wv_n rfl) rfl (fun _ _ hρ _ => r_move (hρ _ _ rfl))) (all_cons (q_run (.pointer (some ⟨B9, 0, none⟩)) rfl rfl (wv_n rfl) rfl (fun _ _ hρ hm => r_as (r_lookup (fk := natK) (fv := optV) (c := (tix wd u.x u.y)) (z := none) (l := ((own ++ [((tix wd u.x u.y), B9, t0)]).map OwE.ent)) keyN mp117 rfl (hρ _ _ rfl) (hρ _ _ rfl) (hm.at 1 rfl)) (congrArg optV (own_in hok2.one hin)))) (all_cons (q_run (.map (some B4)) rfl rfl (wv_n rfl) rfl (fun _ _ hρ _ => r_move (hρ _ _ rfl))) (all_cons (q_run (.int .i64 ((tix wd u.x u.y : Nat) : Int)) rfl rfl (wv_n rfl) rfl (fun _ _ hρ _ => r_move (hρ _ _ rfl))) (all_cons (q_run (.pointer (some ⟨B9, 0, none⟩)) rfl rfl (wv_n rfl) rfl (fun _ _ hρ hm => r_as (r_lookup (fk := natK) (fv := optV) (c := (tix wd u.x u.y)) (z := none) (l := ((own ++ [((tix wd u.x u.y), B9, t0)]).map OwE.ent)) keyN mp117 rfl (hρ _ _ rfl) (hρ _ _ rfl) (hm.at 1 rfl)) (congrArg optV (own_in hok2.one hin)))) (all_cons (q_run (.pointer (some ⟨B9, 0, none⟩)) rfl rfl (wv_n rfl) rfl (fun _ _ hρ _ => r_nilCheck (hρ _ _ rfl) rfl)) (all_cons (q_run (.agg (lst C4.cells t0.l)) rfl rfl (wv_n rfl) rfl (fun _ _ hρ hm => r_loadW ag91 sz91 (hρ _ _ rfl) (hm.tl 904 rfl hin) (tsz t0.h))) (all_cons (q_run (.pointer (some ⟨B6, 2, none⟩)) rfl rfl (wv_n rfl) rfl (fun _ _ hρ _ => r_fieldAddr fl97_2 sz89 (hρ _ _ rfl))) (all_cons (q_run (.agg #[.int .u8 u.c.r, .int .u8 u.c.g, .int .u8 u.c.b, .int .u8 u.c.a]) rfl rfl (wv_n rfl) rfl (fun _ _ hρ hm => r_loadA ag89 sz89 (hρ _ _ rfl) (hm.at 2 rfl) rfl rfl)) (all_cons (q_run (.agg #[.int .i64 ((u.x.toNat % 8 : Nat) : Int), .int .i64 ((u.y.toNat % 8 : Nat) : Int)]) rfl rfl (wv_n rfl) rfl (fun _ _ hρ hm => r_loadA ag119 sz119 (hρ _ _ rfl) (hm.at 3 rfl) rfl rfl)) all_nil)))))))))))) (allM (all_cons ?_ all_nil))
        refine LOb_new 6 (.cells #[.int .i64 ((u.x.toNat % 8 : Nat) : Int), .int .i64 ((u.y.toNat % 8 : Nat) : Int)] 119) (fun B => .slice (some ⟨B, 0, none⟩) 1 1) (fun B => []) rfl (wv_n rfl) rfl rfl (fun _ _ hρ _ => r_buildSlice (vs := [(0, .agg #[.int .i64 ((u.x.toNat % 8 : Nat) : Int), .int .i64 ((u.y.toNat % 8 : Nat) : Int)])]) (by kernel_rfl) (cons2 (pair2 (hρ _ _ rfl)) rfl)) (fun B => by kernel_rfl) ?_
        intro B10
        refine G_step [0, 1, 2, 3, 4, 5, 6, 7, 8, 9] 12 [] (by kernel_rfl) (allM (all_cons (q_run (.map (some B4)) rfl rfl (wv_n rfl) rfl (fun _ _ hρ _ => r_move (hρ _ _ rfl))) (all_cons (q_run (.int .i64 ((tix wd u.x u.y : Nat) : Int)) rfl rfl (wv_n rfl) rfl (fun _ _ hρ _ => r_move (hρ _ _ rfl))) (all_cons (q_run (.pointer (some ⟨B9, 0, none⟩)) rfl rfl (wv_n rfl) rfl (fun _ _ hρ hm => r_as (r_lookup (fk := natK) (fv := optV) (c := (tix wd u.x u.y)) (z := none) (l := ((own ++ [((tix wd u.x u.y), B9, t0)]).map OwE.ent)) keyN mp117 rfl (hρ _ _ rfl) (hρ _ _ rfl) (hm.at 1 rfl)) (congrArg optV (own_in hok2.one hin)))) (all_cons (q_run (.map (some B4)) rfl rfl (wv_n rfl) rfl (fun _ _ hρ _ => r_move (hρ _ _ rfl))) (all_cons (q_run (.int .i64 ((tix wd u.x u.y : Nat) : Int)) rfl rfl (wv_n rfl) rfl (fun _ _ hρ _ => r_move (hρ _ _ rfl))) (all_cons (q_run (.pointer (some ⟨B9, 0, none⟩)) rfl rfl (wv_n rfl) rfl (fun _ _ hρ hm => r_as (r_lookup (fk := natK) (fv := optV) (c := (tix wd u.x u.y)) (z := none) (l := ((own ++ [((tix wd u.x u.y), B9, t0)]).map OwE.ent)) keyN mp117 rfl (hρ _ _ rfl) (hρ _ _ rfl) (hm.at 1 rfl)) (congrArg optV (own_in hok2.one hin)))) (all_cons (q_run (.pointer (some ⟨B9, 0, none⟩)) rfl rfl (wv_n rfl) rfl (fun _ _ hρ _ => r_nilCheck (hρ _ _ rfl) rfl)) (all_cons (q_run (.agg (lst C4.cells t0.l)) rfl rfl (wv_n rfl) rfl (fun _ _ hρ hm => r_loadW ag91 sz91 (hρ _ _ rfl) (hm.tl 904 rfl hin) (tsz t0.h))) (all_cons (q_run (.pointer (some ⟨B6, 2, none⟩)) rfl rfl (wv_n rfl) rfl (fun _ _ hρ _ => r_fieldAddr fl97_2 sz89 (hρ _ _ rfl))) (all_cons (q_run (.agg #[.int .u8 u.c.r, .int .u8 u.c.g, .int .u8 u.c.b, .int .u8 u.c.a]) rfl rfl (wv_n rfl) rfl (fun _ _ hρ hm => r_loadA ag89 sz89 (hρ _ _ rfl) (hm.at 2 rfl) rfl rfl)) all_nil))))))))))) (allM (all_cons ?_ all_nil))
        refine LOb_call (.tuple #[.agg (lst C4.cells (t0.set (tpos u.x u.y) u.c).l), .int .i64 0]) [(13, .tuple #[.agg (lst C4.cells (t0.set (tpos u.x u.y) u.c).l), .int .i64 0]), (14, .agg (lst C4.cells (t0.set (tpos u.x u.y) u.c).l)), (15, .int .i64 0), (16, .pointer (some ⟨B9, 0, none⟩))] rfl (wv_n rfl) rfl rfl (fun _ _ hρ _ => r_call (args := [.agg (lst C4.cells t0.l), .agg #[.int .u8 u.c.r, .int .u8 u.c.g, .int .u8 u.c.b, .int .u8 u.c.a], .slice (some ⟨B10, 0, none⟩) 1 1]) (enters_of Try.func76 (by kernel_rfl) rfl) (hρ _ _ rfl) ((cons2 (hρ _ _ rfl) (cons2 (hρ _ _ rfl) (cons2 (hρ _ _ rfl) rfl)))) rfl) (fun w hm => (with_c t0.l u.c [⟨((u.x.toNat % 8 : Nat) : Int), ((u.y.toNat % 8 : Nat) : Int)⟩] (some ⟨B10, 0, none⟩) 1 w t0.h ⟨by simp, (fun e => by cases e), .inr ⟨_, 0, _, _, _, rfl, (hm.at 6 rfl), row_of_take (fun _ => rfl) rfl⟩⟩ (by decide)).mono fun _ _ h => ⟨h.1.trans (by rw [with_one (by omega) (by omega)]; rfl), h.2⟩) (by kernel_rfl) ?_
        refine G_step [0, 1, 2, 13, 14, 15, 16] 17 [] (by kernel_rfl) (allM (all_cons (q_run (.map (some B4)) rfl rfl (wv_n rfl) rfl (fun _ _ hρ _ => r_move (hρ _ _ rfl))) (all_cons (q_run (.int .i64 ((tix wd u.x u.y : Nat) : Int)) rfl rfl (wv_n rfl) rfl (fun _ _ hρ _ => r_move (hρ _ _ rfl))) (all_cons (q_run (.pointer (some ⟨B9, 0, none⟩)) rfl rfl (wv_n rfl) rfl (fun _ _ hρ hm => r_as (r_lookup (fk := natK) (fv := optV) (c := (tix wd u.x u.y)) (z := none) (l := ((own ++ [((tix wd u.x u.y), B9, t0)]).map OwE.ent)) keyN mp117 rfl (hρ _ _ rfl) (hρ _ _ rfl) (hm.at 1 rfl)) (congrArg optV (own_in hok2.one hin)))) (all_cons (q_run (.tuple #[.agg (lst C4.cells (t0.set (tpos u.x u.y) u.c).l), .int .i64 0]) rfl rfl (wv_n rfl) rfl (fun _ _ hρ _ => r_move (hρ _ _ rfl))) (all_cons (q_run (.agg (lst C4.cells (t0.set (tpos u.x u.y) u.c).l)) rfl rfl (wv_n rfl) rfl (fun _ _ hρ _ => r_extract (hρ _ _ rfl) rfl)) (all_cons (q_run (.int .i64 0) rfl rfl (wv_n rfl) rfl (fun _ _ hρ _ => r_extract (hρ _ _ rfl) rfl)) (all_cons (q_run (.pointer (some ⟨B9, 0, none⟩)) rfl rfl (wv_n rfl) rfl (fun _ _ hρ _ => r_nilCheck (hρ _ _ rfl) rfl)) all_nil)))))))) (allM (all_cons ?_ all_nil))
        refine LOb_opS _ [] rfl (wv_n rfl) rfl rfl (fun _ _ hρ hm => o_storeTl (t := t0) (t1 := (t0.set (tpos u.x u.y) u.c)) 904 rfl hin hok2.one (hρ _ _ rfl) (hρ _ _ rfl) sz91 hm) (by kernel_rfl) ?_
        refine G_lastQ [15] [(0, .pointer (some ⟨p, 0, none⟩)), (4, .pointer none), (5, .pointer (some ⟨B2, 0, none⟩)), (6, .func (.func 75) #[.agg #[.int .i64 ((wd : Nat) : Int), .int .i64 ((hg : Nat) : Int)]] #[]), (7, .map (some B4)), (45, .slice (some ⟨b5, of5, none⟩) ds.length capd), (46, .int .i64 ((ds.length : Nat) : Int)), (47, .int .i64 ((k : Nat) : Int)), (48, .bool (decide (((k : Nat) : Int) < ((ds.length : Nat) : Int)))), (49, .pointer (some ⟨b5, of5 + k * 6, none⟩)), (50, .agg #[.int .i64 u.x, .int .i64 u.y, .int .u8 u.c.r, .int .u8 u.c.g, .int .u8 u.c.b, .int .u8 u.c.a]), (9, .pointer (some ⟨B6, 0, none⟩)), (52, .func (.func 75) #[.agg #[.int .i64 ((wd : Nat) : Int), .int .i64 ((hg : Nat) : Int)]] #[]), (53, .pointer (some ⟨B6, 0, none⟩)), (54, .int .i64 u.x), (55, .pointer (some ⟨B6, 1, none⟩)), (56, .int .i64 u.y), (57, .tuple #[.int .i64 ((tix wd u.x u.y : Nat) : Int), .agg #[.int .i64 ((u.x.toNat % 8 : Nat) : Int), .int .i64 ((u.y.toNat % 8 : Nat) : Int)], .bool true]), (51, .tuple #[.int .i64 ((tix wd u.x u.y : Nat) : Int), .agg #[.int .i64 ((u.x.toNat % 8 : Nat) : Int), .int .i64 ((u.y.toNat % 8 : Nat) : Int)], .bool true]), (58, .int .i64 ((tix wd u.x u.y : Nat) : Int)), (59, .agg #[.int .i64 ((u.x.toNat % 8 : Nat) : Int), .int .i64 ((u.y.toNat % 8 : Nat) : Int)]), (60, .bool true), (11, .pointer (some ⟨B7, 0, none⟩)), (10, .int .i64 ((tix wd u.x u.y : Nat) : Int)), (12, .bool true), (61, .bool true), (62, .bool false), (63, .map (some B4)), (64, .int .i64 ((tix wd u.x u.y : Nat) : Int)), (65, .pointer none), (66, .bool true), (67, .pointer (some ⟨p, 0, none⟩)), (68, .pointer (some ⟨p, 0, none⟩)), (69, .pointer (some ⟨p, 2, none⟩)), (70, .slice (some ⟨b, of, none⟩) ps.length cap), (71, .int .i64 ((tix wd u.x u.y : Nat) : Int)), (72, .pointer (some ⟨b, of + (tix wd u.x u.y) * 1, none⟩)), (73, .pointer (some ⟨q0, 0, none⟩)), (74, .pointer (some ⟨q0, 0, none⟩)), (75, .agg (lst C4.cells t0.l)), (13, .pointer (some ⟨B9, 0, none⟩)), (76, .map (some B4)), (77, .int .i64 ((tix wd u.x u.y : Nat) : Int)), (79, .map (some B4)), (80, .int .i64 ((tix wd u.x u.y : Nat) : Int)), (81, .pointer (some ⟨B9, 0, none⟩)), (82, .map (some B4)), (83, .int .i64 ((tix wd u.x u.y : Nat) : Int)), (84, .pointer (some ⟨B9, 0, none⟩)), (85, .pointer (some ⟨B9, 0, none⟩)), (86, .agg (lst C4.cells t0.l)), (87, .pointer (some ⟨B6, 2, none⟩)), (88, .agg #[.int .u8 u.c.r, .int .u8 u.c.g, .int .u8 u.c.b, .int .u8 u.c.a]), (89, .agg #[.int .i64 ((u.x.toNat % 8 : Nat) : Int), .int .i64 ((u.y.toNat % 8 : Nat) : Int)]), (90, .slice (some ⟨B10, 0, none⟩) 1 1), (91, .tuple #[.agg (lst C4.cells (t0.set (tpos u.x u.y) u.c).l), .int .i64 0]), (78, .tuple #[.agg (lst C4.cells (t0.set (tpos u.x u.y) u.c).l), .int .i64 0]), (92, .agg (lst C4.cells (t0.set (tpos u.x u.y) u.c).l)), (94, .pointer (some ⟨B9, 0, none⟩))] (by kernel_rfl) (allM (all_cons (q_run (.int .i64 0) rfl rfl (wv_n rfl) rfl (fun _ _ hρ _ => r_extract (hρ _ _ rfl) rfl)) all_nil)) (end_old rfl rfl (end_old rfl rfl (end_old rfl rfl (end_old rfl rfl (end_old rfl rfl (end_old rfl rfl (end_old rfl rfl (end_old rfl rfl (end_old rfl rfl (end_old rfl rfl (end_old rfl rfl (end_old rfl rfl (end_old rfl rfl (end_old rfl rfl (end_old rfl rfl (end_old rfl rfl (end_old rfl rfl (end_old rfl rfl (end_old rfl rfl (end_old rfl rfl (end_old rfl rfl (end_old rfl rfl (end_old rfl rfl (end_old rfl rfl (end_old rfl rfl (end_old rfl rfl (end_old rfl rfl (end_old rfl rfl (end_old rfl rfl (end_old rfl rfl (end_old rfl rfl (end_old rfl rfl (end_old rfl rfl (end_old rfl rfl (end_old rfl rfl (end_old rfl rfl (end_old rfl rfl (end_old rfl rfl (end_old rfl rfl (end_old rfl rfl (end_old rfl rfl (end_old rfl rfl (end_old rfl rfl (end_new 0 rfl rfl (end_new 1 rfl rfl (end_new 2 rfl rfl (end_new 3 rfl rfl (end_new 4 rfl rfl (end_new 5 rfl rfl (end_new 6 rfl rfl (end_new 7 rfl rfl (end_new 8 rfl rfl (end_new 9 rfl rfl (end_new 10 rfl rfl (end_new 11 rfl rfl (end_new 12 rfl rfl (end_new 13 rfl rfl (end_new 14 rfl rfl (end_new 16 rfl rfl end_nil))))))))))))))))))))))))))))))))))))))))))))))))))))))))))) ?_
        refine p_blk_n ?_
        refine p_seq ?_
        refine T_region ?_
        refine TL_q (.int .i64 ((k + 1 : Nat) : Int)) (fun _ _ hρ _ => r_as (r_add (hρ _ _ rfl) (hρ _ _ rfl)) (int_as ((wrap64 (by omega) (by omega)).trans (by omega)))) rfl rfl rfl (w_n rfl) ?_
        refine TL_q (.int .i64 ((k + 1 : Nat) : Int)) (fun _ _ hρ _ => r_move (hρ _ _ rfl)) rfl rfl rfl (w_n rfl) ?_
        refine TL_nil ?_
        exact p_at (k + 1, updO (own ++ [(tix wd u.x u.y, B9, t0)]) (tix wd u.x u.y) (t0.set (tpos u.x u.y) u.c)) ⟨⟨by omega, by rw [putDs_step hu]; exact own_step hok2 hon (by rw [hlt, hlen]) hin⟩, by dsimp only; omega⟩ (sub_cons rfl (sub_cons rfl (sub_cons rfl (sub_cons rfl (sub_cons rfl (sub_cons rfl (sub_cons rfl (sub_cons rfl sub_nil)))))))) (sub_cons rfl (sub_cons rfl (sub_cons rfl (sub_cons (by rw [upd_ent]; rfl) sub_nil))))
    · skip
      refine T_seq (T_region ?_)
      refine TL_q (.func (.func 75) #[.agg #[.int .i64 ((wd : Nat) : Int), .int .i64 ((hg : Nat) : Int)]] #[]) (fun _ _ hρ _ => r_move (hρ _ _ rfl)) rfl rfl rfl (w_n rfl) ?_
      refine TL_q (.pointer (some ⟨B6, 0, none⟩)) (fun _ _ hρ _ => r_fieldAddr fl97_0 sz3 (hρ _ _ rfl)) rfl rfl rfl (w_n rfl) ?_
      refine TL_q (.int .i64 u.x) (fun _ _ hρ hm => r_load ag3 (hρ _ _ rfl) (hm.at 2 rfl) rfl) rfl rfl rfl (w_n rfl) ?_
      refine TL_q (.pointer (some ⟨B6, 1, none⟩)) (fun _ _ hρ _ => r_fieldAddr fl97_1 sz3 (hρ _ _ rfl)) rfl rfl rfl (w_n rfl) ?_
      refine TL_q (.int .i64 u.y) (fun _ _ hρ hm => r_load ag3 (hρ _ _ rfl) (hm.at 2 rfl) rfl) rfl rfl rfl (w_n rfl) ?_
      refine TL_call (.tuple #[.int .i64 0, .agg #[.int .i64 0, .int .i64 0], .bool false]) (fun _ _ hρ _ => r_call (args := [.int .i64 u.x, .int .i64 u.y]) (enters_of Try.func75 (by kernel_rfl) rfl) (hρ _ _ rfl) ((cons2 (hρ _ _ rfl) (cons2 (hρ _ _ rfl) rfl))) rfl) (fun w _ => place_out wd hg u.x u.y w hwd hhg hon) rfl rfl rfl (w_n rfl) ?_
      refine TL_q (.tuple #[.int .i64 0, .agg #[.int .i64 0, .int .i64 0], .bool false]) (fun _ _ hρ _ => r_move (hρ _ _ rfl)) rfl rfl rfl (w_n rfl) ?_
      refine TL_q (.int .i64 0) (fun _ _ hρ _ => r_extract (hρ _ _ rfl) rfl) rfl rfl rfl (w_n rfl) ?_
      refine TL_q (.agg #[.int .i64 0, .int .i64 0]) (fun _ _ hρ _ => r_extract (hρ _ _ rfl) rfl) rfl rfl rfl (w_n rfl) ?_
      refine TL_q (.bool false) (fun _ _ hρ _ => r_extract (hρ _ _ rfl) rfl) rfl rfl rfl (w_n rfl) ?_
      refine TL_new 7 (.cells #[.int .i64 0, .int .i64 0] 119) (fun B => .pointer (some ⟨B, 0, none⟩)) (fun _ _ _ _ => r_alloc (v := .agg #[.int .i64 0, .int .i64 0]) (by kernel_rfl) rfl) rfl rfl rfl (w_n rfl) ?_
      intro B11
      refine TL_q (.int .i64 0) (fun _ _ hρ _ => r_assign (hρ _ _ rfl)) rfl rfl rfl (w_n rfl) ?_
      refine TL_store 7 (.cells #[.int .i64 0, .int .i64 0] 119) rfl (fun _ _ hρ hm => r_store sz119 (hρ _ _ rfl) (hρ _ _ rfl) (hm.at 7 rfl) rfl rfl rfl rfl) rfl rfl (w_n rfl) ?_
      refine TL_q (.bool false) (fun _ _ hρ _ => r_assign (hρ _ _ rfl)) rfl rfl rfl (w_n rfl) ?_
      refine TL_seq ?_
      refine T_seq ?_
      refine T_seq (T_region ?_)
      refine TL_q (.bool false) (fun _ _ hρ _ => r_move (hρ _ _ rfl)) rfl rfl rfl (w_n rfl) ?_
      refine TL_q (.bool true) (fun _ _ hρ _ => r_not (b := false) (hρ _ _ rfl)) rfl rfl rfl (w_n rfl) ?_
      refine TL_seq ?_
      refine T_cond_t rfl ?_
      refine T_exit' ?_
      refine p_then_x ?_
      refine p_blk_x ?_
      refine p_seq ?_
      refine T_region ?_
      refine TL_q (.int .i64 ((k + 1 : Nat) : Int)) (fun _ _ hρ _ => r_as (r_add (hρ _ _ rfl) (hρ _ _ rfl)) (int_as ((wrap64 (by omega) (by omega)).trans (by omega)))) rfl rfl rfl (w_n rfl) ?_
      refine TL_q (.int .i64 ((k + 1 : Nat) : Int)) (fun _ _ hρ _ => r_move (hρ _ _ rfl)) rfl rfl rfl (w_n rfl) ?_
      refine TL_nil ?_
      exact p_at (k + 1, own) ⟨⟨by omega, by rw [putDs_step hu, putD_no hon]; exact hok⟩, by dsimp only; omega⟩ (sub_cons rfl (sub_cons rfl (sub_cons rfl (sub_cons rfl (sub_cons rfl (sub_cons rfl (sub_cons rfl (sub_cons rfl sub_nil)))))))) (sub_cons rfl (sub_cons rfl (sub_cons rfl (sub_cons rfl sub_nil))))
  · replace h1 := of_decide_eq_false h1
    refine T_exit' ?_
    refine p_then_x ?_
    refine p_then_x ?_
    refine p_blk_x ?_
    refine p_seq ?_
    refine T_seq ?_
    refine T_seq (T_region ?_)
    refine TL_q (.map (some B4)) (fun _ _ hρ _ => r_move (hρ _ _ rfl)) rfl rfl rfl (w_n rfl) ?_
    refine TL_new 8 ((itO B4 (((own.map OwE.ent)).length) [])) (fun B => .pointer (some ⟨B, 0, none⟩)) (fun _ _ hρ hm => r_rangeMap (fk := natK) (fv := optV) (l := (own.map OwE.ent)) mp117 (hρ _ _ rfl) (hm.at 1 rfl)) rfl rfl rfl (w_n rfl) ?_
    intro B12
    refine TL_seq ?_
    refine T_block ?_
    refine T_loop (ι := List Nat × List Nat) (fun (z : List Nat × List Nat) => match z with | (seen, rs) => RowOk ts own ps seen rs) (fun (z : List Nat × List Nat) => match z with | (seen, rs) => [(0, .pointer (some ⟨p, 0, none⟩)), (4, .pointer none), (5, .pointer (some ⟨B2, 0, none⟩)), (97, .pointer (some ⟨B12, 0, none⟩))]) (fun (z : List Nat × List Nat) => match z with | (seen, rs) => [(902, .blk B2 (.cells #[.int .i64 ((wd : Nat) : Int), .int .i64 ((hg : Nat) : Int), .slice (some ⟨B1, 0, none⟩) ps.length ps.length] 85)), (904, .tls OwE.bt own), (1, .blk B4 ((mapO natK optV (own.map OwE.ent)))), (8, .blk B12 ((itO B4 ((own.map OwE.ent).length) seen))), (901, .row (.slice (some ⟨B1, 0, none⟩) ps.length ps.length) 87 1 ps.length (rs.flatMap ptrc))]) (fun (z : List Nat × List Nat) => match z with | (seen, rs) => own.length - seen.length) ([], ps) (row_zero _ _ _) (sub_cons rfl (sub_cons rfl (sub_cons rfl (sub_cons rfl sub_nil)))) (sub_cons rfl (sub_cons rfl (sub_cons rfl (sub_cons rfl (sub_cons rfl sub_nil))))) ?_
    rintro ⟨seen, rs⟩ hp
    have hrk := hp
    show T _ _ _ [(0, .pointer (some ⟨p, 0, none⟩)), (4, .pointer none), (5, .pointer (some ⟨B2, 0, none⟩)), (97, .pointer (some ⟨B12, 0, none⟩))] [(902, .blk B2 (.cells #[.int .i64 ((wd : Nat) : Int), .int .i64 ((hg : Nat) : Int), .slice (some ⟨B1, 0, none⟩) ps.length ps.length] 85)), (904, .tls OwE.bt own), (1, .blk B4 ((mapO natK optV (own.map OwE.ent)))), (8, .blk B12 ((itO B4 ((own.map OwE.ent).length) seen))), (901, .row (.slice (some ⟨B1, 0, none⟩) ps.length ps.length) 87 1 ps.length (rs.flatMap ptrc))]
    refine T_seq (T_region ?_)
    refine TL_next (fk := natK) (fv := optV) (l := (own.map OwE.ent)) (seen := seen) 8 1 rfl rfl rfl rfl (w_n rfl) ?_ ?_
    · intro hall
      refine TL_q (.bool false) (fun _ _ hρ _ => r_extract (hρ _ _ rfl) rfl) rfl rfl rfl (w_n rfl) ?_
      refine TL_seq ?_
      refine T_seq ?_
      refine T_cond_f rfl ?_
      refine T_exit' ?_
      refine p_then_x ?_
      refine p_then_x ?_
      refine p_blk_x ?_
      refine p_seq ?_
      refine T_seq (T_region ?_)
      refine TL_q (.pointer (some ⟨B2, 0, none⟩)) (fun _ _ hρ _ => r_move (hρ _ _ rfl)) rfl rfl rfl (w_n rfl) ?_
      refine TL_q (.pointer (some ⟨B2, 0, none⟩)) (fun _ _ hρ _ => r_assign (hρ _ _ rfl)) rfl rfl rfl (w_n rfl) ?_
      refine TL_seq ?_
      refine T_ret' ?_
      refine ret_of rfl (.pointer (some ⟨B2, 0, none⟩)) (fun tmps w hk hm => res1 rfl (res_tmp (hk 4 _ rfl))) (fun w hm => ?_)
      have hk : k = ds.length := by omega
      subst hk
      rw [List.take_length] at hok
      have hall2 : ∀ j, j < own.length → j ∈ seen := fun j hj => hall j (by rw [List.length_map]; exact hj)
      have hdone := fun {i q : Nat} (hq : ps[i]? = some q) => row_done hrk hok hall2 hlt hq
      have hrow := hm.row 901 rfl
      have hnew := fun (e : OwE) (he : e ∈ own) => ((hm.own 904 _ rfl).2.1 e.2.1 ⟨e, he, rfl⟩).1
      dsimp only at hnew
      have hps : ∀ {i r : Nat}, rs[i]? = some r → ∃ q, ps[i]? = some q := fun {i r} hr => ⟨_, List.getElem?_eq_getElem (by rw [← hrk.len]; exact (List.getElem?_eq_some_iff.1 hr).1)⟩
      refine ⟨⟨B2, some ⟨B1, 0, none⟩, ps.length, rs, wd, hg, putDs wd hg ts ds⟩, rfl, ⟨hm.ext, ⟨?_, ?_, ?_, ?_, ?_, ?_, hwd, hhg⟩, ?_⟩, rfl, rfl, rfl, ?_⟩
      · show Go.Proofs.Ytmihoejecpcmjaa.hp _ _ = some (Obj.cells #[.int .i64 (wd : Int), .int .i64 (hg : Int), .slice _ rs.length ps.length] _); rw [hrk.len]; exact hm.at 902 rfl
      · exact SliceAt.own ptrc_len hrow hrk.len.symm rfl
      · show ps.length ≤ Go.maxLen; unfold Go.maxLen; omega
      · intro i r t hr ht
        obtain ⟨q, hq⟩ := hps hr
        obtain ⟨r', t', t0, h1, h2, h3, h4⟩ := hdone hq
        rw [h1] at hr; cases hr
        rw [h2] at ht; cases ht
        rcases h4 with ⟨rfl, rfl⟩ | ⟨_, h5⟩
        · exact hm.old (htl _ _ _ hq h3)
        · exact hm.tl 904 rfl h5
      · show rs.length = wd * hg; rw [hrk.len, hlen]
      · show (putDs wd hg ts ds).length = rs.length; rw [putDs_len, hrk.len, hlt]
      · rintro b (rfl | ⟨x, hx, rfl⟩ | hb)
        · exact .inl (hm.own 902 _ rfl).1
        · cases hx; exact .inl (Res.low (hm.own 901 _ rfl) (own_foot hrow (by omega))).1
        · obtain ⟨i, hi⟩ := List.getElem?_of_mem hb
          obtain ⟨q, hq⟩ := hps hi
          obtain ⟨r', t', t0, h1, h2, h3, h4⟩ := hdone hq
          rw [h1] at hi; cases hi
          rcases h4 with ⟨_, rfl⟩ | ⟨_, h5⟩
          · exact .inr ⟨_, List.mem_singleton.2 rfl, .inr (.inr (List.mem_of_getElem? hq))⟩
          · exact .inl (hnew _ h5)
      · intro i q hq
        obtain ⟨r', t', t0, h1, h2, h3, h4⟩ := hdone hq
        refine ⟨r', h1, ?_, ?_⟩
        · show r' = q ↔ ts[i]? = (putDs wd hg ts ds)[i]?
          rw [h2, h3]
          rcases h4 with ⟨rfl, rfl⟩ | ⟨h5, h6⟩
          · exact ⟨fun _ => rfl, fun _ => rfl⟩
          · refine ⟨fun e => ?_, fun e => absurd (Option.some.inj e).symm h5⟩
            subst e
            have h7 := hnew _ h6; dsimp only at h7
            have h8 := hp_lt (htl _ _ _ hq h3)
            omega
        · rcases h4 with ⟨_, rfl⟩ | ⟨_, h6⟩
          · exact .inl rfl
          · exact .inr (hnew _ h6)
    · intro j kx vx hj hnj
      have hj2 := hj
      rw [List.getElem?_map] at hj2
      obtain ⟨⟨i1, q, t⟩, hjo, hje⟩ := Option.map_eq_some_iff.1 hj2
      cases hje
      have hjm := List.mem_of_getElem? hjo
      have hjl := (List.getElem?_eq_some_iff.1 hjo).1
      have hi1 : i1 < ps.length := by rw [← hlt]; exact hok.lt _ hjm
      refine TL_q (.bool true) (fun _ _ hρ _ => r_extract (hρ _ _ rfl) rfl) rfl rfl rfl (w_n rfl) ?_
      refine TL_seq ?_
      refine T_seq ?_
      refine T_cond_t rfl ?_
      refine T_skip' ?_
      refine p_seq ?_
      refine T_block ?_
      refine T_seq (T_region ?_)
      refine TL_q (.tuple #[.int .i64 ((i1 : Nat) : Int), .pointer (some ⟨q, 0, none⟩)]) (fun _ _ hρ hm => r_entry (fk := natK) (fv := optV) (k := i1) (u := (some q)) (j := j) (l := (own.map OwE.ent)) (hρ _ _ rfl) (hm.at 8 rfl) (hm.at 1 rfl) hj) rfl rfl rfl (w_n rfl) ?_
      refine TL_q (.int .i64 ((i1 : Nat) : Int)) (fun _ _ hρ _ => r_extract (hρ _ _ rfl) rfl) rfl rfl rfl (w_n rfl) ?_
      refine TL_q (.pointer (some ⟨q, 0, none⟩)) (fun _ _ hρ _ => r_extract (hρ _ _ rfl) rfl) rfl rfl rfl (w_n rfl) ?_
      refine TL_q (.int .i64 ((i1 : Nat) : Int)) (fun _ _ hρ _ => r_assign (hρ _ _ rfl)) rfl rfl rfl (w_n rfl) ?_
      refine TL_q (.pointer (some ⟨q, 0, none⟩)) (fun _ _ hρ _ => r_assign (hρ _ _ rfl)) rfl rfl rfl (w_n rfl) ?_
      refine TL_seq ?_
      obtain ⟨q0, hqq0⟩ : ∃ x, ps[i1]? = some x := ⟨_, List.getElem?_eq_getElem (by omega)⟩
      obtain ⟨t0, hqt0⟩ : ∃ x, ts[i1]? = some x := ⟨_, List.getElem?_eq_getElem (by omega)⟩
      have hbq0 := htl _ _ _ hqq0 hqt0
      refine T_seq (T_draw (V := [(0, .pointer (some ⟨q, 0, none⟩)), (1, .pointer (some ⟨q, 0, none⟩)), (2, .agg (lst C4.cells t.l)), (3, .pointer (some ⟨p, 0, none⟩)), (4, .pointer (some ⟨p, 0, none⟩)), (5, .pointer (some ⟨p, 2, none⟩)), (6, .slice (some ⟨b, of, none⟩) ps.length cap), (7, .int .i64 ((i1 : Nat) : Int)), (8, .pointer (some ⟨b, of + i1 * 1, none⟩)), (9, .pointer (some ⟨q0, 0, none⟩)), (10, .pointer (some ⟨q0, 0, none⟩)), (11, .agg (lst C4.cells t0.l)), (12, .bool (!decide (t = t0)))]) [0, 1, 3, 0, 8, 24, 56, 0, 248, 504, 1016, 2040, 4095] [[(15, none)], [(103, some 0)], [(104, some 1)], [(0, none)], [(106, some 3)], [(107, some 4)], [(108, some 5)], [(14, none)], [(109, some 6), (110, some 7)], [(111, some 8)], [(112, some 9)], [(113, some 10)], [(105, some 2), (114, some 11)]] 0 mixed (by kernel_rfl) ?_)
      refine G_last [0, 1, 2, 3, 4, 5, 6, 7, 8, 9, 10, 11, 12] [(0, .pointer (some ⟨p, 0, none⟩)), (4, .pointer none), (5, .pointer (some ⟨B2, 0, none⟩)), (97, .pointer (some ⟨B12, 0, none⟩)), (98, .tuple #[.bool true, .int .i64 ((i1 : Nat) : Int), .pointer (some ⟨q, 0, none⟩)]), (99, .bool true), (100, .tuple #[.int .i64 ((i1 : Nat) : Int), .pointer (some ⟨q, 0, none⟩)]), (101, .int .i64 ((i1 : Nat) : Int)), (102, .pointer (some ⟨q, 0, none⟩)), (14, .int .i64 ((i1 : Nat) : Int)), (15, .pointer (some ⟨q, 0, none⟩)), (103, .pointer (some ⟨q, 0, none⟩)), (104, .pointer (some ⟨q, 0, none⟩)), (105, .agg (lst C4.cells t.l)), (106, .pointer (some ⟨p, 0, none⟩)), (107, .pointer (some ⟨p, 0, none⟩)), (108, .pointer (some ⟨p, 2, none⟩)), (109, .slice (some ⟨b, of, none⟩) ps.length cap), (110, .int .i64 ((i1 : Nat) : Int)), (111, .pointer (some ⟨b, of + i1 * 1, none⟩)), (112, .pointer (some ⟨q0, 0, none⟩)), (113, .pointer (some ⟨q0, 0, none⟩)), (114, .agg (lst C4.cells t0.l)), (115, .bool (!decide (t = t0)))] (by kernel_rfl) (allM (all_cons (q_run (.pointer (some ⟨q, 0, none⟩)) rfl rfl (wv_n rfl) rfl (fun _ _ hρ _ => r_move (hρ _ _ rfl))) (all_cons (q_run (.pointer (some ⟨q, 0, none⟩)) rfl rfl (wv_n rfl) rfl (fun _ _ hρ _ => r_nilCheck (hρ _ _ rfl) rfl)) (all_cons (q_run (.agg (lst C4.cells t.l)) rfl rfl (wv_n rfl) rfl (fun _ _ hρ hm => r_loadW ag91 sz91 (hρ _ _ rfl) (hm.tl 904 rfl hjm) (tsz t.h))) (all_cons (q_run (.pointer (some ⟨p, 0, none⟩)) rfl rfl (wv_n rfl) rfl (fun _ _ hρ _ => r_move (hρ _ _ rfl))) (all_cons (q_run (.pointer (some ⟨p, 0, none⟩)) rfl rfl (wv_n rfl) rfl (fun _ _ hρ _ => r_nilCheck (hρ _ _ rfl) rfl)) (all_cons (q_run (.pointer (some ⟨p, 2, none⟩)) rfl rfl (wv_n rfl) rfl (fun _ _ hρ _ => r_fieldAddr fl85_1 sz83 (hρ _ _ rfl))) (all_cons (q_run (.slice (some ⟨b, of, none⟩) ps.length cap) rfl rfl (wv_n rfl) rfl (fun _ _ hρ hm => r_load ag83 (hρ _ _ rfl) (hm.old hblk) rfl)) (all_cons (q_run (.int .i64 ((i1 : Nat) : Int)) rfl rfl (wv_n rfl) rfl (fun _ _ hρ _ => r_move (hρ _ _ rfl))) (all_cons (q_run (.pointer (some ⟨b, of + i1 * 1, none⟩)) rfl rfl (wv_n rfl) rfl (fun _ _ hρ _ => r_indexAddrS (i := i1) sl83 sz87 (hρ _ _ rfl) (hρ _ _ rfl) (by omega))) (all_cons (q_run (.pointer (some ⟨q0, 0, none⟩)) rfl rfl (wv_n rfl) rfl (fun _ _ hρ hm => r_loadRow1 (f := ptrc) (u := q0) ag87 (hρ _ _ rfl) (hm.old hcr) hrr hqq0 rfl)) (all_cons (q_run (.pointer (some ⟨q0, 0, none⟩)) rfl rfl (wv_n rfl) rfl (fun _ _ hρ _ => r_nilCheck (hρ _ _ rfl) rfl)) (all_cons (q_run (.agg (lst C4.cells t0.l)) rfl rfl (wv_n rfl) rfl (fun _ _ hρ hm => r_loadW ag91 sz91 (hρ _ _ rfl) (hm.old hbq0) (tsz t0.h))) (all_cons (q_run (.bool (!decide (t = t0))) rfl rfl (wv_n rfl) rfl (fun _ w hρ _ => r_as (r_neqA (by kernel_rfl) (hρ _ _ rfl) (hρ _ _ rfl) (eq_t64 t t0 w)) (by rfl))) all_nil)))))))))))))) (end_old rfl rfl (end_old rfl rfl (end_old rfl rfl (end_old rfl rfl (end_old rfl rfl (end_old rfl rfl (end_old rfl rfl (end_old rfl rfl (end_old rfl rfl (end_old rfl rfl (end_old rfl rfl (end_new 0 rfl rfl (end_new 1 rfl rfl (end_new 2 rfl rfl (end_new 3 rfl rfl (end_new 4 rfl rfl (end_new 5 rfl rfl (end_new 6 rfl rfl (end_new 7 rfl rfl (end_new 8 rfl rfl (end_new 9 rfl rfl (end_new 10 rfl rfl (end_new 11 rfl rfl (end_new 12 rfl rfl end_nil)))))))))))))))))))))))) ?_
      refine T_cond rfl (fun h2 => ?_) (fun h2 => ?_)
      · replace h2 := of_decide_eq_false (bnot_t h2)
        refine T_region ?_
        refine TL_q (.pointer (some ⟨B2, 0, none⟩)) (fun _ _ hρ _ => r_move (hρ _ _ rfl)) rfl rfl rfl (w_n rfl) ?_
        refine TL_q (.pointer (some ⟨B2, 0, none⟩)) (fun _ _ hρ _ => r_nilCheck (hρ _ _ rfl) rfl) rfl rfl rfl (w_n rfl) ?_
        refine TL_q (.pointer (some ⟨B2, 2, none⟩)) (fun _ _ hρ _ => r_fieldAddr fl85_1 sz83 (hρ _ _ rfl)) rfl rfl rfl (w_n rfl) ?_
        refine TL_q (.slice (some ⟨B1, 0, none⟩) ps.length ps.length) (fun _ _ hρ hm => r_load ag83 (hρ _ _ rfl) (hm.at 902 rfl) rfl) rfl rfl rfl (w_n rfl) ?_
        refine TL_q (.int .i64 ((i1 : Nat) : Int)) (fun _ _ hρ _ => r_move (hρ _ _ rfl)) rfl rfl rfl (w_n rfl) ?_
        refine TL_q (.pointer (some ⟨q, 0, none⟩)) (fun _ _ hρ _ => r_move (hρ _ _ rfl)) rfl rfl rfl (w_n rfl) ?_
        refine TL_q (.pointer (some ⟨B1, 0 + i1 * 1, none⟩)) (fun _ _ hρ _ => r_indexAddrS (i := i1) sl83 sz87 (hρ _ _ rfl) (hρ _ _ rfl) (by omega)) rfl rfl rfl (w_n rfl) ?_
        refine TL_storeRow (f := ptrc) (l := rs) (u := q) 901 rfl hrk.len.symm rfl rfl sz87 ptrc_len (by rw [hrk.len]; exact hi1) rfl rfl (w_n rfl) ?_
        refine TL_nil ?_
        refine p_blk_n ?_
        exact p_at (seen ++ [j], rs.set i1 q) ⟨row_put hrk hok.one hnj hjo hqt0 h2 hi1, by have := row_lt hrk hnj hjl; dsimp only; rw [List.length_append, List.length_singleton]; omega⟩ (sub_cons rfl (sub_cons rfl (sub_cons rfl (sub_cons rfl sub_nil)))) (sub_cons rfl (sub_cons rfl (sub_cons rfl (sub_cons (by rfl) (sub_cons rfl sub_nil)))))
      · replace h2 := of_decide_eq_true (bnot_f h2)
        refine T_skip' ?_
        refine p_blk_n ?_
        exact p_at (seen ++ [j], rs) ⟨row_same hrk hok.one hnj hjo hqt0 h2, by have := row_lt hrk hnj hjl; dsimp only; rw [List.length_append, List.length_singleton]; omega⟩ (sub_cons rfl (sub_cons rfl (sub_cons rfl (sub_cons rfl sub_nil)))) (sub_cons rfl (sub_cons rfl (sub_cons rfl (sub_cons (by rfl) (sub_cons rfl sub_nil)))))
end Go.Proofs.Ytmihoejecpcmjaa
/- A copy into a part of a row of one's own, out of cells anywhere. Over any program. -/
namespace Go.Proofs.Ytmihoejecpcmjaa
open Go Go.RowKit
section
variable {P : Program} {w w₀ : World} {ρ : Operand → Value} {d : Option Tmp} {ty : TypeId} {ps : String} {af : Array Edge} {g : Option (Nat × Bool)} {L : Heap}
theorem o_copyG {x y : Operand} {t t2 e : TypeId} {ats : Array TypeId} {n cap B s lo dn dc k m c b off : Nat} {xs news xs' : List Value} (i : Nat) (hi : lk L i = some (.row (.slice (some ⟨B, 0, none⟩) n cap) e s n xs)) (hx : ρ x = .slice (some ⟨B, lo, none⟩) dn dc) (hlo : lo + k * s ≤ n * s) (hy : ρ y = .slice (some ⟨b, off, none⟩) m c) (hat : ats = #[t, t2])
    (ht : sliOf P t = some e) (hs : szOf P e = some s) (hk : min m dn = k) (hlen : news.length = k * s) (hcell : ∀ j u, news[j]? = some u → w.cell? ⟨b, off + j, none⟩ = some u) (hone : ∀ u ∈ news, u.oneCell' = true) (hxs : xs.take lo ++ news ++ xs.drop (lo + news.length) = xs') (hm : MemOk w₀ L w) :
    ∃ w', (execOp ρ (mk d (.call { callee := .builtin .copy, args := #[x, y], argTypes := ats }) ty ps af g)).run P w = .ok (.value (.int .i64 (k : Nat))) w' ∧ MemOk w₀ ((i, .row (.slice (some ⟨B, 0, none⟩) n cap) e s n xs') :: L) w' := by
  subst hat hxs
  have hrow := hm.row i hi
  obtain ⟨ti, hti, hsz⟩ := Option.map_eq_some_iff.1 hs
  suffices hg : ∃ w', (Builtin.copy_ #[t, t2] ty #[.slice (some ⟨B, lo, none⟩) dn dc, .slice (some ⟨b, off, none⟩) m c]).run P w = .ok (.int .i64 (k : Nat)) w' ∧ MemOk w₀ ((i, .row (.slice (some ⟨B, 0, none⟩) n cap) e s n (xs.take lo ++ news ++ xs.drop (lo + news.length))) :: L) w' by
    obtain ⟨w', h1, h2⟩ := hg
    refine ⟨w', ?_, h2⟩
    rw [run_builtin]
    simp only [List.map_toArray, List.map_cons, List.map_nil, hx, hy]
    exact run_v h1
  rcases hrow.2 with ⟨h1, _⟩ | ⟨g, cap', cur, h1, hbg, hg, hnc, hcm, hcs, htk⟩
  · cases h1
  · cases h1
    have hle := Nat.mul_le_mul_right s hnc
    have hld := run_loadCells_list (P := P) w ⟨b, off, none⟩ news (fun j u hu => by rw [addr_add]; exact hcell j u hu)
    have hst := run_storeCells_at P B lo e news 0 cur w hg (by omega) hone
    have hr : (Builtin.copy_ #[t, t2] ty #[.slice (some ⟨B, lo, none⟩) dn dc, .slice (some ⟨b, off, none⟩) m c]).run P w = .ok (.int .i64 (k : Nat)) (w.setRow B (cur.toList.take lo ++ news ++ cur.toList.drop (lo + news.length)).toArray) := by
      simp only [Nat.add_zero] at hst
      have hk' : Nat.min m dn = k := hk
      simp [Builtin.copy_, run_underlying (und_sli ht), Builtin.lenOf, Builtin.firstCells, sizeOf, typeInfo, hti, hsz, goInt, hk', ← hlen, hld]
      simp at hst
      rw [hst]
      rfl
    have hcl : cur.toList.length = cap * s := by rw [Array.length_toList]; exact hcs
    have hxl : xs = cur.toList.take (n * s) := htk.symm
    refine ⟨_, hr, ?_⟩
    refine hm.grow (.inl hi) ⟨rfl, rfl, rfl, by simp, fun k _ hk => setRow_other w B k _ (fun e => hk (by simp [Value.ownBlock, e]))⟩ ⟨?_, .inr ⟨B, cap, _, rfl, hbg, setRow_heap w B cur _ e _ hg, hnc, hcm, ?_, ?_⟩⟩ (.inl rfl)
    · rw [List.length_append, List.length_append, List.length_take, List.length_drop, hrow.1]; omega
    · simp only [List.size_toArray, List.length_append, List.length_take, List.length_drop, hcl]
      omega
    · have hA : (cur.toList.take lo ++ news).length = lo + news.length := by rw [List.length_append, List.length_take]; omega
      show ((cur.toList.take lo ++ news) ++ cur.toList.drop (lo + news.length)).take (n * s) = _
      rw [hxl, List.take_take, Nat.min_eq_left (show lo ≤ n * s by omega), List.drop_take, List.take_append, hA, List.take_of_length_le (by rw [hA]; omega)]
end
end Go.Proofs.Ytmihoejecpcmjaa
/- Deferred calls; calls of what has no body. Over any program. -/
namespace Go.Proofs.Ytmihoejecpcmjaa
open Go Go.RowKit

section
variable {P : Program} {w w' : World} {ρ : Operand → Value} {d : Option Tmp} {ty : TypeId} {ps : String} {af : Array Edge} {g : Option (Nat × Bool)}
/-- A call that comes to a value at once. -/
theorem r_callE {f : Nat} {fop : Operand} {opl : List Operand} {first cap : Array Value} {args : List Value} {ats : Array TypeId} {all : Array Value} {v : Value} (hf : ρ fop = .func (.func f) first cap) (ha : opl.map ρ = args) (hall : first ++ args.toArray ++ cap = all)
    (hr : (callFunc f all).run P w = .ok (.value v) w') : (execOp ρ (mk d (.call { callee := .value fop, args := opl.toArray, argTypes := ats }) ty ps af g)).run P w = .ok (.value v) w' := by
  subst ha hall
  show (do let d ← resolve ρ _ ty; invoke d.target d.args : Sem Next).run P w = _
  simp only [resolve, hf]
  rw [run_bind_ok (a := { target := .fn (.func f) cap, args := first ++ (opl.map ρ).toArray }) (w' := w)]
  · exact hr
  · simp only [Deferred.ofValue, List.map_toArray]
    rfl
end
abbrev Cx.push (C : Cx) (d : Deferred) : Cx := ⟨C.P, C.w₀, C.N, d :: C.D, C.ro⟩
section
variable {C : Cx} {ops : Array Oper} {os : List Oper} {Q : Post} {K : List (Nat × Value)} {L : Heap} {o : Oper}
end
section
variable {C : Cx} {K : List (Nat × Value)} {L : Heap}
end
end Go.Proofs.Ytmihoejecpcmjaa
/- Rows of one's own, changed in the middle: what slices.Insert and slices.Delete ask of append, copy, clear and overlaps. Over any program. -/
namespace Go.Proofs.Ytmihoejecpcmjaa
open Go Go.RowKit
section
variable {P : Program} {w w₀ : World} {ρ : Operand → Value} {d : Option Tmp} {ty : TypeId} {ps : String} {af : Array Edge} {g : Option (Nat × Bool)} {L : Heap}
theorem row_cells {base n s cap B : Nat} {e : TypeId} {xs : List Value} (h : w.ownsRow base e s (.slice (some ⟨B, 0, none⟩) n cap) n xs) : ∃ cur : Array Value, hp w B = some (.cells cur e (0, 0)) ∧ base ≤ B ∧ n ≤ cap ∧ cap ≤ Go.maxLen ∧ cur.size = cap * s ∧ cur.toList.take (n * s) = xs ∧ xs.length = n * s := by
  rcases h.2 with ⟨h1, _⟩ | ⟨g, cap', cur, h1, hbg, hg, hnc, hcm, hcs, htk⟩
  · cases h1
  · cases h1; exact ⟨cur, hg, hbg, hnc, hcm, hcs, htk, h.1⟩
/-- The cells of a row. -/
theorem row_cell {base n s cap B : Nat} {e : TypeId} {xs : List Value} (h : w.ownsRow base e s (.slice (some ⟨B, 0, none⟩) n cap) n xs) {j : Nat} {u : Value} (hu : xs[j]? = some u) : w.cell? ⟨B, j, none⟩ = some u := by
  obtain ⟨cur, hg, _, _, _, _, htk, _⟩ := row_cells h
  have hc : cur[j]? = some u := by
    rw [← htk, List.getElem?_take] at hu
    split at hu
    · rw [← Array.getElem?_toList]; exact hu
    · cases hu
  exact cell_of hg hc
/-- append(s[:q], make(S, k)...), where there is no room: a new row. -/
theorem o_growMid {x y : Operand} {ats : Array TypeId} {t tn e : TypeId} {kn : IntKind} {n s cap by' B q k : Nat} {z : Value} {xs : List Value} (i j : Nat) (hi : lk L i = some (.row (.slice (some ⟨B, 0, none⟩) n cap) e s n xs)) (hj : lk L j = none) (hat : ats = #[t, tn]) (hx : ρ x = .slice (some ⟨B, 0, none⟩) q cap) (hy : ρ y = .int .i64 (k : Nat)) (ht : sliOf P t = some e) (htn : intOf? P tn = some kn)
    (hs : szOf P e = some s) (hs0 : Nat.blt 0 s = true) (hby : byOf P e = some by') (hz : zeroOf P e = some z) (hzs : z.cells.size = s) (hq : q ≤ n) (h0 : 0 < k) (hroom : cap < q + k) (h63 : q + k ≤ 200) (hb : by' ≤ 1000) (hm : MemOk w₀ L w) :
    ∃ (c : Nat × Nat) (w' : World), (execOp ρ (mk d (.call { callee := .builtin .append, args := #[x, y], argTypes := ats }) ty ps af g)).run P w = .ok (.value (.slice (some ⟨c.1, 0, none⟩) (q + k) c.2)) w' ∧
      MemOk w₀ ((j, .row (.slice (some ⟨c.1, 0, none⟩) (q + k) c.2) e s (q + k) (xs.take (q * s) ++ (List.replicate k z.cells.toList).flatten)) :: L) w' := by
  subst hat
  obtain ⟨ti, hti, hsz⟩ := Option.map_eq_some_iff.1 hs
  obtain ⟨ti', hti', hbz⟩ := Option.map_eq_some_iff.1 hby
  rw [hti] at hti'; cases hti'
  have hzz : ti.zero = some z := by simpa [zeroOf, hti] using hz
  have hs1 : 0 < s := by rw [Nat.blt_eq] at hs0; exact hs0
  have hrow := hm.row i hi
  obtain ⟨cur, hg, hbg, hnc, hcm, hcs, htk, hxl⟩ := row_cells hrow
  have hqs : q * s ≤ n * s := Nat.mul_le_mul_right s hq
  have hol : (xs.take (q * s)).length = q * s := by rw [List.length_take]; omega
  have hold : (Builtin.firstCells ti.size q (.slice (some ⟨B, 0, none⟩) q cap)).run P w.drew = .ok (xs.take (q * s)).toArray w.drew := by
    rw [hsz]
    refine run_firstCells_some w.drew s q ⟨B, 0, none⟩ q cap (xs.take (q * s)) hol (fun j' u hu => ?_)
    rw [addr_add, Nat.zero_add]
    rw [List.getElem?_take] at hu
    split at hu
    · exact row_cell hrow hu
    · cases hu
  have hnb2 : Builtin.nextslicecap (q + k) cap ≤ 400 := by
    unfold Builtin.nextslicecap
    split
    · omega
    · rw [if_pos (by omega)]; omega
  have h1 : Builtin.nextslicecap (q + k) cap * ti.bytes ≤ 400 * 1000 := Nat.mul_le_mul hnb2 (by rw [hbz]; exact hb)
  have h2 : k * ti.bytes ≤ 200 * 1000 := Nat.mul_le_mul (by omega) (by rw [hbz]; exact hb)
  have hr := Go.Lib.run_append_grow_zeros (P := P) w t tn ty e ti z .i64 kn (und_sli ht) (und_int htn) hti hzz (some ⟨B, 0, none⟩) q cap _ hold k h0 (by rw [hsz]; exact hs1) hroom (by omega) (by omega) (by omega)
  refine ⟨(w.heap.size, grownCap w (q + k) cap e), _, by rw [run_builtin]; simp only [List.map_toArray, List.map_cons, List.map_nil, hx, hy]; exact run_v hr, ?_⟩
  have hcm2 : grownCap w (q + k) cap e ≤ Go.maxLen := grownCap_le_maxLen w (q + k) cap e (by unfold Go.maxLen; omega)
  have hge := grownCap_ge w (q + k) cap e
  have hzl : ∀ m : Nat, (Builtin.zeroCells z.cells m).toList = (List.replicate m z.cells.toList).flatten := fun m => by
    have e : Builtin.zeroCells z.cells m = madeCells z.cells (m * s) := by unfold Builtin.zeroCells madeCells; rw [hzs]
    rw [e]; exact made_toList hzs hs1 m
  refine hm.grow (v := .slice none 0 0) (n := 0) (xs := []) (.inr ⟨hj, (rfl : (Value.slice none 0 0).ownBlock = none)⟩) ⟨rfl, rfl, rfl, by simp, fun k hk _ => Go.heap_alloc_old w.drew _ k hk⟩ ⟨?_, .inr ⟨w.heap.size, _, _, rfl, hm.ext.size, Go.heap_alloc_new w.drew _, hge, hcm2, ?_, ?_⟩⟩ (.inr rfl)
  · rw [List.length_append, hol, ← hzl, Array.length_toList, size_zeroCells, hzs, Nat.add_mul]
  · simp only [Array.size_append, List.size_toArray, hol, size_zeroCells, hzs, ← Nat.add_mul]
    congr 1; omega
  · have hl2 : (xs.take (q * s) ++ (List.replicate k z.cells.toList).flatten).length = (q + k) * s := by rw [List.length_append, hol, ← hzl, Array.length_toList, size_zeroCells, hzs, Nat.add_mul]
    simp only [Array.toList_append, hzl]
    rw [List.take_append_of_le_length (by rw [hl2]; exact Nat.le_refl _)]
    exact List.take_of_length_le (by rw [hl2]; exact Nat.le_refl _)
theorem shape_of {w : World} {b : Nat} {cs : Array Value} {T : TypeId} {fz : Nat × Nat} (h : hp w b = some (.cells cs T fz)) : w.shape? b = some (T, cs.size) := by
  unfold World.shape?
  rw [show w.heap[b]? = some (.cells cs T fz) from h]
theorem isOne_cell {u : Value} (h : isOne u = true) : u.oneCell' = true := h
/-- One more of a row that has room: whatever lies there. -/
theorem T_more {C : Cx} {c : Code} {Q : Post} {K : List (Nat × Value)} {L : Heap} {n cap s B : Nat} {e : TypeId} {xs : List Value} (i : Nat) (hi : lk L i = some (.row (.slice (some ⟨B, 0, none⟩) n cap) e s n xs)) (hn : n + 1 ≤ cap)
    (h : ∀ ys : List Value, ys.length = s → T C c Q K ((i, .row (.slice (some ⟨B, 0, none⟩) (n + 1) cap) e s (n + 1) (xs ++ ys)) :: L)) : T C c Q K L := fun a w hf hm => by
  obtain ⟨cur, hg, hbg, hnc, hcm, hcs, htk, hxl⟩ := row_cells (hm.row i hi)
  have h1 : (n + 1) * s ≤ cap * s := Nat.mul_le_mul_right s hn
  have h2 : (n + 1) * s = n * s + s := by rw [Nat.add_mul, Nat.one_mul]
  have hcl : cur.toList.length = cap * s := by rw [Array.length_toList]; exact hcs
  have hys : ((cur.toList.drop (n * s)).take s).length = s := by rw [List.length_take, List.length_drop]; omega
  refine h _ hys a w hf (hm.grow (.inl hi) ⟨rfl, rfl, rfl, Nat.le_refl _, fun _ _ _ => rfl⟩ ⟨by rw [List.length_append, hxl, hys, h2], .inr ⟨B, cap, cur, rfl, hbg, hg, hn, hcm, hcs, ?_⟩⟩ (.inl rfl))
  rw [h2, List.take_add, htk]
/-- append(s[:q], s[p:]...), of one row, in place. -/
theorem o_appDel {x y : Operand} {ats : Array TypeId} {t e : TypeId} {n s cap B q p m c : Nat} {xs : List Value} (i : Nat) (hi : lk L i = some (.row (.slice (some ⟨B, 0, none⟩) n cap) e s n xs)) (hat : ats = #[t, t]) (hx : ρ x = .slice (some ⟨B, 0, none⟩) q cap) (hy : ρ y = .slice (some ⟨B, p * s, none⟩) m c) (ht : sliOf P t = some e)
    (hs : szOf P e = some s) (hp : p + m = n) (hqp : q ≤ p) (hone : ∀ u ∈ xs, u.oneCell' = true) (hm : MemOk w₀ L w) :
    ∃ w', (execOp ρ (mk d (.call { callee := .builtin .append, args := #[x, y], argTypes := ats }) ty ps af g)).run P w = .ok (.value (.slice (some ⟨B, 0, none⟩) (q + m) cap)) w' ∧ MemOk w₀ ((i, .row (.slice (some ⟨B, 0, none⟩) (q + m) cap) e s (q + m) (xs.take (q * s) ++ xs.drop (p * s))) :: L) w' := by
  subst hat
  have hrow := hm.row i hi
  obtain ⟨cur, hg, hbg, hnc, hcm, hcs, htk, hxl⟩ := row_cells hrow
  obtain ⟨ti, hti, hsz⟩ := Option.map_eq_some_iff.1 hs
  have hcl : cur.toList.length = cap * s := by rw [Array.length_toList]; exact hcs
  have hps : p * s + m * s = n * s := by rw [← hp, Nat.add_mul]
  have hqs : q * s ≤ p * s := Nat.mul_le_mul_right s hqp
  have hns : n * s ≤ cap * s := Nat.mul_le_mul_right s hnc
  have hdl : (xs.drop (p * s)).length = m * s := by rw [List.length_drop]; omega
  have hr := run_append_room (P := P) w t ty e ti (und_sli ht) hti B q cap cur hg ⟨B, p * s, none⟩ m c (xs.drop (p * s)) (by rw [hsz]; exact hdl)
    (fun j u hu => by rw [addr_add]; rw [List.getElem?_drop] at hu; exact row_cell hrow hu) (fun u hu => hone u (List.mem_of_mem_drop hu)) (by omega) (by rw [hsz, hdl]; omega)
  rw [hsz] at hr
  refine ⟨_, by rw [run_builtin]; simp only [List.map_toArray, List.map_cons, List.map_nil, hx, hy]; exact run_v hr, ?_⟩
  have htx : cur.toList.take (q * s) = xs.take (q * s) := by rw [← htk, List.take_take, Nat.min_eq_left (by omega)]
  refine hm.grow (.inl hi) ⟨rfl, rfl, rfl, by simp, fun k _ hk => setRow_other w B k _ (fun e => hk (by simp [Value.ownBlock, e]))⟩ ⟨?_, .inr ⟨B, cap, _, rfl, hbg, setRow_heap w B cur _ e _ hg, by omega, hcm, ?_, ?_⟩⟩ (.inl rfl)
  · rw [List.length_append, List.length_take, hdl, Nat.add_mul]; omega
  · simp only [List.size_toArray, List.length_append, List.length_take, List.length_drop, hcl, hxl]; omega
  · rw [htx]
    have hl2 : (xs.take (q * s) ++ xs.drop (p * s)).length = (q + m) * s := by rw [List.length_append, List.length_take, hdl, Nat.add_mul]; omega
    show ((xs.take (q * s) ++ xs.drop (p * s)) ++ _).take ((q + m) * s) = _
    rw [List.take_append_of_le_length (by rw [hl2]; exact Nat.le_refl _)]
    exact List.take_of_length_le (by rw [hl2]; exact Nat.le_refl _)
/-- clear of what lies behind a row. -/
theorem o_clearTail {x : Operand} {t e : TypeId} {n s cap B k c : Nat} {z : Value} {xs : List Value} (i : Nat) (hi : lk L i = some (.row (.slice (some ⟨B, 0, none⟩) n cap) e s n xs)) (hx : ρ x = .slice (some ⟨B, n * s, none⟩) (k + 1) c) (ht : sliOf P t = some e)
    (hs : szOf P e = some s) (hz : zeroOf P e = some z) (hzs : z.cells.size = s) (hzo : z.cells.toList.all isOne = true) (hs0 : Nat.blt 0 s = true) (hk : n + (k + 1) ≤ cap) (hm : MemOk w₀ L w) :
    ∃ w', (execOp ρ (mk none (.call { callee := .builtin .clear, args := #[x], argTypes := #[t] }) ty ps af g)).run P w = .ok (.value (.tuple #[])) w' ∧ MemOk w₀ ((i, .row (.slice (some ⟨B, 0, none⟩) n cap) e s n xs) :: L) w' := by
  have hrow := hm.row i hi
  obtain ⟨cur, hg, hbg, hnc, hcm, hcs, htk, hxl⟩ := row_cells hrow
  obtain ⟨ti, hti, hsz⟩ := Option.map_eq_some_iff.1 hs
  have hzz : ti.zero = some z := by simpa [zeroOf, hti] using hz
  have hs1 : 0 < s := by rw [Nat.blt_eq] at hs0; exact hs0
  have hcl : cur.toList.length = cap * s := by rw [Array.length_toList]; exact hcs
  have e1 : Builtin.zeroCells z.cells (k + 1) = madeCells z.cells ((k + 1) * s) := by unfold Builtin.zeroCells madeCells; rw [hzs]
  have hzl : (Builtin.zeroCells z.cells (k + 1)).toList = (List.replicate (k + 1) z.cells.toList).flatten := by rw [e1]; exact made_toList hzs hs1 _
  obtain ⟨news, hnews⟩ : ∃ l, l = (List.replicate (k + 1) z.cells.toList).flatten := ⟨_, rfl⟩
  have hnl : news.length = (k + 1) * s := by rw [hnews, ← hzl, Array.length_toList, size_zeroCells, hzs]
  have hle : n * s + (k + 1) * s ≤ cap * s := by rw [← Nat.add_mul]; exact Nat.mul_le_mul_right s hk
  have hone : ∀ u ∈ news, u.oneCell' = true := fun u hu => by
    rw [hnews] at hu
    obtain ⟨l, hl, hul⟩ := List.mem_flatten.1 hu
    rw [List.eq_of_mem_replicate hl] at hul
    exact isOne_cell (List.all_eq_true.1 hzo u hul)
  have hst := run_storeCells_at P B (n * s) e news 0 cur w hg (by omega) hone
  simp only [Nat.add_zero] at hst
  refine ⟨w.setRow B (cur.toList.take (n * s) ++ news ++ cur.toList.drop (n * s + news.length)).toArray, ?_, ?_⟩
  · rw [run_builtin]
    simp only [List.map_toArray, List.map_cons, List.map_nil, hx]
    refine run_v ?_
    show (Builtin.clear_ #[t] _ _).run P w = _
    simp [Builtin.clear_, run_underlying (und_sli ht), zeroValue, typeInfo, hti, hzz, hzl, ← hnews]
    simp at hst
    rw [hst]
    rfl
  · refine hm.grow (.inl hi) ⟨rfl, rfl, rfl, by simp, fun k _ hk => setRow_other w B k _ (fun e => hk (by simp [Value.ownBlock, e]))⟩ ⟨hxl, .inr ⟨B, cap, _, rfl, hbg, setRow_heap w B cur _ e _ hg, hnc, hcm, ?_, ?_⟩⟩ (.inl rfl)
    · simp only [List.size_toArray, List.length_append, List.length_take, List.length_drop, hcl]; omega
    · show ((cur.toList.take (n * s) ++ news) ++ _).take (n * s) = xs
      rw [List.append_assoc, List.take_append_of_le_length (by rw [List.length_take]; omega), List.take_take, Nat.min_self]; exact htk
/-- slices.overlaps, of a block and a row. -/
theorem run_overlapsX {f : FuncId} {fn : Func} {tS tR e T : TypeId} {n s cap B Bv i j off la ca lb cb : Nat} {xs : List Value} {cs : Array Value} (hf : P.funcs[f]? = some fn) (hname : (fn.name == "runtime.NumGoroutine") = false) (hb : fn.body.isNone = true) (hn : Extern.findNext fn = none) (he : Extern.find fn = some (Extern.SlicesOverlaps.overlaps #[tS, tS] #[tR])) (ht : sliOf P tS = some e) (hs : szOf P e = some s)
    (hi : lk L i = some (.row (.slice (some ⟨B, 0, none⟩) n cap) e s n xs)) (hj : lk L j = some (.blk Bv (.cells cs T (0, 0)))) (hij : Nat.beq i j = false) (hn0 : 0 < n) (hs0 : Nat.blt 0 s = true) (hm : MemOk w₀ L w) :
    (callFunc f #[.slice (some ⟨Bv, 0, none⟩) la ca, .slice (some ⟨B, off, none⟩) lb cb]).run P w = .ok (.value (.bool false)) w := by
  obtain ⟨cur, hg, hbg, hnc, hcm, hcs, htk, hxl⟩ := row_cells (hm.row i hi)
  obtain ⟨ti, hti, hsz⟩ := Option.map_eq_some_iff.1 hs
  have hs1 : 0 < s := by rw [Nat.blt_eq] at hs0; exact hs0
  have hv := hm.at j hj
  have hne : Bv ≠ B := fun e => hm.sep i j _ _ hi hj (fun e => by subst e; rw [Nat.beq_refl] at hij; cases hij) B rfl (by rw [← e]; rfl)
  rw [run_callFunc_extern hf hname hb hn he, Go.Lib.run_overlaps_apart w tS tR e (und_sli ht) s (fun w => by simp [sizeOf, typeInfo, hti, hsz]) ⟨Bv, 0, none⟩ ⟨B, off, none⟩ la ca lb cb hne T e cs.size cur.size (shape_of hv) (shape_of hg) (by
    have : 1 * 1 ≤ cap * s := Nat.mul_le_mul (by omega) hs1
    omega) (frozen_of_row w Bv 0 cs T hv) (frozen_of_row w Bv _ cs T hv)]
  rfl
end
end Go.Proofs.Ytmihoejecpcmjaa
/- marks: ids and marks (plainly). -/
namespace Go.Proofs.Ytmihoejecpcmjaa
open Go Go.RowKit
/-- An id. -/
structure Tid where
  t : Int
  s : Int
  q : Int
abbrev Tid.cells (i : Tid) : List Value := [.int .u64 i.t, .int .i64 i.s, .int .u64 i.q]
theorem Tid.cells_len (i : Tid) : i.cells.length = 3 := rfl
theorem Tid.cells_one : ∀ x : Tid, ∀ u ∈ x.cells, u.oneCell' = true := fun x u hu => by
  rcases List.mem_cons.1 hu with rfl | hu
  · rfl
  rcases List.mem_cons.1 hu with rfl | hu
  · rfl
  rw [List.mem_singleton.1 hu]; rfl
abbrev Tid.v (i : Tid) : Value := .agg #[.int .u64 i.t, .int .i64 i.s, .int .u64 i.q]
instance tidDec : DecidableEq Tid := fun x y =>
  if h : x.t = y.t ∧ x.s = y.s ∧ x.q = y.q then .isTrue (by cases x; cases y; obtain ⟨h1, h2, h3⟩ := h; cases h1; cases h2; cases h3; rfl) else .isFalse fun e => h (by subst e; exact ⟨rfl, rfl, rfl⟩)
theorem eqTid (x y : Tid) : eqI #[.int .u64 x.t, .int .i64 x.s, .int .u64 x.q] #[.int .u64 y.t, .int .i64 y.s, .int .u64 y.q] [(0, .u64), (1, .i64), (2, .u64)] = decide (x = y) := by
  show (decide (x.t = y.t) && (decide (x.s = y.s) && (decide (x.q = y.q) && true))) = _
  rw [Bool.and_true, ← Bool.decide_and, ← Bool.decide_and]
  exact decide_eq_decide.2 ⟨fun ⟨h1, h2, h3⟩ => by cases x; cases y; cases h1; cases h2; cases h3; rfl, fun e => by subst e; exact ⟨rfl, rfl, rfl⟩⟩
theorem tid_ext {x y : Tid} (h1 : x.t = y.t) (h2 : x.s = y.s) (h3 : x.q = y.q) : x = y := by cases x; cases y; cases h1; cases h2; cases h3; rfl
def okI (i : Tid) : Bool := decide (1 ≤ i.t ∧ i.t ≤ 4611686018427387904 ∧ 1 ≤ i.s ∧ i.s ≤ 8 ∧ 1 ≤ i.q ∧ i.q ≤ 4611686018427387904)
def lessI (a b : Tid) : Bool := decide (a.t < b.t ∨ a.t = b.t ∧ (a.s < b.s ∨ a.s = b.s ∧ a.q < b.q))
theorem less_iff {a b : Tid} : lessI a b = true ↔ (a.t < b.t ∨ a.t = b.t ∧ (a.s < b.s ∨ a.s = b.s ∧ a.q < b.q)) := decide_eq_true_iff
theorem less_irr (a : Tid) : ¬ lessI a a = true := by rw [less_iff]; omega
theorem less_trans {a b c : Tid} (h1 : lessI a b = true) (h2 : lessI b c = true) : lessI a c = true := by rw [less_iff] at *; omega
theorem less_tri (a b : Tid) : lessI a b = true ∨ a = b ∨ lessI b a = true := by
  by_cases h1 : lessI a b = true
  · exact .inl h1
  · by_cases h2 : lessI b a = true
    · exact .inr (.inr h2)
    · rw [less_iff] at h1 h2
      exact .inr (.inl (tid_ext (by omega) (by omega) (by omega)))
def cmpI (x y : Int) : Int := if x < y then -1 else if y < x then 1 else 0
def orI (x y z : Int) : Int := if x ≠ 0 then x else if y ≠ 0 then y else z
def compI (a b : Tid) : Int := if a = b then 0 else orI (cmpI a.t b.t) (cmpI a.s b.s) (cmpI a.q b.q)
theorem less_comp (a b : Tid) : decide (compI a b < 0) = lessI a b := by
  unfold lessI
  refine decide_eq_decide.2 ?_
  unfold compI
  by_cases e : a = b
  · subst e; rw [if_pos rfl]; omega
  · rw [if_neg e]
    have hne : ¬ (a.t = b.t ∧ a.s = b.s ∧ a.q = b.q) := fun h => e (tid_ext h.1 h.2.1 h.2.2)
    unfold orI cmpI
    repeat' split
    all_goals omega
/-- Do ids rise, each of them being one? -/
def risesB : List Tid → Bool
  | [] => true
  | a :: r => okI a && ((match r with | [] => true | b :: _ => lessI a b) && risesB r)
theorem rises_cons {a b : Tid} {r : List Tid} : risesB (a :: b :: r) = (okI a && (lessI a b && risesB (b :: r))) := rfl
/-- Place by place. -/
theorem rises_at : ∀ {l : List Tid}, risesB l = true ↔ (∀ k x, l[k]? = some x → okI x = true ∧ ∀ y, l[k + 1]? = some y → lessI x y = true)
  | [] => ⟨fun _ k x h => by simp at h, fun _ => rfl⟩
  | [a] => by
    constructor
    · intro h k x hx
      have h1 : okI a = true := by
        unfold risesB at h
        exact (Bool.and_eq_true _ _ ▸ h).1
      cases k with
      | zero => cases hx; exact ⟨h1, fun y hy => by cases hy⟩
      | succ k => simp at hx
    · intro h
      have := (h 0 a rfl).1
      unfold risesB
      rw [this]; rfl
  | a :: b :: r => by
    rw [rises_cons, Bool.and_eq_true, Bool.and_eq_true, rises_at (l := b :: r)]
    constructor
    · rintro ⟨h1, h2, h3⟩ k x hx
      cases k with
      | zero => cases hx; exact ⟨h1, fun y hy => by cases hy; exact h2⟩
      | succ k => exact h3 k x hx
    · intro h
      exact ⟨(h 0 a rfl).1, (h 0 a rfl).2 b rfl, fun k x hx => h (k + 1) x hx⟩
theorem rises_right {l : List Tid} (h : risesB l = true) : ∀ x ∈ l, okI x = true := fun x hx => by
  obtain ⟨k, hk⟩ := List.getElem?_of_mem hx
  exact ((rises_at.1 h) k x hk).1
theorem rises_step {l : List Tid} {k : Nat} {x : Tid} (h : risesB (l.take k) = true) (hx : l[k]? = some x) (hr : okI x = true) (hl : ∀ y, 0 < k → l[k - 1]? = some y → lessI y x = true) : risesB (l.take (k + 1)) = true := by
  rw [rises_at] at h ⊢
  intro j z hz
  rw [List.getElem?_take] at hz
  split at hz
  · rename_i hj
    by_cases e : j = k
    · subst e
      rw [hx] at hz; cases hz
      refine ⟨hr, fun y hy => ?_⟩
      rw [List.getElem?_take, if_neg (by omega)] at hy; cases hy
    · have hjk : j < k := by omega
      have h1 := h j z (by rw [List.getElem?_take, if_pos hjk]; exact hz)
      refine ⟨h1.1, fun y hy => ?_⟩
      rw [List.getElem?_take] at hy
      split at hy
      · by_cases e2 : j + 1 = k
        · have : y = x := by rw [e2, hx] at hy; exact (Option.some.inj hy).symm
          subst this
          exact hl z (by omega) (by rw [show k - 1 = j by omega]; exact hz)
        · exact h1.2 y (by rw [List.getElem?_take, if_pos (by omega)]; exact hy)
      · cases hy
  · cases hz
theorem rises_less {l : List Tid} (h : risesB l = true) {k : Nat} {x y : Tid} (hk : 0 < k) (hy : l[k - 1]? = some y) (hx : l[k]? = some x) : lessI y x = true := ((rises_at.1 h) (k - 1) y hy).2 x (by rw [show k - 1 + 1 = k by omega]; exact hx)
theorem rises_pair : ∀ {l : List Tid}, risesB l = true → l.Pairwise fun x y => lessI x y = true
  | [], _ => List.Pairwise.nil
  | [a], _ => List.pairwise_singleton _ _
  | a :: b :: r, h => by
    rw [rises_cons, Bool.and_eq_true, Bool.and_eq_true] at h
    have ih := rises_pair h.2.2
    refine List.pairwise_cons.2 ⟨fun y hy => ?_, ih⟩
    rcases List.mem_cons.1 hy with rfl | hy
    · exact h.2.1
    · exact less_trans h.2.1 ((List.pairwise_cons.1 ih).1 y hy)
/-- A mark: an id, and a canvas (or none). -/
structure Mk where
  i : Tid
  c : Option Cv
abbrev Mk.ptr (m : Mk) : Option Addr := m.c.map fun c => ⟨c.p, 0, none⟩
abbrev Mk.cells (m : Mk) : List Value := [.int .u64 m.i.t, .int .i64 m.i.s, .int .u64 m.i.q, .pointer m.ptr]
theorem Mk.cells_len (m : Mk) : m.cells.length = 4 := rfl
theorem Mk.cells_one : ∀ x : Mk, ∀ u ∈ x.cells, u.oneCell' = true := fun x u hu => by
  rcases List.mem_cons.1 hu with rfl | hu
  · rfl
  rcases List.mem_cons.1 hu with rfl | hu
  · rfl
  rcases List.mem_cons.1 hu with rfl | hu
  · rfl
  rw [List.mem_singleton.1 hu]; rfl
abbrev Mk.v (m : Mk) : Value := .agg #[.int .u64 m.i.t, .int .i64 m.i.s, .int .u64 m.i.q, .pointer m.ptr]
theorem ptr_none (m : Mk) : m.ptr.isNone = !m.c.isSome := by cases m with | mk i c => cases c <;> rfl
abbrev idsM (l : List Mk) : List Tid := l.map Mk.i
def okM (m : Mk) : Bool := okI m.i && m.c.isSome
/-- May these be marks? -/
def marksB (l : List Mk) : Bool := risesB (idsM l) && (l.all (·.c.isSome) && decide (l.length ≤ 6))
theorem marksB_iff {l : List Mk} : marksB l = true ↔ risesB (idsM l) = true ∧ (∀ m ∈ l, m.c.isSome = true) ∧ l.length ≤ 6 := by
  unfold marksB
  rw [Bool.and_eq_true, Bool.and_eq_true, List.all_eq_true, decide_eq_true_iff]
theorem ids_at {l : List Mk} {k : Nat} {m : Mk} (h : l[k]? = some m) : (idsM l)[k]? = some m.i := by rw [List.getElem?_map, h]; rfl
theorem ids_len (l : List Mk) : (idsM l).length = l.length := List.length_map _
theorem ids_take (l : List Mk) (k : Nat) : idsM (l.take k) = (idsM l).take k := by unfold idsM; rw [List.map_take]
/-! ### putting -/
/-- How many stand ahead of an id. -/
def aheadL (l : List Tid) (i : Tid) : Nat := (l.filter fun x => lessI x i).length
theorem ahead_le (l : List Tid) (i : Tid) : aheadL l i ≤ l.length := List.length_filter_le _ _
theorem ahead_step {l : List Tid} {k : Nat} {x i : Tid} (h : l[k]? = some x) : aheadL (l.take (k + 1)) i = aheadL (l.take k) i + (if lessI x i = true then 1 else 0) := by
  unfold aheadL
  rw [List.take_add_one, h, List.filter_append, List.length_append]
  congr 1
  show (List.filter _ [x]).length = _
  rw [List.filter_cons, List.filter_nil]
  split
  · rfl
  · rfl
def insG {α : Type} (key : α → Tid) (l : List α) (x : α) : List α :=
  if (l.map key)[aheadL (l.map key) (key x)]? = some (key x) then l.set (aheadL (l.map key) (key x)) x else l.take (aheadL (l.map key) (key x)) ++ x :: l.drop (aheadL (l.map key) (key x))
def longI (ts : List Int) (k : Nat) : Int := IntKind.wrap .u64 (ts.getD (k + 1) 0 - ts.getD (k - 1) 0)
/-- Of the places 1 to k the one that is left out, and how long it is there. -/
def outF (ts : List Int) : Nat → Nat × Int
  | 0 => (0, 0)
  | k + 1 => if (outF ts k).1 = 0 ∨ longI ts (k + 1) < (outF ts k).2 then (k + 1, longI ts (k + 1)) else outF ts k
def outN (ts : List Int) : Nat := (outF ts (ts.length - 2)).1
def timesG {α : Type} (key : α → Tid) (l : List α) : List Int := l.map fun x => (key x).t
def putG {α : Type} (key : α → Tid) (l : List α) (x : α) : List α :=
  if (insG key l x).length ≤ 6 then insG key l x else (insG key l x).eraseIdx (outN (timesG key (insG key l x)))
theorem insG_map {α β : Type} {key : α → Tid} {key' : β → Tid} {f : α → β} (h : ∀ x, key' (f x) = key x) (l : List α) (x : α) : (insG key l x).map f = insG key' (l.map f) (f x) := by
  have e : (l.map f).map key' = l.map key := by rw [List.map_map]; exact List.map_congr_left fun y _ => h y
  unfold insG
  rw [e, h]
  split
  · rw [List.map_set]
  · rw [List.map_append, List.map_cons, List.map_take, List.map_drop]
theorem times_map {α β : Type} {key : α → Tid} {key' : β → Tid} {f : α → β} (h : ∀ x, key' (f x) = key x) (l : List α) : timesG key' (l.map f) = timesG key l := by
  unfold timesG
  rw [List.map_map]
  exact List.map_congr_left fun y _ => by show (key' (f y)).t = _; rw [h]
theorem map_erase {α β : Type} (f : α → β) : ∀ (l : List α) (i : Nat), (l.eraseIdx i).map f = (l.map f).eraseIdx i
  | [], _ => rfl
  | _ :: _, 0 => rfl
  | a :: l, i + 1 => by show f a :: (l.eraseIdx i).map f = f a :: (l.map f).eraseIdx i; rw [map_erase f l i]
theorem putG_map {α β : Type} {key : α → Tid} {key' : β → Tid} {f : α → β} (h : ∀ x, key' (f x) = key x) (l : List α) (x : α) : (putG key l x).map f = putG key' (l.map f) (f x) := by
  unfold putG
  rw [← insG_map h, List.length_map, times_map h]
  split
  · rfl
  · exact map_erase f _ _
theorem insG_len {α : Type} (key : α → Tid) (l : List α) (x : α) : l.length ≤ (insG key l x).length ∧ (insG key l x).length ≤ l.length + 1 := by
  unfold insG
  split
  · rw [List.length_set]; omega
  · rw [List.length_append, List.length_cons, List.length_take, List.length_drop]; omega
theorem out_bound (ts : List Int) : ∀ k, (outF ts k).1 ≤ k ∧ (0 < k → 1 ≤ (outF ts k).1)
  | 0 => ⟨Nat.le_refl _, fun h => absurd h (Nat.lt_irrefl _)⟩
  | k + 1 => by
    obtain ⟨h1, h2⟩ := out_bound ts k
    unfold outF
    split
    · exact ⟨Nat.le_refl _, fun _ => Nat.succ_le_succ (Nat.zero_le _)⟩
    · rename_i h
      refine ⟨by omega, fun _ => ?_⟩
      have : ¬ (outF ts k).1 = 0 := fun e => h (.inl e)
      omega
theorem putG_len {α : Type} (key : α → Tid) {l : List α} (x : α) (h : l.length ≤ 6) : (putG key l x).length ≤ 6 := by
  have := insG_len key l x
  unfold putG
  split
  · assumption
  · have ho := (out_bound (timesG key (insG key l x)) ((timesG key (insG key l x)).length - 2))
    have hl : (timesG key (insG key l x)).length = (insG key l x).length := List.length_map _
    rw [List.length_eraseIdx_of_lt (by unfold outN; omega)]
    omega
def putsG {α : Type} (key : α → Tid) (l xs : List α) : List α := xs.foldl (putG key) l
theorem putsG_map {α β : Type} {key : α → Tid} {key' : β → Tid} {f : α → β} (h : ∀ x, key' (f x) = key x) : ∀ (xs l : List α), (putsG key l xs).map f = putsG key' (l.map f) (xs.map f)
  | [], l => rfl
  | x :: xs, l => by
    show (putsG key (putG key l x) xs).map f = putsG key' (putG key' (l.map f) (f x)) (xs.map f)
    rw [putsG_map h xs, putG_map h]
theorem putsG_step {α : Type} (key : α → Tid) {l xs : List α} {k : Nat} {x : α} (h : xs[k]? = some x) : putsG key l (xs.take (k + 1)) = putG key (putsG key l (xs.take k)) x := by
  unfold putsG
  rw [List.take_add_one, h, List.foldl_append]; rfl
end Go.Proofs.Ytmihoejecpcmjaa
/- net and journal: ids compared. Printed by a program of this seat's prover. -/
namespace Go.Proofs.Ytmihoejecpcmjaa
open Go Go.RowKit
set_option maxRecDepth 10000
abbrev inc (n : Int) : List Value := [.int .i64 n]
theorem inc_len (n : Int) : (inc n).length = 1 := rfl
theorem nan_u (x : Int) (w : World) : Calls Try.prog 77 #[.int .u64 x] w fun e w' => e = .returned (.bool false) ∧ Below w.heap.size w w' := by
  refine calls_of_T (l := [.int .u64 x]) 6 Try.func77 rfl rfl rfl ?_
  show T _ _ _ [(0, .int .u64 x)] []
  refine T_seq (T_region ?_)
  refine TL_q (.bool false) (fun _ _ hρ _ => r_assign (hρ _ _ rfl)) rfl rfl rfl (w_n rfl) ?_
  refine TL_seq ?_
  refine T_seq (T_region ?_)
  refine TL_q (.int .u64 x) (fun _ _ hρ _ => r_move (hρ _ _ rfl)) rfl rfl rfl (w_n rfl) ?_
  refine TL_q (.int .u64 x) (fun _ _ hρ _ => r_move (hρ _ _ rfl)) rfl rfl rfl (w_n rfl) ?_
  refine TL_q (.bool false) (fun _ _ hρ _ => r_as (r_neq (hρ _ _ rfl) (hρ _ _ rfl)) (bool_as (by simp))) rfl rfl rfl (w_n rfl) ?_
  refine TL_q (.bool false) (fun _ _ hρ _ => r_assign (hρ _ _ rfl)) rfl rfl rfl (w_n rfl) ?_
  refine TL_seq ?_
  refine T_ret' ?_
  refine ret_of rfl (.bool false) (fun tmps w hk hm => res1 rfl (res_tmp (hk 2 _ rfl))) (fun w hm => ?_)
  exact ⟨rfl, hm.ext⟩

theorem nan_i (x : Int) (w : World) : Calls Try.prog 78 #[.int .i64 x] w fun e w' => e = .returned (.bool false) ∧ Below w.heap.size w w' := by
  refine calls_of_T (l := [.int .i64 x]) 6 Try.func78 rfl rfl rfl ?_
  show T _ _ _ [(0, .int .i64 x)] []
  refine T_seq (T_region ?_)
  refine TL_q (.bool false) (fun _ _ hρ _ => r_assign (hρ _ _ rfl)) rfl rfl rfl (w_n rfl) ?_
  refine TL_seq ?_
  refine T_seq (T_region ?_)
  refine TL_q (.int .i64 x) (fun _ _ hρ _ => r_move (hρ _ _ rfl)) rfl rfl rfl (w_n rfl) ?_
  refine TL_q (.int .i64 x) (fun _ _ hρ _ => r_move (hρ _ _ rfl)) rfl rfl rfl (w_n rfl) ?_
  refine TL_q (.bool false) (fun _ _ hρ _ => r_as (r_neq (hρ _ _ rfl) (hρ _ _ rfl)) (bool_as (by simp))) rfl rfl rfl (w_n rfl) ?_
  refine TL_q (.bool false) (fun _ _ hρ _ => r_assign (hρ _ _ rfl)) rfl rfl rfl (w_n rfl) ?_
  refine TL_seq ?_
  refine T_ret' ?_
  refine ret_of rfl (.bool false) (fun tmps w hk hm => res1 rfl (res_tmp (hk 2 _ rfl))) (fun w hm => ?_)
  exact ⟨rfl, hm.ext⟩

theorem cmp_u (x y : Int) (w : World) : Calls Try.prog 67 #[.int .u64 x, .int .u64 y] w fun e w' => e = .returned (.int .i64 (cmpI x y)) ∧ Below w.heap.size w w' := by
  refine calls_of_T (l := [.int .u64 x, .int .u64 y]) 20 Try.func67 rfl rfl rfl ?_
  show T _ _ _ [(0, .int .u64 x), (1, .int .u64 y)] []
  refine T_seq (T_region ?_)
  refine TL_q (.int .i64 0) (fun _ _ hρ _ => r_assign (hρ _ _ rfl)) rfl rfl rfl (w_n rfl) ?_
  refine TL_seq ?_
  refine T_seq (T_region ?_)
  refine TL_q (.int .u64 x) (fun _ _ hρ _ => r_move (hρ _ _ rfl)) rfl rfl rfl (w_n rfl) ?_
  refine TL_call (.bool false) (fun _ _ hρ _ => r_call (args := [.int .u64 x]) (enters_of Try.func77 (by kernel_rfl) rfl) (hρ _ _ rfl) ((cons2 (hρ _ _ rfl) rfl)) rfl) (fun w _ => nan_u x w) rfl rfl rfl (w_n rfl) ?_
  refine TL_q (.bool false) (fun _ _ hρ _ => r_assign (hρ _ _ rfl)) rfl rfl rfl (w_n rfl) ?_
  refine TL_seq ?_
  refine T_seq (T_region ?_)
  refine TL_q (.int .u64 y) (fun _ _ hρ _ => r_move (hρ _ _ rfl)) rfl rfl rfl (w_n rfl) ?_
  refine TL_call (.bool false) (fun _ _ hρ _ => r_call (args := [.int .u64 y]) (enters_of Try.func77 (by kernel_rfl) rfl) (hρ _ _ rfl) ((cons2 (hρ _ _ rfl) rfl)) rfl) (fun w _ => nan_u y w) rfl rfl rfl (w_n rfl) ?_
  refine TL_q (.bool false) (fun _ _ hρ _ => r_assign (hρ _ _ rfl)) rfl rfl rfl (w_n rfl) ?_
  refine TL_seq ?_
  refine T_seq ?_
  refine T_seq (T_region ?_)
  refine TL_q (.bool false) (fun _ _ hρ _ => r_move (hρ _ _ rfl)) rfl rfl rfl (w_n rfl) ?_
  refine TL_seq ?_
  refine T_cond_f rfl ?_
  refine T_skip' ?_
  refine p_seq ?_
  refine T_seq ?_
  refine T_seq (T_region ?_)
  refine TL_q (.bool false) (fun _ _ hρ _ => r_move (hρ _ _ rfl)) rfl rfl rfl (w_n rfl) ?_
  refine TL_seq ?_
  refine T_cond_f rfl ?_
  refine T_skip' ?_
  refine p_seq ?_
  refine T_seq ?_
  refine T_seq (T_region ?_)
  refine TL_q (.int .u64 x) (fun _ _ hρ _ => r_move (hρ _ _ rfl)) rfl rfl rfl (w_n rfl) ?_
  refine TL_q (.int .u64 y) (fun _ _ hρ _ => r_move (hρ _ _ rfl)) rfl rfl rfl (w_n rfl) ?_
  refine TL_q (.bool (decide (x < y))) (fun _ _ hρ _ => r_lss (hρ _ _ rfl) (hρ _ _ rfl)) rfl rfl rfl (w_n rfl) ?_
  refine TL_seq ?_
  refine T_cond rfl (fun h1 => ?_) (fun h1 => ?_)
  · replace h1 := of_decide_eq_true h1
    refine T_seq (T_region ?_)
    refine TL_q (.int .i64 (-1)) (fun _ _ hρ _ => r_assign (hρ _ _ rfl)) rfl rfl rfl (w_n rfl) ?_
    refine TL_seq ?_
    refine T_ret' ?_
    refine p_then_r ?_
    refine ret_of rfl (.int .i64 (-1)) (fun tmps w hk hm => res1 rfl (res_tmp (hk 4 _ rfl))) (fun w hm => ?_)
    refine ⟨congrArg (fun n : Int => Ending.returned (.int .i64 n)) (show (-1 : Int) = cmpI x y from ?_), hm.ext⟩
    unfold cmpI
    repeat' split
    all_goals omega
  · replace h1 := of_decide_eq_false h1
    refine T_skip' ?_
    refine p_seq ?_
    refine T_seq ?_
    refine T_seq (T_region ?_)
    refine TL_q (.int .u64 x) (fun _ _ hρ _ => r_move (hρ _ _ rfl)) rfl rfl rfl (w_n rfl) ?_
    refine TL_q (.int .u64 y) (fun _ _ hρ _ => r_move (hρ _ _ rfl)) rfl rfl rfl (w_n rfl) ?_
    refine TL_q (.bool (decide (y < x))) (fun _ _ hρ _ => r_gtr (hρ _ _ rfl) (hρ _ _ rfl)) rfl rfl rfl (w_n rfl) ?_
    refine TL_seq ?_
    refine T_cond rfl (fun h2 => ?_) (fun h2 => ?_)
    · replace h2 := of_decide_eq_true h2
      refine T_seq (T_region ?_)
      refine TL_q (.int .i64 1) (fun _ _ hρ _ => r_assign (hρ _ _ rfl)) rfl rfl rfl (w_n rfl) ?_
      refine TL_seq ?_
      refine T_ret' ?_
      refine p_then_r ?_
      refine ret_of rfl (.int .i64 1) (fun tmps w hk hm => res1 rfl (res_tmp (hk 4 _ rfl))) (fun w hm => ?_)
      refine ⟨congrArg (fun n : Int => Ending.returned (.int .i64 n)) (show (1 : Int) = cmpI x y from ?_), hm.ext⟩
      unfold cmpI
      repeat' split
      all_goals omega
    · replace h2 := of_decide_eq_false h2
      refine T_skip' ?_
      refine p_seq ?_
      refine T_seq (T_region ?_)
      refine TL_q (.int .i64 0) (fun _ _ hρ _ => r_assign (hρ _ _ rfl)) rfl rfl rfl (w_n rfl) ?_
      refine TL_seq ?_
      refine T_ret' ?_
      refine ret_of rfl (.int .i64 0) (fun tmps w hk hm => res1 rfl (res_tmp (hk 4 _ rfl))) (fun w hm => ?_)
      refine ⟨congrArg (fun n : Int => Ending.returned (.int .i64 n)) (show (0 : Int) = cmpI x y from ?_), hm.ext⟩
      unfold cmpI
      repeat' split
      all_goals omega

theorem cmp_i (x y : Int) (w : World) : Calls Try.prog 68 #[.int .i64 x, .int .i64 y] w fun e w' => e = .returned (.int .i64 (cmpI x y)) ∧ Below w.heap.size w w' := by
  refine calls_of_T (l := [.int .i64 x, .int .i64 y]) 20 Try.func68 rfl rfl rfl ?_
  show T _ _ _ [(0, .int .i64 x), (1, .int .i64 y)] []
  refine T_seq (T_region ?_)
  refine TL_q (.int .i64 0) (fun _ _ hρ _ => r_assign (hρ _ _ rfl)) rfl rfl rfl (w_n rfl) ?_
  refine TL_seq ?_
  refine T_seq (T_region ?_)
  refine TL_q (.int .i64 x) (fun _ _ hρ _ => r_move (hρ _ _ rfl)) rfl rfl rfl (w_n rfl) ?_
  refine TL_call (.bool false) (fun _ _ hρ _ => r_call (args := [.int .i64 x]) (enters_of Try.func78 (by kernel_rfl) rfl) (hρ _ _ rfl) ((cons2 (hρ _ _ rfl) rfl)) rfl) (fun w _ => nan_i x w) rfl rfl rfl (w_n rfl) ?_
  refine TL_q (.bool false) (fun _ _ hρ _ => r_assign (hρ _ _ rfl)) rfl rfl rfl (w_n rfl) ?_
  refine TL_seq ?_
  refine T_seq (T_region ?_)
  refine TL_q (.int .i64 y) (fun _ _ hρ _ => r_move (hρ _ _ rfl)) rfl rfl rfl (w_n rfl) ?_
  refine TL_call (.bool false) (fun _ _ hρ _ => r_call (args := [.int .i64 y]) (enters_of Try.func78 (by kernel_rfl) rfl) (hρ _ _ rfl) ((cons2 (hρ _ _ rfl) rfl)) rfl) (fun w _ => nan_i y w) rfl rfl rfl (w_n rfl) ?_
  refine TL_q (.bool false) (fun _ _ hρ _ => r_assign (hρ _ _ rfl)) rfl rfl rfl (w_n rfl) ?_
  refine TL_seq ?_
  refine T_seq ?_
  refine T_seq (T_region ?_)
  refine TL_q (.bool false) (fun _ _ hρ _ => r_move (hρ _ _ rfl)) rfl rfl rfl (w_n rfl) ?_
  refine TL_seq ?_
  refine T_cond_f rfl ?_
  refine T_skip' ?_
  refine p_seq ?_
  refine T_seq ?_
  refine T_seq (T_region ?_)
  refine TL_q (.bool false) (fun _ _ hρ _ => r_move (hρ _ _ rfl)) rfl rfl rfl (w_n rfl) ?_
  refine TL_seq ?_
  refine T_cond_f rfl ?_
  refine T_skip' ?_
  refine p_seq ?_
  refine T_seq ?_
  refine T_seq (T_region ?_)
  refine TL_q (.int .i64 x) (fun _ _ hρ _ => r_move (hρ _ _ rfl)) rfl rfl rfl (w_n rfl) ?_
  refine TL_q (.int .i64 y) (fun _ _ hρ _ => r_move (hρ _ _ rfl)) rfl rfl rfl (w_n rfl) ?_
  refine TL_q (.bool (decide (x < y))) (fun _ _ hρ _ => r_lss (hρ _ _ rfl) (hρ _ _ rfl)) rfl rfl rfl (w_n rfl) ?_
  refine TL_seq ?_
  refine T_cond rfl (fun h1 => ?_) (fun h1 => ?_)
  · replace h1 := of_decide_eq_true h1
    refine T_seq (T_region ?_)
    refine TL_q (.int .i64 (-1)) (fun _ _ hρ _ => r_assign (hρ _ _ rfl)) rfl rfl rfl (w_n rfl) ?_
    refine TL_seq ?_
    refine T_ret' ?_
    refine p_then_r ?_
    refine ret_of rfl (.int .i64 (-1)) (fun tmps w hk hm => res1 rfl (res_tmp (hk 4 _ rfl))) (fun w hm => ?_)
    refine ⟨congrArg (fun n : Int => Ending.returned (.int .i64 n)) (show (-1 : Int) = cmpI x y from ?_), hm.ext⟩
    unfold cmpI
    repeat' split
    all_goals omega
  · replace h1 := of_decide_eq_false h1
    refine T_skip' ?_
    refine p_seq ?_
    refine T_seq ?_
    refine T_seq (T_region ?_)
    refine TL_q (.int .i64 x) (fun _ _ hρ _ => r_move (hρ _ _ rfl)) rfl rfl rfl (w_n rfl) ?_
    refine TL_q (.int .i64 y) (fun _ _ hρ _ => r_move (hρ _ _ rfl)) rfl rfl rfl (w_n rfl) ?_
    refine TL_q (.bool (decide (y < x))) (fun _ _ hρ _ => r_gtr (hρ _ _ rfl) (hρ _ _ rfl)) rfl rfl rfl (w_n rfl) ?_
    refine TL_seq ?_
    refine T_cond rfl (fun h2 => ?_) (fun h2 => ?_)
    · replace h2 := of_decide_eq_true h2
      refine T_seq (T_region ?_)
      refine TL_q (.int .i64 1) (fun _ _ hρ _ => r_assign (hρ _ _ rfl)) rfl rfl rfl (w_n rfl) ?_
      refine TL_seq ?_
      refine T_ret' ?_
      refine p_then_r ?_
      refine ret_of rfl (.int .i64 1) (fun tmps w hk hm => res1 rfl (res_tmp (hk 4 _ rfl))) (fun w hm => ?_)
      refine ⟨congrArg (fun n : Int => Ending.returned (.int .i64 n)) (show (1 : Int) = cmpI x y from ?_), hm.ext⟩
      unfold cmpI
      repeat' split
      all_goals omega
    · replace h2 := of_decide_eq_false h2
      refine T_skip' ?_
      refine p_seq ?_
      refine T_seq (T_region ?_)
      refine TL_q (.int .i64 0) (fun _ _ hρ _ => r_assign (hρ _ _ rfl)) rfl rfl rfl (w_n rfl) ?_
      refine TL_seq ?_
      refine T_ret' ?_
      refine ret_of rfl (.int .i64 0) (fun tmps w hk hm => res1 rfl (res_tmp (hk 4 _ rfl))) (fun w hm => ?_)
      refine ⟨congrArg (fun n : Int => Ending.returned (.int .i64 n)) (show (0 : Int) = cmpI x y from ?_), hm.ext⟩
      unfold cmpI
      repeat' split
      all_goals omega

theorem or_c (b : Nat) (x y z : Int) (w : World) (hb : hp w b = some (.cells #[.int .i64 x, .int .i64 y, .int .i64 z] 3)) : Calls Try.prog 66 #[.slice (some ⟨b, 0, none⟩) 3 3] w fun e w' => e = .returned (.int .i64 (orI x y z)) ∧ Below w.heap.size w w' := by
  refine calls_of_T (l := [.slice (some ⟨b, 0, none⟩) 3 3]) 18 Try.func66 rfl rfl rfl ?_
  show T _ _ _ [(0, .slice (some ⟨b, 0, none⟩) 3 3)] []
  refine T_seq (T_region ?_)
  refine TL_q (.int .i64 0) (fun _ _ hρ _ => r_assign (hρ _ _ rfl)) rfl rfl rfl (w_n rfl) ?_
  refine TL_seq ?_
  refine T_seq (T_region ?_)
  refine TL_q (.int .i64 0) (fun _ _ hρ _ => r_assign (hρ _ _ rfl)) rfl rfl rfl (w_n rfl) ?_
  refine TL_seq ?_
  refine T_seq ?_
  refine T_seq (T_region ?_)
  refine TL_q (.slice (some ⟨b, 0, none⟩) 3 3) (fun _ _ hρ _ => r_move (hρ _ _ rfl)) rfl rfl rfl (w_n rfl) ?_
  refine TL_q (.int .i64 3) (fun _ _ hρ _ => r_len sl43 (hρ _ _ rfl)) rfl rfl rfl (w_n rfl) ?_
  refine TL_q (.int .i64 0) (fun _ _ hρ _ => r_move (hρ _ _ rfl)) rfl rfl rfl (w_n rfl) ?_
  refine TL_seq ?_
  refine T_block ?_
  refine T_rounds 4 ?_
  refine TR_succ ?_
  refine T_seq (T_region ?_)
  refine TL_q (.bool true) (fun _ _ hρ _ => r_as (r_lss (hρ _ _ rfl) (hρ _ _ rfl)) (by rfl)) rfl rfl rfl (w_n rfl) ?_
  refine TL_seq ?_
  refine T_seq ?_
  refine T_cond_t rfl ?_
  refine T_skip' ?_
  refine p_seq ?_
  refine T_seq ?_
  refine T_block ?_
  refine T_seq (T_region ?_)
  refine TL_q (.pointer (some ⟨b, 0, none⟩)) (fun _ _ hρ _ => r_indexAddrS (i := 0) sl43 sz3 (hρ _ _ rfl) (hρ _ _ rfl) (by decide)) rfl rfl rfl (w_n rfl) ?_
  refine TL_q (.int .i64 x) (fun _ _ hρ hm => r_load ag3 (hρ _ _ rfl) (hm.old hb) rfl) rfl rfl rfl (w_n rfl) ?_
  refine TL_q (.int .i64 x) (fun _ _ hρ _ => r_assign (hρ _ _ rfl)) rfl rfl rfl (w_n rfl) ?_
  refine TL_seq ?_
  refine T_seq (T_region ?_)
  refine TL_q (.int .i64 x) (fun _ _ hρ _ => r_move (hρ _ _ rfl)) rfl rfl rfl (w_n rfl) ?_
  refine TL_q (.int .i64 0) (fun _ _ hρ _ => r_move (hρ _ _ rfl)) rfl rfl rfl (w_n rfl) ?_
  refine TL_q (.bool (!decide (x = 0))) (fun _ _ hρ _ => r_neq (hρ _ _ rfl) (hρ _ _ rfl)) rfl rfl rfl (w_n rfl) ?_
  refine TL_seq ?_
  refine T_cond rfl (fun h1 => ?_) (fun h1 => ?_)
  · replace h1 := of_decide_eq_false (bnot_t h1)
    refine T_seq (T_region ?_)
    refine TL_q (.int .i64 x) (fun _ _ hρ _ => r_move (hρ _ _ rfl)) rfl rfl rfl (w_n rfl) ?_
    refine TL_q (.int .i64 x) (fun _ _ hρ _ => r_assign (hρ _ _ rfl)) rfl rfl rfl (w_n rfl) ?_
    refine TL_seq ?_
    refine T_ret' ?_
    refine p_blk_r ?_
    refine p_then_r ?_
    refine p_then_r ?_
    refine p_blk_r ?_
    refine p_then_r ?_
    refine ret_of rfl (.int .i64 x) (fun tmps w hk hm => res1 rfl (res_tmp (hk 2 _ rfl))) (fun w hm => ?_)
    refine ⟨congrArg (fun n : Int => Ending.returned (.int .i64 n)) (show (x : Int) = orI x y z from ?_), hm.ext⟩
    unfold orI
    repeat' split
    all_goals first | rfl | omega
  · replace h1 := of_decide_eq_true (bnot_f h1)
    refine T_skip' ?_
    refine p_blk_n ?_
    refine p_seq ?_
    refine T_region ?_
    refine TL_q (.int .i64 1) (fun _ _ hρ _ => r_as (r_add (hρ _ _ rfl) (hρ _ _ rfl)) (by rfl)) rfl rfl rfl (w_n rfl) ?_
    refine TL_q (.int .i64 1) (fun _ _ hρ _ => r_move (hρ _ _ rfl)) rfl rfl rfl (w_n rfl) ?_
    refine TL_nil ?_
    refine p_round ?_
    refine TR_succ ?_
    refine T_seq (T_region ?_)
    refine TL_q (.bool true) (fun _ _ hρ _ => r_as (r_lss (hρ _ _ rfl) (hρ _ _ rfl)) (by rfl)) rfl rfl rfl (w_n rfl) ?_
    refine TL_seq ?_
    refine T_seq ?_
    refine T_cond_t rfl ?_
    refine T_skip' ?_
    refine p_seq ?_
    refine T_seq ?_
    refine T_block ?_
    refine T_seq (T_region ?_)
    refine TL_q (.pointer (some ⟨b, 1, none⟩)) (fun _ _ hρ _ => r_indexAddrS (i := 1) sl43 sz3 (hρ _ _ rfl) (hρ _ _ rfl) (by decide)) rfl rfl rfl (w_n rfl) ?_
    refine TL_q (.int .i64 y) (fun _ _ hρ hm => r_load ag3 (hρ _ _ rfl) (hm.old hb) rfl) rfl rfl rfl (w_n rfl) ?_
    refine TL_q (.int .i64 y) (fun _ _ hρ _ => r_assign (hρ _ _ rfl)) rfl rfl rfl (w_n rfl) ?_
    refine TL_seq ?_
    refine T_seq (T_region ?_)
    refine TL_q (.int .i64 y) (fun _ _ hρ _ => r_move (hρ _ _ rfl)) rfl rfl rfl (w_n rfl) ?_
    refine TL_q (.int .i64 0) (fun _ _ hρ _ => r_move (hρ _ _ rfl)) rfl rfl rfl (w_n rfl) ?_
    refine TL_q (.bool (!decide (y = 0))) (fun _ _ hρ _ => r_neq (hρ _ _ rfl) (hρ _ _ rfl)) rfl rfl rfl (w_n rfl) ?_
    refine TL_seq ?_
    refine T_cond rfl (fun h2 => ?_) (fun h2 => ?_)
    · replace h2 := of_decide_eq_false (bnot_t h2)
      refine T_seq (T_region ?_)
      refine TL_q (.int .i64 y) (fun _ _ hρ _ => r_move (hρ _ _ rfl)) rfl rfl rfl (w_n rfl) ?_
      refine TL_q (.int .i64 y) (fun _ _ hρ _ => r_assign (hρ _ _ rfl)) rfl rfl rfl (w_n rfl) ?_
      refine TL_seq ?_
      refine T_ret' ?_
      refine p_blk_r ?_
      refine p_then_r ?_
      refine p_then_r ?_
      refine p_blk_r ?_
      refine p_then_r ?_
      refine ret_of rfl (.int .i64 y) (fun tmps w hk hm => res1 rfl (res_tmp (hk 2 _ rfl))) (fun w hm => ?_)
      refine ⟨congrArg (fun n : Int => Ending.returned (.int .i64 n)) (show (y : Int) = orI x y z from ?_), hm.ext⟩
      unfold orI
      repeat' split
      all_goals first | rfl | omega
    · replace h2 := of_decide_eq_true (bnot_f h2)
      refine T_skip' ?_
      refine p_blk_n ?_
      refine p_seq ?_
      refine T_region ?_
      refine TL_q (.int .i64 2) (fun _ _ hρ _ => r_as (r_add (hρ _ _ rfl) (hρ _ _ rfl)) (by rfl)) rfl rfl rfl (w_n rfl) ?_
      refine TL_q (.int .i64 2) (fun _ _ hρ _ => r_move (hρ _ _ rfl)) rfl rfl rfl (w_n rfl) ?_
      refine TL_nil ?_
      refine p_round ?_
      refine TR_succ ?_
      refine T_seq (T_region ?_)
      refine TL_q (.bool true) (fun _ _ hρ _ => r_as (r_lss (hρ _ _ rfl) (hρ _ _ rfl)) (by rfl)) rfl rfl rfl (w_n rfl) ?_
      refine TL_seq ?_
      refine T_seq ?_
      refine T_cond_t rfl ?_
      refine T_skip' ?_
      refine p_seq ?_
      refine T_seq ?_
      refine T_block ?_
      refine T_seq (T_region ?_)
      refine TL_q (.pointer (some ⟨b, 2, none⟩)) (fun _ _ hρ _ => r_indexAddrS (i := 2) sl43 sz3 (hρ _ _ rfl) (hρ _ _ rfl) (by decide)) rfl rfl rfl (w_n rfl) ?_
      refine TL_q (.int .i64 z) (fun _ _ hρ hm => r_load ag3 (hρ _ _ rfl) (hm.old hb) rfl) rfl rfl rfl (w_n rfl) ?_
      refine TL_q (.int .i64 z) (fun _ _ hρ _ => r_assign (hρ _ _ rfl)) rfl rfl rfl (w_n rfl) ?_
      refine TL_seq ?_
      refine T_seq (T_region ?_)
      refine TL_q (.int .i64 z) (fun _ _ hρ _ => r_move (hρ _ _ rfl)) rfl rfl rfl (w_n rfl) ?_
      refine TL_q (.int .i64 0) (fun _ _ hρ _ => r_move (hρ _ _ rfl)) rfl rfl rfl (w_n rfl) ?_
      refine TL_q (.bool (!decide (z = 0))) (fun _ _ hρ _ => r_neq (hρ _ _ rfl) (hρ _ _ rfl)) rfl rfl rfl (w_n rfl) ?_
      refine TL_seq ?_
      refine T_sub [(2, .int .i64 0), (3, .int .i64 0), (6, .slice (some ⟨b, 0, none⟩) 3 3), (7, .int .i64 3), (16, .int .i64 2), (8, .int .i64 2), (9, .bool true), (10, .pointer (some ⟨b, 2, none⟩)), (11, .int .i64 z), (5, .int .i64 z), (12, .int .i64 z), (13, .int .i64 0), (14, .bool (!decide (z = 0)))] [] (sub_cons rfl (sub_cons rfl (sub_cons rfl (sub_cons rfl (sub_cons rfl (sub_cons rfl (sub_cons rfl (sub_cons rfl (sub_cons rfl (sub_cons rfl (sub_cons rfl (sub_cons rfl (sub_cons rfl sub_nil))))))))))))) sub_nil ?_
      refine T_cond rfl (fun h3 => ?_) (fun h3 => ?_)
      · replace h3 := of_decide_eq_false (bnot_t h3)
        refine T_seq (T_region ?_)
        refine TL_q (.int .i64 z) (fun _ _ hρ _ => r_move (hρ _ _ rfl)) rfl rfl rfl (w_n rfl) ?_
        refine TL_q (.int .i64 z) (fun _ _ hρ _ => r_assign (hρ _ _ rfl)) rfl rfl rfl (w_n rfl) ?_
        refine TL_seq ?_
        refine T_ret' ?_
        refine p_blk_r ?_
        refine p_then_r ?_
        refine p_then_r ?_
        refine p_blk_r ?_
        refine p_then_r ?_
        refine ret_of rfl (.int .i64 z) (fun tmps w hk hm => res1 rfl (res_tmp (hk 2 _ rfl))) (fun w hm => ?_)
        refine ⟨congrArg (fun n : Int => Ending.returned (.int .i64 n)) (show (z : Int) = orI x y z from ?_), hm.ext⟩
        unfold orI
        repeat' split
        all_goals first | rfl | omega
      · replace h3 := of_decide_eq_true (bnot_f h3)
        refine T_skip' ?_
        refine p_blk_n ?_
        refine p_seq ?_
        refine T_region ?_
        refine TL_q (.int .i64 3) (fun _ _ hρ _ => r_as (r_add (hρ _ _ rfl) (hρ _ _ rfl)) (by rfl)) rfl rfl rfl (w_n rfl) ?_
        refine TL_q (.int .i64 3) (fun _ _ hρ _ => r_move (hρ _ _ rfl)) rfl rfl rfl (w_n rfl) ?_
        refine TL_nil ?_
        refine p_round ?_
        refine TR_succ ?_
        refine T_seq (T_region ?_)
        refine TL_q (.bool false) (fun _ _ hρ _ => r_as (r_lss (hρ _ _ rfl) (hρ _ _ rfl)) (by rfl)) rfl rfl rfl (w_n rfl) ?_
        refine TL_seq ?_
        refine T_seq ?_
        refine T_cond_f rfl ?_
        refine T_exit' ?_
        refine p_then_x ?_
        refine p_then_x ?_
        refine p_blk_x ?_
        refine p_seq ?_
        refine T_seq (T_region ?_)
        refine TL_q (.int .i64 0) (fun _ _ hρ _ => r_move (hρ _ _ rfl)) rfl rfl rfl (w_n rfl) ?_
        refine TL_q (.int .i64 0) (fun _ _ hρ _ => r_assign (hρ _ _ rfl)) rfl rfl rfl (w_n rfl) ?_
        refine TL_seq ?_
        refine T_ret' ?_
        refine ret_of rfl (.int .i64 0) (fun tmps w hk hm => res1 rfl (res_tmp (hk 2 _ rfl))) (fun w hm => ?_)
        refine ⟨congrArg (fun n : Int => Ending.returned (.int .i64 n)) (show (0 : Int) = orI x y z from ?_), hm.ext⟩
        unfold orI
        repeat' split
        all_goals first | rfl | omega

theorem comp_c (a b : Tid) (w : World) : Calls Try.prog 44 #[a.v, b.v] w fun e w' => e = .returned (.int .i64 (compI a b)) ∧ Below w.heap.size w w' := by
  refine calls_of_T (l := [.agg #[.int .u64 a.t, .int .i64 a.s, .int .u64 a.q], .agg #[.int .u64 b.t, .int .i64 b.s, .int .u64 b.q]]) 25 Try.func44 rfl rfl rfl ?_
  show T _ _ _ [(0, .agg #[.int .u64 a.t, .int .i64 a.s, .int .u64 a.q]), (1, .agg #[.int .u64 b.t, .int .i64 b.s, .int .u64 b.q])] []
  refine T_seq (T_region ?_)
  refine TL_new 1 (.cells #[.int .u64 a.t, .int .i64 a.s, .int .u64 a.q] 32) (fun B => .pointer (some ⟨B, 0, none⟩)) (fun _ _ hρ _ => r_box (hρ _ _ rfl) rfl) rfl rfl rfl (w_n rfl) ?_
  intro B1
  refine TL_new 2 (.cells #[.int .u64 b.t, .int .i64 b.s, .int .u64 b.q] 32) (fun B => .pointer (some ⟨B, 0, none⟩)) (fun _ _ hρ _ => r_box (hρ _ _ rfl) rfl) rfl rfl rfl (w_n rfl) ?_
  intro B2
  refine TL_q (.int .i64 0) (fun _ _ hρ _ => r_assign (hρ _ _ rfl)) rfl rfl rfl (w_n rfl) ?_
  refine TL_seq ?_
  refine T_seq ?_
  by_cases hab : a = b
  · skip
    refine T_seq (T_region ?_)
    refine TL_q (.agg #[.int .u64 a.t, .int .i64 a.s, .int .u64 a.q]) (fun _ _ hρ hm => r_loadA ag32 sz32 (hρ _ _ rfl) (hm.at 1 rfl) rfl rfl) rfl rfl rfl (w_n rfl) ?_
    refine TL_q (.agg #[.int .u64 b.t, .int .i64 b.s, .int .u64 b.q]) (fun _ _ hρ hm => r_loadA ag32 sz32 (hρ _ _ rfl) (hm.at 2 rfl) rfl rfl) rfl rfl rfl (w_n rfl) ?_
    refine TL_q (.bool true) (fun _ _ hρ _ => r_as (r_as (r_eqlA (by kernel_rfl) (hρ _ _ rfl) (hρ _ _ rfl) (run_equalI (l := [(0, .u64), (1, .i64), (2, .u64)]) (by kernel_rfl) rfl rfl)) (bool_as (eqTid a b))) (bool_as (decide_eq_true hab))) rfl rfl rfl (w_n rfl) ?_
    refine TL_seq ?_
    refine T_cond_t rfl ?_
    refine T_seq (T_region ?_)
    refine TL_q (.int .i64 0) (fun _ _ hρ _ => r_assign (hρ _ _ rfl)) rfl rfl rfl (w_n rfl) ?_
    refine TL_seq ?_
    refine T_ret' ?_
    refine p_then_r ?_
    refine ret_of rfl (.int .i64 0) (fun tmps w hk hm => res1 rfl (res_tmp (hk 4 _ rfl))) (fun w hm => ?_)
    exact ⟨by rw [show compI a b = 0 from if_pos hab], hm.ext⟩
  · skip
    refine T_seq (T_region ?_)
    refine TL_q (.agg #[.int .u64 a.t, .int .i64 a.s, .int .u64 a.q]) (fun _ _ hρ hm => r_loadA ag32 sz32 (hρ _ _ rfl) (hm.at 1 rfl) rfl rfl) rfl rfl rfl (w_n rfl) ?_
    refine TL_q (.agg #[.int .u64 b.t, .int .i64 b.s, .int .u64 b.q]) (fun _ _ hρ hm => r_loadA ag32 sz32 (hρ _ _ rfl) (hm.at 2 rfl) rfl rfl) rfl rfl rfl (w_n rfl) ?_
    refine TL_q (.bool false) (fun _ _ hρ _ => r_as (r_as (r_eqlA (by kernel_rfl) (hρ _ _ rfl) (hρ _ _ rfl) (run_equalI (l := [(0, .u64), (1, .i64), (2, .u64)]) (by kernel_rfl) rfl rfl)) (bool_as (eqTid a b))) (bool_as (decide_eq_false hab))) rfl rfl rfl (w_n rfl) ?_
    refine TL_seq ?_
    refine T_cond_f rfl ?_
    refine T_skip' ?_
    refine p_seq ?_
    refine T_seq (T_draw (V := [(0, .pointer (some ⟨B1, 0, none⟩)), (1, .int .u64 a.t), (2, .pointer (some ⟨B2, 0, none⟩)), (3, .int .u64 b.t), (5, .pointer (some ⟨B1, 1, none⟩)), (6, .int .i64 a.s), (7, .pointer (some ⟨B2, 1, none⟩)), (8, .int .i64 b.s), (10, .pointer (some ⟨B1, 2, none⟩)), (11, .int .u64 a.q), (12, .pointer (some ⟨B2, 2, none⟩)), (13, .int .u64 b.q)]) [0, 1, 0, 4, 15, 0, 32, 0, 128, 511, 0, 1024, 0, 4096, 16383, 32767, 65535, 131071] [[(2, none)], [(8, some 0)], [(3, none)], [(10, some 2)], [(9, some 1), (11, some 3)], [(2, none)], [(13, some 5)], [(3, none)], [(15, some 7)], [(14, some 6), (16, some 8)], [(2, none)], [(18, some 10)], [(3, none)], [(20, some 12)], [(19, some 11), (21, some 13)], [(12, some 4), (17, some 9), (22, some 14)], [(23, some 15)], [(24, some 16)]] 115216 mixed (by kernel_rfl) ?_)
    refine G_step [0, 1, 2, 3, 5, 6, 7, 8, 10, 11, 12, 13] 4 [] (by kernel_rfl) (allM (all_cons (q_run (.pointer (some ⟨B1, 0, none⟩)) rfl rfl (wv_n rfl) rfl (fun _ _ hρ _ => r_fieldAddr fl32_0 sz30 (hρ _ _ rfl))) (all_cons (q_run (.int .u64 a.t) rfl rfl (wv_n rfl) rfl (fun _ _ hρ hm => r_load ag30 (hρ _ _ rfl) (hm.at 1 rfl) rfl)) (all_cons (q_run (.pointer (some ⟨B2, 0, none⟩)) rfl rfl (wv_n rfl) rfl (fun _ _ hρ _ => r_fieldAddr fl32_0 sz30 (hρ _ _ rfl))) (all_cons (q_run (.int .u64 b.t) rfl rfl (wv_n rfl) rfl (fun _ _ hρ hm => r_load ag30 (hρ _ _ rfl) (hm.at 2 rfl) rfl)) (all_cons (q_run (.pointer (some ⟨B1, 1, none⟩)) rfl rfl (wv_n rfl) rfl (fun _ _ hρ _ => r_fieldAddr fl32_1 sz3 (hρ _ _ rfl))) (all_cons (q_run (.int .i64 a.s) rfl rfl (wv_n rfl) rfl (fun _ _ hρ hm => r_load ag3 (hρ _ _ rfl) (hm.at 1 rfl) rfl)) (all_cons (q_run (.pointer (some ⟨B2, 1, none⟩)) rfl rfl (wv_n rfl) rfl (fun _ _ hρ _ => r_fieldAddr fl32_1 sz3 (hρ _ _ rfl))) (all_cons (q_run (.int .i64 b.s) rfl rfl (wv_n rfl) rfl (fun _ _ hρ hm => r_load ag3 (hρ _ _ rfl) (hm.at 2 rfl) rfl)) (all_cons (q_run (.pointer (some ⟨B1, 2, none⟩)) rfl rfl (wv_n rfl) rfl (fun _ _ hρ _ => r_fieldAddr fl32_2 sz30 (hρ _ _ rfl))) (all_cons (q_run (.int .u64 a.q) rfl rfl (wv_n rfl) rfl (fun _ _ hρ hm => r_load ag30 (hρ _ _ rfl) (hm.at 1 rfl) rfl)) (all_cons (q_run (.pointer (some ⟨B2, 2, none⟩)) rfl rfl (wv_n rfl) rfl (fun _ _ hρ _ => r_fieldAddr fl32_2 sz30 (hρ _ _ rfl))) (all_cons (q_run (.int .u64 b.q) rfl rfl (wv_n rfl) rfl (fun _ _ hρ hm => r_load ag30 (hρ _ _ rfl) (hm.at 2 rfl) rfl)) all_nil))))))))))))) (allM (all_cons ?_ all_nil))
    refine LOb_call (.int .i64 (cmpI a.t b.t)) [] rfl (wv_n rfl) rfl rfl (fun _ _ hρ _ => r_call (args := [.int .u64 a.t, .int .u64 b.t]) (enters_of Try.func67 (by kernel_rfl) rfl) (hρ _ _ rfl) ((cons2 (hρ _ _ rfl) (cons2 (hρ _ _ rfl) rfl))) rfl) (fun w _ => cmp_u a.t b.t w) (by kernel_rfl) ?_
    refine G_step [5, 6, 7, 8, 10, 11, 12, 13] 9 [] (by kernel_rfl) (allM (all_cons (q_run (.pointer (some ⟨B1, 1, none⟩)) rfl rfl (wv_n rfl) rfl (fun _ _ hρ _ => r_fieldAddr fl32_1 sz3 (hρ _ _ rfl))) (all_cons (q_run (.int .i64 a.s) rfl rfl (wv_n rfl) rfl (fun _ _ hρ hm => r_load ag3 (hρ _ _ rfl) (hm.at 1 rfl) rfl)) (all_cons (q_run (.pointer (some ⟨B2, 1, none⟩)) rfl rfl (wv_n rfl) rfl (fun _ _ hρ _ => r_fieldAddr fl32_1 sz3 (hρ _ _ rfl))) (all_cons (q_run (.int .i64 b.s) rfl rfl (wv_n rfl) rfl (fun _ _ hρ hm => r_load ag3 (hρ _ _ rfl) (hm.at 2 rfl) rfl)) (all_cons (q_run (.pointer (some ⟨B1, 2, none⟩)) rfl rfl (wv_n rfl) rfl (fun _ _ hρ _ => r_fieldAddr fl32_2 sz30 (hρ _ _ rfl))) (all_cons (q_run (.int .u64 a.q) rfl rfl (wv_n rfl) rfl (fun _ _ hρ hm => r_load ag30 (hρ _ _ rfl) (hm.at 1 rfl) rfl)) (all_cons (q_run (.pointer (some ⟨B2, 2, none⟩)) rfl rfl (wv_n rfl) rfl (fun _ _ hρ _ => r_fieldAddr fl32_2 sz30 (hρ _ _ rfl))) (all_cons (q_run (.int .u64 b.q) rfl rfl (wv_n rfl) rfl (fun _ _ hρ hm => r_load ag30 (hρ _ _ rfl) (hm.at 2 rfl) rfl)) all_nil))))))))) (allM (all_cons ?_ all_nil))
    refine LOb_call (.int .i64 (cmpI a.s b.s)) [] rfl (wv_n rfl) rfl rfl (fun _ _ hρ _ => r_call (args := [.int .i64 a.s, .int .i64 b.s]) (enters_of Try.func68 (by kernel_rfl) rfl) (hρ _ _ rfl) ((cons2 (hρ _ _ rfl) (cons2 (hρ _ _ rfl) rfl))) rfl) (fun w _ => cmp_i a.s b.s w) (by kernel_rfl) ?_
    refine G_step [10, 11, 12, 13] 14 [] (by kernel_rfl) (allM (all_cons (q_run (.pointer (some ⟨B1, 2, none⟩)) rfl rfl (wv_n rfl) rfl (fun _ _ hρ _ => r_fieldAddr fl32_2 sz30 (hρ _ _ rfl))) (all_cons (q_run (.int .u64 a.q) rfl rfl (wv_n rfl) rfl (fun _ _ hρ hm => r_load ag30 (hρ _ _ rfl) (hm.at 1 rfl) rfl)) (all_cons (q_run (.pointer (some ⟨B2, 2, none⟩)) rfl rfl (wv_n rfl) rfl (fun _ _ hρ _ => r_fieldAddr fl32_2 sz30 (hρ _ _ rfl))) (all_cons (q_run (.int .u64 b.q) rfl rfl (wv_n rfl) rfl (fun _ _ hρ hm => r_load ag30 (hρ _ _ rfl) (hm.at 2 rfl) rfl)) all_nil))))) (allM (all_cons ?_ all_nil))
    refine LOb_call (.int .i64 (cmpI a.q b.q)) [] rfl (wv_n rfl) rfl rfl (fun _ _ hρ _ => r_call (args := [.int .u64 a.q, .int .u64 b.q]) (enters_of Try.func67 (by kernel_rfl) rfl) (hρ _ _ rfl) ((cons2 (hρ _ _ rfl) (cons2 (hρ _ _ rfl) rfl))) rfl) (fun w _ => cmp_u a.q b.q w) (by kernel_rfl) ?_
    refine G_step [] 15 [] (by kernel_rfl) (allM all_nil) (allM (all_cons ?_ all_nil))
    refine LOb_new 3 (.cells #[.int .i64 (cmpI a.t b.t), .int .i64 (cmpI a.s b.s), .int .i64 (cmpI a.q b.q)] 3) (fun B => .slice (some ⟨B, 0, none⟩) 3 3) (fun B => []) rfl (wv_n rfl) rfl rfl (fun _ _ hρ _ => r_buildSlice (vs := [(0, .int .i64 (cmpI a.t b.t)), (1, .int .i64 (cmpI a.s b.s)), (2, .int .i64 (cmpI a.q b.q))]) (by kernel_rfl) (cons2 (pair2 (hρ _ _ rfl)) (cons2 (pair2 (hρ _ _ rfl)) (cons2 (pair2 (hρ _ _ rfl)) rfl)))) (fun B => by kernel_rfl) ?_
    intro B3
    refine G_step [] 16 [] (by kernel_rfl) (allM all_nil) (allM (all_cons ?_ all_nil))
    refine LOb_call (.int .i64 (orI (cmpI a.t b.t) (cmpI a.s b.s) (cmpI a.q b.q))) [(17, .int .i64 (orI (cmpI a.t b.t) (cmpI a.s b.s) (cmpI a.q b.q)))] rfl (wv_n rfl) rfl rfl (fun _ _ hρ _ => r_call (args := [.slice (some ⟨B3, 0, none⟩) 3 3]) (enters_of Try.func66 (by kernel_rfl) rfl) (hρ _ _ rfl) ((cons2 (hρ _ _ rfl) rfl)) rfl) (fun w hm => or_c B3 (cmpI a.t b.t) (cmpI a.s b.s) (cmpI a.q b.q) w (hm.at 3 rfl)) (by kernel_rfl) ?_
    refine G_last [17] [(4, .int .i64 (orI (cmpI a.t b.t) (cmpI a.s b.s) (cmpI a.q b.q)))] (by kernel_rfl) (allM (all_cons (q_run (.int .i64 (orI (cmpI a.t b.t) (cmpI a.s b.s) (cmpI a.q b.q))) rfl rfl (wv_n rfl) rfl (fun _ _ hρ _ => r_assign (hρ _ _ rfl))) all_nil)) (end_new 17 rfl rfl end_nil) ?_
    refine T_ret' ?_
    refine ret_of rfl (.int .i64 (orI (cmpI a.t b.t) (cmpI a.s b.s) (cmpI a.q b.q))) (fun tmps w hk hm => res1 rfl (res_tmp (hk 4 _ rfl))) (fun w hm => ?_)
    exact ⟨by rw [show compI a b = orI (cmpI a.t b.t) (cmpI a.s b.s) (cmpI a.q b.q) from if_neg hab], hm.ext⟩

theorem less_c (a b : Tid) (w : World) : Calls Try.prog 12 #[a.v, b.v] w fun e w' => e = .returned (.bool (lessI a b)) ∧ Below w.heap.size w w' := by
  refine calls_of_T (l := [.agg #[.int .u64 a.t, .int .i64 a.s, .int .u64 a.q], .agg #[.int .u64 b.t, .int .i64 b.s, .int .u64 b.q]]) 9 Try.func12 rfl rfl rfl ?_
  show T _ _ _ [(0, .agg #[.int .u64 a.t, .int .i64 a.s, .int .u64 a.q]), (1, .agg #[.int .u64 b.t, .int .i64 b.s, .int .u64 b.q])] []
  refine T_seq (T_region ?_)
  refine TL_new 1 (.cells #[.int .u64 a.t, .int .i64 a.s, .int .u64 a.q] 32) (fun B => .pointer (some ⟨B, 0, none⟩)) (fun _ _ hρ _ => r_box (hρ _ _ rfl) rfl) rfl rfl rfl (w_n rfl) ?_
  intro B1
  refine TL_new 2 (.cells #[.int .u64 b.t, .int .i64 b.s, .int .u64 b.q] 32) (fun B => .pointer (some ⟨B, 0, none⟩)) (fun _ _ hρ _ => r_box (hρ _ _ rfl) rfl) rfl rfl rfl (w_n rfl) ?_
  intro B2
  refine TL_q (.bool false) (fun _ _ hρ _ => r_assign (hρ _ _ rfl)) rfl rfl rfl (w_n rfl) ?_
  refine TL_seq ?_
  refine T_seq (T_region ?_)
  refine TL_q (.agg #[.int .u64 a.t, .int .i64 a.s, .int .u64 a.q]) (fun _ _ hρ hm => r_loadA ag32 sz32 (hρ _ _ rfl) (hm.at 1 rfl) rfl rfl) rfl rfl rfl (w_n rfl) ?_
  refine TL_q (.agg #[.int .u64 b.t, .int .i64 b.s, .int .u64 b.q]) (fun _ _ hρ hm => r_loadA ag32 sz32 (hρ _ _ rfl) (hm.at 2 rfl) rfl rfl) rfl rfl rfl (w_n rfl) ?_
  refine TL_call (.int .i64 (compI a b)) (fun _ _ hρ _ => r_call (args := [.agg #[.int .u64 a.t, .int .i64 a.s, .int .u64 a.q], .agg #[.int .u64 b.t, .int .i64 b.s, .int .u64 b.q]]) (enters_of Try.func44 (by kernel_rfl) rfl) (hρ _ _ rfl) ((cons2 (hρ _ _ rfl) (cons2 (hρ _ _ rfl) rfl))) rfl) (fun w _ => comp_c a b w) rfl rfl rfl (w_n rfl) ?_
  refine TL_q (.bool (decide ((compI a b) < 0))) (fun _ _ hρ _ => r_lss (hρ _ _ rfl) (hρ _ _ rfl)) rfl rfl rfl (w_n rfl) ?_
  refine TL_q (.bool (decide ((compI a b) < 0))) (fun _ _ hρ _ => r_assign (hρ _ _ rfl)) rfl rfl rfl (w_n rfl) ?_
  refine TL_seq ?_
  refine T_ret' ?_
  refine ret_of rfl (.bool (decide ((compI a b) < 0))) (fun tmps w hk hm => res1 rfl (res_tmp (hk 4 _ rfl))) (fun w hm => ?_)
  exact ⟨congrArg Ending.returned (bool_as (less_comp a b)), hm.ext⟩

theorem site_c (x : Int) (w : World) : Calls Try.prog 48 #[.int .i64 x] w fun e w' => e = .returned (.bool (decide (1 ≤ x ∧ x ≤ 8))) ∧ Below w.heap.size w w' := by
  refine calls_of_T (l := [.int .i64 x]) 9 Try.func48 rfl rfl rfl ?_
  show T _ _ _ [(0, .int .i64 x)] []
  refine T_seq (T_region ?_)
  refine TL_q (.bool false) (fun _ _ hρ _ => r_assign (hρ _ _ rfl)) rfl rfl rfl (w_n rfl) ?_
  refine TL_seq ?_
  by_cases c1 : (1 : Int) ≤ x
  · skip
    by_cases c2 : x ≤ 8
    · skip
      refine T_seq (T_region ?_)
      refine TL_q (.int .i64 x) (fun _ _ hρ _ => r_move (hρ _ _ rfl)) rfl rfl rfl (w_n rfl) ?_
      refine TL_q (.bool true) (fun _ _ hρ _ => r_as (r_geq (hρ _ _ rfl) (hρ _ _ rfl)) (bool_as (decide_eq_true c1))) rfl rfl rfl (w_n rfl) ?_
      refine TL_q (.bool true) (fun _ _ hρ _ => r_move (hρ _ _ rfl)) rfl rfl rfl (w_n rfl) ?_
      refine TL_q (.int .i64 x) (fun _ _ hρ _ => r_move (hρ _ _ rfl)) rfl rfl rfl (want_y 5 rfl rfl rfl) ?_
      refine TL_q (.bool true) (fun _ _ hρ _ => r_as (r_leq (hρ _ _ rfl) (hρ _ _ rfl)) (bool_as (decide_eq_true c2))) rfl rfl rfl (want_y 5 rfl rfl rfl) ?_
      refine TL_q (.bool true) (fun _ _ hρ _ => r_pick_t (hρ _ _ rfl) (hρ _ _ rfl)) rfl rfl rfl (w_n rfl) ?_
      refine TL_q (.bool true) (fun _ _ hρ _ => r_assign (hρ _ _ rfl)) rfl rfl rfl (w_n rfl) ?_
      refine TL_seq ?_
      refine T_ret' ?_
      refine ret_of rfl (.bool true) (fun tmps w hk hm => res1 rfl (res_tmp (hk 2 _ rfl))) (fun w hm => ?_)
      exact ⟨congrArg Ending.returned (bool_as (decide_eq_true (by omega)).symm), hm.ext⟩
    · skip
      refine T_seq (T_region ?_)
      refine TL_q (.int .i64 x) (fun _ _ hρ _ => r_move (hρ _ _ rfl)) rfl rfl rfl (w_n rfl) ?_
      refine TL_q (.bool true) (fun _ _ hρ _ => r_as (r_geq (hρ _ _ rfl) (hρ _ _ rfl)) (bool_as (decide_eq_true c1))) rfl rfl rfl (w_n rfl) ?_
      refine TL_q (.bool true) (fun _ _ hρ _ => r_move (hρ _ _ rfl)) rfl rfl rfl (w_n rfl) ?_
      refine TL_q (.int .i64 x) (fun _ _ hρ _ => r_move (hρ _ _ rfl)) rfl rfl rfl (want_y 5 rfl rfl rfl) ?_
      refine TL_q (.bool false) (fun _ _ hρ _ => r_as (r_leq (hρ _ _ rfl) (hρ _ _ rfl)) (bool_as (decide_eq_false c2))) rfl rfl rfl (want_y 5 rfl rfl rfl) ?_
      refine TL_q (.bool false) (fun _ _ hρ _ => r_pick_t (hρ _ _ rfl) (hρ _ _ rfl)) rfl rfl rfl (w_n rfl) ?_
      refine TL_q (.bool false) (fun _ _ hρ _ => r_assign (hρ _ _ rfl)) rfl rfl rfl (w_n rfl) ?_
      refine TL_seq ?_
      refine T_ret' ?_
      refine ret_of rfl (.bool false) (fun tmps w hk hm => res1 rfl (res_tmp (hk 2 _ rfl))) (fun w hm => ?_)
      exact ⟨congrArg Ending.returned (bool_as (decide_eq_false (by omega)).symm), hm.ext⟩
  · skip
    refine T_seq (T_region ?_)
    refine TL_q (.int .i64 x) (fun _ _ hρ _ => r_move (hρ _ _ rfl)) rfl rfl rfl (w_n rfl) ?_
    refine TL_q (.bool false) (fun _ _ hρ _ => r_as (r_geq (hρ _ _ rfl) (hρ _ _ rfl)) (bool_as (decide_eq_false c1))) rfl rfl rfl (w_n rfl) ?_
    refine TL_q (.bool false) (fun _ _ hρ _ => r_move (hρ _ _ rfl)) rfl rfl rfl (w_n rfl) ?_
    refine TL_no rfl rfl (want_n 5 rfl rfl rfl) ?_
    refine TL_no rfl rfl (want_n 5 rfl rfl rfl) ?_
    refine TL_q (.bool false) (fun _ _ hρ _ => r_pick_f (hρ _ _ rfl) (hρ _ _ rfl)) rfl rfl rfl (w_n rfl) ?_
    refine TL_q (.bool false) (fun _ _ hρ _ => r_assign (hρ _ _ rfl)) rfl rfl rfl (w_n rfl) ?_
    refine TL_seq ?_
    refine T_ret' ?_
    refine ret_of rfl (.bool false) (fun tmps w hk hm => res1 rfl (res_tmp (hk 2 _ rfl))) (fun w hm => ?_)
    exact ⟨congrArg Ending.returned (bool_as (decide_eq_false (by omega)).symm), hm.ext⟩

theorem rsite_c (x : Int) (w : World) : Calls Try.prog 49 #[.int .i64 x] w fun e w' => e = .returned (.bool (decide (1 ≤ x ∧ x ≤ 8))) ∧ Below w.heap.size w w' := by
  refine calls_of_T (l := [.int .i64 x]) 9 Try.func49 rfl rfl rfl ?_
  show T _ _ _ [(0, .int .i64 x)] []
  refine T_seq (T_region ?_)
  refine TL_q (.bool false) (fun _ _ hρ _ => r_assign (hρ _ _ rfl)) rfl rfl rfl (w_n rfl) ?_
  refine TL_seq ?_
  by_cases c1 : (1 : Int) ≤ x
  · skip
    by_cases c2 : x ≤ 8
    · skip
      refine T_seq (T_region ?_)
      refine TL_q (.int .i64 x) (fun _ _ hρ _ => r_move (hρ _ _ rfl)) rfl rfl rfl (w_n rfl) ?_
      refine TL_q (.bool true) (fun _ _ hρ _ => r_as (r_geq (hρ _ _ rfl) (hρ _ _ rfl)) (bool_as (decide_eq_true c1))) rfl rfl rfl (w_n rfl) ?_
      refine TL_q (.bool true) (fun _ _ hρ _ => r_move (hρ _ _ rfl)) rfl rfl rfl (w_n rfl) ?_
      refine TL_q (.int .i64 x) (fun _ _ hρ _ => r_move (hρ _ _ rfl)) rfl rfl rfl (want_y 5 rfl rfl rfl) ?_
      refine TL_q (.bool true) (fun _ _ hρ _ => r_as (r_leq (hρ _ _ rfl) (hρ _ _ rfl)) (bool_as (decide_eq_true c2))) rfl rfl rfl (want_y 5 rfl rfl rfl) ?_
      refine TL_q (.bool true) (fun _ _ hρ _ => r_pick_t (hρ _ _ rfl) (hρ _ _ rfl)) rfl rfl rfl (w_n rfl) ?_
      refine TL_q (.bool true) (fun _ _ hρ _ => r_assign (hρ _ _ rfl)) rfl rfl rfl (w_n rfl) ?_
      refine TL_seq ?_
      refine T_ret' ?_
      refine ret_of rfl (.bool true) (fun tmps w hk hm => res1 rfl (res_tmp (hk 2 _ rfl))) (fun w hm => ?_)
      exact ⟨congrArg Ending.returned (bool_as (decide_eq_true (by omega)).symm), hm.ext⟩
    · skip
      refine T_seq (T_region ?_)
      refine TL_q (.int .i64 x) (fun _ _ hρ _ => r_move (hρ _ _ rfl)) rfl rfl rfl (w_n rfl) ?_
      refine TL_q (.bool true) (fun _ _ hρ _ => r_as (r_geq (hρ _ _ rfl) (hρ _ _ rfl)) (bool_as (decide_eq_true c1))) rfl rfl rfl (w_n rfl) ?_
      refine TL_q (.bool true) (fun _ _ hρ _ => r_move (hρ _ _ rfl)) rfl rfl rfl (w_n rfl) ?_
      refine TL_q (.int .i64 x) (fun _ _ hρ _ => r_move (hρ _ _ rfl)) rfl rfl rfl (want_y 5 rfl rfl rfl) ?_
      refine TL_q (.bool false) (fun _ _ hρ _ => r_as (r_leq (hρ _ _ rfl) (hρ _ _ rfl)) (bool_as (decide_eq_false c2))) rfl rfl rfl (want_y 5 rfl rfl rfl) ?_
      refine TL_q (.bool false) (fun _ _ hρ _ => r_pick_t (hρ _ _ rfl) (hρ _ _ rfl)) rfl rfl rfl (w_n rfl) ?_
      refine TL_q (.bool false) (fun _ _ hρ _ => r_assign (hρ _ _ rfl)) rfl rfl rfl (w_n rfl) ?_
      refine TL_seq ?_
      refine T_ret' ?_
      refine ret_of rfl (.bool false) (fun tmps w hk hm => res1 rfl (res_tmp (hk 2 _ rfl))) (fun w hm => ?_)
      exact ⟨congrArg Ending.returned (bool_as (decide_eq_false (by omega)).symm), hm.ext⟩
  · skip
    refine T_seq (T_region ?_)
    refine TL_q (.int .i64 x) (fun _ _ hρ _ => r_move (hρ _ _ rfl)) rfl rfl rfl (w_n rfl) ?_
    refine TL_q (.bool false) (fun _ _ hρ _ => r_as (r_geq (hρ _ _ rfl) (hρ _ _ rfl)) (bool_as (decide_eq_false c1))) rfl rfl rfl (w_n rfl) ?_
    refine TL_q (.bool false) (fun _ _ hρ _ => r_move (hρ _ _ rfl)) rfl rfl rfl (w_n rfl) ?_
    refine TL_no rfl rfl (want_n 5 rfl rfl rfl) ?_
    refine TL_no rfl rfl (want_n 5 rfl rfl rfl) ?_
    refine TL_q (.bool false) (fun _ _ hρ _ => r_pick_f (hρ _ _ rfl) (hρ _ _ rfl)) rfl rfl rfl (w_n rfl) ?_
    refine TL_q (.bool false) (fun _ _ hρ _ => r_assign (hρ _ _ rfl)) rfl rfl rfl (w_n rfl) ?_
    refine TL_seq ?_
    refine T_ret' ?_
    refine ret_of rfl (.bool false) (fun tmps w hk hm => res1 rfl (res_tmp (hk 2 _ rfl))) (fun w hm => ?_)
    exact ⟨congrArg Ending.returned (bool_as (decide_eq_false (by omega)).symm), hm.ext⟩

theorem rless_c (a b : Tid) (w : World) : Calls Try.prog 62 #[a.v, b.v] w fun e w' => e = .returned (.bool (lessI a b)) ∧ Below w.heap.size w w' := by
  refine calls_of_T (l := [.agg #[.int .u64 a.t, .int .i64 a.s, .int .u64 a.q], .agg #[.int .u64 b.t, .int .i64 b.s, .int .u64 b.q]]) 30 Try.func62 rfl rfl rfl ?_
  show T _ _ _ [(0, .agg #[.int .u64 a.t, .int .i64 a.s, .int .u64 a.q]), (1, .agg #[.int .u64 b.t, .int .i64 b.s, .int .u64 b.q])] []
  refine T_seq (T_region ?_)
  refine TL_new 1 (.cells #[.int .u64 a.t, .int .i64 a.s, .int .u64 a.q] 32) (fun B => .pointer (some ⟨B, 0, none⟩)) (fun _ _ hρ _ => r_box (hρ _ _ rfl) rfl) rfl rfl rfl (w_n rfl) ?_
  intro B1
  refine TL_new 2 (.cells #[.int .u64 b.t, .int .i64 b.s, .int .u64 b.q] 32) (fun B => .pointer (some ⟨B, 0, none⟩)) (fun _ _ hρ _ => r_box (hρ _ _ rfl) rfl) rfl rfl rfl (w_n rfl) ?_
  intro B2
  refine TL_q (.bool false) (fun _ _ hρ _ => r_assign (hρ _ _ rfl)) rfl rfl rfl (w_n rfl) ?_
  refine TL_seq ?_
  refine T_seq ?_
  refine T_seq (T_region ?_)
  refine TL_q (.pointer (some ⟨B1, 0, none⟩)) (fun _ _ hρ _ => r_fieldAddr fl32_0 sz30 (hρ _ _ rfl)) rfl rfl rfl (w_n rfl) ?_
  refine TL_q (.int .u64 a.t) (fun _ _ hρ hm => r_load ag30 (hρ _ _ rfl) (hm.at 1 rfl) rfl) rfl rfl rfl (w_n rfl) ?_
  refine TL_q (.pointer (some ⟨B2, 0, none⟩)) (fun _ _ hρ _ => r_fieldAddr fl32_0 sz30 (hρ _ _ rfl)) rfl rfl rfl (w_n rfl) ?_
  refine TL_q (.int .u64 b.t) (fun _ _ hρ hm => r_load ag30 (hρ _ _ rfl) (hm.at 2 rfl) rfl) rfl rfl rfl (w_n rfl) ?_
  refine TL_q (.bool (!decide (a.t = b.t))) (fun _ _ hρ _ => r_neq (hρ _ _ rfl) (hρ _ _ rfl)) rfl rfl rfl (w_n rfl) ?_
  refine TL_seq ?_
  refine T_cond rfl (fun h1 => ?_) (fun h1 => ?_)
  · replace h1 := of_decide_eq_false (bnot_t h1)
    refine T_seq (T_region ?_)
    refine TL_q (.pointer (some ⟨B1, 0, none⟩)) (fun _ _ hρ _ => r_fieldAddr fl32_0 sz30 (hρ _ _ rfl)) rfl rfl rfl (w_n rfl) ?_
    refine TL_q (.int .u64 a.t) (fun _ _ hρ hm => r_load ag30 (hρ _ _ rfl) (hm.at 1 rfl) rfl) rfl rfl rfl (w_n rfl) ?_
    refine TL_q (.pointer (some ⟨B2, 0, none⟩)) (fun _ _ hρ _ => r_fieldAddr fl32_0 sz30 (hρ _ _ rfl)) rfl rfl rfl (w_n rfl) ?_
    refine TL_q (.int .u64 b.t) (fun _ _ hρ hm => r_load ag30 (hρ _ _ rfl) (hm.at 2 rfl) rfl) rfl rfl rfl (w_n rfl) ?_
    refine TL_q (.bool (decide (a.t < b.t))) (fun _ _ hρ _ => r_lss (hρ _ _ rfl) (hρ _ _ rfl)) rfl rfl rfl (w_n rfl) ?_
    refine TL_q (.bool (decide (a.t < b.t))) (fun _ _ hρ _ => r_assign (hρ _ _ rfl)) rfl rfl rfl (w_n rfl) ?_
    refine TL_seq ?_
    refine T_ret' ?_
    refine p_then_r ?_
    refine ret_of rfl (.bool (decide (a.t < b.t))) (fun tmps w hk hm => res1 rfl (res_tmp (hk 4 _ rfl))) (fun w hm => ?_)
    refine ⟨congrArg Ending.returned (bool_as (decide_eq_decide.2 ?_)), hm.ext⟩
    omega
  · replace h1 := of_decide_eq_true (bnot_f h1)
    refine T_skip' ?_
    refine p_seq ?_
    refine T_seq ?_
    refine T_seq (T_region ?_)
    refine TL_q (.pointer (some ⟨B1, 1, none⟩)) (fun _ _ hρ _ => r_fieldAddr fl32_1 sz3 (hρ _ _ rfl)) rfl rfl rfl (w_n rfl) ?_
    refine TL_q (.int .i64 a.s) (fun _ _ hρ hm => r_load ag3 (hρ _ _ rfl) (hm.at 1 rfl) rfl) rfl rfl rfl (w_n rfl) ?_
    refine TL_q (.pointer (some ⟨B2, 1, none⟩)) (fun _ _ hρ _ => r_fieldAddr fl32_1 sz3 (hρ _ _ rfl)) rfl rfl rfl (w_n rfl) ?_
    refine TL_q (.int .i64 b.s) (fun _ _ hρ hm => r_load ag3 (hρ _ _ rfl) (hm.at 2 rfl) rfl) rfl rfl rfl (w_n rfl) ?_
    refine TL_q (.bool (!decide (a.s = b.s))) (fun _ _ hρ _ => r_neq (hρ _ _ rfl) (hρ _ _ rfl)) rfl rfl rfl (w_n rfl) ?_
    refine TL_seq ?_
    refine T_cond rfl (fun h2 => ?_) (fun h2 => ?_)
    · replace h2 := of_decide_eq_false (bnot_t h2)
      refine T_seq (T_region ?_)
      refine TL_q (.pointer (some ⟨B1, 1, none⟩)) (fun _ _ hρ _ => r_fieldAddr fl32_1 sz3 (hρ _ _ rfl)) rfl rfl rfl (w_n rfl) ?_
      refine TL_q (.int .i64 a.s) (fun _ _ hρ hm => r_load ag3 (hρ _ _ rfl) (hm.at 1 rfl) rfl) rfl rfl rfl (w_n rfl) ?_
      refine TL_q (.pointer (some ⟨B2, 1, none⟩)) (fun _ _ hρ _ => r_fieldAddr fl32_1 sz3 (hρ _ _ rfl)) rfl rfl rfl (w_n rfl) ?_
      refine TL_q (.int .i64 b.s) (fun _ _ hρ hm => r_load ag3 (hρ _ _ rfl) (hm.at 2 rfl) rfl) rfl rfl rfl (w_n rfl) ?_
      refine TL_q (.bool (decide (a.s < b.s))) (fun _ _ hρ _ => r_lss (hρ _ _ rfl) (hρ _ _ rfl)) rfl rfl rfl (w_n rfl) ?_
      refine TL_q (.bool (decide (a.s < b.s))) (fun _ _ hρ _ => r_assign (hρ _ _ rfl)) rfl rfl rfl (w_n rfl) ?_
      refine TL_seq ?_
      refine T_ret' ?_
      refine p_then_r ?_
      refine ret_of rfl (.bool (decide (a.s < b.s))) (fun tmps w hk hm => res1 rfl (res_tmp (hk 4 _ rfl))) (fun w hm => ?_)
      refine ⟨congrArg Ending.returned (bool_as (decide_eq_decide.2 ?_)), hm.ext⟩
      omega
    · replace h2 := of_decide_eq_true (bnot_f h2)
      refine T_skip' ?_
      refine p_seq ?_
      refine T_seq (T_region ?_)
      refine TL_q (.pointer (some ⟨B1, 2, none⟩)) (fun _ _ hρ _ => r_fieldAddr fl32_2 sz30 (hρ _ _ rfl)) rfl rfl rfl (w_n rfl) ?_
      refine TL_q (.int .u64 a.q) (fun _ _ hρ hm => r_load ag30 (hρ _ _ rfl) (hm.at 1 rfl) rfl) rfl rfl rfl (w_n rfl) ?_
      refine TL_q (.pointer (some ⟨B2, 2, none⟩)) (fun _ _ hρ _ => r_fieldAddr fl32_2 sz30 (hρ _ _ rfl)) rfl rfl rfl (w_n rfl) ?_
      refine TL_q (.int .u64 b.q) (fun _ _ hρ hm => r_load ag30 (hρ _ _ rfl) (hm.at 2 rfl) rfl) rfl rfl rfl (w_n rfl) ?_
      refine TL_q (.bool (decide (a.q < b.q))) (fun _ _ hρ _ => r_lss (hρ _ _ rfl) (hρ _ _ rfl)) rfl rfl rfl (w_n rfl) ?_
      refine TL_q (.bool (decide (a.q < b.q))) (fun _ _ hρ _ => r_assign (hρ _ _ rfl)) rfl rfl rfl (w_n rfl) ?_
      refine TL_seq ?_
      refine T_ret' ?_
      refine ret_of rfl (.bool (decide (a.q < b.q))) (fun tmps w hk hm => res1 rfl (res_tmp (hk 4 _ rfl))) (fun w hm => ?_)
      refine ⟨congrArg Ending.returned (bool_as (decide_eq_decide.2 ?_)), hm.ext⟩
      omega

theorem icheck_c (i : Tid) (w : World) : Calls Try.prog 16 #[i.v] w fun e w' => e = .returned (.int .i64 (if okI i = true then 0 else 210)) ∧ Below w.heap.size w w' := by
  refine calls_of_T (l := [.agg #[.int .u64 i.t, .int .i64 i.s, .int .u64 i.q]]) 27 Try.func16 rfl rfl rfl ?_
  show T _ _ _ [(0, .agg #[.int .u64 i.t, .int .i64 i.s, .int .u64 i.q])] []
  refine T_seq (T_region ?_)
  refine TL_new 1 (.cells #[.int .u64 i.t, .int .i64 i.s, .int .u64 i.q] 32) (fun B => .pointer (some ⟨B, 0, none⟩)) (fun _ _ hρ _ => r_box (hρ _ _ rfl) rfl) rfl rfl rfl (w_n rfl) ?_
  intro B1
  refine TL_q (.int .i64 0) (fun _ _ hρ _ => r_assign (hρ _ _ rfl)) rfl rfl rfl (w_n rfl) ?_
  refine TL_seq ?_
  refine T_seq ?_
  by_cases c1 : i.t < 1
  · skip
    refine T_seq (T_region ?_)
    refine TL_q (.pointer (some ⟨B1, 0, none⟩)) (fun _ _ hρ _ => r_fieldAddr fl32_0 sz30 (hρ _ _ rfl)) rfl rfl rfl (w_n rfl) ?_
    refine TL_q (.int .u64 i.t) (fun _ _ hρ hm => r_load ag30 (hρ _ _ rfl) (hm.at 1 rfl) rfl) rfl rfl rfl (w_n rfl) ?_
    refine TL_q (.bool true) (fun _ _ hρ _ => r_as (r_lss (hρ _ _ rfl) (hρ _ _ rfl)) (bool_as (decide_eq_true c1))) rfl rfl rfl (w_n rfl) ?_
    refine TL_q (.bool true) (fun _ _ hρ _ => r_move (hρ _ _ rfl)) rfl rfl rfl (w_n rfl) ?_
    refine TL_no rfl rfl (want_n 6 rfl rfl rfl) ?_
    refine TL_no rfl rfl (want_n 6 rfl rfl rfl) ?_
    refine TL_no rfl rfl (want_n 6 rfl rfl rfl) ?_
    refine TL_q (.bool true) (fun _ _ hρ _ => r_pick_t (hρ _ _ rfl) (hρ _ _ rfl)) rfl rfl rfl (w_n rfl) ?_
    refine TL_q (.bool true) (fun _ _ hρ _ => r_move (hρ _ _ rfl)) rfl rfl rfl (w_n rfl) ?_
    refine TL_no rfl rfl (want_n 11 rfl rfl rfl) ?_
    refine TL_no rfl rfl (want_n 11 rfl rfl rfl) ?_
    refine TL_no rfl rfl (want_n 11 rfl rfl rfl) ?_
    refine TL_no rfl rfl (want_n 11 rfl rfl rfl) ?_
    refine TL_q (.bool true) (fun _ _ hρ _ => r_pick_t (hρ _ _ rfl) (hρ _ _ rfl)) rfl rfl rfl (w_n rfl) ?_
    refine TL_q (.bool true) (fun _ _ hρ _ => r_move (hρ _ _ rfl)) rfl rfl rfl (w_n rfl) ?_
    refine TL_no rfl rfl (want_n 17 rfl rfl rfl) ?_
    refine TL_no rfl rfl (want_n 17 rfl rfl rfl) ?_
    refine TL_no rfl rfl (want_n 17 rfl rfl rfl) ?_
    refine TL_q (.bool true) (fun _ _ hρ _ => r_pick_t (hρ _ _ rfl) (hρ _ _ rfl)) rfl rfl rfl (w_n rfl) ?_
    refine TL_q (.bool true) (fun _ _ hρ _ => r_move (hρ _ _ rfl)) rfl rfl rfl (w_n rfl) ?_
    refine TL_no rfl rfl (want_n 22 rfl rfl rfl) ?_
    refine TL_no rfl rfl (want_n 22 rfl rfl rfl) ?_
    refine TL_no rfl rfl (want_n 22 rfl rfl rfl) ?_
    refine TL_q (.bool true) (fun _ _ hρ _ => r_pick_t (hρ _ _ rfl) (hρ _ _ rfl)) rfl rfl rfl (w_n rfl) ?_
    refine TL_seq ?_
    refine T_cond_t rfl ?_
    refine T_seq (T_region ?_)
    refine TL_q (.int .i64 210) (fun _ _ hρ _ => r_assign (hρ _ _ rfl)) rfl rfl rfl (w_n rfl) ?_
    refine TL_seq ?_
    refine T_ret' ?_
    refine p_then_r ?_
    refine ret_of rfl (.int .i64 210) (fun tmps w hk hm => res1 rfl (res_tmp (hk 2 _ rfl))) (fun w hm => ?_)
    exact ⟨by rw [show okI i = false from decide_eq_false (by omega)]; rfl, hm.ext⟩
  · skip
    by_cases c2 : (4611686018427387904 : Int) < i.t
    · skip
      refine T_seq (T_region ?_)
      refine TL_q (.pointer (some ⟨B1, 0, none⟩)) (fun _ _ hρ _ => r_fieldAddr fl32_0 sz30 (hρ _ _ rfl)) rfl rfl rfl (w_n rfl) ?_
      refine TL_q (.int .u64 i.t) (fun _ _ hρ hm => r_load ag30 (hρ _ _ rfl) (hm.at 1 rfl) rfl) rfl rfl rfl (w_n rfl) ?_
      refine TL_q (.bool false) (fun _ _ hρ _ => r_as (r_lss (hρ _ _ rfl) (hρ _ _ rfl)) (bool_as (decide_eq_false c1))) rfl rfl rfl (w_n rfl) ?_
      refine TL_q (.bool false) (fun _ _ hρ _ => r_move (hρ _ _ rfl)) rfl rfl rfl (w_n rfl) ?_
      refine TL_q (.pointer (some ⟨B1, 0, none⟩)) (fun _ _ hρ _ => r_fieldAddr fl32_0 sz30 (hρ _ _ rfl)) rfl rfl rfl (want_y 6 rfl rfl rfl) ?_
      refine TL_q (.int .u64 i.t) (fun _ _ hρ hm => r_load ag30 (hρ _ _ rfl) (hm.at 1 rfl) rfl) rfl rfl rfl (want_y 6 rfl rfl rfl) ?_
      refine TL_q (.bool true) (fun _ _ hρ _ => r_as (r_gtr (hρ _ _ rfl) (hρ _ _ rfl)) (bool_as (decide_eq_true c2))) rfl rfl rfl (want_y 6 rfl rfl rfl) ?_
      refine TL_q (.bool true) (fun _ _ hρ _ => r_pick_f (hρ _ _ rfl) (hρ _ _ rfl)) rfl rfl rfl (w_n rfl) ?_
      refine TL_q (.bool true) (fun _ _ hρ _ => r_move (hρ _ _ rfl)) rfl rfl rfl (w_n rfl) ?_
      refine TL_no rfl rfl (want_n 11 rfl rfl rfl) ?_
      refine TL_no rfl rfl (want_n 11 rfl rfl rfl) ?_
      refine TL_no rfl rfl (want_n 11 rfl rfl rfl) ?_
      refine TL_no rfl rfl (want_n 11 rfl rfl rfl) ?_
      refine TL_q (.bool true) (fun _ _ hρ _ => r_pick_t (hρ _ _ rfl) (hρ _ _ rfl)) rfl rfl rfl (w_n rfl) ?_
      refine TL_q (.bool true) (fun _ _ hρ _ => r_move (hρ _ _ rfl)) rfl rfl rfl (w_n rfl) ?_
      refine TL_no rfl rfl (want_n 17 rfl rfl rfl) ?_
      refine TL_no rfl rfl (want_n 17 rfl rfl rfl) ?_
      refine TL_no rfl rfl (want_n 17 rfl rfl rfl) ?_
      refine TL_q (.bool true) (fun _ _ hρ _ => r_pick_t (hρ _ _ rfl) (hρ _ _ rfl)) rfl rfl rfl (w_n rfl) ?_
      refine TL_q (.bool true) (fun _ _ hρ _ => r_move (hρ _ _ rfl)) rfl rfl rfl (w_n rfl) ?_
      refine TL_no rfl rfl (want_n 22 rfl rfl rfl) ?_
      refine TL_no rfl rfl (want_n 22 rfl rfl rfl) ?_
      refine TL_no rfl rfl (want_n 22 rfl rfl rfl) ?_
      refine TL_q (.bool true) (fun _ _ hρ _ => r_pick_t (hρ _ _ rfl) (hρ _ _ rfl)) rfl rfl rfl (w_n rfl) ?_
      refine TL_seq ?_
      refine T_cond_t rfl ?_
      refine T_seq (T_region ?_)
      refine TL_q (.int .i64 210) (fun _ _ hρ _ => r_assign (hρ _ _ rfl)) rfl rfl rfl (w_n rfl) ?_
      refine TL_seq ?_
      refine T_ret' ?_
      refine p_then_r ?_
      refine ret_of rfl (.int .i64 210) (fun tmps w hk hm => res1 rfl (res_tmp (hk 2 _ rfl))) (fun w hm => ?_)
      exact ⟨by rw [show okI i = false from decide_eq_false (by omega)]; rfl, hm.ext⟩
    · skip
      by_cases c3 : 1 ≤ i.s ∧ i.s ≤ 8
      · skip
        by_cases c4 : i.q < 1
        · skip
          refine T_seq (T_region ?_)
          refine TL_q (.pointer (some ⟨B1, 0, none⟩)) (fun _ _ hρ _ => r_fieldAddr fl32_0 sz30 (hρ _ _ rfl)) rfl rfl rfl (w_n rfl) ?_
          refine TL_q (.int .u64 i.t) (fun _ _ hρ hm => r_load ag30 (hρ _ _ rfl) (hm.at 1 rfl) rfl) rfl rfl rfl (w_n rfl) ?_
          refine TL_q (.bool false) (fun _ _ hρ _ => r_as (r_lss (hρ _ _ rfl) (hρ _ _ rfl)) (bool_as (decide_eq_false c1))) rfl rfl rfl (w_n rfl) ?_
          refine TL_q (.bool false) (fun _ _ hρ _ => r_move (hρ _ _ rfl)) rfl rfl rfl (w_n rfl) ?_
          refine TL_q (.pointer (some ⟨B1, 0, none⟩)) (fun _ _ hρ _ => r_fieldAddr fl32_0 sz30 (hρ _ _ rfl)) rfl rfl rfl (want_y 6 rfl rfl rfl) ?_
          refine TL_q (.int .u64 i.t) (fun _ _ hρ hm => r_load ag30 (hρ _ _ rfl) (hm.at 1 rfl) rfl) rfl rfl rfl (want_y 6 rfl rfl rfl) ?_
          refine TL_q (.bool false) (fun _ _ hρ _ => r_as (r_gtr (hρ _ _ rfl) (hρ _ _ rfl)) (bool_as (decide_eq_false c2))) rfl rfl rfl (want_y 6 rfl rfl rfl) ?_
          refine TL_q (.bool false) (fun _ _ hρ _ => r_pick_f (hρ _ _ rfl) (hρ _ _ rfl)) rfl rfl rfl (w_n rfl) ?_
          refine TL_q (.bool false) (fun _ _ hρ _ => r_move (hρ _ _ rfl)) rfl rfl rfl (w_n rfl) ?_
          refine TL_q (.pointer (some ⟨B1, 1, none⟩)) (fun _ _ hρ _ => r_fieldAddr fl32_1 sz3 (hρ _ _ rfl)) rfl rfl rfl (want_y 11 rfl rfl rfl) ?_
          refine TL_q (.int .i64 i.s) (fun _ _ hρ hm => r_load ag3 (hρ _ _ rfl) (hm.at 1 rfl) rfl) rfl rfl rfl (want_y 11 rfl rfl rfl) ?_
          refine TL_call (.bool true) (fun _ _ hρ _ => r_call (args := [.int .i64 i.s]) (enters_of Try.func48 (by kernel_rfl) rfl) (hρ _ _ rfl) ((cons2 (hρ _ _ rfl) rfl)) rfl) (fun w _ => (site_c i.s w).mono fun _ _ h => ⟨h.1.trans (congrArg Ending.returned (bool_as (decide_eq_true c3))), h.2⟩) rfl rfl rfl (want_y 11 rfl rfl rfl) ?_
          refine TL_q (.bool false) (fun _ _ hρ _ => r_not (b := true) (hρ _ _ rfl)) rfl rfl rfl (want_y 11 rfl rfl rfl) ?_
          refine TL_q (.bool false) (fun _ _ hρ _ => r_pick_f (hρ _ _ rfl) (hρ _ _ rfl)) rfl rfl rfl (w_n rfl) ?_
          refine TL_q (.bool false) (fun _ _ hρ _ => r_move (hρ _ _ rfl)) rfl rfl rfl (w_n rfl) ?_
          refine TL_q (.pointer (some ⟨B1, 2, none⟩)) (fun _ _ hρ _ => r_fieldAddr fl32_2 sz30 (hρ _ _ rfl)) rfl rfl rfl (want_y 17 rfl rfl rfl) ?_
          refine TL_q (.int .u64 i.q) (fun _ _ hρ hm => r_load ag30 (hρ _ _ rfl) (hm.at 1 rfl) rfl) rfl rfl rfl (want_y 17 rfl rfl rfl) ?_
          refine TL_q (.bool true) (fun _ _ hρ _ => r_as (r_lss (hρ _ _ rfl) (hρ _ _ rfl)) (bool_as (decide_eq_true c4))) rfl rfl rfl (want_y 17 rfl rfl rfl) ?_
          refine TL_q (.bool true) (fun _ _ hρ _ => r_pick_f (hρ _ _ rfl) (hρ _ _ rfl)) rfl rfl rfl (w_n rfl) ?_
          refine TL_q (.bool true) (fun _ _ hρ _ => r_move (hρ _ _ rfl)) rfl rfl rfl (w_n rfl) ?_
          refine TL_no rfl rfl (want_n 22 rfl rfl rfl) ?_
          refine TL_no rfl rfl (want_n 22 rfl rfl rfl) ?_
          refine TL_no rfl rfl (want_n 22 rfl rfl rfl) ?_
          refine TL_q (.bool true) (fun _ _ hρ _ => r_pick_t (hρ _ _ rfl) (hρ _ _ rfl)) rfl rfl rfl (w_n rfl) ?_
          refine TL_seq ?_
          refine T_cond_t rfl ?_
          refine T_seq (T_region ?_)
          refine TL_q (.int .i64 210) (fun _ _ hρ _ => r_assign (hρ _ _ rfl)) rfl rfl rfl (w_n rfl) ?_
          refine TL_seq ?_
          refine T_ret' ?_
          refine p_then_r ?_
          refine ret_of rfl (.int .i64 210) (fun tmps w hk hm => res1 rfl (res_tmp (hk 2 _ rfl))) (fun w hm => ?_)
          exact ⟨by rw [show okI i = false from decide_eq_false (by omega)]; rfl, hm.ext⟩
        · skip
          by_cases c5 : (4611686018427387904 : Int) < i.q
          · skip
            refine T_seq (T_region ?_)
            refine TL_q (.pointer (some ⟨B1, 0, none⟩)) (fun _ _ hρ _ => r_fieldAddr fl32_0 sz30 (hρ _ _ rfl)) rfl rfl rfl (w_n rfl) ?_
            refine TL_q (.int .u64 i.t) (fun _ _ hρ hm => r_load ag30 (hρ _ _ rfl) (hm.at 1 rfl) rfl) rfl rfl rfl (w_n rfl) ?_
            refine TL_q (.bool false) (fun _ _ hρ _ => r_as (r_lss (hρ _ _ rfl) (hρ _ _ rfl)) (bool_as (decide_eq_false c1))) rfl rfl rfl (w_n rfl) ?_
            refine TL_q (.bool false) (fun _ _ hρ _ => r_move (hρ _ _ rfl)) rfl rfl rfl (w_n rfl) ?_
            refine TL_q (.pointer (some ⟨B1, 0, none⟩)) (fun _ _ hρ _ => r_fieldAddr fl32_0 sz30 (hρ _ _ rfl)) rfl rfl rfl (want_y 6 rfl rfl rfl) ?_
            refine TL_q (.int .u64 i.t) (fun _ _ hρ hm => r_load ag30 (hρ _ _ rfl) (hm.at 1 rfl) rfl) rfl rfl rfl (want_y 6 rfl rfl rfl) ?_
            refine TL_q (.bool false) (fun _ _ hρ _ => r_as (r_gtr (hρ _ _ rfl) (hρ _ _ rfl)) (bool_as (decide_eq_false c2))) rfl rfl rfl (want_y 6 rfl rfl rfl) ?_
            refine TL_q (.bool false) (fun _ _ hρ _ => r_pick_f (hρ _ _ rfl) (hρ _ _ rfl)) rfl rfl rfl (w_n rfl) ?_
            refine TL_q (.bool false) (fun _ _ hρ _ => r_move (hρ _ _ rfl)) rfl rfl rfl (w_n rfl) ?_
            refine TL_q (.pointer (some ⟨B1, 1, none⟩)) (fun _ _ hρ _ => r_fieldAddr fl32_1 sz3 (hρ _ _ rfl)) rfl rfl rfl (want_y 11 rfl rfl rfl) ?_
            refine TL_q (.int .i64 i.s) (fun _ _ hρ hm => r_load ag3 (hρ _ _ rfl) (hm.at 1 rfl) rfl) rfl rfl rfl (want_y 11 rfl rfl rfl) ?_
            refine TL_call (.bool true) (fun _ _ hρ _ => r_call (args := [.int .i64 i.s]) (enters_of Try.func48 (by kernel_rfl) rfl) (hρ _ _ rfl) ((cons2 (hρ _ _ rfl) rfl)) rfl) (fun w _ => (site_c i.s w).mono fun _ _ h => ⟨h.1.trans (congrArg Ending.returned (bool_as (decide_eq_true c3))), h.2⟩) rfl rfl rfl (want_y 11 rfl rfl rfl) ?_
            refine TL_q (.bool false) (fun _ _ hρ _ => r_not (b := true) (hρ _ _ rfl)) rfl rfl rfl (want_y 11 rfl rfl rfl) ?_
            refine TL_q (.bool false) (fun _ _ hρ _ => r_pick_f (hρ _ _ rfl) (hρ _ _ rfl)) rfl rfl rfl (w_n rfl) ?_
            refine TL_q (.bool false) (fun _ _ hρ _ => r_move (hρ _ _ rfl)) rfl rfl rfl (w_n rfl) ?_
            refine TL_q (.pointer (some ⟨B1, 2, none⟩)) (fun _ _ hρ _ => r_fieldAddr fl32_2 sz30 (hρ _ _ rfl)) rfl rfl rfl (want_y 17 rfl rfl rfl) ?_
            refine TL_q (.int .u64 i.q) (fun _ _ hρ hm => r_load ag30 (hρ _ _ rfl) (hm.at 1 rfl) rfl) rfl rfl rfl (want_y 17 rfl rfl rfl) ?_
            refine TL_q (.bool false) (fun _ _ hρ _ => r_as (r_lss (hρ _ _ rfl) (hρ _ _ rfl)) (bool_as (decide_eq_false c4))) rfl rfl rfl (want_y 17 rfl rfl rfl) ?_
            refine TL_q (.bool false) (fun _ _ hρ _ => r_pick_f (hρ _ _ rfl) (hρ _ _ rfl)) rfl rfl rfl (w_n rfl) ?_
            refine TL_q (.bool false) (fun _ _ hρ _ => r_move (hρ _ _ rfl)) rfl rfl rfl (w_n rfl) ?_
            refine TL_q (.pointer (some ⟨B1, 2, none⟩)) (fun _ _ hρ _ => r_fieldAddr fl32_2 sz30 (hρ _ _ rfl)) rfl rfl rfl (want_y 22 rfl rfl rfl) ?_
            refine TL_q (.int .u64 i.q) (fun _ _ hρ hm => r_load ag30 (hρ _ _ rfl) (hm.at 1 rfl) rfl) rfl rfl rfl (want_y 22 rfl rfl rfl) ?_
            refine TL_q (.bool true) (fun _ _ hρ _ => r_as (r_gtr (hρ _ _ rfl) (hρ _ _ rfl)) (bool_as (decide_eq_true c5))) rfl rfl rfl (want_y 22 rfl rfl rfl) ?_
            refine TL_q (.bool true) (fun _ _ hρ _ => r_pick_f (hρ _ _ rfl) (hρ _ _ rfl)) rfl rfl rfl (w_n rfl) ?_
            refine TL_seq ?_
            refine T_cond_t rfl ?_
            refine T_seq (T_region ?_)
            refine TL_q (.int .i64 210) (fun _ _ hρ _ => r_assign (hρ _ _ rfl)) rfl rfl rfl (w_n rfl) ?_
            refine TL_seq ?_
            refine T_ret' ?_
            refine p_then_r ?_
            refine ret_of rfl (.int .i64 210) (fun tmps w hk hm => res1 rfl (res_tmp (hk 2 _ rfl))) (fun w hm => ?_)
            exact ⟨by rw [show okI i = false from decide_eq_false (by omega)]; rfl, hm.ext⟩
          · skip
            refine T_seq (T_region ?_)
            refine TL_q (.pointer (some ⟨B1, 0, none⟩)) (fun _ _ hρ _ => r_fieldAddr fl32_0 sz30 (hρ _ _ rfl)) rfl rfl rfl (w_n rfl) ?_
            refine TL_q (.int .u64 i.t) (fun _ _ hρ hm => r_load ag30 (hρ _ _ rfl) (hm.at 1 rfl) rfl) rfl rfl rfl (w_n rfl) ?_
            refine TL_q (.bool false) (fun _ _ hρ _ => r_as (r_lss (hρ _ _ rfl) (hρ _ _ rfl)) (bool_as (decide_eq_false c1))) rfl rfl rfl (w_n rfl) ?_
            refine TL_q (.bool false) (fun _ _ hρ _ => r_move (hρ _ _ rfl)) rfl rfl rfl (w_n rfl) ?_
            refine TL_q (.pointer (some ⟨B1, 0, none⟩)) (fun _ _ hρ _ => r_fieldAddr fl32_0 sz30 (hρ _ _ rfl)) rfl rfl rfl (want_y 6 rfl rfl rfl) ?_
            refine TL_q (.int .u64 i.t) (fun _ _ hρ hm => r_load ag30 (hρ _ _ rfl) (hm.at 1 rfl) rfl) rfl rfl rfl (want_y 6 rfl rfl rfl) ?_
            refine TL_q (.bool false) (fun _ _ hρ _ => r_as (r_gtr (hρ _ _ rfl) (hρ _ _ rfl)) (bool_as (decide_eq_false c2))) rfl rfl rfl (want_y 6 rfl rfl rfl) ?_
            refine TL_q (.bool false) (fun _ _ hρ _ => r_pick_f (hρ _ _ rfl) (hρ _ _ rfl)) rfl rfl rfl (w_n rfl) ?_
            refine TL_q (.bool false) (fun _ _ hρ _ => r_move (hρ _ _ rfl)) rfl rfl rfl (w_n rfl) ?_
            refine TL_q (.pointer (some ⟨B1, 1, none⟩)) (fun _ _ hρ _ => r_fieldAddr fl32_1 sz3 (hρ _ _ rfl)) rfl rfl rfl (want_y 11 rfl rfl rfl) ?_
            refine TL_q (.int .i64 i.s) (fun _ _ hρ hm => r_load ag3 (hρ _ _ rfl) (hm.at 1 rfl) rfl) rfl rfl rfl (want_y 11 rfl rfl rfl) ?_
            refine TL_call (.bool true) (fun _ _ hρ _ => r_call (args := [.int .i64 i.s]) (enters_of Try.func48 (by kernel_rfl) rfl) (hρ _ _ rfl) ((cons2 (hρ _ _ rfl) rfl)) rfl) (fun w _ => (site_c i.s w).mono fun _ _ h => ⟨h.1.trans (congrArg Ending.returned (bool_as (decide_eq_true c3))), h.2⟩) rfl rfl rfl (want_y 11 rfl rfl rfl) ?_
            refine TL_q (.bool false) (fun _ _ hρ _ => r_not (b := true) (hρ _ _ rfl)) rfl rfl rfl (want_y 11 rfl rfl rfl) ?_
            refine TL_q (.bool false) (fun _ _ hρ _ => r_pick_f (hρ _ _ rfl) (hρ _ _ rfl)) rfl rfl rfl (w_n rfl) ?_
            refine TL_q (.bool false) (fun _ _ hρ _ => r_move (hρ _ _ rfl)) rfl rfl rfl (w_n rfl) ?_
            refine TL_q (.pointer (some ⟨B1, 2, none⟩)) (fun _ _ hρ _ => r_fieldAddr fl32_2 sz30 (hρ _ _ rfl)) rfl rfl rfl (want_y 17 rfl rfl rfl) ?_
            refine TL_q (.int .u64 i.q) (fun _ _ hρ hm => r_load ag30 (hρ _ _ rfl) (hm.at 1 rfl) rfl) rfl rfl rfl (want_y 17 rfl rfl rfl) ?_
            refine TL_q (.bool false) (fun _ _ hρ _ => r_as (r_lss (hρ _ _ rfl) (hρ _ _ rfl)) (bool_as (decide_eq_false c4))) rfl rfl rfl (want_y 17 rfl rfl rfl) ?_
            refine TL_q (.bool false) (fun _ _ hρ _ => r_pick_f (hρ _ _ rfl) (hρ _ _ rfl)) rfl rfl rfl (w_n rfl) ?_
            refine TL_q (.bool false) (fun _ _ hρ _ => r_move (hρ _ _ rfl)) rfl rfl rfl (w_n rfl) ?_
            refine TL_q (.pointer (some ⟨B1, 2, none⟩)) (fun _ _ hρ _ => r_fieldAddr fl32_2 sz30 (hρ _ _ rfl)) rfl rfl rfl (want_y 22 rfl rfl rfl) ?_
            refine TL_q (.int .u64 i.q) (fun _ _ hρ hm => r_load ag30 (hρ _ _ rfl) (hm.at 1 rfl) rfl) rfl rfl rfl (want_y 22 rfl rfl rfl) ?_
            refine TL_q (.bool false) (fun _ _ hρ _ => r_as (r_gtr (hρ _ _ rfl) (hρ _ _ rfl)) (bool_as (decide_eq_false c5))) rfl rfl rfl (want_y 22 rfl rfl rfl) ?_
            refine TL_q (.bool false) (fun _ _ hρ _ => r_pick_f (hρ _ _ rfl) (hρ _ _ rfl)) rfl rfl rfl (w_n rfl) ?_
            refine TL_seq ?_
            refine T_cond_f rfl ?_
            refine T_skip' ?_
            refine p_seq ?_
            refine T_seq (T_region ?_)
            refine TL_q (.int .i64 0) (fun _ _ hρ _ => r_assign (hρ _ _ rfl)) rfl rfl rfl (w_n rfl) ?_
            refine TL_seq ?_
            refine T_ret' ?_
            refine ret_of rfl (.int .i64 0) (fun tmps w hk hm => res1 rfl (res_tmp (hk 2 _ rfl))) (fun w hm => ?_)
            exact ⟨by rw [show okI i = true from decide_eq_true (by omega)]; rfl, hm.ext⟩
      · skip
        refine T_seq (T_region ?_)
        refine TL_q (.pointer (some ⟨B1, 0, none⟩)) (fun _ _ hρ _ => r_fieldAddr fl32_0 sz30 (hρ _ _ rfl)) rfl rfl rfl (w_n rfl) ?_
        refine TL_q (.int .u64 i.t) (fun _ _ hρ hm => r_load ag30 (hρ _ _ rfl) (hm.at 1 rfl) rfl) rfl rfl rfl (w_n rfl) ?_
        refine TL_q (.bool false) (fun _ _ hρ _ => r_as (r_lss (hρ _ _ rfl) (hρ _ _ rfl)) (bool_as (decide_eq_false c1))) rfl rfl rfl (w_n rfl) ?_
        refine TL_q (.bool false) (fun _ _ hρ _ => r_move (hρ _ _ rfl)) rfl rfl rfl (w_n rfl) ?_
        refine TL_q (.pointer (some ⟨B1, 0, none⟩)) (fun _ _ hρ _ => r_fieldAddr fl32_0 sz30 (hρ _ _ rfl)) rfl rfl rfl (want_y 6 rfl rfl rfl) ?_
        refine TL_q (.int .u64 i.t) (fun _ _ hρ hm => r_load ag30 (hρ _ _ rfl) (hm.at 1 rfl) rfl) rfl rfl rfl (want_y 6 rfl rfl rfl) ?_
        refine TL_q (.bool false) (fun _ _ hρ _ => r_as (r_gtr (hρ _ _ rfl) (hρ _ _ rfl)) (bool_as (decide_eq_false c2))) rfl rfl rfl (want_y 6 rfl rfl rfl) ?_
        refine TL_q (.bool false) (fun _ _ hρ _ => r_pick_f (hρ _ _ rfl) (hρ _ _ rfl)) rfl rfl rfl (w_n rfl) ?_
        refine TL_q (.bool false) (fun _ _ hρ _ => r_move (hρ _ _ rfl)) rfl rfl rfl (w_n rfl) ?_
        refine TL_q (.pointer (some ⟨B1, 1, none⟩)) (fun _ _ hρ _ => r_fieldAddr fl32_1 sz3 (hρ _ _ rfl)) rfl rfl rfl (want_y 11 rfl rfl rfl) ?_
        refine TL_q (.int .i64 i.s) (fun _ _ hρ hm => r_load ag3 (hρ _ _ rfl) (hm.at 1 rfl) rfl) rfl rfl rfl (want_y 11 rfl rfl rfl) ?_
        refine TL_call (.bool false) (fun _ _ hρ _ => r_call (args := [.int .i64 i.s]) (enters_of Try.func48 (by kernel_rfl) rfl) (hρ _ _ rfl) ((cons2 (hρ _ _ rfl) rfl)) rfl) (fun w _ => (site_c i.s w).mono fun _ _ h => ⟨h.1.trans (congrArg Ending.returned (bool_as (decide_eq_false c3))), h.2⟩) rfl rfl rfl (want_y 11 rfl rfl rfl) ?_
        refine TL_q (.bool true) (fun _ _ hρ _ => r_not (b := false) (hρ _ _ rfl)) rfl rfl rfl (want_y 11 rfl rfl rfl) ?_
        refine TL_q (.bool true) (fun _ _ hρ _ => r_pick_f (hρ _ _ rfl) (hρ _ _ rfl)) rfl rfl rfl (w_n rfl) ?_
        refine TL_q (.bool true) (fun _ _ hρ _ => r_move (hρ _ _ rfl)) rfl rfl rfl (w_n rfl) ?_
        refine TL_no rfl rfl (want_n 17 rfl rfl rfl) ?_
        refine TL_no rfl rfl (want_n 17 rfl rfl rfl) ?_
        refine TL_no rfl rfl (want_n 17 rfl rfl rfl) ?_
        refine TL_q (.bool true) (fun _ _ hρ _ => r_pick_t (hρ _ _ rfl) (hρ _ _ rfl)) rfl rfl rfl (w_n rfl) ?_
        refine TL_q (.bool true) (fun _ _ hρ _ => r_move (hρ _ _ rfl)) rfl rfl rfl (w_n rfl) ?_
        refine TL_no rfl rfl (want_n 22 rfl rfl rfl) ?_
        refine TL_no rfl rfl (want_n 22 rfl rfl rfl) ?_
        refine TL_no rfl rfl (want_n 22 rfl rfl rfl) ?_
        refine TL_q (.bool true) (fun _ _ hρ _ => r_pick_t (hρ _ _ rfl) (hρ _ _ rfl)) rfl rfl rfl (w_n rfl) ?_
        refine TL_seq ?_
        refine T_cond_t rfl ?_
        refine T_seq (T_region ?_)
        refine TL_q (.int .i64 210) (fun _ _ hρ _ => r_assign (hρ _ _ rfl)) rfl rfl rfl (w_n rfl) ?_
        refine TL_seq ?_
        refine T_ret' ?_
        refine p_then_r ?_
        refine ret_of rfl (.int .i64 210) (fun tmps w hk hm => res1 rfl (res_tmp (hk 2 _ rfl))) (fun w hm => ?_)
        exact ⟨by rw [show okI i = false from decide_eq_false (by omega)]; rfl, hm.ext⟩

theorem rright_c (i : Tid) (w : World) : Calls Try.prog 19 #[i.v] w fun e w' => e = .returned (.bool (okI i)) ∧ Below w.heap.size w w' := by
  refine calls_of_T (l := [.agg #[.int .u64 i.t, .int .i64 i.s, .int .u64 i.q]]) 26 Try.func19 rfl rfl rfl ?_
  show T _ _ _ [(0, .agg #[.int .u64 i.t, .int .i64 i.s, .int .u64 i.q])] []
  refine T_seq (T_region ?_)
  refine TL_new 1 (.cells #[.int .u64 i.t, .int .i64 i.s, .int .u64 i.q] 32) (fun B => .pointer (some ⟨B, 0, none⟩)) (fun _ _ hρ _ => r_box (hρ _ _ rfl) rfl) rfl rfl rfl (w_n rfl) ?_
  intro B1
  refine TL_q (.bool false) (fun _ _ hρ _ => r_assign (hρ _ _ rfl)) rfl rfl rfl (w_n rfl) ?_
  refine TL_seq ?_
  by_cases c1 : (1 : Int) ≤ i.t
  · skip
    by_cases c2 : i.t ≤ 4611686018427387904
    · skip
      by_cases c3 : 1 ≤ i.s ∧ i.s ≤ 8
      · skip
        by_cases c4 : (1 : Int) ≤ i.q
        · skip
          by_cases c5 : i.q ≤ 4611686018427387904
          · skip
            refine T_seq (T_region ?_)
            refine TL_q (.pointer (some ⟨B1, 0, none⟩)) (fun _ _ hρ _ => r_fieldAddr fl32_0 sz30 (hρ _ _ rfl)) rfl rfl rfl (w_n rfl) ?_
            refine TL_q (.int .u64 i.t) (fun _ _ hρ hm => r_load ag30 (hρ _ _ rfl) (hm.at 1 rfl) rfl) rfl rfl rfl (w_n rfl) ?_
            refine TL_q (.bool true) (fun _ _ hρ _ => r_as (r_geq (hρ _ _ rfl) (hρ _ _ rfl)) (bool_as (decide_eq_true c1))) rfl rfl rfl (w_n rfl) ?_
            refine TL_q (.bool true) (fun _ _ hρ _ => r_move (hρ _ _ rfl)) rfl rfl rfl (w_n rfl) ?_
            refine TL_q (.pointer (some ⟨B1, 0, none⟩)) (fun _ _ hρ _ => r_fieldAddr fl32_0 sz30 (hρ _ _ rfl)) rfl rfl rfl (want_y 6 rfl rfl rfl) ?_
            refine TL_q (.int .u64 i.t) (fun _ _ hρ hm => r_load ag30 (hρ _ _ rfl) (hm.at 1 rfl) rfl) rfl rfl rfl (want_y 6 rfl rfl rfl) ?_
            refine TL_q (.bool true) (fun _ _ hρ _ => r_as (r_leq (hρ _ _ rfl) (hρ _ _ rfl)) (bool_as (decide_eq_true c2))) rfl rfl rfl (want_y 6 rfl rfl rfl) ?_
            refine TL_q (.bool true) (fun _ _ hρ _ => r_pick_t (hρ _ _ rfl) (hρ _ _ rfl)) rfl rfl rfl (w_n rfl) ?_
            refine TL_q (.bool true) (fun _ _ hρ _ => r_move (hρ _ _ rfl)) rfl rfl rfl (w_n rfl) ?_
            refine TL_q (.pointer (some ⟨B1, 1, none⟩)) (fun _ _ hρ _ => r_fieldAddr fl32_1 sz3 (hρ _ _ rfl)) rfl rfl rfl (want_y 11 rfl rfl rfl) ?_
            refine TL_q (.int .i64 i.s) (fun _ _ hρ hm => r_load ag3 (hρ _ _ rfl) (hm.at 1 rfl) rfl) rfl rfl rfl (want_y 11 rfl rfl rfl) ?_
            refine TL_call (.bool true) (fun _ _ hρ _ => r_call (args := [.int .i64 i.s]) (enters_of Try.func49 (by kernel_rfl) rfl) (hρ _ _ rfl) ((cons2 (hρ _ _ rfl) rfl)) rfl) (fun w _ => (rsite_c i.s w).mono fun _ _ h => ⟨h.1.trans (congrArg Ending.returned (bool_as (decide_eq_true c3))), h.2⟩) rfl rfl rfl (want_y 11 rfl rfl rfl) ?_
            refine TL_q (.bool true) (fun _ _ hρ _ => r_pick_t (hρ _ _ rfl) (hρ _ _ rfl)) rfl rfl rfl (w_n rfl) ?_
            refine TL_q (.bool true) (fun _ _ hρ _ => r_move (hρ _ _ rfl)) rfl rfl rfl (w_n rfl) ?_
            refine TL_q (.pointer (some ⟨B1, 2, none⟩)) (fun _ _ hρ _ => r_fieldAddr fl32_2 sz30 (hρ _ _ rfl)) rfl rfl rfl (want_y 16 rfl rfl rfl) ?_
            refine TL_q (.int .u64 i.q) (fun _ _ hρ hm => r_load ag30 (hρ _ _ rfl) (hm.at 1 rfl) rfl) rfl rfl rfl (want_y 16 rfl rfl rfl) ?_
            refine TL_q (.bool true) (fun _ _ hρ _ => r_as (r_geq (hρ _ _ rfl) (hρ _ _ rfl)) (bool_as (decide_eq_true c4))) rfl rfl rfl (want_y 16 rfl rfl rfl) ?_
            refine TL_q (.bool true) (fun _ _ hρ _ => r_pick_t (hρ _ _ rfl) (hρ _ _ rfl)) rfl rfl rfl (w_n rfl) ?_
            refine TL_q (.bool true) (fun _ _ hρ _ => r_move (hρ _ _ rfl)) rfl rfl rfl (w_n rfl) ?_
            refine TL_q (.pointer (some ⟨B1, 2, none⟩)) (fun _ _ hρ _ => r_fieldAddr fl32_2 sz30 (hρ _ _ rfl)) rfl rfl rfl (want_y 21 rfl rfl rfl) ?_
            refine TL_q (.int .u64 i.q) (fun _ _ hρ hm => r_load ag30 (hρ _ _ rfl) (hm.at 1 rfl) rfl) rfl rfl rfl (want_y 21 rfl rfl rfl) ?_
            refine TL_q (.bool true) (fun _ _ hρ _ => r_as (r_leq (hρ _ _ rfl) (hρ _ _ rfl)) (bool_as (decide_eq_true c5))) rfl rfl rfl (want_y 21 rfl rfl rfl) ?_
            refine TL_q (.bool true) (fun _ _ hρ _ => r_pick_t (hρ _ _ rfl) (hρ _ _ rfl)) rfl rfl rfl (w_n rfl) ?_
            refine TL_q (.bool true) (fun _ _ hρ _ => r_assign (hρ _ _ rfl)) rfl rfl rfl (w_n rfl) ?_
            refine TL_seq ?_
            refine T_ret' ?_
            refine ret_of rfl (.bool true) (fun tmps w hk hm => res1 rfl (res_tmp (hk 2 _ rfl))) (fun w hm => ?_)
            exact ⟨by rw [show okI i = true from decide_eq_true (by omega)], hm.ext⟩
          · skip
            refine T_seq (T_region ?_)
            refine TL_q (.pointer (some ⟨B1, 0, none⟩)) (fun _ _ hρ _ => r_fieldAddr fl32_0 sz30 (hρ _ _ rfl)) rfl rfl rfl (w_n rfl) ?_
            refine TL_q (.int .u64 i.t) (fun _ _ hρ hm => r_load ag30 (hρ _ _ rfl) (hm.at 1 rfl) rfl) rfl rfl rfl (w_n rfl) ?_
            refine TL_q (.bool true) (fun _ _ hρ _ => r_as (r_geq (hρ _ _ rfl) (hρ _ _ rfl)) (bool_as (decide_eq_true c1))) rfl rfl rfl (w_n rfl) ?_
            refine TL_q (.bool true) (fun _ _ hρ _ => r_move (hρ _ _ rfl)) rfl rfl rfl (w_n rfl) ?_
            refine TL_q (.pointer (some ⟨B1, 0, none⟩)) (fun _ _ hρ _ => r_fieldAddr fl32_0 sz30 (hρ _ _ rfl)) rfl rfl rfl (want_y 6 rfl rfl rfl) ?_
            refine TL_q (.int .u64 i.t) (fun _ _ hρ hm => r_load ag30 (hρ _ _ rfl) (hm.at 1 rfl) rfl) rfl rfl rfl (want_y 6 rfl rfl rfl) ?_
            refine TL_q (.bool true) (fun _ _ hρ _ => r_as (r_leq (hρ _ _ rfl) (hρ _ _ rfl)) (bool_as (decide_eq_true c2))) rfl rfl rfl (want_y 6 rfl rfl rfl) ?_
            refine TL_q (.bool true) (fun _ _ hρ _ => r_pick_t (hρ _ _ rfl) (hρ _ _ rfl)) rfl rfl rfl (w_n rfl) ?_
            refine TL_q (.bool true) (fun _ _ hρ _ => r_move (hρ _ _ rfl)) rfl rfl rfl (w_n rfl) ?_
            refine TL_q (.pointer (some ⟨B1, 1, none⟩)) (fun _ _ hρ _ => r_fieldAddr fl32_1 sz3 (hρ _ _ rfl)) rfl rfl rfl (want_y 11 rfl rfl rfl) ?_
            refine TL_q (.int .i64 i.s) (fun _ _ hρ hm => r_load ag3 (hρ _ _ rfl) (hm.at 1 rfl) rfl) rfl rfl rfl (want_y 11 rfl rfl rfl) ?_
            refine TL_call (.bool true) (fun _ _ hρ _ => r_call (args := [.int .i64 i.s]) (enters_of Try.func49 (by kernel_rfl) rfl) (hρ _ _ rfl) ((cons2 (hρ _ _ rfl) rfl)) rfl) (fun w _ => (rsite_c i.s w).mono fun _ _ h => ⟨h.1.trans (congrArg Ending.returned (bool_as (decide_eq_true c3))), h.2⟩) rfl rfl rfl (want_y 11 rfl rfl rfl) ?_
            refine TL_q (.bool true) (fun _ _ hρ _ => r_pick_t (hρ _ _ rfl) (hρ _ _ rfl)) rfl rfl rfl (w_n rfl) ?_
            refine TL_q (.bool true) (fun _ _ hρ _ => r_move (hρ _ _ rfl)) rfl rfl rfl (w_n rfl) ?_
            refine TL_q (.pointer (some ⟨B1, 2, none⟩)) (fun _ _ hρ _ => r_fieldAddr fl32_2 sz30 (hρ _ _ rfl)) rfl rfl rfl (want_y 16 rfl rfl rfl) ?_
            refine TL_q (.int .u64 i.q) (fun _ _ hρ hm => r_load ag30 (hρ _ _ rfl) (hm.at 1 rfl) rfl) rfl rfl rfl (want_y 16 rfl rfl rfl) ?_
            refine TL_q (.bool true) (fun _ _ hρ _ => r_as (r_geq (hρ _ _ rfl) (hρ _ _ rfl)) (bool_as (decide_eq_true c4))) rfl rfl rfl (want_y 16 rfl rfl rfl) ?_
            refine TL_q (.bool true) (fun _ _ hρ _ => r_pick_t (hρ _ _ rfl) (hρ _ _ rfl)) rfl rfl rfl (w_n rfl) ?_
            refine TL_q (.bool true) (fun _ _ hρ _ => r_move (hρ _ _ rfl)) rfl rfl rfl (w_n rfl) ?_
            refine TL_q (.pointer (some ⟨B1, 2, none⟩)) (fun _ _ hρ _ => r_fieldAddr fl32_2 sz30 (hρ _ _ rfl)) rfl rfl rfl (want_y 21 rfl rfl rfl) ?_
            refine TL_q (.int .u64 i.q) (fun _ _ hρ hm => r_load ag30 (hρ _ _ rfl) (hm.at 1 rfl) rfl) rfl rfl rfl (want_y 21 rfl rfl rfl) ?_
            refine TL_q (.bool false) (fun _ _ hρ _ => r_as (r_leq (hρ _ _ rfl) (hρ _ _ rfl)) (bool_as (decide_eq_false c5))) rfl rfl rfl (want_y 21 rfl rfl rfl) ?_
            refine TL_q (.bool false) (fun _ _ hρ _ => r_pick_t (hρ _ _ rfl) (hρ _ _ rfl)) rfl rfl rfl (w_n rfl) ?_
            refine TL_q (.bool false) (fun _ _ hρ _ => r_assign (hρ _ _ rfl)) rfl rfl rfl (w_n rfl) ?_
            refine TL_seq ?_
            refine T_ret' ?_
            refine ret_of rfl (.bool false) (fun tmps w hk hm => res1 rfl (res_tmp (hk 2 _ rfl))) (fun w hm => ?_)
            exact ⟨by rw [show okI i = false from decide_eq_false (by omega)], hm.ext⟩
        · skip
          refine T_seq (T_region ?_)
          refine TL_q (.pointer (some ⟨B1, 0, none⟩)) (fun _ _ hρ _ => r_fieldAddr fl32_0 sz30 (hρ _ _ rfl)) rfl rfl rfl (w_n rfl) ?_
          refine TL_q (.int .u64 i.t) (fun _ _ hρ hm => r_load ag30 (hρ _ _ rfl) (hm.at 1 rfl) rfl) rfl rfl rfl (w_n rfl) ?_
          refine TL_q (.bool true) (fun _ _ hρ _ => r_as (r_geq (hρ _ _ rfl) (hρ _ _ rfl)) (bool_as (decide_eq_true c1))) rfl rfl rfl (w_n rfl) ?_
          refine TL_q (.bool true) (fun _ _ hρ _ => r_move (hρ _ _ rfl)) rfl rfl rfl (w_n rfl) ?_
          refine TL_q (.pointer (some ⟨B1, 0, none⟩)) (fun _ _ hρ _ => r_fieldAddr fl32_0 sz30 (hρ _ _ rfl)) rfl rfl rfl (want_y 6 rfl rfl rfl) ?_
          refine TL_q (.int .u64 i.t) (fun _ _ hρ hm => r_load ag30 (hρ _ _ rfl) (hm.at 1 rfl) rfl) rfl rfl rfl (want_y 6 rfl rfl rfl) ?_
          refine TL_q (.bool true) (fun _ _ hρ _ => r_as (r_leq (hρ _ _ rfl) (hρ _ _ rfl)) (bool_as (decide_eq_true c2))) rfl rfl rfl (want_y 6 rfl rfl rfl) ?_
          refine TL_q (.bool true) (fun _ _ hρ _ => r_pick_t (hρ _ _ rfl) (hρ _ _ rfl)) rfl rfl rfl (w_n rfl) ?_
          refine TL_q (.bool true) (fun _ _ hρ _ => r_move (hρ _ _ rfl)) rfl rfl rfl (w_n rfl) ?_
          refine TL_q (.pointer (some ⟨B1, 1, none⟩)) (fun _ _ hρ _ => r_fieldAddr fl32_1 sz3 (hρ _ _ rfl)) rfl rfl rfl (want_y 11 rfl rfl rfl) ?_
          refine TL_q (.int .i64 i.s) (fun _ _ hρ hm => r_load ag3 (hρ _ _ rfl) (hm.at 1 rfl) rfl) rfl rfl rfl (want_y 11 rfl rfl rfl) ?_
          refine TL_call (.bool true) (fun _ _ hρ _ => r_call (args := [.int .i64 i.s]) (enters_of Try.func49 (by kernel_rfl) rfl) (hρ _ _ rfl) ((cons2 (hρ _ _ rfl) rfl)) rfl) (fun w _ => (rsite_c i.s w).mono fun _ _ h => ⟨h.1.trans (congrArg Ending.returned (bool_as (decide_eq_true c3))), h.2⟩) rfl rfl rfl (want_y 11 rfl rfl rfl) ?_
          refine TL_q (.bool true) (fun _ _ hρ _ => r_pick_t (hρ _ _ rfl) (hρ _ _ rfl)) rfl rfl rfl (w_n rfl) ?_
          refine TL_q (.bool true) (fun _ _ hρ _ => r_move (hρ _ _ rfl)) rfl rfl rfl (w_n rfl) ?_
          refine TL_q (.pointer (some ⟨B1, 2, none⟩)) (fun _ _ hρ _ => r_fieldAddr fl32_2 sz30 (hρ _ _ rfl)) rfl rfl rfl (want_y 16 rfl rfl rfl) ?_
          refine TL_q (.int .u64 i.q) (fun _ _ hρ hm => r_load ag30 (hρ _ _ rfl) (hm.at 1 rfl) rfl) rfl rfl rfl (want_y 16 rfl rfl rfl) ?_
          refine TL_q (.bool false) (fun _ _ hρ _ => r_as (r_geq (hρ _ _ rfl) (hρ _ _ rfl)) (bool_as (decide_eq_false c4))) rfl rfl rfl (want_y 16 rfl rfl rfl) ?_
          refine TL_q (.bool false) (fun _ _ hρ _ => r_pick_t (hρ _ _ rfl) (hρ _ _ rfl)) rfl rfl rfl (w_n rfl) ?_
          refine TL_q (.bool false) (fun _ _ hρ _ => r_move (hρ _ _ rfl)) rfl rfl rfl (w_n rfl) ?_
          refine TL_no rfl rfl (want_n 21 rfl rfl rfl) ?_
          refine TL_no rfl rfl (want_n 21 rfl rfl rfl) ?_
          refine TL_no rfl rfl (want_n 21 rfl rfl rfl) ?_
          refine TL_q (.bool false) (fun _ _ hρ _ => r_pick_f (hρ _ _ rfl) (hρ _ _ rfl)) rfl rfl rfl (w_n rfl) ?_
          refine TL_q (.bool false) (fun _ _ hρ _ => r_assign (hρ _ _ rfl)) rfl rfl rfl (w_n rfl) ?_
          refine TL_seq ?_
          refine T_ret' ?_
          refine ret_of rfl (.bool false) (fun tmps w hk hm => res1 rfl (res_tmp (hk 2 _ rfl))) (fun w hm => ?_)
          exact ⟨by rw [show okI i = false from decide_eq_false (by omega)], hm.ext⟩
      · skip
        refine T_seq (T_region ?_)
        refine TL_q (.pointer (some ⟨B1, 0, none⟩)) (fun _ _ hρ _ => r_fieldAddr fl32_0 sz30 (hρ _ _ rfl)) rfl rfl rfl (w_n rfl) ?_
        refine TL_q (.int .u64 i.t) (fun _ _ hρ hm => r_load ag30 (hρ _ _ rfl) (hm.at 1 rfl) rfl) rfl rfl rfl (w_n rfl) ?_
        refine TL_q (.bool true) (fun _ _ hρ _ => r_as (r_geq (hρ _ _ rfl) (hρ _ _ rfl)) (bool_as (decide_eq_true c1))) rfl rfl rfl (w_n rfl) ?_
        refine TL_q (.bool true) (fun _ _ hρ _ => r_move (hρ _ _ rfl)) rfl rfl rfl (w_n rfl) ?_
        refine TL_q (.pointer (some ⟨B1, 0, none⟩)) (fun _ _ hρ _ => r_fieldAddr fl32_0 sz30 (hρ _ _ rfl)) rfl rfl rfl (want_y 6 rfl rfl rfl) ?_
        refine TL_q (.int .u64 i.t) (fun _ _ hρ hm => r_load ag30 (hρ _ _ rfl) (hm.at 1 rfl) rfl) rfl rfl rfl (want_y 6 rfl rfl rfl) ?_
        refine TL_q (.bool true) (fun _ _ hρ _ => r_as (r_leq (hρ _ _ rfl) (hρ _ _ rfl)) (bool_as (decide_eq_true c2))) rfl rfl rfl (want_y 6 rfl rfl rfl) ?_
        refine TL_q (.bool true) (fun _ _ hρ _ => r_pick_t (hρ _ _ rfl) (hρ _ _ rfl)) rfl rfl rfl (w_n rfl) ?_
        refine TL_q (.bool true) (fun _ _ hρ _ => r_move (hρ _ _ rfl)) rfl rfl rfl (w_n rfl) ?_
        refine TL_q (.pointer (some ⟨B1, 1, none⟩)) (fun _ _ hρ _ => r_fieldAddr fl32_1 sz3 (hρ _ _ rfl)) rfl rfl rfl (want_y 11 rfl rfl rfl) ?_
        refine TL_q (.int .i64 i.s) (fun _ _ hρ hm => r_load ag3 (hρ _ _ rfl) (hm.at 1 rfl) rfl) rfl rfl rfl (want_y 11 rfl rfl rfl) ?_
        refine TL_call (.bool false) (fun _ _ hρ _ => r_call (args := [.int .i64 i.s]) (enters_of Try.func49 (by kernel_rfl) rfl) (hρ _ _ rfl) ((cons2 (hρ _ _ rfl) rfl)) rfl) (fun w _ => (rsite_c i.s w).mono fun _ _ h => ⟨h.1.trans (congrArg Ending.returned (bool_as (decide_eq_false c3))), h.2⟩) rfl rfl rfl (want_y 11 rfl rfl rfl) ?_
        refine TL_q (.bool false) (fun _ _ hρ _ => r_pick_t (hρ _ _ rfl) (hρ _ _ rfl)) rfl rfl rfl (w_n rfl) ?_
        refine TL_q (.bool false) (fun _ _ hρ _ => r_move (hρ _ _ rfl)) rfl rfl rfl (w_n rfl) ?_
        refine TL_no rfl rfl (want_n 16 rfl rfl rfl) ?_
        refine TL_no rfl rfl (want_n 16 rfl rfl rfl) ?_
        refine TL_no rfl rfl (want_n 16 rfl rfl rfl) ?_
        refine TL_q (.bool false) (fun _ _ hρ _ => r_pick_f (hρ _ _ rfl) (hρ _ _ rfl)) rfl rfl rfl (w_n rfl) ?_
        refine TL_q (.bool false) (fun _ _ hρ _ => r_move (hρ _ _ rfl)) rfl rfl rfl (w_n rfl) ?_
        refine TL_no rfl rfl (want_n 21 rfl rfl rfl) ?_
        refine TL_no rfl rfl (want_n 21 rfl rfl rfl) ?_
        refine TL_no rfl rfl (want_n 21 rfl rfl rfl) ?_
        refine TL_q (.bool false) (fun _ _ hρ _ => r_pick_f (hρ _ _ rfl) (hρ _ _ rfl)) rfl rfl rfl (w_n rfl) ?_
        refine TL_q (.bool false) (fun _ _ hρ _ => r_assign (hρ _ _ rfl)) rfl rfl rfl (w_n rfl) ?_
        refine TL_seq ?_
        refine T_ret' ?_
        refine ret_of rfl (.bool false) (fun tmps w hk hm => res1 rfl (res_tmp (hk 2 _ rfl))) (fun w hm => ?_)
        exact ⟨by rw [show okI i = false from decide_eq_false (by omega)], hm.ext⟩
    · skip
      refine T_seq (T_region ?_)
      refine TL_q (.pointer (some ⟨B1, 0, none⟩)) (fun _ _ hρ _ => r_fieldAddr fl32_0 sz30 (hρ _ _ rfl)) rfl rfl rfl (w_n rfl) ?_
      refine TL_q (.int .u64 i.t) (fun _ _ hρ hm => r_load ag30 (hρ _ _ rfl) (hm.at 1 rfl) rfl) rfl rfl rfl (w_n rfl) ?_
      refine TL_q (.bool true) (fun _ _ hρ _ => r_as (r_geq (hρ _ _ rfl) (hρ _ _ rfl)) (bool_as (decide_eq_true c1))) rfl rfl rfl (w_n rfl) ?_
      refine TL_q (.bool true) (fun _ _ hρ _ => r_move (hρ _ _ rfl)) rfl rfl rfl (w_n rfl) ?_
      refine TL_q (.pointer (some ⟨B1, 0, none⟩)) (fun _ _ hρ _ => r_fieldAddr fl32_0 sz30 (hρ _ _ rfl)) rfl rfl rfl (want_y 6 rfl rfl rfl) ?_
      refine TL_q (.int .u64 i.t) (fun _ _ hρ hm => r_load ag30 (hρ _ _ rfl) (hm.at 1 rfl) rfl) rfl rfl rfl (want_y 6 rfl rfl rfl) ?_
      refine TL_q (.bool false) (fun _ _ hρ _ => r_as (r_leq (hρ _ _ rfl) (hρ _ _ rfl)) (bool_as (decide_eq_false c2))) rfl rfl rfl (want_y 6 rfl rfl rfl) ?_
      refine TL_q (.bool false) (fun _ _ hρ _ => r_pick_t (hρ _ _ rfl) (hρ _ _ rfl)) rfl rfl rfl (w_n rfl) ?_
      refine TL_q (.bool false) (fun _ _ hρ _ => r_move (hρ _ _ rfl)) rfl rfl rfl (w_n rfl) ?_
      refine TL_no rfl rfl (want_n 11 rfl rfl rfl) ?_
      refine TL_no rfl rfl (want_n 11 rfl rfl rfl) ?_
      refine TL_no rfl rfl (want_n 11 rfl rfl rfl) ?_
      refine TL_q (.bool false) (fun _ _ hρ _ => r_pick_f (hρ _ _ rfl) (hρ _ _ rfl)) rfl rfl rfl (w_n rfl) ?_
      refine TL_q (.bool false) (fun _ _ hρ _ => r_move (hρ _ _ rfl)) rfl rfl rfl (w_n rfl) ?_
      refine TL_no rfl rfl (want_n 16 rfl rfl rfl) ?_
      refine TL_no rfl rfl (want_n 16 rfl rfl rfl) ?_
      refine TL_no rfl rfl (want_n 16 rfl rfl rfl) ?_
      refine TL_q (.bool false) (fun _ _ hρ _ => r_pick_f (hρ _ _ rfl) (hρ _ _ rfl)) rfl rfl rfl (w_n rfl) ?_
      refine TL_q (.bool false) (fun _ _ hρ _ => r_move (hρ _ _ rfl)) rfl rfl rfl (w_n rfl) ?_
      refine TL_no rfl rfl (want_n 21 rfl rfl rfl) ?_
      refine TL_no rfl rfl (want_n 21 rfl rfl rfl) ?_
      refine TL_no rfl rfl (want_n 21 rfl rfl rfl) ?_
      refine TL_q (.bool false) (fun _ _ hρ _ => r_pick_f (hρ _ _ rfl) (hρ _ _ rfl)) rfl rfl rfl (w_n rfl) ?_
      refine TL_q (.bool false) (fun _ _ hρ _ => r_assign (hρ _ _ rfl)) rfl rfl rfl (w_n rfl) ?_
      refine TL_seq ?_
      refine T_ret' ?_
      refine ret_of rfl (.bool false) (fun tmps w hk hm => res1 rfl (res_tmp (hk 2 _ rfl))) (fun w hm => ?_)
      exact ⟨by rw [show okI i = false from decide_eq_false (by omega)], hm.ext⟩
  · skip
    refine T_seq (T_region ?_)
    refine TL_q (.pointer (some ⟨B1, 0, none⟩)) (fun _ _ hρ _ => r_fieldAddr fl32_0 sz30 (hρ _ _ rfl)) rfl rfl rfl (w_n rfl) ?_
    refine TL_q (.int .u64 i.t) (fun _ _ hρ hm => r_load ag30 (hρ _ _ rfl) (hm.at 1 rfl) rfl) rfl rfl rfl (w_n rfl) ?_
    refine TL_q (.bool false) (fun _ _ hρ _ => r_as (r_geq (hρ _ _ rfl) (hρ _ _ rfl)) (bool_as (decide_eq_false c1))) rfl rfl rfl (w_n rfl) ?_
    refine TL_q (.bool false) (fun _ _ hρ _ => r_move (hρ _ _ rfl)) rfl rfl rfl (w_n rfl) ?_
    refine TL_no rfl rfl (want_n 6 rfl rfl rfl) ?_
    refine TL_no rfl rfl (want_n 6 rfl rfl rfl) ?_
    refine TL_no rfl rfl (want_n 6 rfl rfl rfl) ?_
    refine TL_q (.bool false) (fun _ _ hρ _ => r_pick_f (hρ _ _ rfl) (hρ _ _ rfl)) rfl rfl rfl (w_n rfl) ?_
    refine TL_q (.bool false) (fun _ _ hρ _ => r_move (hρ _ _ rfl)) rfl rfl rfl (w_n rfl) ?_
    refine TL_no rfl rfl (want_n 11 rfl rfl rfl) ?_
    refine TL_no rfl rfl (want_n 11 rfl rfl rfl) ?_
    refine TL_no rfl rfl (want_n 11 rfl rfl rfl) ?_
    refine TL_q (.bool false) (fun _ _ hρ _ => r_pick_f (hρ _ _ rfl) (hρ _ _ rfl)) rfl rfl rfl (w_n rfl) ?_
    refine TL_q (.bool false) (fun _ _ hρ _ => r_move (hρ _ _ rfl)) rfl rfl rfl (w_n rfl) ?_
    refine TL_no rfl rfl (want_n 16 rfl rfl rfl) ?_
    refine TL_no rfl rfl (want_n 16 rfl rfl rfl) ?_
    refine TL_no rfl rfl (want_n 16 rfl rfl rfl) ?_
    refine TL_q (.bool false) (fun _ _ hρ _ => r_pick_f (hρ _ _ rfl) (hρ _ _ rfl)) rfl rfl rfl (w_n rfl) ?_
    refine TL_q (.bool false) (fun _ _ hρ _ => r_move (hρ _ _ rfl)) rfl rfl rfl (w_n rfl) ?_
    refine TL_no rfl rfl (want_n 21 rfl rfl rfl) ?_
    refine TL_no rfl rfl (want_n 21 rfl rfl rfl) ?_
    refine TL_no rfl rfl (want_n 21 rfl rfl rfl) ?_
    refine TL_q (.bool false) (fun _ _ hρ _ => r_pick_f (hρ _ _ rfl) (hρ _ _ rfl)) rfl rfl rfl (w_n rfl) ?_
    refine TL_q (.bool false) (fun _ _ hρ _ => r_assign (hρ _ _ rfl)) rfl rfl rfl (w_n rfl) ?_
    refine TL_seq ?_
    refine T_ret' ?_
    refine ret_of rfl (.bool false) (fun tmps w hk hm => res1 rfl (res_tmp (hk 2 _ rfl))) (fun w hm => ?_)
    exact ⟨by rw [show okI i = false from decide_eq_false (by omega)], hm.ext⟩

theorem right_c (m : Mk) (w : World) : Calls Try.prog 45 #[m.v] w fun e w' => e = .returned (.bool (okM m)) ∧ Below w.heap.size w w' := by
  refine calls_of_T (l := [.agg #[.int .u64 m.i.t, .int .i64 m.i.s, .int .u64 m.i.q, .pointer m.ptr]]) 12 Try.func45 rfl rfl rfl ?_
  show T _ _ _ [(0, .agg #[.int .u64 m.i.t, .int .i64 m.i.s, .int .u64 m.i.q, .pointer m.ptr])] []
  refine T_seq (T_region ?_)
  refine TL_new 1 (.cells #[.int .u64 m.i.t, .int .i64 m.i.s, .int .u64 m.i.q, .pointer m.ptr] 36) (fun B => .pointer (some ⟨B, 0, none⟩)) (fun _ _ hρ _ => r_box (hρ _ _ rfl) rfl) rfl rfl rfl (w_n rfl) ?_
  intro B1
  refine TL_q (.bool false) (fun _ _ hρ _ => r_assign (hρ _ _ rfl)) rfl rfl rfl (w_n rfl) ?_
  refine TL_seq ?_
  by_cases ho : okI m.i = true
  · skip
    by_cases hc : m.c.isSome = true
    · skip
      refine T_seq (T_region ?_)
      refine TL_q (.pointer (some ⟨B1, 0, none⟩)) (fun _ _ hρ _ => r_fieldAddr fl36_0 sz32 (hρ _ _ rfl)) rfl rfl rfl (w_n rfl) ?_
      refine TL_q (.agg #[.int .u64 m.i.t, .int .i64 m.i.s, .int .u64 m.i.q]) (fun _ _ hρ hm => r_loadA ag32 sz32 (hρ _ _ rfl) (hm.at 1 rfl) rfl rfl) rfl rfl rfl (w_n rfl) ?_
      refine TL_call (.int .i64 0) (fun _ _ hρ _ => r_call (args := [.agg #[.int .u64 m.i.t, .int .i64 m.i.s, .int .u64 m.i.q]]) (enters_of Try.func16 (by kernel_rfl) rfl) (hρ _ _ rfl) ((cons2 (hρ _ _ rfl) rfl)) rfl) (fun w _ => (icheck_c m.i w).mono fun _ _ h => ⟨h.1.trans (congrArg Ending.returned (int_as (if_pos ho))), h.2⟩) rfl rfl rfl (w_n rfl) ?_
      refine TL_q (.bool true) (fun _ _ hρ _ => r_as (r_eql (hρ _ _ rfl) (hρ _ _ rfl)) (by rfl)) rfl rfl rfl (w_n rfl) ?_
      refine TL_q (.bool true) (fun _ _ hρ _ => r_move (hρ _ _ rfl)) rfl rfl rfl (w_n rfl) ?_
      refine TL_q (.pointer (some ⟨B1, 3, none⟩)) (fun _ _ hρ _ => r_fieldAddr fl36_1 sz34 (hρ _ _ rfl)) rfl rfl rfl (want_y 7 rfl rfl rfl) ?_
      refine TL_q (.pointer m.ptr) (fun _ _ hρ hm => r_load ag34 (hρ _ _ rfl) (hm.at 1 rfl) rfl) rfl rfl rfl (want_y 7 rfl rfl rfl) ?_
      refine TL_q (.bool true) (fun _ _ hρ _ => r_as (r_neqPn po34 (hρ _ _ rfl) (hρ _ _ rfl)) (bool_as (by rw [ptr_none, hc]; rfl))) rfl rfl rfl (want_y 7 rfl rfl rfl) ?_
      refine TL_q (.bool true) (fun _ _ hρ _ => r_pick_t (hρ _ _ rfl) (hρ _ _ rfl)) rfl rfl rfl (w_n rfl) ?_
      refine TL_q (.bool true) (fun _ _ hρ _ => r_assign (hρ _ _ rfl)) rfl rfl rfl (w_n rfl) ?_
      refine TL_seq ?_
      refine T_ret' ?_
      refine ret_of rfl (.bool true) (fun tmps w hk hm => res1 rfl (res_tmp (hk 2 _ rfl))) (fun w hm => ?_)
      exact ⟨congrArg Ending.returned (bool_as (by unfold okM; rw [ho, hc]; rfl)), hm.ext⟩
    · skip
      refine T_seq (T_region ?_)
      refine TL_q (.pointer (some ⟨B1, 0, none⟩)) (fun _ _ hρ _ => r_fieldAddr fl36_0 sz32 (hρ _ _ rfl)) rfl rfl rfl (w_n rfl) ?_
      refine TL_q (.agg #[.int .u64 m.i.t, .int .i64 m.i.s, .int .u64 m.i.q]) (fun _ _ hρ hm => r_loadA ag32 sz32 (hρ _ _ rfl) (hm.at 1 rfl) rfl rfl) rfl rfl rfl (w_n rfl) ?_
      refine TL_call (.int .i64 0) (fun _ _ hρ _ => r_call (args := [.agg #[.int .u64 m.i.t, .int .i64 m.i.s, .int .u64 m.i.q]]) (enters_of Try.func16 (by kernel_rfl) rfl) (hρ _ _ rfl) ((cons2 (hρ _ _ rfl) rfl)) rfl) (fun w _ => (icheck_c m.i w).mono fun _ _ h => ⟨h.1.trans (congrArg Ending.returned (int_as (if_pos ho))), h.2⟩) rfl rfl rfl (w_n rfl) ?_
      refine TL_q (.bool true) (fun _ _ hρ _ => r_as (r_eql (hρ _ _ rfl) (hρ _ _ rfl)) (by rfl)) rfl rfl rfl (w_n rfl) ?_
      refine TL_q (.bool true) (fun _ _ hρ _ => r_move (hρ _ _ rfl)) rfl rfl rfl (w_n rfl) ?_
      refine TL_q (.pointer (some ⟨B1, 3, none⟩)) (fun _ _ hρ _ => r_fieldAddr fl36_1 sz34 (hρ _ _ rfl)) rfl rfl rfl (want_y 7 rfl rfl rfl) ?_
      refine TL_q (.pointer m.ptr) (fun _ _ hρ hm => r_load ag34 (hρ _ _ rfl) (hm.at 1 rfl) rfl) rfl rfl rfl (want_y 7 rfl rfl rfl) ?_
      refine TL_q (.bool false) (fun _ _ hρ _ => r_as (r_neqPn po34 (hρ _ _ rfl) (hρ _ _ rfl)) (bool_as (by rw [ptr_none, eq_false_of_ne_true hc]; rfl))) rfl rfl rfl (want_y 7 rfl rfl rfl) ?_
      refine TL_q (.bool false) (fun _ _ hρ _ => r_pick_t (hρ _ _ rfl) (hρ _ _ rfl)) rfl rfl rfl (w_n rfl) ?_
      refine TL_q (.bool false) (fun _ _ hρ _ => r_assign (hρ _ _ rfl)) rfl rfl rfl (w_n rfl) ?_
      refine TL_seq ?_
      refine T_ret' ?_
      refine ret_of rfl (.bool false) (fun tmps w hk hm => res1 rfl (res_tmp (hk 2 _ rfl))) (fun w hm => ?_)
      exact ⟨congrArg Ending.returned (bool_as (by unfold okM; rw [ho, eq_false_of_ne_true hc]; rfl)), hm.ext⟩
  · skip
    refine T_seq (T_region ?_)
    refine TL_q (.pointer (some ⟨B1, 0, none⟩)) (fun _ _ hρ _ => r_fieldAddr fl36_0 sz32 (hρ _ _ rfl)) rfl rfl rfl (w_n rfl) ?_
    refine TL_q (.agg #[.int .u64 m.i.t, .int .i64 m.i.s, .int .u64 m.i.q]) (fun _ _ hρ hm => r_loadA ag32 sz32 (hρ _ _ rfl) (hm.at 1 rfl) rfl rfl) rfl rfl rfl (w_n rfl) ?_
    refine TL_call (.int .i64 210) (fun _ _ hρ _ => r_call (args := [.agg #[.int .u64 m.i.t, .int .i64 m.i.s, .int .u64 m.i.q]]) (enters_of Try.func16 (by kernel_rfl) rfl) (hρ _ _ rfl) ((cons2 (hρ _ _ rfl) rfl)) rfl) (fun w _ => (icheck_c m.i w).mono fun _ _ h => ⟨h.1.trans (congrArg Ending.returned (int_as (if_neg ho))), h.2⟩) rfl rfl rfl (w_n rfl) ?_
    refine TL_q (.bool false) (fun _ _ hρ _ => r_as (r_eql (hρ _ _ rfl) (hρ _ _ rfl)) (by rfl)) rfl rfl rfl (w_n rfl) ?_
    refine TL_q (.bool false) (fun _ _ hρ _ => r_move (hρ _ _ rfl)) rfl rfl rfl (w_n rfl) ?_
    refine TL_no rfl rfl (want_n 7 rfl rfl rfl) ?_
    refine TL_no rfl rfl (want_n 7 rfl rfl rfl) ?_
    refine TL_no rfl rfl (want_n 7 rfl rfl rfl) ?_
    refine TL_q (.bool false) (fun _ _ hρ _ => r_pick_f (hρ _ _ rfl) (hρ _ _ rfl)) rfl rfl rfl (w_n rfl) ?_
    refine TL_q (.bool false) (fun _ _ hρ _ => r_assign (hρ _ _ rfl)) rfl rfl rfl (w_n rfl) ?_
    refine TL_seq ?_
    refine T_ret' ?_
    refine ret_of rfl (.bool false) (fun tmps w hk hm => res1 rfl (res_tmp (hk 2 _ rfl))) (fun w hm => ?_)
    exact ⟨congrArg Ending.returned (bool_as (by unfold okM; rw [eq_false_of_ne_true ho]; rfl)), hm.ext⟩
end Go.Proofs.Ytmihoejecpcmjaa
/- marks: rows of ids and of marks (plainly). -/
namespace Go.Proofs.Ytmihoejecpcmjaa
open Go Go.RowKit
/-- Where the first of a kind stands; -1: nowhere. -/
def idxI {α : Type} (φ : α → Bool) (l : List α) : Int := match l.findIdx? φ with
  | some i => (i : Int)
  | none => -1
theorem no_step {α : Type} {φ : α → Bool} {l : List α} {k : Nat} {p : α} (h : ∀ x ∈ l.take k, φ x = false) (hp : l[k]? = some p) (hf : φ p = false) : ∀ x ∈ l.take (k + 1), φ x = false := fun x hx => by
  rw [List.take_add_one, hp] at hx
  rcases List.mem_append.1 hx with h1 | h1
  · exact h x h1
  · rw [List.mem_singleton.1 h1]; exact hf
theorem idx_none {α : Type} {φ : α → Bool} {l : List α} (h : ∀ x ∈ l, φ x = false) : idxI φ l = -1 := by
  unfold idxI
  rw [List.findIdx?_eq_none_iff.2 h]
theorem idx_some {α : Type} {φ : α → Bool} {l : List α} {k : Nat} {p : α} (hp : l[k]? = some p) (h : ∀ x ∈ l.take k, φ x = false) (hy : φ p = true) : idxI φ l = k := by
  unfold idxI
  obtain ⟨hk, he⟩ := List.getElem?_eq_some_iff.1 hp
  have : l.findIdx? φ = some k := List.findIdx?_eq_some_iff_getElem.2 ⟨hk, by rw [he]; exact hy, fun j hj => by
    have h1 := h l[j] (List.mem_take_iff_getElem.2 ⟨j, by omega, rfl⟩)
    simp [h1]⟩
  rw [this]
theorem idx_any {α : Type} (φ : α → Bool) (l : List α) : decide (0 ≤ idxI φ l) = l.any φ := by
  cases h : l.any φ with
  | true =>
    obtain ⟨x, hx, hy⟩ := List.any_eq_true.1 h
    unfold idxI
    cases e : l.findIdx? φ with
    | none => rw [List.findIdx?_eq_none_iff.1 e x hx] at hy; cases hy
    | some i => exact decide_eq_true (by show (0 : Int) ≤ (i : Int); omega)
  | false =>
    have : ∀ x ∈ l, φ x = false := fun x hx => by
      cases e : φ x with
      | false => rfl
      | true => rw [List.any_eq_true.2 ⟨x, hx, e⟩] at h; cases h
    rw [idx_none this]; rfl
theorem ixI_lt {α : Type} (φ : α → Bool) (l : List α) : idxI φ l < l.length := by
  unfold idxI
  cases e : l.findIdx? φ with
  | none => show (-1 : Int) < _; omega
  | some i =>
    have := (List.findIdx?_eq_some_iff_getElem.1 e).1
    show (i : Int) < _; omega
theorem idx_ge {α : Type} (φ : α → Bool) (l : List α) : -1 ≤ idxI φ l := by
  unfold idxI
  cases e : l.findIdx? φ with
  | none => show (-1 : Int) ≤ -1; omega
  | some i => show (-1 : Int) ≤ (i : Int); omega
theorem all_not {α : Type} (φ : α → Bool) (l : List α) : (!(l.any fun x => !φ x)) = l.all φ := by
  rw [List.any_eq_not_all_not, Bool.not_not]
  congr 1
  funext x; exact Bool.not_not _
/-! ### pairs -/
def prs (l : List Tid) : List (Tid × Tid) := l.zip (l.drop 1)
abbrev encP (x : Tid × Tid) : List Value := [x.1.v, x.2.v]
theorem prs_at {l : List Tid} {k : Nat} {x y : Tid} (hk : 0 < k) (hx : l[k - 1]? = some x) (hy : l[k]? = some y) : (prs l)[k - 1]? = some (x, y) := by
  unfold prs
  rw [List.getElem?_zip_eq_some]
  exact ⟨hx, by rw [List.getElem?_drop, show 1 + (k - 1) = k by omega]; exact hy⟩
theorem prs_len (l : List Tid) : (prs l).length = l.length - 1 := by unfold prs; rw [List.length_zip, List.length_drop]; omega
def upB (l : List Tid) : Bool := (prs l).all fun p => lessI p.1 p.2
theorem allP_step {α : Type} {φ : α → Bool} {l : List α} {k : Nat} {p : α} (h : ∀ x ∈ l.take k, φ x = true) (hp : l[k]? = some p) (hf : φ p = true) : ∀ x ∈ l.take (k + 1), φ x = true := fun x hx => by
  rw [List.take_add_one, hp] at hx
  rcases List.mem_append.1 hx with h1 | h1
  · exact h x h1
  · rw [List.mem_singleton.1 h1]; exact hf
theorem all_yes {α : Type} {φ : α → Bool} {l : List α} (h : ∀ x ∈ l.take l.length, φ x = true) : l.all φ = true := List.all_eq_true.2 fun x hx => h x (by rw [List.take_length]; exact hx)
theorem all_no {α : Type} {φ : α → Bool} {l : List α} {k : Nat} {p : α} (hp : l[k]? = some p) (h : ¬ φ p = true) : l.all φ = false := by
  rw [← Bool.not_eq_true, List.all_eq_true]
  exact fun h2 => h (h2 p (List.mem_of_getElem? hp))
/-! ### Check -/
theorem rises_no1 {l : List Tid} {k : Nat} {x : Tid} (hx : l[k]? = some x) (h : ¬ okI x = true) : risesB l = false := by
  rw [← Bool.not_eq_true]
  exact fun h2 => h (rises_right h2 x (List.mem_of_getElem? hx))
theorem rises_no2 {l : List Tid} {k : Nat} {x y : Tid} (hk : 0 < k) (hy : l[k - 1]? = some y) (hx : l[k]? = some x) (h : ¬ lessI y x = true) : risesB l = false := by
  rw [← Bool.not_eq_true]
  exact fun h2 => h (rises_less h2 hk hy hx)
def mkUp (l : List Mk) : Bool := risesB (idsM l) && l.all (·.c.isSome)
theorem marks_up (l : List Mk) : marksB l = (mkUp l && decide (l.length ≤ 6)) := by unfold marksB mkUp; rw [Bool.and_assoc]
theorem okM_iff {m : Mk} : okM m = true ↔ okI m.i = true ∧ m.c.isSome = true := by unfold okM; rw [Bool.and_eq_true]
theorem mk_step {l : List Mk} {k : Nat} {m : Mk} (h : mkUp (l.take k) = true) (hm : l[k]? = some m) (ho : okM m = true) (hl : ∀ y, 0 < k → l[k - 1]? = some y → lessI y.i m.i = true) : mkUp (l.take (k + 1)) = true := by
  unfold mkUp at h ⊢
  rw [Bool.and_eq_true] at h ⊢
  obtain ⟨h1, h2⟩ := h
  obtain ⟨ho1, ho2⟩ := okM_iff.1 ho
  rw [ids_take] at h1 ⊢
  refine ⟨rises_step h1 (ids_at hm) ho1 (fun y hk hy => ?_), ?_⟩
  · rw [List.getElem?_map] at hy
    cases e : l[k - 1]? with
    | none => rw [e] at hy; cases hy
    | some z => rw [e] at hy; cases hy; exact hl z hk e
  · rw [List.take_add_one, hm, List.all_append, h2, Option.toList_some, List.all_cons, List.all_nil, ho2]; rfl
theorem mk_no1 {l : List Mk} {k : Nat} {m : Mk} (hm : l[k]? = some m) (h : ¬ okM m = true) : marksB l = false := by
  rw [← Bool.not_eq_true, marksB_iff]
  rintro ⟨h1, h2, _⟩
  exact h (okM_iff.2 ⟨rises_right h1 _ (List.mem_of_getElem? (ids_at hm)), h2 m (List.mem_of_getElem? hm)⟩)
theorem mk_no2 {l : List Mk} {k : Nat} {m y : Mk} (hk : 0 < k) (hy : l[k - 1]? = some y) (hm : l[k]? = some m) (h : ¬ lessI y.i m.i = true) : marksB l = false := by
  rw [← Bool.not_eq_true, marksB_iff]
  rintro ⟨h1, _⟩
  exact h (rises_less h1 hk (ids_at hy) (ids_at hm))
theorem mk_no3 {l : List Mk} (h : 6 < l.length) : marksB l = false := by
  rw [← Bool.not_eq_true, marksB_iff]; omega
theorem mk_yes {l : List Mk} {k : Nat} (h : mkUp (l.take k) = true) (hk : k = l.length) (h6 : l.length ≤ 6) : marksB l = true := by
  subst hk
  rw [List.take_length] at h
  rw [marks_up, h, decide_eq_true h6]; rfl
/-! ### sifted -/
theorem sift_t {α : Type} {φ : α → Bool} {l : List α} {k : Nat} {x : α} (h : l[k]? = some x) (hf : φ x = true) : (l.take (k + 1)).filter φ = (l.take k).filter φ ++ [x] := by
  rw [List.take_add_one, h, List.filter_append, Option.toList_some, List.filter_cons, if_pos hf]; rfl
theorem sift_f {α : Type} {φ : α → Bool} {l : List α} {k : Nat} {x : α} (h : l[k]? = some x) (hf : φ x = false) : (l.take (k + 1)).filter φ = (l.take k).filter φ := by
  rw [List.take_add_one, h, List.filter_append, Option.toList_some, List.filter_cons, if_neg (by rw [hf]; exact Bool.false_ne_true), List.filter_nil, List.append_nil]
theorem map_step {α β : Type} {f : α → β} {l : List α} {k : Nat} {x : α} (h : l[k]? = some x) : (l.take (k + 1)).map f = (l.take k).map f ++ [f x] := by
  rw [List.take_add_one, h, List.map_append]; rfl
/-- Every n-th of a row: those of the first k places. -/
def evN {α : Type} (l : List α) (n : Nat) : Nat → List α
  | 0 => []
  | k + 1 => if (k + 1) % n = 0 then evN l n k ++ (l[k]?).toList else evN l n k
theorem ev_t {α : Type} {l : List α} {n k : Nat} {x : α} (h : l[k]? = some x) (hn : (k + 1) % n = 0) : evN l n (k + 1) = evN l n k ++ [x] := by
  show (if (k + 1) % n = 0 then _ else _) = _
  rw [if_pos hn, h]; rfl
theorem ev_f {α : Type} {l : List α} {n k : Nat} (hn : ¬ (k + 1) % n = 0) : evN l n (k + 1) = evN l n k := if_neg hn
theorem ev_len {α : Type} (l : List α) (n : Nat) : ∀ k, (evN l n k).length ≤ k
  | 0 => Nat.le_refl _
  | k + 1 => by
    have := ev_len l n k
    unfold evN
    split
    · rw [List.length_append]
      have : ((l[k]?).toList).length ≤ 1 := by cases l[k]? <;> simp
      omega
    · omega
/-- Is it behind the last mark? -/
def behI (ms : List Tid) (x : Tid) : Bool := match ms.getLast? with
  | none => true
  | some y => lessI y x
def dueI (ms l : List Tid) (n : Nat) : List Tid := evN (l.filter (behI ms)) n (l.filter (behI ms)).length
end Go.Proofs.Ytmihoejecpcmjaa
/- A row that is one's own, or is another one. Over any program. -/
namespace Go.Proofs.Ytmihoejecpcmjaa
open Go Go.RowKit
abbrev Res.rowB (t : Bool) (v : Value) (e : TypeId) (s n : Nat) (xs : List Value) : Res := .abs (fun b => t = true ∧ v.ownBlock = some b) (fun w => t = true → w.ownsRow 0 e s v n xs)
theorem rowB_keep {t : Bool} {v : Value} {e : TypeId} {s n : Nat} {xs : List Value} (w1 w2 : World) (h : t = true → w1.ownsRow 0 e s v n xs) (hb : ∀ b, t = true ∧ v.ownBlock = some b → hp w2 b = hp w1 b) : t = true → w2.ownsRow 0 e s v n xs :=
  fun ht => Res.keep (r := .row v e s n xs) (h ht) fun b hf => hb b ⟨ht, hf⟩
theorem rowB_own {base : Nat} {w : World} {v : Value} {e : TypeId} {s n : Nat} {xs : List Value} (h : w.ownsRow base e s v n xs) : (Res.rowB true v e s n xs).ok base w :=
  ⟨fun _ => Res.lift (r := .row v e s n xs) h (Nat.zero_le _), fun _ hb => Res.low (r := .row v e s n xs) h hb.2, rowB_keep⟩
theorem rowB_no {base : Nat} {w : World} {v : Value} {e : TypeId} {s n : Nat} {xs : List Value} : (Res.rowB false v e s n xs).ok base w :=
  ⟨(fun h => by cases h), (fun _ hb => by cases hb.1), rowB_keep⟩
theorem MemOk.rowB0 {w₀ w : World} {L : Heap} (h : MemOk w₀ L w) (i : Nat) (v : Value) (e : TypeId) (s n : Nat) (xs : List Value) : MemOk w₀ ((i, .rowB false v e s n xs) :: L) w :=
  h.set i _ h.ext rowB_no (fun _ _ _ _ _ _ => ⟨rfl, fun hb => by cases hb.1⟩)
theorem MemOk.rowB2 {w₀ w : World} {L : Heap} (h : MemOk w₀ L w) (i j : Nat) {t1 t2 : Bool} {v1 v2 : Value} {e : TypeId} {s n1 n : Nat} {xs1 xs2 : List Value} (hi : lk L i = some (.rowB t1 v1 e s n1 xs1)) (hj : lk L j = some (.rowB t2 v2 e s n xs2)) (hs : t2 = false → v2 = v1 ∧ n = n1 ∧ xs2 = xs1) (hij : Nat.beq i j = false) :
    MemOk w₀ ((i, .rowB (t1 || t2) v2 e s n xs2) :: (j, .no) :: L) w := by
  have hne : i ≠ j := fun e => by subst e; rw [Nat.beq_refl] at hij; cases hij
  have ok1 := h.own i _ hi
  have ok2 := h.own j _ hj
  have h0 : MemOk w₀ ((j, .no) :: L) w := h.set j _ h.ext ⟨trivial, (fun _ hb => hb.elim), fun _ _ _ _ => trivial⟩ (fun _ _ _ _ b _ => ⟨rfl, id⟩)
  cases t2 with
  | false =>
    obtain ⟨rfl, rfl, rfl⟩ := hs rfl
    rw [Bool.or_false]
    exact h0.set i _ h0.ext ok1 (fun k r hk hki b hb => ⟨rfl, fun hF => by
      by_cases e2 : j = k
      · subst e2; rw [lk_cons_same] at hk; cases hk; exact hb
      · rw [lk_cons_other _ _ e2] at hk
        exact h.sep i k _ _ hi hk (Ne.symm hki) b hF hb⟩)
  | true =>
    rw [Bool.or_true]
    exact h0.set i _ h0.ext ok2 (fun k r hk hki b hb => ⟨rfl, fun hF => by
      by_cases e2 : j = k
      · subst e2; rw [lk_cons_same] at hk; cases hk; exact hb
      · rw [lk_cons_other _ _ e2] at hk
        exact h.sep j k _ _ hj hk e2 b hF hb⟩)
theorem MemOk.rowB {w₀ w : World} {L : Heap} (h : MemOk w₀ L w) (i : Nat) {t : Bool} {v : Value} {e : TypeId} {s n : Nat} {xs : List Value} (hi : lk L i = some (.rowB t v e s n xs)) : t = true → w.ownsRow 0 e s v n xs := (h.own i _ hi).1
theorem rowB_at {α : Type} {s : Nat} {f : α → List Value} {t : Bool} {a a' : Option Addr} {cap cap' n : Nat} {e : TypeId} {l l' : List α} {w : World} (hf : ∀ x, (f x).length = s) (h : t = true → w.ownsRow 0 e s (.slice a' n cap') n (l'.flatMap f)) (hn : n = l'.length) (ho : t = false → a' = a ∧ cap' = cap ∧ l' = l) (hv : SliceAt w a cap s f l) : SliceAt w a' cap' s f l' := by
  cases t with
  | false => obtain ⟨rfl, rfl, rfl⟩ := ho rfl; exact hv
  | true => exact SliceAt.own hf (h rfl) hn rfl
theorem rowB_cap {s : Nat} {t : Bool} {a a' : Option Addr} {cap cap' n : Nat} {e : TypeId} {xs : List Value} {w : World} (h : t = true → w.ownsRow 0 e s (.slice a' n cap') n xs) (ho : t = false → a' = a ∧ cap' = cap) (hc : cap ≤ Go.maxLen) : cap' ≤ Go.maxLen := by
  cases t with
  | false => rw [(ho rfl).2]; exact hc
  | true => exact row_cap (h rfl)
end Go.Proofs.Ytmihoejecpcmjaa
/- Slices that are read, wherever they lie. Over any program. -/
namespace Go.Proofs.Ytmihoejecpcmjaa
open Go Go.RowKit
section
variable {C : Cx} {Q : Post} {K : List (Nat × Value)} {L : Heap} {α : Type} {s : Nat} {f : α → List Value} {l : List α} {a : Option Addr} {cap : Nat}
theorem T_open {c : Code} (hs : ∀ w, MemOk C.w₀ L w → SliceAt w a cap s f l) (hl : 0 < l.length) (h : ∀ b off, a = some ⟨b, off, none⟩ → T C c Q K L) : T C c Q K L := by
  intro ac w hf hm
  obtain ⟨b, off, cs, T', fz, h1, _, _⟩ := (hs w hm).open (i := 0) hl
  exact h b off h1 ac w hf hm
end
section
variable {P : Program} {w : World} {ρ : Operand → Value} {d : Option Tmp} {ty : TypeId} {ps : String} {af : Array Edge} {g : Option (Nat × Bool)} {x : Operand} {α : Type} {s : Nat} {f : α → List Value} {l : List α} {b off cap i : Nat} {u : α} {t : TypeId}
theorem slice_in (h : SliceAt w (some ⟨b, off, none⟩) cap s f l) (hu : l[i]? = some u) : ∃ cs T fz, hp w b = some (.cells cs T fz) ∧ Row s f cs off l := by
  obtain ⟨b', off', cs, T, fz, h1, h2, h3⟩ := h.open (i := i) (List.getElem?_eq_some_iff.1 hu).1
  cases h1
  exact ⟨cs, T, fz, h2, h3⟩
theorem r_loadS1 {v : Value} (ha : aggOf P t = some false) (hx : ρ x = .pointer (some ⟨b, off + i * s, none⟩)) (h : SliceAt w (some ⟨b, off, none⟩) cap s f l) (hu : l[i]? = some u) (hv : (f u)[0]? = some v) : (execOp ρ (mk d (.load t x) ty ps af g)).run P w = .ok (.value v) w := by
  obtain ⟨cs, T, fz, h1, h2⟩ := slice_in h hu
  exact r_loadRow1 ha hx h1 h2 hu hv
end
end Go.Proofs.Ytmihoejecpcmjaa
/- Inside an iterator: a yield in a drawn region. The first cells of a row's element. -/
namespace Go.Proofs.Ytmihoejecpcmjaa
open Go Go.RowKit
section
variable {C : Cx} {R : Rg} {Q : Post} {K0 V : List (Nat × Value)} {lo : Nat} {L : Heap}
theorem LOb_yieldB {ι κ : Type} {c d l : Nat} {o : Oper} {args : Array Value} (pT : ι → Prop) (LT : ι → Heap) (pX : κ → Prop) (LX : κ → Heap) (news : ι ⊕ κ → List (Nat × Value)) (hro : C.ro = none) (ho : R.ops[c]? = some o) (hw : WantV V o true) (hd : o.dst = some d) (hn : isDefer o.op = false)
    (hr : ∀ ρ w, Rd (kOf K0 V (R.S.getD c [])) ρ → MemOk C.w₀ L w → (execOp ρ o).run C.P w = (Instr.yield l args).run C.P w)
    (hc : ∀ W, MemOk C.w₀ L W → YieldAt Fence.wide 0 C.P l args W fun e W' => (e = .returned (.bool true) ∧ ∃ i, pT i ∧ MemOk C.w₀ (LT i) W') ∨ (e = .returned (.bool false) ∧ ∃ j, pX j ∧ MemOk C.w₀ (LX j) W'))
    (hnew : ∀ x, newsOk R c (news x) = true)
    (h : ∀ x, yP pT pX x → G C R Q K0 (lo ||| 2 ^ c) (news x ++ (c, .bool x.isLeft) :: V) (yL LT LX x)) : LOb C R Q K0 lo V L c := by
  obtain ⟨P, w₀, N, CD, ro⟩ := C
  cases hro
  refine ⟨o, ho, hw, fun a w next hrd hm _ hnext => ?_⟩
  obtain ⟨fn, tmps, assign, body, hy, hR⟩ := hc w hm
  refine ⟨fun _ _ => trivial, ?_⟩
  rw [semAt_nd hn, hr _ _ hrd hm, hy, Oper.uponIn_round]
  refine ⟨fun h => (by cases h), ?_⟩
  refine RoundIn.mono (RoundIn.any hR) ?_
  rintro e W' (⟨rfl, i, hi, hm'⟩ | ⟨rfl, j, hj, hm'⟩)
  · have hnw2 := hnew (.inl i)
    simp only [newsOk, Bool.and_eq_true, Bool.not_eq_true'] at hnw2
    exact hnext _ _ _ _ (.inl (lk_app _ _ _ hnw2.2)) (extV _ _ _ hnw2.1) hm' (h (.inl i) hi)
  · have hnw2 := hnew (.inr j)
    simp only [newsOk, Bool.and_eq_true, Bool.not_eq_true'] at hnw2
    exact hnext _ _ _ _ (.inl (lk_app _ _ _ hnw2.2)) (extV _ _ _ hnw2.1) hm' (h (.inr j) hj)
end
/-- A return out of a round. -/
theorem p_round_r {C : Cx} {K : List (Nat × Value)} {L : Heap} {idD idl D l : Nat} {rec : Loop} {ι : Type} {p : ι → Prop} {LI : ι → Heap} {pX : Code → ι → Prop} {LX : ι → Heap} (i : ι) (hp : pX .ret i)
    (hL : SubK L ((idD, .blk D (.deferred (some []))) :: (idl, .blk l (.loop { rec with state := .busy })) :: LX i)) : POk C (RoundQ C.w₀ idD idl D l rec p LI pX LX) .ret K L := fun _ _ _ hm => ⟨i, hp, hm.sub hL⟩
section
variable {P : Program} {w : World} {ρ : Operand → Value} {d : Option Tmp} {ty : TypeId} {ps : String} {af : Array Edge} {gd : Option (Nat × Bool)} {x : Operand}
theorem ext_take {cs : Array Value} {o s n : Nat} {xs vs : List Value} (hn : n ≤ s) (h : cs.extract o (o + s) = xs.toArray) (hv : xs.take n = vs) : cs.extract o (o + n) = vs.toArray := by
  have h1 : cs.extract o (o + n) = (cs.extract o (o + s)).extract 0 n := by
    rw [Array.extract_extract]
    congr 1
    omega
  rw [h1, h, ← hv]
  simp [List.extract_toArray]
theorem r_loadRowP {α : Type} {s n : Nat} {f : α → List Value} {l : List α} {t : TypeId} {b off i : Nat} {cs : Array Value} {T : TypeId} {fz : Nat × Nat} {u : α} {vs : List Value} (ha : aggOf P t = some true) (hs : szOf P t = some n) (hx : ρ x = .pointer (some ⟨b, off + i * s, none⟩)) (hb : hp w b = some (.cells cs T fz))
    (hr : Row s f cs off l) (hu : l[i]? = some u) (hn : Nat.ble n s = true) (hv : (f u).take n = vs) : (execOp ρ (mk d (.load t x) ty ps af gd)).run P w = .ok (.value (.agg vs.toArray)) w :=
  have hn' := Nat.le_of_ble_eq_true hn
  r_loadA ha hs hx hb (by rw [Nat.ble_eq]; have := (hr i u hu).1; omega) (ext_take hn' (hr i u hu).2 hv)
theorem r_loadOwnP {α : Type} {s m : Nat} {f : α → List Value} {l : List α} {t e : TypeId} {g i cap base n : Nat} {u : α} {xs vs : List Value} (ha : aggOf P t = some true) (hs : szOf P t = some m) (hx : ρ x = .pointer (some ⟨g, 0 + i * s, none⟩)) (hr : w.ownsRow base e s (.slice (some ⟨g, 0, none⟩) n cap) n xs)
    (hn : n = l.length) (hxs : xs = l.flatMap f) (hf : ∀ x, (f x).length = s) (hu : l[i]? = some u) (hm : Nat.ble m s = true) (hv : (f u).take m = vs) : (execOp ρ (mk d (.load t x) ty ps af gd)).run P w = .ok (.value (.agg vs.toArray)) w := by
  subst hn hxs
  obtain ⟨cur, h1, h2⟩ := row_at hr
  exact r_loadRowP ha hs hx h1 (row_of_take hf h2) hu hm hv
end
end Go.Proofs.Ytmihoejecpcmjaa
/- A range over a function whose rounds begin with new blocks. Over any program. -/
namespace Go.Proofs.Ytmihoejecpcmjaa
open Go Go.RowKit
theorem T_rangeB {C : Cx} {ζ : Type} {Q : Post} {K : List (Nat × Value)} {L : Heap} {ι α : Type} {g : Operand} {pl : List Tmp} {assign body : Code} {gf : Nat} {lb : Array Value} {encs : α → List Value} {xs : List α}
    (hro : C.ro = none) (hg : ev K g = some (.func (.func gf) #[] lb)) (eg : Enters C.P gf) (hps : ∀ x, (encs x).length = pl.length) (hpN : (pl.all fun t => Nat.blt t C.N) = true) 
    (idD idl : Nat) (hne : Nat.beq idD idl = false) (p : Nat → ι → Prop) (LI : Nat → ι → Heap) (pX : Code → ι → Prop) (LX : ι → Heap) (K1 : α → ζ → List (Nat × Value)) (E : α → ζ → Heap)
    (hit : ∀ D l rec, IterAt C.P C.w₀ gf lb encs xs p (fun k i => (idD, .blk D (.deferred (some []))) :: (idl, .blk l (.loop rec)) :: LI k i)) (hids : ∀ k i, lk (LI k i) idD = none ∧ lk (LI k i) idl = none) (hidx : ∀ i, lk (LX i) idD = none ∧ lk (LX i) idl = none)
    (i₀ : ι) (h0 : p 0 i₀) (hL : SubK L (LI 0 i₀))
    (hassign : ∀ D l rec k x i, xs[k]? = some x → p k i → T (C.round l) assign (Exit.then (At (C.round l) (fun _ : ζ => True) (fun z => K1 x z) (fun z => (idD, .blk D (.deferred (some []))) :: (idl, .blk l (.loop rec)) :: (E x z ++ LI k i))) (fun _ _ _ => False))
      (zipK pl (encs x) K) ((idD, .blk D (.deferred (some []))) :: (idl, .blk l (.loop rec)) :: LI k i))
    (hround : ∀ D l rec k x i z, xs[k]? = some x → p k i → T (C.round l) body (RoundQ C.w₀ idD idl D l rec (p (k + 1)) (LI (k + 1)) pX LX) (K1 x z) ((idD, .blk D (.deferred (some []))) :: (idl, .blk l (.loop { rec with state := .busy })) :: (E x z ++ LI k i)))
    (hdone : ∀ D i, p xs.length i → POk (C.with D) Q .normal K ((idD, .blk D (.deferred (some []))) :: LI xs.length i))
    (hstop : ∀ D c i, pX c i → T (C.with D) c Q K ((idD, .blk D (.deferred (some []))) :: LX i)) : T C (.rangeFunc g pl.toArray assign body) Q K L := by
  obtain ⟨P, w₀, N, CD, ro⟩ := C
  cases hro
  have hne' : idD ≠ idl := fun e => by subst e; rw [Nat.beq_refl] at hne; cases hne
  intro a w hf hm
  show (Code.rangeFunc g pl.toArray assign body).wpIn Fence.wide 0 P _ a w
  refine (wpIn_wide (n := 0)).2 ((wpIn_wide (n := 2)).1 (wpIn_rangeFunc ?_))
  intro fn hfn
  rw [show Fence.wide.round = none from rfl]
  have hg' := hf.rd _ _ hg
  obtain ⟨rec, hrec⟩ : ∃ rec : Loop, rec = { state := .ready, pending := none, fn, tmps := a.tmps, params := pl.toArray, assign, body, defers := w.heap.size } := ⟨_, rfl⟩
  have hm1 : MemOk w₀ ((idl, .blk (w.heap.size + 1) (.loop rec)) :: (idD, .blk w.heap.size (.deferred (some []))) :: LI 0 i₀) ((w.alloc (.deferred (some []))).alloc (.loop rec)) := by
    have h1 := (hm.sub hL).new (alloc_below w (.deferred (some []))) idD (Nat.le_refl _) (hp_new w _)
    have h2 := h1.new (alloc_below (w.alloc (.deferred (some []))) (.loop rec)) idl (Nat.le_refl _) (hp_new _ _)
    rwa [World.size_alloc] at h2
  have hm1 : MemOk w₀ ((idD, .blk w.heap.size (.deferred (some []))) :: (idl, .blk (w.heap.size + 1) (.loop rec)) :: LI 0 i₀) ((w.alloc (.deferred (some []))).alloc (.loop rec)) := by
    refine hm1.of (fun k q hk => ?_)
    by_cases e1 : idD = k
    · subst e1; rw [lk_cons_same] at hk; rw [ids_ne (Ne.symm hne')]; exact hk
    · rw [lk_cons_other _ _ e1] at hk
      by_cases e2 : idl = k
      · subst e2; rw [lk_cons_same] at hk ⊢; exact hk
      · rw [lk_cons_other _ _ e2] at hk; rw [lk_cons_other _ _ e2, lk_cons_other _ _ e1]; exact hk
  obtain ⟨W1, hW1⟩ : ∃ W1, (w.alloc (.deferred (some []))).alloc (.loop rec) = W1 := ⟨_, rfl⟩
  rw [hW1] at hm1
  refine ⟨w.heap.size + 1, [{ target := .collected w.heap.size, args := #[] }], W1, { target := .fn (.func gf) lb, args := #[.func (.yield (w.heap.size + 1)) #[] #[]] }, W1, gf,
    #[.func (.yield (w.heap.size + 1)) #[] #[]] ++ lb, W1, ?_, ?_, ?_, ?_, fun h => by simp [Fence.wide] at h, ?_⟩
  · rw [← hW1, hrec]; exact run_enterLoop_outer _ _ _ _ _
  · simp only [resolve, hg']
    simp [go_sem]
  · intro f' _; trivial
  · simp [invoke, eg _ _]
  · -- what holds at each round's head, and behind a round that left
    refine CallsIn.mono (callsIn_wide.2 (hit w.heap.size (w.heap.size + 1) rec (w.heap.size + 1) (Code × ι) (fun z => pX z.1 z.2)
      (fun z => (idD, .blk w.heap.size (.deferred (some []))) :: (idl, .blk (w.heap.size + 1) (.loop { rec with state := .done, pending := some z.1 })) :: LX z.2) ?_ i₀ W1 h0 hm1)) ?_
    · intro k x i W hx hi hmi
      have hl : W.heap[w.heap.size + 1]? = some (.loop rec) := hmi.at idl (ids_ne hne')
      have hy := run_yield (P := P) (args := (encs x).toArray) hl (by rw [hrec]; simp [hps])
      have hfr : FrOk N [] (zipK pl (encs x) K) { tmps := (pl.zip (encs x)).foldl (fun t (p, v) => t.setIfInBounds p v) a.tmps, defers := [] } :=
        FrOk.zip pl (encs x) (fun t ht => List.all_eq_true.1 hpN t ht) ⟨hf.size, rfl, hf.knows⟩
      have htm : (rec.params.zip (encs x).toArray).foldl (fun tmps (t, a) => tmps.setIfInBounds t a) rec.tmps = (pl.zip (encs x)).foldl (fun t (p, v) => t.setIfInBounds p v) a.tmps := by
        rw [hrec]; simp [List.zip_toArray]
      rw [htm] at hy
      rw [show rec.fn = fn by rw [hrec], show rec.assign = assign by rw [hrec], show rec.body = body by rw [hrec]] at hy
      refine ⟨fn, _, assign, body, hy, roundIn_of_wpIn hfn ?_⟩
      have hA := hassign w.heap.size (w.heap.size + 1) rec k x i hx hi _ W hfr hmi
      refine wpIn_mono hA ?_
      intro e a1 W2 hq
      cases e with
      | normal =>
        obtain ⟨z, _, hf1, hm2⟩ := hq
        have hl2 : W2.heap[w.heap.size + 1]? = some (.loop rec) := hm2.at idl (ids_ne hne')
        refine ⟨_, run_beginRound hl2 (by rw [hrec]), ?_⟩
        have hm3 := (hm2.putObj (.loop { rec with state := .busy }) (ids_ne hne' : lk _ idl = some (.blk (w.heap.size + 1) (.loop rec)))).second hne'
        have hB := hround w.heap.size (w.heap.size + 1) rec k x i z hx hi a1 _ hf1 hm3
        refine wpIn_mono hB ?_
        have fin : ∀ (jump : Option Code) (W3 : World) (LL : Heap), MemOk w₀ ((idD, .blk w.heap.size (.deferred (some []))) :: (idl, .blk (w.heap.size + 1) (.loop { rec with state := .busy })) :: LL) W3 →
            (Instr.endRound (w.heap.size + 1) jump).run P W3 = .ok (.bool jump.isNone) (W3.putObj (w.heap.size + 1) (.loop { rec with state := if jump.isNone then .ready else .done, pending := jump })) ∧
            MemOk w₀ ((idD, .blk w.heap.size (.deferred (some []))) :: (idl, .blk (w.heap.size + 1) (.loop { rec with state := if jump.isNone then .ready else .done, pending := jump })) :: LL) (W3.putObj (w.heap.size + 1) (.loop { rec with state := if jump.isNone then .ready else .done, pending := jump })) := fun jump W3 LL h3 => by
          have hl3 : W3.heap[w.heap.size + 1]? = some (.loop { rec with state := .busy }) := h3.at idl (ids_ne hne')
          exact ⟨run_endRound (P := P) (r := { rec with state := .busy }) jump hl3, (h3.putObj _ (ids_ne hne')).second hne'⟩
        have hrd : ({ rec with state := .ready, pending := none } : Loop) = rec := by rw [hrec]
        rintro e a3 W3 hp
        cases e with
        | normal =>
          obtain ⟨i', hi', h3⟩ := hp
          obtain ⟨hr, h4⟩ := fin none W3 _ h3
          exact ⟨_, _, hr, .inl ⟨rfl, i', hi', by simpa [hrd] using h4⟩⟩
        | ret =>
          obtain ⟨i', hi', h3⟩ := hp
          obtain ⟨hr, h4⟩ := fin (some .ret) W3 _ h3
          exact ⟨_, _, hr, .inr ⟨rfl, (.ret, i'), hi', by simpa using h4⟩⟩
        | exit id =>
          obtain ⟨i', hi', h3⟩ := hp
          obtain ⟨hr, h4⟩ := fin (some (.exit id)) W3 _ h3
          exact ⟨_, _, hr, .inr ⟨rfl, (.exit id, i'), hi', by simpa using h4⟩⟩
        | goto t =>
          obtain ⟨i', hi', h3⟩ := hp
          obtain ⟨hr, h4⟩ := fin (some (.goto t)) W3 _ h3
          exact ⟨_, _, hr, .inr ⟨rfl, (.goto t, i'), hi', by simpa using h4⟩⟩
        | panic ch => exact hp.elim
        | outgrown => exact hp.elim
      | exit id => exact hq.elim
      | goto l => exact hq.elim
      | ret => exact hq.elim
      | panic ch => exact hq.elim
      | outgrown => exact hq.elim
    · have hf' : ∀ (D : Nat), FrOk N ({ target := .collected D, args := #[] } :: CD) K { a with defers := [{ target := .collected D, args := #[] }] ++ a.defers } := fun D => ⟨hf.size, by rw [hf.defers]; rfl, hf.knows⟩
      rintro e W2 ⟨⟨v, rfl⟩, (⟨i, hi, h2⟩ | ⟨⟨c, i⟩, hi, h2⟩)⟩
      · have hl2 : W2.heap[w.heap.size + 1]? = some (.loop rec) := h2.at idl (ids_ne hne')
        refine ⟨none, _, by have := run_endLoop (P := P) hl2 (by rw [hrec]; simp); rw [this, hrec], ?_⟩
        exact hdone w.heap.size i hi _ _ (hf' _) (((h2.putObj _ (ids_ne hne')).second hne').drop2 (hids _ i).2)
      · have hl2 : W2.heap[w.heap.size + 1]? = some (.loop { rec with state := .done, pending := some c }) := h2.at idl (ids_ne hne')
        refine ⟨some c, _, by have := run_endLoop (P := P) hl2 (by simp); exact this, ?_⟩
        exact wpIn_wide.2 ((wpIn_wide (n := 0)).1 (hstop w.heap.size c i hi _ _ (hf' _) (((h2.putObj _ (ids_ne hne')).second hne').drop2 (hidx i).2)))
end Go.Proofs.Ytmihoejecpcmjaa
