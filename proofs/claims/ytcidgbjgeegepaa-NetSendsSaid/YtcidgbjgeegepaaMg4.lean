/- Texts of this seat, merged: part 4. -/
import Derived.Test.YtcidgbjgeegepaaMg3
/- net and journal: Empty. Printed by a program of this seat's prover. -/
namespace Go.Proofs.Ytcidgbjgeegepaa
open Go Go.RowKit
set_option maxRecDepth 10000
theorem newOk3 {w w' : World} {r s t : Res} (i j k : Nat) (h : r.ok w.heap.size w') (h2 : s.ok w.heap.size w') (h3 : t.ok w.heap.size w') (s1 : ∀ b, r.foot b → ¬ s.foot b) (s2 : ∀ b, r.foot b → ¬ t.foot b) (s3 : ∀ b, s.foot b → ¬ t.foot b) : NewOk w w' [(i, r), (j, s), (k, t)] := by
  have key : ∀ x q, lk [(i, r), (j, s), (k, t)] x = some q → (x = i ∧ q = r) ∨ (x ≠ i ∧ x = j ∧ q = s) ∨ (x ≠ i ∧ x ≠ j ∧ x = k ∧ q = t) := fun x q hx => by
    by_cases e1 : i = x
    · subst e1; rw [lk_cons_same] at hx; cases hx; exact .inl ⟨rfl, rfl⟩
    · rw [lk_cons_other _ _ e1] at hx
      by_cases e2 : j = x
      · subst e2; rw [lk_cons_same] at hx; cases hx; exact .inr (.inl ⟨Ne.symm e1, rfl, rfl⟩)
      · rw [lk_cons_other _ _ e2] at hx
        by_cases e3 : k = x
        · subst e3; rw [lk_cons_same] at hx; cases hx; exact .inr (.inr ⟨Ne.symm e1, Ne.symm e2, rfl, rfl⟩)
        · rw [lk_cons_other _ _ e3] at hx; cases hx
  refine ⟨fun x q hx => ?_, fun x y q q2 hx hy hne b hb hb2 => ?_⟩
  · rcases key x q hx with ⟨_, rfl⟩ | ⟨_, _, rfl⟩ | ⟨_, _, _, rfl⟩
    · exact h
    · exact h2
    · exact h3
  · rcases key x q hx with ⟨rfl, rfl⟩ | ⟨_, rfl, rfl⟩ | ⟨_, _, rfl, rfl⟩ <;> rcases key y q2 hy with ⟨rfl, rfl⟩ | ⟨_, rfl, rfl⟩ | ⟨_, _, rfl, rfl⟩
    · exact hne rfl
    · exact s1 b hb hb2
    · exact s2 b hb hb2
    · exact s1 b hb2 hb
    · exact hne rfl
    · exact s3 b hb hb2
    · exact s2 b hb2 hb
    · exact s3 b hb2 hb
    · exact hne rfl
theorem doV_first (p : PV) (l : List PV) (lost : Int) : doV (p :: l, lost) ⟨1, 0, 0, 0#32⟩ = (0, (l, lost), [p]) := rfl
theorem empty_acc (l : List PV) (lost : Int) : ∀ acc : List PV, (List.replicate l.length (⟨1, 0, 0, 0#32⟩ : Trk)).foldl (fun (s : NV × List PV × Int) t => ((doV s.1 t).2.1, s.2.1 ++ (doV s.1 t).2.2, if (doV s.1 t).1 = 0 then s.2.2 else s.2.2 + 1)) ((l, lost), acc, 0) = (([], lost), acc ++ l, 0) := by
  induction l with
  | nil => intro acc; simp
  | cons p l ih =>
    intro acc
    rw [List.length_cons, List.replicate_succ, List.foldl_cons]
    dsimp only
    rw [doV_first]
    dsimp only
    rw [if_pos rfl, ih, List.append_assoc]; rfl
theorem empty_run (ps : List Pcl) (lost : Int) : runV (pvs ps, lost) (List.replicate ps.length (⟨1, 0, 0, 0#32⟩ : Trk)) = (([], lost), pvs ps, 0) := by
  have := empty_acc (pvs ps) lost []
  rw [pvs_len] at this
  exact this
/-- What an emptied net has come to. -/
structure Emptied (ps : List Pcl) (lost : Int) (x : Hd × List (RowG By)) : Prop where
  nv : x.1.nv = ([], lost)
  told : pvs x.1.t.l = pvs ps
  ok : HdOk x.1 x.2

theorem empty_ok (ps : List Pcl) (a : Option Addr) (cap : Nat) (lost : Int) (w : World) (hv : SliceAt w a cap 3 Pcl.cells ps) (hcap : cap ≤ Go.maxLen) (hb : PcsAt w ps) (h0 : 0 ≤ lost) (hck : checkV (pvs ps) lost = true) : Calls Try.prog 15 #[.agg #[.slice a ps.length cap, .int .u64 lost]] w fun e w' => ∃ x : Hd × List (RowG By), Emptied ps lost x ∧ e = .returned (.tuple #[.agg #[.slice x.1.n.a x.1.n.l.length x.1.n.cap, .int .u64 x.1.lost], .slice x.1.t.a x.1.t.l.length x.1.t.cap, .int .i64 0]) ∧ Below w.heap.size w w' ∧ (rowP x.1.n).ok w.heap.size w' ∧ (rowP x.1.t).ok w.heap.size w' ∧ (Res.pool 5 1 byc x.2).ok w.heap.size w' ∧ (∀ b, (rowP x.1.n).foot b → ¬ (rowP x.1.t).foot b) ∧ (∀ b, (rowP x.1.n).foot b → ¬ (Res.pool 5 1 byc x.2).foot b) ∧ (∀ b, (rowP x.1.t).foot b → ¬ (Res.pool 5 1 byc x.2).foot b) := by
  have hvl := hv.1
  unfold Go.maxLen at hcap
  have hc := checkV_len hck
  have hcl := hc.1
  rw [pvs_len] at hcl
  refine calls_of_T (l := [.agg #[.slice a ps.length cap, .int .u64 lost]]) 25 Try.func15 rfl rfl rfl ?_
  show T _ _ _ [(0, .agg #[.slice a ps.length cap, .int .u64 lost])] []
  refine T_seq (T_region ?_)
  refine TL_new 1 (.cells #[.slice a ps.length cap, .int .u64 lost] 27) (fun B => .pointer (some ⟨B, 0, none⟩)) (fun _ _ hρ _ => r_box (hρ _ _ rfl) rfl) rfl rfl rfl (w_n rfl) ?_
  intro B1
  refine TL_new 2 (.cells #[.slice none 0 0, .int .u64 0] 27) (fun B => .pointer (some ⟨B, 0, none⟩)) (fun _ _ _ _ => r_alloc (v := .agg #[.slice none 0 0, .int .u64 0]) (by kernel_rfl) rfl) rfl rfl rfl (w_n rfl) ?_
  intro B2
  refine TL_q (.slice none 0 0) (fun _ _ hρ _ => r_assign (hρ _ _ rfl)) rfl rfl rfl (w_n rfl) ?_
  refine TL_q (.int .i64 0) (fun _ _ hρ _ => r_assign (hρ _ _ rfl)) rfl rfl rfl (w_n rfl) ?_
  refine TL_seq ?_
  refine T_join (ι := Nat × (Option Addr) × Nat × Hd × (List (RowG By)) × Int × Nat) (fun (z : Nat × (Option Addr) × Nat × Hd × (List (RowG By)) × Int × Nat) => match z with | (Bx2, ar3, cr3, h4, bs4, ov4, Bx13) => (RunIs (pvs ps, lost) (List.replicate ps.length (⟨1, 0, 0, 0#32⟩ : Trk)) (h4, bs4) ov4) ∧ True) (fun (z : Nat × (Option Addr) × Nat × Hd × (List (RowG By)) × Int × Nat) => match z with | (Bx2, ar3, cr3, h4, bs4, ov4, Bx13) => [(2, .pointer (some ⟨B2, 0, none⟩)), (3, .slice none 0 0), (4, .int .i64 0), (5, .pointer (some ⟨Bx13, 0, none⟩)), (6, .slice h4.t.a h4.t.l.length h4.t.cap), (8, .int .i64 0)]) (fun (z : Nat × (Option Addr) × Nat × Hd × (List (RowG By)) × Int × Nat) => match z with | (Bx2, ar3, cr3, h4, bs4, ov4, Bx13) => [(1, .blk B1 (.cells #[.slice a ps.length cap, .int .u64 lost] 27)), (2, .blk B2 (.cells #[.slice none 0 0, .int .u64 0] 27)), (3, .blk Bx2 (.cells #[.int .i64 1, .int .i64 0, .int .i64 0, .int .u32 0] 48)), (4, .row (.slice ar3 ((List.replicate ps.length (⟨1, 0, 0, 0#32⟩ : Trk)).length) cr3) 48 4 ((List.replicate ps.length (⟨1, 0, 0, 0#32⟩ : Trk)).length) ((List.replicate ps.length (⟨1, 0, 0, 0#32⟩ : Trk)).flatMap Trk.cells)), (5, .blk Bx13 (.cells #[.slice h4.n.a h4.n.l.length h4.n.cap, .int .u64 h4.lost] 27)), (951, .row (.slice h4.n.a h4.n.l.length h4.n.cap) 36 3 h4.n.l.length (h4.n.l.flatMap Pcl.cells)), (952, .row (.slice h4.t.a h4.t.l.length h4.t.cap) 36 3 h4.t.l.length (h4.t.l.flatMap Pcl.cells)), (953, .pool 5 1 byc bs4)]) (T_draw (V := [(0, .agg #[.slice a ps.length cap, .int .u64 lost]), (1, .agg #[.int .i64 1, .int .i64 0, .int .i64 0, .int .u32 0]), (3, .pointer (some ⟨B1, 0, none⟩)), (4, .slice a ps.length cap), (5, .int .i64 ((ps.length : Nat) : Int))]) [0, 0, 2, 0, 8, 24, 62, 127, 255, 511, 511, 511, 511, 0, 9215, 26623, 61439, 131071] [[(1, none)], [], [(11, some 1)], [(1, none)], [(13, some 3)], [(14, some 4)], [(12, some 2), (15, some 5)], [(10, some 0), (16, some 6)], [(17, some 7)], [(9, some 8)], [(9, some 8)], [(9, some 8)], [(9, some 8)], [], [(5, some 13), (18, some 9)], [(19, some 10)], [(20, some 11)], [(21, some 12)]] 24772 mixed (by kernel_rfl) ?_) (fun z hz => ?_)
  · skip
    refine G_step [0, 1, 3, 4, 5] 2 [13] (by kernel_rfl) (allM (all_cons (q_run (.agg #[.slice a ps.length cap, .int .u64 lost]) rfl rfl (wv_n rfl) rfl (fun _ _ hρ hm => r_loadA ag27 sz27 (hρ _ _ rfl) (hm.at 1 rfl) rfl rfl)) (all_cons (q_run (.agg #[.int .i64 1, .int .i64 0, .int .i64 0, .int .u32 0]) rfl rfl (wv_n rfl) rfl (fun _ _ hρ _ => r_build (vs := [(0, .int .i64 1)]) (by kernel_rfl) (cons2 (pair2 (hρ _ _ rfl)) rfl))) (all_cons (q_run (.pointer (some ⟨B1, 0, none⟩)) rfl rfl (wv_n rfl) rfl (fun _ _ hρ _ => r_fieldAddr fl27_0 sz22 (hρ _ _ rfl))) (all_cons (q_run (.slice a ps.length cap) rfl rfl (wv_n rfl) rfl (fun _ _ hρ hm => r_load ag22 (hρ _ _ rfl) (hm.at 1 rfl) rfl)) (all_cons (q_run (.int .i64 ((ps.length : Nat) : Int)) rfl rfl (wv_n rfl) rfl (fun _ _ hρ _ => r_len sl22 (hρ _ _ rfl))) all_nil)))))) (allM (all_cons ?_ (all_cons ?_ all_nil)))
    · skip
      refine LOb_new 3 (.cells #[.int .i64 1, .int .i64 0, .int .i64 0, .int .u32 0] 48) (fun B => .slice (some ⟨B, 0, none⟩) 1 1) (fun B => []) rfl (wv_n rfl) rfl rfl (fun _ _ hρ _ => r_buildSlice (vs := [(0, .agg #[.int .i64 1, .int .i64 0, .int .i64 0, .int .u32 0])]) (by kernel_rfl) (cons2 (pair2 (hρ _ _ rfl)) rfl)) (fun B => by kernel_rfl) ?_
      intro B5
      refine G_step [0, 3, 4, 5] 6 [13] (by kernel_rfl) (allM (all_cons (q_run (.agg #[.slice a ps.length cap, .int .u64 lost]) rfl rfl (wv_n rfl) rfl (fun _ _ hρ hm => r_loadA ag27 sz27 (hρ _ _ rfl) (hm.at 1 rfl) rfl rfl)) (all_cons (q_run (.pointer (some ⟨B1, 0, none⟩)) rfl rfl (wv_n rfl) rfl (fun _ _ hρ _ => r_fieldAddr fl27_0 sz22 (hρ _ _ rfl))) (all_cons (q_run (.slice a ps.length cap) rfl rfl (wv_n rfl) rfl (fun _ _ hρ hm => r_load ag22 (hρ _ _ rfl) (hm.at 1 rfl) rfl)) (all_cons (q_run (.int .i64 ((ps.length : Nat) : Int)) rfl rfl (wv_n rfl) rfl (fun _ _ hρ _ => r_len sl22 (hρ _ _ rfl))) all_nil))))) (allM (all_cons ?_ (all_cons ?_ all_nil)))
      · skip
        refine LOb_callN (fun (_ : Option Addr × Nat) => True) (fun (ar6, cr6) => .slice ar6 ((List.replicate ps.length (⟨1, 0, 0, 0#32⟩ : Trk)).length) cr6) (fun (ar6, cr6) => [(4, .row (.slice ar6 ((List.replicate ps.length (⟨1, 0, 0, 0#32⟩ : Trk)).length) cr6) 48 4 ((List.replicate ps.length (⟨1, 0, 0, 0#32⟩ : Trk)).length) ((List.replicate ps.length (⟨1, 0, 0, 0#32⟩ : Trk)).flatMap Trk.cells))]) (fun (ar6, cr6) => []) rfl (wv_n rfl) rfl rfl (fun _ _ hρ _ => r_call (args := [.slice (some ⟨B5, 0, none⟩) 1 1, .int .i64 ((ps.length : Nat) : Int)]) (enters_of Try.func67 (by kernel_rfl) rfl) (hρ _ _ rfl) ((cons2 (hρ _ _ rfl) (cons2 (hρ _ _ rfl) rfl))) rfl) (fun w hm => (rep_any (⟨1, 0, 0, 0#32⟩ : Trk) ps.length B5 w (by omega) (hm.at 3 rfl)).mono fun e w' ⟨a', cap', he, hb, hr⟩ => ⟨(a', cap'), trivial, he, hb, newOk1 4 hr⟩) (fun (ar6, cr6) => by kernel_rfl) ?_
        rintro ⟨ar6, cr6⟩ -
        refine G_step [0] 7 [13] (by kernel_rfl) (allM (all_cons (q_run (.agg #[.slice a ps.length cap, .int .u64 lost]) rfl rfl (wv_n rfl) rfl (fun _ _ hρ hm => r_loadA ag27 sz27 (hρ _ _ rfl) (hm.at 1 rfl) rfl rfl)) all_nil)) (allM (all_cons ?_ (all_cons ?_ all_nil)))
        · skip
          refine LOb_callN (fun x : Hd × List (RowG By) × Int => RunIs (pvs ps, lost) (List.replicate ps.length (⟨1, 0, 0, 0#32⟩ : Trk)) (x.1, x.2.1) x.2.2) (fun (h7, bs7, ov7) => .tuple #[.agg #[.slice h7.n.a h7.n.l.length h7.n.cap, .int .u64 h7.lost], .slice h7.t.a h7.t.l.length h7.t.cap, .int .i64 ov7, .int .i64 0]) (fun (h7, bs7, ov7) => [(951, .row (.slice h7.n.a h7.n.l.length h7.n.cap) 36 3 h7.n.l.length (h7.n.l.flatMap Pcl.cells)), (952, .row (.slice h7.t.a h7.t.l.length h7.t.cap) 36 3 h7.t.l.length (h7.t.l.flatMap Pcl.cells)), (953, .pool 5 1 byc bs7)]) (fun (h7, bs7, ov7) => [(8, .tuple #[.agg #[.slice h7.n.a h7.n.l.length h7.n.cap, .int .u64 h7.lost], .slice h7.t.a h7.t.l.length h7.t.cap, .int .i64 ov7, .int .i64 0]), (9, .agg #[.slice h7.n.a h7.n.l.length h7.n.cap, .int .u64 h7.lost]), (10, .slice h7.t.a h7.t.l.length h7.t.cap), (11, .int .i64 ov7), (12, .int .i64 0)]) rfl (wv_n rfl) rfl rfl (fun _ _ hρ _ => r_call (args := [.agg #[.slice a ps.length cap, .int .u64 lost], .slice ar6 ((List.replicate ps.length (⟨1, 0, 0, 0#32⟩ : Trk)).length) cr6]) (enters_of Try.func28 (by kernel_rfl) rfl) (hρ _ _ rfl) ((cons2 (hρ _ _ rfl) (cons2 (hρ _ _ rfl) rfl))) rfl) (fun w hm => (run_ok ps a cap lost (List.replicate ps.length (⟨1, 0, 0, 0#32⟩ : Trk)) ar6 cr6 w (hv.keep hm.ext) hcap (hb.keep hm.ext) (SliceAt.own Trk.cells_len (hm.row 4 rfl) rfl rfl) (row_cap (hm.row 4 rfl)) (by rw [List.length_replicate]; omega) h0 hck).mono fun e w' ⟨⟨h, bs⟩, ov, hx, he, hb, r1, r2, r3, s1, s2, s3⟩ => ⟨(h, bs, ov), hx, he, hb, newOk3 951 952 953 r1 r2 r3 s1 s2 s3⟩) (fun (h7, bs7, ov7) => by kernel_rfl) ?_
          rintro ⟨h7, bs7, ov7⟩ hr7
          refine G_step [8, 9, 10, 11, 12] 13 [] (by kernel_rfl) (allM (all_cons (q_run (.tuple #[.agg #[.slice h7.n.a h7.n.l.length h7.n.cap, .int .u64 h7.lost], .slice h7.t.a h7.t.l.length h7.t.cap, .int .i64 ov7, .int .i64 0]) rfl rfl (wv_n rfl) rfl (fun _ _ hρ _ => r_move (hρ _ _ rfl))) (all_cons (q_run (.agg #[.slice h7.n.a h7.n.l.length h7.n.cap, .int .u64 h7.lost]) rfl rfl (wv_n rfl) rfl (fun _ _ hρ _ => r_extract (hρ _ _ rfl) rfl)) (all_cons (q_run (.slice h7.t.a h7.t.l.length h7.t.cap) rfl rfl (wv_n rfl) rfl (fun _ _ hρ _ => r_extract (hρ _ _ rfl) rfl)) (all_cons (q_run (.int .i64 ov7) rfl rfl (wv_n rfl) rfl (fun _ _ hρ _ => r_extract (hρ _ _ rfl) rfl)) (all_cons (q_run (.int .i64 0) rfl rfl (wv_n rfl) rfl (fun _ _ hρ _ => r_extract (hρ _ _ rfl) rfl)) all_nil)))))) (allM (all_cons ?_ all_nil))
          refine LOb_new 5 (.cells #[.slice none 0 0, .int .u64 0] 27) (fun B => .pointer (some ⟨B, 0, none⟩)) (fun B => []) rfl (wv_n rfl) rfl rfl (fun _ _ _ _ => r_alloc (v := .agg #[.slice none 0 0, .int .u64 0]) (by kernel_rfl) rfl) (fun B => by kernel_rfl) ?_
          intro B8
          refine G_step [8, 9, 10, 11, 12] 14 [] (by kernel_rfl) (allM (all_cons (q_run (.tuple #[.agg #[.slice h7.n.a h7.n.l.length h7.n.cap, .int .u64 h7.lost], .slice h7.t.a h7.t.l.length h7.t.cap, .int .i64 ov7, .int .i64 0]) rfl rfl (wv_n rfl) rfl (fun _ _ hρ _ => r_move (hρ _ _ rfl))) (all_cons (q_run (.agg #[.slice h7.n.a h7.n.l.length h7.n.cap, .int .u64 h7.lost]) rfl rfl (wv_n rfl) rfl (fun _ _ hρ _ => r_extract (hρ _ _ rfl) rfl)) (all_cons (q_run (.slice h7.t.a h7.t.l.length h7.t.cap) rfl rfl (wv_n rfl) rfl (fun _ _ hρ _ => r_extract (hρ _ _ rfl) rfl)) (all_cons (q_run (.int .i64 ov7) rfl rfl (wv_n rfl) rfl (fun _ _ hρ _ => r_extract (hρ _ _ rfl) rfl)) (all_cons (q_run (.int .i64 0) rfl rfl (wv_n rfl) rfl (fun _ _ hρ _ => r_extract (hρ _ _ rfl) rfl)) all_nil)))))) (allM (all_cons ?_ all_nil))
          refine LOb_store 5 (.cells #[.slice h7.n.a h7.n.l.length h7.n.cap, .int .u64 h7.lost] 27) [(15, .slice h7.t.a h7.t.l.length h7.t.cap), (16, .int .i64 ov7), (17, .int .i64 0)] rfl (wv_n rfl) rfl rfl rfl (fun _ _ hρ hm => r_store sz27 (hρ _ _ rfl) (hρ _ _ rfl) (hm.at 5 rfl) rfl rfl rfl rfl) (by kernel_rfl) ?_
          exact G_lastQ [10, 11, 12, 15, 16, 17] [(2, .pointer (some ⟨B2, 0, none⟩)), (3, .slice none 0 0), (4, .int .i64 0), (5, .pointer (some ⟨B8, 0, none⟩)), (6, .slice h7.t.a h7.t.l.length h7.t.cap), (8, .int .i64 0)] (by kernel_rfl) (allM (all_cons (q_run (.slice h7.t.a h7.t.l.length h7.t.cap) rfl rfl (wv_n rfl) rfl (fun _ _ hρ _ => r_extract (hρ _ _ rfl) rfl)) (all_cons (q_run (.int .i64 ov7) rfl rfl (wv_n rfl) rfl (fun _ _ hρ _ => r_extract (hρ _ _ rfl) rfl)) (all_cons (q_run (.int .i64 0) rfl rfl (wv_n rfl) rfl (fun _ _ hρ _ => r_extract (hρ _ _ rfl) rfl)) (all_cons (q_run (.slice h7.t.a h7.t.l.length h7.t.cap) rfl rfl (wv_n rfl) rfl (fun _ _ hρ _ => r_assign (hρ _ _ rfl))) (all_cons (q_run (.int .i64 ov7) rfl rfl (wv_n rfl) rfl (fun _ _ hρ _ => r_assign (hρ _ _ rfl))) (all_cons (q_run (.int .i64 0) rfl rfl (wv_n rfl) rfl (fun _ _ hρ _ => r_assign (hρ _ _ rfl))) all_nil))))))) (end_old rfl rfl (end_old rfl rfl (end_old rfl rfl (end_new 13 rfl rfl (end_new 15 rfl rfl (end_new 17 rfl rfl end_nil)))))) (fun a w hf hm => At_intro (B5, ar6, cr6, h7, bs7, ov7, B8) ⟨hr7, trivial⟩ hf hm (sub_cons rfl (sub_cons rfl (sub_cons rfl (sub_cons rfl (sub_cons rfl (sub_cons rfl sub_nil)))))) (sub_cons rfl (sub_cons rfl (sub_cons rfl (sub_cons rfl (sub_cons rfl (sub_cons rfl (sub_cons rfl (sub_cons rfl sub_nil)))))))))
        · skip
          refine LOb_new 5 (.cells #[.slice none 0 0, .int .u64 0] 27) (fun B => .pointer (some ⟨B, 0, none⟩)) (fun B => []) rfl (wv_n rfl) rfl rfl (fun _ _ _ _ => r_alloc (v := .agg #[.slice none 0 0, .int .u64 0]) (by kernel_rfl) rfl) (fun B => by kernel_rfl) ?_
          intro B9
          refine G_step [0] 7 [] (by kernel_rfl) (allM (all_cons (q_run (.agg #[.slice a ps.length cap, .int .u64 lost]) rfl rfl (wv_n rfl) rfl (fun _ _ hρ hm => r_loadA ag27 sz27 (hρ _ _ rfl) (hm.at 1 rfl) rfl rfl)) all_nil)) (allM (all_cons ?_ all_nil))
          refine LOb_callN (fun x : Hd × List (RowG By) × Int => RunIs (pvs ps, lost) (List.replicate ps.length (⟨1, 0, 0, 0#32⟩ : Trk)) (x.1, x.2.1) x.2.2) (fun (h10, bs10, ov10) => .tuple #[.agg #[.slice h10.n.a h10.n.l.length h10.n.cap, .int .u64 h10.lost], .slice h10.t.a h10.t.l.length h10.t.cap, .int .i64 ov10, .int .i64 0]) (fun (h10, bs10, ov10) => [(951, .row (.slice h10.n.a h10.n.l.length h10.n.cap) 36 3 h10.n.l.length (h10.n.l.flatMap Pcl.cells)), (952, .row (.slice h10.t.a h10.t.l.length h10.t.cap) 36 3 h10.t.l.length (h10.t.l.flatMap Pcl.cells)), (953, .pool 5 1 byc bs10)]) (fun (h10, bs10, ov10) => [(8, .tuple #[.agg #[.slice h10.n.a h10.n.l.length h10.n.cap, .int .u64 h10.lost], .slice h10.t.a h10.t.l.length h10.t.cap, .int .i64 ov10, .int .i64 0]), (9, .agg #[.slice h10.n.a h10.n.l.length h10.n.cap, .int .u64 h10.lost]), (10, .slice h10.t.a h10.t.l.length h10.t.cap), (11, .int .i64 ov10), (12, .int .i64 0)]) rfl (wv_n rfl) rfl rfl (fun _ _ hρ _ => r_call (args := [.agg #[.slice a ps.length cap, .int .u64 lost], .slice ar6 ((List.replicate ps.length (⟨1, 0, 0, 0#32⟩ : Trk)).length) cr6]) (enters_of Try.func28 (by kernel_rfl) rfl) (hρ _ _ rfl) ((cons2 (hρ _ _ rfl) (cons2 (hρ _ _ rfl) rfl))) rfl) (fun w hm => (run_ok ps a cap lost (List.replicate ps.length (⟨1, 0, 0, 0#32⟩ : Trk)) ar6 cr6 w (hv.keep hm.ext) hcap (hb.keep hm.ext) (SliceAt.own Trk.cells_len (hm.row 4 rfl) rfl rfl) (row_cap (hm.row 4 rfl)) (by rw [List.length_replicate]; omega) h0 hck).mono fun e w' ⟨⟨h, bs⟩, ov, hx, he, hb, r1, r2, r3, s1, s2, s3⟩ => ⟨(h, bs, ov), hx, he, hb, newOk3 951 952 953 r1 r2 r3 s1 s2 s3⟩) (fun (h10, bs10, ov10) => by kernel_rfl) ?_
          rintro ⟨h10, bs10, ov10⟩ hr10
          refine G_step [8, 9, 10, 11, 12] 14 [] (by kernel_rfl) (allM (all_cons (q_run (.tuple #[.agg #[.slice h10.n.a h10.n.l.length h10.n.cap, .int .u64 h10.lost], .slice h10.t.a h10.t.l.length h10.t.cap, .int .i64 ov10, .int .i64 0]) rfl rfl (wv_n rfl) rfl (fun _ _ hρ _ => r_move (hρ _ _ rfl))) (all_cons (q_run (.agg #[.slice h10.n.a h10.n.l.length h10.n.cap, .int .u64 h10.lost]) rfl rfl (wv_n rfl) rfl (fun _ _ hρ _ => r_extract (hρ _ _ rfl) rfl)) (all_cons (q_run (.slice h10.t.a h10.t.l.length h10.t.cap) rfl rfl (wv_n rfl) rfl (fun _ _ hρ _ => r_extract (hρ _ _ rfl) rfl)) (all_cons (q_run (.int .i64 ov10) rfl rfl (wv_n rfl) rfl (fun _ _ hρ _ => r_extract (hρ _ _ rfl) rfl)) (all_cons (q_run (.int .i64 0) rfl rfl (wv_n rfl) rfl (fun _ _ hρ _ => r_extract (hρ _ _ rfl) rfl)) all_nil)))))) (allM (all_cons ?_ all_nil))
          refine LOb_store 5 (.cells #[.slice h10.n.a h10.n.l.length h10.n.cap, .int .u64 h10.lost] 27) [(15, .slice h10.t.a h10.t.l.length h10.t.cap), (16, .int .i64 ov10), (17, .int .i64 0)] rfl (wv_n rfl) rfl rfl rfl (fun _ _ hρ hm => r_store sz27 (hρ _ _ rfl) (hρ _ _ rfl) (hm.at 5 rfl) rfl rfl rfl rfl) (by kernel_rfl) ?_
          exact G_lastQ [10, 11, 12, 15, 16, 17] [(2, .pointer (some ⟨B2, 0, none⟩)), (3, .slice none 0 0), (4, .int .i64 0), (5, .pointer (some ⟨B9, 0, none⟩)), (6, .slice h10.t.a h10.t.l.length h10.t.cap), (8, .int .i64 0)] (by kernel_rfl) (allM (all_cons (q_run (.slice h10.t.a h10.t.l.length h10.t.cap) rfl rfl (wv_n rfl) rfl (fun _ _ hρ _ => r_extract (hρ _ _ rfl) rfl)) (all_cons (q_run (.int .i64 ov10) rfl rfl (wv_n rfl) rfl (fun _ _ hρ _ => r_extract (hρ _ _ rfl) rfl)) (all_cons (q_run (.int .i64 0) rfl rfl (wv_n rfl) rfl (fun _ _ hρ _ => r_extract (hρ _ _ rfl) rfl)) (all_cons (q_run (.slice h10.t.a h10.t.l.length h10.t.cap) rfl rfl (wv_n rfl) rfl (fun _ _ hρ _ => r_assign (hρ _ _ rfl))) (all_cons (q_run (.int .i64 ov10) rfl rfl (wv_n rfl) rfl (fun _ _ hρ _ => r_assign (hρ _ _ rfl))) (all_cons (q_run (.int .i64 0) rfl rfl (wv_n rfl) rfl (fun _ _ hρ _ => r_assign (hρ _ _ rfl))) all_nil))))))) (end_old rfl rfl (end_old rfl rfl (end_old rfl rfl (end_new 13 rfl rfl (end_new 15 rfl rfl (end_new 17 rfl rfl end_nil)))))) (fun a w hf hm => At_intro (B5, ar6, cr6, h10, bs10, ov10, B9) ⟨hr10, trivial⟩ hf hm (sub_cons rfl (sub_cons rfl (sub_cons rfl (sub_cons rfl (sub_cons rfl (sub_cons rfl sub_nil)))))) (sub_cons rfl (sub_cons rfl (sub_cons rfl (sub_cons rfl (sub_cons rfl (sub_cons rfl (sub_cons rfl (sub_cons rfl sub_nil)))))))))
      · skip
        refine LOb_new 5 (.cells #[.slice none 0 0, .int .u64 0] 27) (fun B => .pointer (some ⟨B, 0, none⟩)) (fun B => []) rfl (wv_n rfl) rfl rfl (fun _ _ _ _ => r_alloc (v := .agg #[.slice none 0 0, .int .u64 0]) (by kernel_rfl) rfl) (fun B => by kernel_rfl) ?_
        intro B11
        refine G_step [0, 3, 4, 5] 6 [] (by kernel_rfl) (allM (all_cons (q_run (.agg #[.slice a ps.length cap, .int .u64 lost]) rfl rfl (wv_n rfl) rfl (fun _ _ hρ hm => r_loadA ag27 sz27 (hρ _ _ rfl) (hm.at 1 rfl) rfl rfl)) (all_cons (q_run (.pointer (some ⟨B1, 0, none⟩)) rfl rfl (wv_n rfl) rfl (fun _ _ hρ _ => r_fieldAddr fl27_0 sz22 (hρ _ _ rfl))) (all_cons (q_run (.slice a ps.length cap) rfl rfl (wv_n rfl) rfl (fun _ _ hρ hm => r_load ag22 (hρ _ _ rfl) (hm.at 1 rfl) rfl)) (all_cons (q_run (.int .i64 ((ps.length : Nat) : Int)) rfl rfl (wv_n rfl) rfl (fun _ _ hρ _ => r_len sl22 (hρ _ _ rfl))) all_nil))))) (allM (all_cons ?_ all_nil))
        refine LOb_callN (fun (_ : Option Addr × Nat) => True) (fun (ar12, cr12) => .slice ar12 ((List.replicate ps.length (⟨1, 0, 0, 0#32⟩ : Trk)).length) cr12) (fun (ar12, cr12) => [(4, .row (.slice ar12 ((List.replicate ps.length (⟨1, 0, 0, 0#32⟩ : Trk)).length) cr12) 48 4 ((List.replicate ps.length (⟨1, 0, 0, 0#32⟩ : Trk)).length) ((List.replicate ps.length (⟨1, 0, 0, 0#32⟩ : Trk)).flatMap Trk.cells))]) (fun (ar12, cr12) => []) rfl (wv_n rfl) rfl rfl (fun _ _ hρ _ => r_call (args := [.slice (some ⟨B5, 0, none⟩) 1 1, .int .i64 ((ps.length : Nat) : Int)]) (enters_of Try.func67 (by kernel_rfl) rfl) (hρ _ _ rfl) ((cons2 (hρ _ _ rfl) (cons2 (hρ _ _ rfl) rfl))) rfl) (fun w hm => (rep_any (⟨1, 0, 0, 0#32⟩ : Trk) ps.length B5 w (by omega) (hm.at 3 rfl)).mono fun e w' ⟨a', cap', he, hb, hr⟩ => ⟨(a', cap'), trivial, he, hb, newOk1 4 hr⟩) (fun (ar12, cr12) => by kernel_rfl) ?_
        rintro ⟨ar12, cr12⟩ -
        refine G_step [0] 7 [] (by kernel_rfl) (allM (all_cons (q_run (.agg #[.slice a ps.length cap, .int .u64 lost]) rfl rfl (wv_n rfl) rfl (fun _ _ hρ hm => r_loadA ag27 sz27 (hρ _ _ rfl) (hm.at 1 rfl) rfl rfl)) all_nil)) (allM (all_cons ?_ all_nil))
        refine LOb_callN (fun x : Hd × List (RowG By) × Int => RunIs (pvs ps, lost) (List.replicate ps.length (⟨1, 0, 0, 0#32⟩ : Trk)) (x.1, x.2.1) x.2.2) (fun (h13, bs13, ov13) => .tuple #[.agg #[.slice h13.n.a h13.n.l.length h13.n.cap, .int .u64 h13.lost], .slice h13.t.a h13.t.l.length h13.t.cap, .int .i64 ov13, .int .i64 0]) (fun (h13, bs13, ov13) => [(951, .row (.slice h13.n.a h13.n.l.length h13.n.cap) 36 3 h13.n.l.length (h13.n.l.flatMap Pcl.cells)), (952, .row (.slice h13.t.a h13.t.l.length h13.t.cap) 36 3 h13.t.l.length (h13.t.l.flatMap Pcl.cells)), (953, .pool 5 1 byc bs13)]) (fun (h13, bs13, ov13) => [(8, .tuple #[.agg #[.slice h13.n.a h13.n.l.length h13.n.cap, .int .u64 h13.lost], .slice h13.t.a h13.t.l.length h13.t.cap, .int .i64 ov13, .int .i64 0]), (9, .agg #[.slice h13.n.a h13.n.l.length h13.n.cap, .int .u64 h13.lost]), (10, .slice h13.t.a h13.t.l.length h13.t.cap), (11, .int .i64 ov13), (12, .int .i64 0)]) rfl (wv_n rfl) rfl rfl (fun _ _ hρ _ => r_call (args := [.agg #[.slice a ps.length cap, .int .u64 lost], .slice ar12 ((List.replicate ps.length (⟨1, 0, 0, 0#32⟩ : Trk)).length) cr12]) (enters_of Try.func28 (by kernel_rfl) rfl) (hρ _ _ rfl) ((cons2 (hρ _ _ rfl) (cons2 (hρ _ _ rfl) rfl))) rfl) (fun w hm => (run_ok ps a cap lost (List.replicate ps.length (⟨1, 0, 0, 0#32⟩ : Trk)) ar12 cr12 w (hv.keep hm.ext) hcap (hb.keep hm.ext) (SliceAt.own Trk.cells_len (hm.row 4 rfl) rfl rfl) (row_cap (hm.row 4 rfl)) (by rw [List.length_replicate]; omega) h0 hck).mono fun e w' ⟨⟨h, bs⟩, ov, hx, he, hb, r1, r2, r3, s1, s2, s3⟩ => ⟨(h, bs, ov), hx, he, hb, newOk3 951 952 953 r1 r2 r3 s1 s2 s3⟩) (fun (h13, bs13, ov13) => by kernel_rfl) ?_
        rintro ⟨h13, bs13, ov13⟩ hr13
        refine G_step [8, 9, 10, 11, 12] 14 [] (by kernel_rfl) (allM (all_cons (q_run (.tuple #[.agg #[.slice h13.n.a h13.n.l.length h13.n.cap, .int .u64 h13.lost], .slice h13.t.a h13.t.l.length h13.t.cap, .int .i64 ov13, .int .i64 0]) rfl rfl (wv_n rfl) rfl (fun _ _ hρ _ => r_move (hρ _ _ rfl))) (all_cons (q_run (.agg #[.slice h13.n.a h13.n.l.length h13.n.cap, .int .u64 h13.lost]) rfl rfl (wv_n rfl) rfl (fun _ _ hρ _ => r_extract (hρ _ _ rfl) rfl)) (all_cons (q_run (.slice h13.t.a h13.t.l.length h13.t.cap) rfl rfl (wv_n rfl) rfl (fun _ _ hρ _ => r_extract (hρ _ _ rfl) rfl)) (all_cons (q_run (.int .i64 ov13) rfl rfl (wv_n rfl) rfl (fun _ _ hρ _ => r_extract (hρ _ _ rfl) rfl)) (all_cons (q_run (.int .i64 0) rfl rfl (wv_n rfl) rfl (fun _ _ hρ _ => r_extract (hρ _ _ rfl) rfl)) all_nil)))))) (allM (all_cons ?_ all_nil))
        refine LOb_store 5 (.cells #[.slice h13.n.a h13.n.l.length h13.n.cap, .int .u64 h13.lost] 27) [(15, .slice h13.t.a h13.t.l.length h13.t.cap), (16, .int .i64 ov13), (17, .int .i64 0)] rfl (wv_n rfl) rfl rfl rfl (fun _ _ hρ hm => r_store sz27 (hρ _ _ rfl) (hρ _ _ rfl) (hm.at 5 rfl) rfl rfl rfl rfl) (by kernel_rfl) ?_
        exact G_lastQ [10, 11, 12, 15, 16, 17] [(2, .pointer (some ⟨B2, 0, none⟩)), (3, .slice none 0 0), (4, .int .i64 0), (5, .pointer (some ⟨B11, 0, none⟩)), (6, .slice h13.t.a h13.t.l.length h13.t.cap), (8, .int .i64 0)] (by kernel_rfl) (allM (all_cons (q_run (.slice h13.t.a h13.t.l.length h13.t.cap) rfl rfl (wv_n rfl) rfl (fun _ _ hρ _ => r_extract (hρ _ _ rfl) rfl)) (all_cons (q_run (.int .i64 ov13) rfl rfl (wv_n rfl) rfl (fun _ _ hρ _ => r_extract (hρ _ _ rfl) rfl)) (all_cons (q_run (.int .i64 0) rfl rfl (wv_n rfl) rfl (fun _ _ hρ _ => r_extract (hρ _ _ rfl) rfl)) (all_cons (q_run (.slice h13.t.a h13.t.l.length h13.t.cap) rfl rfl (wv_n rfl) rfl (fun _ _ hρ _ => r_assign (hρ _ _ rfl))) (all_cons (q_run (.int .i64 ov13) rfl rfl (wv_n rfl) rfl (fun _ _ hρ _ => r_assign (hρ _ _ rfl))) (all_cons (q_run (.int .i64 0) rfl rfl (wv_n rfl) rfl (fun _ _ hρ _ => r_assign (hρ _ _ rfl))) all_nil))))))) (end_old rfl rfl (end_old rfl rfl (end_old rfl rfl (end_new 13 rfl rfl (end_new 15 rfl rfl (end_new 17 rfl rfl end_nil)))))) (fun a w hf hm => At_intro (B5, ar12, cr12, h13, bs13, ov13, B11) ⟨hr13, trivial⟩ hf hm (sub_cons rfl (sub_cons rfl (sub_cons rfl (sub_cons rfl (sub_cons rfl (sub_cons rfl sub_nil)))))) (sub_cons rfl (sub_cons rfl (sub_cons rfl (sub_cons rfl (sub_cons rfl (sub_cons rfl (sub_cons rfl (sub_cons rfl sub_nil)))))))))
    · skip
      refine LOb_new 5 (.cells #[.slice none 0 0, .int .u64 0] 27) (fun B => .pointer (some ⟨B, 0, none⟩)) (fun B => []) rfl (wv_n rfl) rfl rfl (fun _ _ _ _ => r_alloc (v := .agg #[.slice none 0 0, .int .u64 0]) (by kernel_rfl) rfl) (fun B => by kernel_rfl) ?_
      intro B14
      refine G_step [0, 1, 3, 4, 5] 2 [] (by kernel_rfl) (allM (all_cons (q_run (.agg #[.slice a ps.length cap, .int .u64 lost]) rfl rfl (wv_n rfl) rfl (fun _ _ hρ hm => r_loadA ag27 sz27 (hρ _ _ rfl) (hm.at 1 rfl) rfl rfl)) (all_cons (q_run (.agg #[.int .i64 1, .int .i64 0, .int .i64 0, .int .u32 0]) rfl rfl (wv_n rfl) rfl (fun _ _ hρ _ => r_build (vs := [(0, .int .i64 1)]) (by kernel_rfl) (cons2 (pair2 (hρ _ _ rfl)) rfl))) (all_cons (q_run (.pointer (some ⟨B1, 0, none⟩)) rfl rfl (wv_n rfl) rfl (fun _ _ hρ _ => r_fieldAddr fl27_0 sz22 (hρ _ _ rfl))) (all_cons (q_run (.slice a ps.length cap) rfl rfl (wv_n rfl) rfl (fun _ _ hρ hm => r_load ag22 (hρ _ _ rfl) (hm.at 1 rfl) rfl)) (all_cons (q_run (.int .i64 ((ps.length : Nat) : Int)) rfl rfl (wv_n rfl) rfl (fun _ _ hρ _ => r_len sl22 (hρ _ _ rfl))) all_nil)))))) (allM (all_cons ?_ all_nil))
      refine LOb_new 3 (.cells #[.int .i64 1, .int .i64 0, .int .i64 0, .int .u32 0] 48) (fun B => .slice (some ⟨B, 0, none⟩) 1 1) (fun B => []) rfl (wv_n rfl) rfl rfl (fun _ _ hρ _ => r_buildSlice (vs := [(0, .agg #[.int .i64 1, .int .i64 0, .int .i64 0, .int .u32 0])]) (by kernel_rfl) (cons2 (pair2 (hρ _ _ rfl)) rfl)) (fun B => by kernel_rfl) ?_
      intro B15
      refine G_step [0, 3, 4, 5] 6 [] (by kernel_rfl) (allM (all_cons (q_run (.agg #[.slice a ps.length cap, .int .u64 lost]) rfl rfl (wv_n rfl) rfl (fun _ _ hρ hm => r_loadA ag27 sz27 (hρ _ _ rfl) (hm.at 1 rfl) rfl rfl)) (all_cons (q_run (.pointer (some ⟨B1, 0, none⟩)) rfl rfl (wv_n rfl) rfl (fun _ _ hρ _ => r_fieldAddr fl27_0 sz22 (hρ _ _ rfl))) (all_cons (q_run (.slice a ps.length cap) rfl rfl (wv_n rfl) rfl (fun _ _ hρ hm => r_load ag22 (hρ _ _ rfl) (hm.at 1 rfl) rfl)) (all_cons (q_run (.int .i64 ((ps.length : Nat) : Int)) rfl rfl (wv_n rfl) rfl (fun _ _ hρ _ => r_len sl22 (hρ _ _ rfl))) all_nil))))) (allM (all_cons ?_ all_nil))
      refine LOb_callN (fun (_ : Option Addr × Nat) => True) (fun (ar16, cr16) => .slice ar16 ((List.replicate ps.length (⟨1, 0, 0, 0#32⟩ : Trk)).length) cr16) (fun (ar16, cr16) => [(4, .row (.slice ar16 ((List.replicate ps.length (⟨1, 0, 0, 0#32⟩ : Trk)).length) cr16) 48 4 ((List.replicate ps.length (⟨1, 0, 0, 0#32⟩ : Trk)).length) ((List.replicate ps.length (⟨1, 0, 0, 0#32⟩ : Trk)).flatMap Trk.cells))]) (fun (ar16, cr16) => []) rfl (wv_n rfl) rfl rfl (fun _ _ hρ _ => r_call (args := [.slice (some ⟨B15, 0, none⟩) 1 1, .int .i64 ((ps.length : Nat) : Int)]) (enters_of Try.func67 (by kernel_rfl) rfl) (hρ _ _ rfl) ((cons2 (hρ _ _ rfl) (cons2 (hρ _ _ rfl) rfl))) rfl) (fun w hm => (rep_any (⟨1, 0, 0, 0#32⟩ : Trk) ps.length B15 w (by omega) (hm.at 3 rfl)).mono fun e w' ⟨a', cap', he, hb, hr⟩ => ⟨(a', cap'), trivial, he, hb, newOk1 4 hr⟩) (fun (ar16, cr16) => by kernel_rfl) ?_
      rintro ⟨ar16, cr16⟩ -
      refine G_step [0] 7 [] (by kernel_rfl) (allM (all_cons (q_run (.agg #[.slice a ps.length cap, .int .u64 lost]) rfl rfl (wv_n rfl) rfl (fun _ _ hρ hm => r_loadA ag27 sz27 (hρ _ _ rfl) (hm.at 1 rfl) rfl rfl)) all_nil)) (allM (all_cons ?_ all_nil))
      refine LOb_callN (fun x : Hd × List (RowG By) × Int => RunIs (pvs ps, lost) (List.replicate ps.length (⟨1, 0, 0, 0#32⟩ : Trk)) (x.1, x.2.1) x.2.2) (fun (h17, bs17, ov17) => .tuple #[.agg #[.slice h17.n.a h17.n.l.length h17.n.cap, .int .u64 h17.lost], .slice h17.t.a h17.t.l.length h17.t.cap, .int .i64 ov17, .int .i64 0]) (fun (h17, bs17, ov17) => [(951, .row (.slice h17.n.a h17.n.l.length h17.n.cap) 36 3 h17.n.l.length (h17.n.l.flatMap Pcl.cells)), (952, .row (.slice h17.t.a h17.t.l.length h17.t.cap) 36 3 h17.t.l.length (h17.t.l.flatMap Pcl.cells)), (953, .pool 5 1 byc bs17)]) (fun (h17, bs17, ov17) => [(8, .tuple #[.agg #[.slice h17.n.a h17.n.l.length h17.n.cap, .int .u64 h17.lost], .slice h17.t.a h17.t.l.length h17.t.cap, .int .i64 ov17, .int .i64 0]), (9, .agg #[.slice h17.n.a h17.n.l.length h17.n.cap, .int .u64 h17.lost]), (10, .slice h17.t.a h17.t.l.length h17.t.cap), (11, .int .i64 ov17), (12, .int .i64 0)]) rfl (wv_n rfl) rfl rfl (fun _ _ hρ _ => r_call (args := [.agg #[.slice a ps.length cap, .int .u64 lost], .slice ar16 ((List.replicate ps.length (⟨1, 0, 0, 0#32⟩ : Trk)).length) cr16]) (enters_of Try.func28 (by kernel_rfl) rfl) (hρ _ _ rfl) ((cons2 (hρ _ _ rfl) (cons2 (hρ _ _ rfl) rfl))) rfl) (fun w hm => (run_ok ps a cap lost (List.replicate ps.length (⟨1, 0, 0, 0#32⟩ : Trk)) ar16 cr16 w (hv.keep hm.ext) hcap (hb.keep hm.ext) (SliceAt.own Trk.cells_len (hm.row 4 rfl) rfl rfl) (row_cap (hm.row 4 rfl)) (by rw [List.length_replicate]; omega) h0 hck).mono fun e w' ⟨⟨h, bs⟩, ov, hx, he, hb, r1, r2, r3, s1, s2, s3⟩ => ⟨(h, bs, ov), hx, he, hb, newOk3 951 952 953 r1 r2 r3 s1 s2 s3⟩) (fun (h17, bs17, ov17) => by kernel_rfl) ?_
      rintro ⟨h17, bs17, ov17⟩ hr17
      refine G_step [8, 9, 10, 11, 12] 14 [] (by kernel_rfl) (allM (all_cons (q_run (.tuple #[.agg #[.slice h17.n.a h17.n.l.length h17.n.cap, .int .u64 h17.lost], .slice h17.t.a h17.t.l.length h17.t.cap, .int .i64 ov17, .int .i64 0]) rfl rfl (wv_n rfl) rfl (fun _ _ hρ _ => r_move (hρ _ _ rfl))) (all_cons (q_run (.agg #[.slice h17.n.a h17.n.l.length h17.n.cap, .int .u64 h17.lost]) rfl rfl (wv_n rfl) rfl (fun _ _ hρ _ => r_extract (hρ _ _ rfl) rfl)) (all_cons (q_run (.slice h17.t.a h17.t.l.length h17.t.cap) rfl rfl (wv_n rfl) rfl (fun _ _ hρ _ => r_extract (hρ _ _ rfl) rfl)) (all_cons (q_run (.int .i64 ov17) rfl rfl (wv_n rfl) rfl (fun _ _ hρ _ => r_extract (hρ _ _ rfl) rfl)) (all_cons (q_run (.int .i64 0) rfl rfl (wv_n rfl) rfl (fun _ _ hρ _ => r_extract (hρ _ _ rfl) rfl)) all_nil)))))) (allM (all_cons ?_ all_nil))
      refine LOb_store 5 (.cells #[.slice h17.n.a h17.n.l.length h17.n.cap, .int .u64 h17.lost] 27) [(15, .slice h17.t.a h17.t.l.length h17.t.cap), (16, .int .i64 ov17), (17, .int .i64 0)] rfl (wv_n rfl) rfl rfl rfl (fun _ _ hρ hm => r_store sz27 (hρ _ _ rfl) (hρ _ _ rfl) (hm.at 5 rfl) rfl rfl rfl rfl) (by kernel_rfl) ?_
      exact G_lastQ [10, 11, 12, 15, 16, 17] [(2, .pointer (some ⟨B2, 0, none⟩)), (3, .slice none 0 0), (4, .int .i64 0), (5, .pointer (some ⟨B14, 0, none⟩)), (6, .slice h17.t.a h17.t.l.length h17.t.cap), (8, .int .i64 0)] (by kernel_rfl) (allM (all_cons (q_run (.slice h17.t.a h17.t.l.length h17.t.cap) rfl rfl (wv_n rfl) rfl (fun _ _ hρ _ => r_extract (hρ _ _ rfl) rfl)) (all_cons (q_run (.int .i64 ov17) rfl rfl (wv_n rfl) rfl (fun _ _ hρ _ => r_extract (hρ _ _ rfl) rfl)) (all_cons (q_run (.int .i64 0) rfl rfl (wv_n rfl) rfl (fun _ _ hρ _ => r_extract (hρ _ _ rfl) rfl)) (all_cons (q_run (.slice h17.t.a h17.t.l.length h17.t.cap) rfl rfl (wv_n rfl) rfl (fun _ _ hρ _ => r_assign (hρ _ _ rfl))) (all_cons (q_run (.int .i64 ov17) rfl rfl (wv_n rfl) rfl (fun _ _ hρ _ => r_assign (hρ _ _ rfl))) (all_cons (q_run (.int .i64 0) rfl rfl (wv_n rfl) rfl (fun _ _ hρ _ => r_assign (hρ _ _ rfl))) all_nil))))))) (end_old rfl rfl (end_old rfl rfl (end_old rfl rfl (end_new 13 rfl rfl (end_new 15 rfl rfl (end_new 17 rfl rfl end_nil)))))) (fun a w hf hm => At_intro (B15, ar16, cr16, h17, bs17, ov17, B14) ⟨hr17, trivial⟩ hf hm (sub_cons rfl (sub_cons rfl (sub_cons rfl (sub_cons rfl (sub_cons rfl (sub_cons rfl sub_nil)))))) (sub_cons rfl (sub_cons rfl (sub_cons rfl (sub_cons rfl (sub_cons rfl (sub_cons rfl (sub_cons rfl (sub_cons rfl sub_nil)))))))))
  · skip
    obtain ⟨Bx2, ar3, cr3, h4, bs4, ov4, Bx13⟩ := z
    obtain ⟨hr4, _⟩ := hz
    show T _ _ _ [(2, .pointer (some ⟨B2, 0, none⟩)), (3, .slice none 0 0), (4, .int .i64 0), (5, .pointer (some ⟨Bx13, 0, none⟩)), (6, .slice h4.t.a h4.t.l.length h4.t.cap), (8, .int .i64 0)] [(1, .blk B1 (.cells #[.slice a ps.length cap, .int .u64 lost] 27)), (2, .blk B2 (.cells #[.slice none 0 0, .int .u64 0] 27)), (3, .blk Bx2 (.cells #[.int .i64 1, .int .i64 0, .int .i64 0, .int .u32 0] 48)), (4, .row (.slice ar3 ((List.replicate ps.length (⟨1, 0, 0, 0#32⟩ : Trk)).length) cr3) 48 4 ((List.replicate ps.length (⟨1, 0, 0, 0#32⟩ : Trk)).length) ((List.replicate ps.length (⟨1, 0, 0, 0#32⟩ : Trk)).flatMap Trk.cells)), (5, .blk Bx13 (.cells #[.slice h4.n.a h4.n.l.length h4.n.cap, .int .u64 h4.lost] 27)), (951, .row (.slice h4.n.a h4.n.l.length h4.n.cap) 36 3 h4.n.l.length (h4.n.l.flatMap Pcl.cells)), (952, .row (.slice h4.t.a h4.t.l.length h4.t.cap) 36 3 h4.t.l.length (h4.t.l.flatMap Pcl.cells)), (953, .pool 5 1 byc bs4)]
    refine T_seq (T_region ?_)
    refine TL_q (.agg #[.slice h4.n.a h4.n.l.length h4.n.cap, .int .u64 h4.lost]) (fun _ _ hρ hm => r_loadA ag27 sz27 (hρ _ _ rfl) (hm.at 5 rfl) rfl rfl) rfl rfl rfl (w_n rfl) ?_
    refine TL_q (.slice h4.t.a h4.t.l.length h4.t.cap) (fun _ _ hρ _ => r_move (hρ _ _ rfl)) rfl rfl rfl (w_n rfl) ?_
    refine TL_q (.int .i64 0) (fun _ _ hρ _ => r_move (hρ _ _ rfl)) rfl rfl rfl (w_n rfl) ?_
    refine TL_store 2 (.cells #[.slice h4.n.a h4.n.l.length h4.n.cap, .int .u64 h4.lost] 27) rfl (fun _ _ hρ hm => r_store sz27 (hρ _ _ rfl) (hρ _ _ rfl) (hm.at 2 rfl) rfl rfl rfl rfl) rfl rfl (w_n rfl) ?_
    refine TL_q (.slice h4.t.a h4.t.l.length h4.t.cap) (fun _ _ hρ _ => r_assign (hρ _ _ rfl)) rfl rfl rfl (w_n rfl) ?_
    refine TL_q (.int .i64 0) (fun _ _ hρ _ => r_assign (hρ _ _ rfl)) rfl rfl rfl (w_n rfl) ?_
    refine TL_seq ?_
    refine T_ret' ?_
    refine ret_of rfl (.tuple #[.agg #[.slice h4.n.a h4.n.l.length h4.n.cap, .int .u64 h4.lost], .slice h4.t.a h4.t.l.length h4.t.cap, .int .i64 0]) (fun tmps w hk hm => res3 rfl (res_cell (hk 2 _ rfl) (run_loadVar_agg ag27 sz27 (hm.at 2 rfl) (Nat.le_of_ble_eq_true rfl) rfl)) (res_tmp (hk 3 _ rfl)) (res_tmp (hk 4 _ rfl))) (fun w hm => ?_)
    have he9 := hr4.is
    rw [empty_run] at he9
    exact ⟨(h4, bs4), ⟨(congrArg (·.1) he9), (congrArg (·.2.1) he9), hr4.ok⟩, rfl, hm.ext, hm.own 951 _ rfl, hm.own 952 _ rfl, hm.own 953 _ rfl, hm.sep 951 952 _ _ rfl rfl (by decide), hm.sep 951 953 _ _ rfl rfl (by decide), hm.sep 952 953 _ _ rfl rfl (by decide)⟩
end Go.Proofs.Ytcidgbjgeegepaa
/- net and journal: few, own. Printed by a program of this seat's prover. -/
namespace Go.Proofs.Ytcidgbjgeegepaa
open Go Go.RowKit
set_option maxRecDepth 10000
/-- Parcels' bytes lie in memory. -/
def PcsIn (w : World) (l : List Pcl) : Prop := ∀ p ∈ l, SliceAt w p.r.a p.r.cap 1 byc p.r.l ∧ p.r.cap ≤ Go.maxLen
def few1 (p : PV) : PV := ⟨p.to, p.l.take 8193, p.sp⟩
/-- What can be gone through of parcels. -/
def fewV (l : List PV) : List PV := (l.take 66).map few1
theorem few_step {ls l1 : List Pcl} {k : Nat} {p q : Pcl} (h : pvs ls = (pvs (l1.take k)).map few1) (hp : l1[k]? = some p) (e : q.pv = few1 p.pv) : pvs (ls ++ [q]) = (pvs (l1.take (k + 1))).map few1 := by
  rw [pvs_snoc, List.take_add_one, hp, h, e]
  unfold pvs
  simp
theorem few_pv {p : Pcl} {l : List By} {a : Option Addr} {c : Nat} (h : l = p.r.l.take (min p.r.l.length 8193)) : (⟨p.to, ⟨a, c, l⟩, p.sp⟩ : Pcl).pv = few1 p.pv := by
  have e : p.r.l.take (min p.r.l.length 8193) = p.r.l.take 8193 := by
    rcases Nat.le_total p.r.l.length 8193 with e | e
    · rw [Nat.min_eq_left e, List.take_length, List.take_of_length_le e]
    · rw [Nat.min_eq_right e]
  unfold few1
  dsimp only
  rw [h, e]
theorem few_len {ls l1 : List Pcl} {k : Nat} (h : pvs ls = (pvs (l1.take k)).map few1) (hk : k ≤ l1.length) : ls.length = k := by
  have := congrArg List.length h
  rw [pvs_len, List.length_map, pvs_len, List.length_take] at this
  omega
theorem few_all {ls l1 xs : List Pcl} (h : pvs ls = (pvs l1).map few1) (hl : l1 = xs.take (min xs.length 66)) : pvs ls = fewV (pvs xs) := by
  rw [h, hl]
  unfold fewV pvs
  rw [List.map_take, List.map_take, List.map_take]
  rcases Nat.le_total xs.length 66 with e | e
  · rw [Nat.min_eq_left e, List.take_of_length_le (by simp), List.take_of_length_le (by simpa using e)]
  · rw [Nat.min_eq_right e]

theorem few_c (xs : List Pcl) (a : Option Addr) (cap : Nat) (w : World) (hv : SliceAt w a cap 3 Pcl.cells xs) (hcap : cap ≤ Go.maxLen) (hx : PcsIn w xs) : Calls Try.prog 12 #[.slice a xs.length cap] w fun e w' => ∃ (n : NetR) (bs : List (RowG By)), pvs n.l = fewV (pvs xs) ∧ InB bs n.l ∧ e = .returned (.slice n.a n.l.length n.cap) ∧ Below w.heap.size w w' ∧ (rowP n).ok w.heap.size w' ∧ (Res.pool 5 1 byc bs).ok w.heap.size w' ∧ ∀ b, (rowP n).foot b → ¬ (Res.pool 5 1 byc bs).foot b := by
  have hvl := hv.1
  unfold Go.maxLen at hcap
  refine calls_of_T (l := [.slice a xs.length cap]) 31 Try.func12 rfl rfl rfl ?_
  show T _ _ _ [(0, .slice a xs.length cap)] []
  refine T_seq (T_region ?_)
  refine TL_q (.slice none 0 0) (fun _ _ hρ _ => r_assign (hρ _ _ rfl)) rfl rfl rfl (w_n rfl) ?_
  refine TL_seq ?_
  refine T_seq (T_region ?_)
  refine TL_q (.slice none 0 0) (fun _ _ hρ _ => r_assign (hρ _ _ rfl)) rfl rfl rfl (w_n rfl) ?_
  refine TL_seq ?_
  refine T_seq ?_
  refine T_seq (T_region ?_)
  refine TL_q (.slice a xs.length cap) (fun _ _ hρ _ => r_move (hρ _ _ rfl)) rfl rfl rfl (w_n rfl) ?_
  refine TL_q (.slice a xs.length cap) (fun _ _ hρ _ => r_move (hρ _ _ rfl)) rfl rfl rfl (w_n rfl) ?_
  refine TL_q (.int .i64 ((xs.length : Nat) : Int)) (fun _ _ hρ _ => r_len sl22 (hρ _ _ rfl)) rfl rfl rfl (w_n rfl) ?_
  refine TL_q (.int .i64 ((min xs.length 66 : Nat) : Int)) (fun _ _ hρ _ => r_as (r_min (hρ _ _ rfl) (hρ _ _ rfl)) (int_as (minI _ 66))) rfl rfl rfl (w_n rfl) ?_
  obtain ⟨l1, hl1, hn1⟩ : ∃ lz, lz = xs.take (min xs.length 66) ∧ lz.length = min xs.length 66 := ⟨_, rfl, by rw [List.length_take]; omega⟩
  have hs1 := SliceAt.front hv (n := min xs.length 66) (m := cap) (by omega) (by omega) (by omega)
  rw [← hl1] at hs1
  refine TL_q (.slice a l1.length cap) (fun ρ _ hρ _ => r_as (r_sliceO sl22 sz36 (hρ _ _ rfl) (bd_none ρ _) (bd_some (n := min xs.length 66) (hρ _ _ rfl)) (bd_none ρ _) (by simp) (by omega) (by omega) (by omega)) (by rw [hn1]; exact slo_zero _ _ _ _)) rfl rfl rfl (w_n rfl) ?_
  refine TL_q (.int .i64 ((l1.length : Nat) : Int)) (fun _ _ hρ _ => r_len sl22 (hρ _ _ rfl)) rfl rfl rfl (w_n rfl) ?_
  refine TL_q (.int .i64 0) (fun _ _ hρ _ => r_move (hρ _ _ rfl)) rfl rfl rfl (w_n rfl) ?_
  refine TL_seq ?_
  refine T_block ?_
  refine T_mem (_ :: _ :: _) (fun _ hm => (hm.nilRow 901 36 3).pool0 903 5 1 byc) ?_
  refine T_loop (ι := Nat × List Pcl × Option Addr × Nat × List (RowG By)) (fun (z : Nat × List Pcl × Option Addr × Nat × List (RowG By)) => match z with | (k, ls, a2, cap2, bs) => k ≤ l1.length ∧ pvs ls = (pvs (l1.take k)).map few1 ∧ InB bs ls) (fun (z : Nat × List Pcl × Option Addr × Nat × List (RowG By)) => match z with | (k, ls, a2, cap2, bs) => [(2, .slice none 0 0), (10, .slice a l1.length cap), (11, .int .i64 ((l1.length : Nat) : Int)), (12, .int .i64 ((k : Nat) : Int)), (3, .slice a2 ls.length cap2)]) (fun (z : Nat × List Pcl × Option Addr × Nat × List (RowG By)) => match z with | (k, ls, a2, cap2, bs) => [(901, .row (.slice a2 ls.length cap2) 36 3 ls.length (ls.flatMap Pcl.cells)), (903, .pool 5 1 byc bs)]) (fun (z : Nat × List Pcl × Option Addr × Nat × List (RowG By)) => match z with | (k, ls, a2, cap2, bs) => l1.length - k) (0, [], none, 0, []) ⟨Nat.zero_le _, rfl, InB.nil _⟩ (sub_cons rfl (sub_cons rfl (sub_cons rfl (sub_cons rfl (sub_cons rfl sub_nil))))) (sub_cons rfl (sub_cons rfl sub_nil)) ?_
  rintro ⟨k, ls, a2, cap2, bs⟩ hp
  obtain ⟨hk, hl, hin⟩ := hp
  have hlk := few_len hl hk
  show T _ _ _ [(2, .slice none 0 0), (10, .slice a l1.length cap), (11, .int .i64 ((l1.length : Nat) : Int)), (12, .int .i64 ((k : Nat) : Int)), (3, .slice a2 ls.length cap2)] [(901, .row (.slice a2 ls.length cap2) 36 3 ls.length (ls.flatMap Pcl.cells)), (903, .pool 5 1 byc bs)]
  refine T_seq (T_region ?_)
  refine TL_q (.bool (decide (((k : Nat) : Int) < ((l1.length : Nat) : Int)))) (fun _ _ hρ _ => r_lss (hρ _ _ rfl) (hρ _ _ rfl)) rfl rfl rfl (w_n rfl) ?_
  refine TL_seq ?_
  refine T_seq ?_
  refine T_cond rfl (fun h1 => ?_) (fun h1 => ?_)
  · replace h1 := of_decide_eq_true h1
    refine T_skip' ?_
    refine p_seq ?_
    refine T_seq ?_
    refine T_block ?_
    obtain ⟨p, hp⟩ : ∃ x, l1[k]? = some x := ⟨_, List.getElem?_eq_getElem (by omega)⟩
    have hokp := hx p (by have h9 := List.mem_of_getElem? hp; rw [hl1] at h9; exact List.mem_of_mem_take h9)
    have hpl := hokp.1.1
    have hpc := hokp.2
    unfold Go.maxLen at hpc
    obtain ⟨b2, of2, cs2, T2, fz2, ha2, hq2, hr2⟩ := hs1.open (i := k) (by omega)
    subst ha2
    refine T_seq (T_region ?_)
    refine TL_q (.pointer (some ⟨b2, of2 + k * 3, none⟩)) (fun _ _ hρ _ => r_indexAddrS (i := k) sl22 sz36 (hρ _ _ rfl) (hρ _ _ rfl) (by omega)) rfl rfl rfl (w_n rfl) ?_
    refine TL_q (.agg #[.int .i64 p.to, .slice p.r.a p.r.l.length p.r.cap, .bool p.sp]) (fun _ _ hρ hm => r_loadRow (f := Pcl.cells) (u := p) ag36 sz36 (hρ _ _ rfl) (hm.old hq2) hr2 hp) rfl rfl rfl (w_n rfl) ?_
    refine TL_new 1 (.cells #[.int .i64 0, .slice none 0 0, .bool false] 36) (fun B => .pointer (some ⟨B, 0, none⟩)) (fun _ _ _ _ => r_alloc (v := .agg #[.int .i64 0, .slice none 0 0, .bool false]) (by kernel_rfl) rfl) rfl rfl rfl (w_n rfl) ?_
    intro B3
    refine TL_store 1 (.cells #[.int .i64 p.to, .slice p.r.a p.r.l.length p.r.cap, .bool p.sp] 36) rfl (fun _ _ hρ hm => r_store sz36 (hρ _ _ rfl) (hρ _ _ rfl) (hm.at 1 rfl) rfl rfl rfl rfl) rfl rfl (w_n rfl) ?_
    refine TL_seq ?_
    refine T_seq (T_region ?_)
    refine TL_q (.pointer (some ⟨B3, 1, none⟩)) (fun _ _ hρ _ => r_fieldAddr fl36_1 sz34 (hρ _ _ rfl)) rfl rfl rfl (w_n rfl) ?_
    refine TL_q (.slice p.r.a p.r.l.length p.r.cap) (fun _ _ hρ hm => r_load ag34 (hρ _ _ rfl) (hm.at 1 rfl) rfl) rfl rfl rfl (w_n rfl) ?_
    refine TL_q (.pointer (some ⟨B3, 1, none⟩)) (fun _ _ hρ _ => r_fieldAddr fl36_1 sz34 (hρ _ _ rfl)) rfl rfl rfl (w_n rfl) ?_
    refine TL_q (.slice p.r.a p.r.l.length p.r.cap) (fun _ _ hρ hm => r_load ag34 (hρ _ _ rfl) (hm.at 1 rfl) rfl) rfl rfl rfl (w_n rfl) ?_
    refine TL_q (.int .i64 ((p.r.l.length : Nat) : Int)) (fun _ _ hρ _ => r_len sl34 (hρ _ _ rfl)) rfl rfl rfl (w_n rfl) ?_
    refine TL_q (.int .i64 ((min p.r.l.length 8193 : Nat) : Int)) (fun _ _ hρ _ => r_as (r_min (hρ _ _ rfl) (hρ _ _ rfl)) (int_as (minI _ 8193))) rfl rfl rfl (w_n rfl) ?_
    obtain ⟨l4, hl4, hn4⟩ : ∃ lz, lz = p.r.l.take (min p.r.l.length 8193) ∧ lz.length = min p.r.l.length 8193 := ⟨_, rfl, by rw [List.length_take]; omega⟩
    have hs4 := SliceAt.front hokp.1 (n := min p.r.l.length 8193) (m := p.r.cap) (by omega) (by omega) (by omega)
    rw [← hl4] at hs4
    refine TL_q (.slice p.r.a l4.length p.r.cap) (fun ρ _ hρ _ => r_as (r_sliceO sl34 sz5 (hρ _ _ rfl) (bd_none ρ _) (bd_some (n := min p.r.l.length 8193) (hρ _ _ rfl)) (bd_none ρ _) (by simp) (by omega) (by omega) (by omega)) (by rw [hn4]; exact slo_zero _ _ _ _)) rfl rfl rfl (w_n rfl) ?_
    refine TL_callN (fun (_ : Option Addr × Nat) => True) (fun (ar5, cr5) => .slice ar5 ((l4).length) cr5) (fun (ar5, cr5) => [(2, .row (.slice ar5 ((l4).length) cr5) 5 1 ((l4).length) ((l4).flatMap byc))]) (fun _ _ hρ _ => r_call (args := [.slice p.r.a l4.length p.r.cap]) (enters_of Try.func37 (by kernel_rfl) rfl) (hρ _ _ rfl) ((cons2 (hρ _ _ rfl) rfl)) rfl) (fun w hm => (clone_b byc byc_len byc_one l4 p.r.a p.r.cap w (hs4.keep hm.ext) (by omega)).mono fun e w' ⟨a', cap', he, hb, hr⟩ => ⟨(a', cap'), trivial, he, hb, newOk1 2 hr⟩) rfl rfl rfl (w_n rfl) ?_
    rintro ⟨ar5, cr5⟩ -
    refine TL_q (.pointer (some ⟨B3, 1, none⟩)) (fun _ _ hρ _ => r_fieldAddr fl36_1 sz34 (hρ _ _ rfl)) rfl rfl rfl (w_n rfl) ?_
    refine TL_store 1 (.cells #[.int .i64 p.to, .slice ar5 ((l4).length) cr5, .bool p.sp] 36) rfl (fun _ _ hρ hm => r_store sz34 (hρ _ _ rfl) (hρ _ _ rfl) (hm.at 1 rfl) rfl rfl rfl rfl) rfl rfl (w_n rfl) ?_
    refine TL_seq ?_
    refine T_region ?_
    refine TL_q (.slice a2 ls.length cap2) (fun _ _ hρ _ => r_move (hρ _ _ rfl)) rfl rfl rfl (w_n rfl) ?_
    refine TL_q (.agg #[.int .i64 p.to, .slice ar5 ((l4).length) cr5, .bool p.sp]) (fun _ _ hρ hm => r_loadA ag36 sz36 (hρ _ _ rfl) (hm.at 1 rfl) rfl rfl) rfl rfl rfl (w_n rfl) ?_
    refine TL_new 3 (.cells #[.int .i64 p.to, .slice ar5 ((l4).length) cr5, .bool p.sp] 36) (fun B => .slice (some ⟨B, 0, none⟩) 1 1) (fun _ _ hρ _ => r_buildSlice (vs := [(0, .agg #[.int .i64 p.to, .slice ar5 ((l4).length) cr5, .bool p.sp])]) (by kernel_rfl) (cons2 (pair2 (hρ _ _ rfl)) rfl)) rfl rfl rfl (w_n rfl) ?_
    intro B6
    refine TL_append (n := ls.length) (m := 1) (xs := (ls.flatMap Pcl.cells)) (news := [.int .i64 p.to, .slice ar5 ((l4).length) cr5, .bool p.sp]) (z := .agg #[.int .i64 0, .slice none 0 0, .bool false]) 901 rfl rfl rfl sl22 sz36 by36 (by kernel_rfl) rfl rfl (.inl rfl) (fun _ hm => src_blk (news := [.int .i64 p.to, .slice ar5 ((l4).length) cr5, .bool p.sp]) (hm.at 3 rfl) rfl) (by simp [Value.oneCell']) (by omega) (by omega) rfl (w_n rfl) ?_
    intro a7 cap7
    refine TL_q (.slice a7 (ls.length + 1) cap7) (fun _ _ hρ _ => r_assign (hρ _ _ rfl)) rfl rfl rfl (w_n rfl) ?_
    refine TL_nil ?_
    refine p_blk_n ?_
    refine p_seq ?_
    refine T_region ?_
    refine TL_q (.int .i64 ((k + 1 : Nat) : Int)) (fun _ _ hρ _ => r_as (r_add (hρ _ _ rfl) (hρ _ _ rfl)) (int_as ((wrap64 (by omega) (by omega)).trans (by omega)))) rfl rfl rfl (w_n rfl) ?_
    refine TL_q (.int .i64 ((k + 1 : Nat) : Int)) (fun _ _ hρ _ => r_move (hρ _ _ rfl)) rfl rfl rfl (w_n rfl) ?_
    refine TL_nil ?_
    have hn8 : (ls.length + 1) = (ls ++ [(⟨p.to, ⟨ar5, cr5, l4⟩, p.sp⟩ : Pcl)]).length := by simp
    have hx8 : ((ls.flatMap Pcl.cells) ++ [.int .i64 p.to, .slice ar5 ((l4).length) cr5, .bool p.sp]) = (ls ++ [(⟨p.to, ⟨ar5, cr5, l4⟩, p.sp⟩ : Pcl)]).flatMap Pcl.cells := by simp [Pcl.cells]
    rw [hx8, hn8]
    refine p_mem (_ :: _ :: _) (fun _ hm => hm.poolPush 903 2 rfl rfl rfl rfl) ?_
    exact p_at (k + 1, ls ++ [(⟨p.to, ⟨ar5, cr5, l4⟩, p.sp⟩ : Pcl)], a7, cap7, bs ++ [⟨ar5, cr5, l4⟩]) ⟨⟨by omega, few_step hl hp (few_pv hl4), hin.push.snoc (mem_last _ _) (show l4.length ≤ 10000 by omega)⟩, by dsimp only; omega⟩ (sub_cons rfl (sub_cons rfl (sub_cons rfl (sub_cons rfl (sub_cons rfl sub_nil))))) (sub_cons rfl (sub_cons rfl sub_nil))
  · replace h1 := of_decide_eq_false h1
    refine T_exit' ?_
    refine p_then_x ?_
    refine p_then_x ?_
    refine p_blk_x ?_
    refine p_seq ?_
    refine T_seq (T_region ?_)
    refine TL_q (.slice a2 ls.length cap2) (fun _ _ hρ _ => r_move (hρ _ _ rfl)) rfl rfl rfl (w_n rfl) ?_
    refine TL_q (.slice a2 ls.length cap2) (fun _ _ hρ _ => r_assign (hρ _ _ rfl)) rfl rfl rfl (w_n rfl) ?_
    refine TL_seq ?_
    refine T_ret' ?_
    refine ret_of rfl (.slice a2 ls.length cap2) (fun tmps w hk hm => res1 rfl (res_tmp (hk 2 _ rfl))) (fun w hm => ?_)
    have hke : k = l1.length := by omega
    subst hke
    rw [List.take_length] at hl
    exact ⟨⟨a2, cap2, ls⟩, bs, few_all hl hl1, hin, rfl, hm.ext, hm.own 901 _ rfl, hm.own 903 _ rfl, hm.sep 901 903 _ _ rfl rfl (by decide)⟩
end Go.Proofs.Ytcidgbjgeegepaa
/- A range over a function whose rounds begin with new blocks. Over any program. -/
namespace Go.Proofs.Ytcidgbjgeegepaa
open Go Go.RowKit
theorem p_round_x {C : Cx} {K : List (Nat × Value)} {L : Heap} {idD idl D l id : Nat} {rec : Loop} {ι : Type} {p : ι → Prop} {LI : ι → Heap} {pX : Code → ι → Prop} {LX : ι → Heap} (i : ι) (hp : pX (.exit id) i)
    (hL : SubK L ((idD, .blk D (.deferred (some []))) :: (idl, .blk l (.loop { rec with state := .busy })) :: LX i)) : POk C (RoundQ C.w₀ idD idl D l rec p LI pX LX) (.exit id) K L := fun _ _ _ hm => ⟨i, hp, hm.sub hL⟩
end Go.Proofs.Ytcidgbjgeegepaa
/- net and journal: First. Printed by a program of this seat's prover. -/
namespace Go.Proofs.Ytcidgbjgeegepaa
open Go Go.RowKit
set_option maxRecDepth 10000
theorem lk_fresh2 {A : Heap} {j : Nat} {b c : Res} (hf : lk A j = none) : ∀ k q, lk A k = some q → lk ((j, b) :: (j, c) :: A) k = some q := fun k q hk => by
  have hne : j ≠ k := fun e => by subst e; rw [hf] at hk; cases hk
  rwa [lk_cons_other _ _ hne, lk_cons_other _ _ hne]
/-- How many of the first k. -/
def cntN (φ : Nat → Bool) (k : Nat) : Nat := ((List.range k).filter φ).length
theorem cnt_t {φ : Nat → Bool} {k : Nat} (h : φ k = true) : cntN φ (k + 1) = cntN φ k + 1 := by
  unfold cntN; rw [List.range_succ, List.filter_append, List.length_append]; simp [h]
theorem cnt_f {φ : Nat → Bool} {k : Nat} (h : φ k = false) : cntN φ (k + 1) = cntN φ k := by
  unfold cntN; rw [List.range_succ, List.filter_append, List.length_append]; simp [h]
theorem cnt_at {φ : Nat → Bool} {n k : Nat} (hk : k < n) (h : φ k = true) : ((List.range n).filter φ)[cntN φ k]? = some k := by
  obtain ⟨j, rfl⟩ : ∃ j, n = k + (j + 1) := ⟨n - k - 1, by omega⟩
  unfold cntN
  rw [List.range_add, List.filter_append, List.getElem?_append_right (Nat.le_refl _), Nat.sub_self, List.range_succ_eq_map]
  simp [h]
/-- Is the i-th parcel to there? -/
def phiT (ps : List Pcl) (to : Int) (i : Nat) : Bool := decide ((ps[i]?).map Pcl.to = some to)
theorem phi_t {ps : List Pcl} {to : Int} {k : Nat} {p : Pcl} (hp : ps[k]? = some p) (h : p.to = to) : phiT ps to k = true := decide_eq_true (by rw [hp, ← h]; rfl)
theorem phi_f {ps : List Pcl} {to : Int} {k : Nat} {p : Pcl} (hp : ps[k]? = some p) (h : ¬ p.to = to) : phiT ps to k = false := decide_eq_false (by rw [hp]; exact fun e => h (Option.some.inj e))
/-- The places of parcels to there. -/
def toV (ps : List Pcl) (to : Int) : List Nat := (List.range ps.length).filter (phiT ps to)
def encI (x : Nat) : List Value := [.int .i64 (x : Int)]

theorem to_iter {ι : Type} (w₀ : World) (p' : Nat → ι → Prop) (LJ : Nat → ι → Heap) (T1 T2 : Nat) (ps : List Pcl) (a : Option Addr) (cap : Nat) (lost to : Int) (hv : SliceAt w₀ a cap 3 Pcl.cells ps) (hcap : cap ≤ Go.maxLen) (hfr : ∀ k i, lk (LJ k i) 1700 = none)
    (hT1 : ∀ k i w, MemOk w₀ (LJ k i) w → hp w T1 = some (.cells #[.slice a ps.length cap, .int .u64 lost] 27)) (hT2 : ∀ k i w, MemOk w₀ (LJ k i) w → hp w T2 = some (.cells #[.int .i64 to] 3)) :
    IterAt Try.prog w₀ 103 #[.pointer (some ⟨T1, 0, none⟩), .pointer (some ⟨T2, 0, none⟩)] encI (toV ps to) p' LJ := by
  intro l κ pX LX hY i₀ W₁ hp0 hm0
  have hvl := hv.1
  unfold Go.maxLen at hcap
  show Calls _ _ #[.func (.yield l) #[] #[], .pointer (some ⟨T1, 0, none⟩), .pointer (some ⟨T2, 0, none⟩)] _ _
  refine ht_of_T (l := [.func (.yield l) #[] #[], .pointer (some ⟨T1, 0, none⟩), .pointer (some ⟨T2, 0, none⟩)]) (L := LJ 0 i₀) 25 Try.func103 rfl rfl rfl ?_ W₁ hm0
  show T _ _ _ [(0, .func (.yield l) #[] #[]), (1, .pointer (some ⟨T1, 0, none⟩)), (2, .pointer (some ⟨T2, 0, none⟩))] (LJ 0 i₀)
  refine T_seq (T_region ?_)
  refine TL_q (.pointer (some ⟨T1, 0, none⟩)) (fun _ _ hρ _ => r_fieldAddr fl27_0 sz22 (hρ _ _ rfl)) rfl rfl rfl (w_n rfl) ?_
  refine TL_q (.slice a ps.length cap) (fun _ _ hρ hm => r_load ag22 (hρ _ _ rfl) (hT1 _ _ _ hm) rfl) rfl rfl rfl (w_n rfl) ?_
  refine TL_q (.int .i64 ((ps.length : Nat) : Int)) (fun _ _ hρ _ => r_len sl22 (hρ _ _ rfl)) rfl rfl rfl (w_n rfl) ?_
  refine TL_q (.int .i64 0) (fun _ _ hρ _ => r_move (hρ _ _ rfl)) rfl rfl rfl (w_n rfl) ?_
  refine TL_seq ?_
  refine T_block ?_
  refine T_loopE (ι := Nat × ι) (fun (z : Nat × ι) => match z with | (k, i) => k ≤ ps.length ∧ p' (cntN (phiT ps to) k) i) (fun (z : Nat × ι) => match z with | (k, i) => [(0, .func (.yield l) #[] #[]), (2, .pointer (some ⟨T2, 0, none⟩)), (7, .slice a ps.length cap), (8, .int .i64 ((ps.length : Nat) : Int)), (9, .int .i64 ((k : Nat) : Int))]) (fun (z : Nat × ι) => match z with | (k, i) => (LJ (cntN (phiT ps to) k) i)) (fun (z : Nat × ι) => match z with | (k, i) => ps.length - k) (0, i₀) ⟨Nat.zero_le _, hp0⟩ (sub_cons rfl (sub_cons rfl (sub_cons rfl (sub_cons rfl (sub_cons rfl sub_nil))))) rfl ?_
  rintro ⟨k, i⟩ hp
  obtain ⟨hk, hpi⟩ := hp
  show T _ _ _ [(0, .func (.yield l) #[] #[]), (2, .pointer (some ⟨T2, 0, none⟩)), (7, .slice a ps.length cap), (8, .int .i64 ((ps.length : Nat) : Int)), (9, .int .i64 ((k : Nat) : Int))] (LJ (cntN (phiT ps to) k) i)
  refine T_seq (T_region ?_)
  refine TL_q (.bool (decide (((k : Nat) : Int) < ((ps.length : Nat) : Int)))) (fun _ _ hρ _ => r_lss (hρ _ _ rfl) (hρ _ _ rfl)) rfl rfl rfl (w_n rfl) ?_
  refine TL_seq ?_
  refine T_seq ?_
  refine T_cond rfl (fun h1 => ?_) (fun h1 => ?_)
  · replace h1 := of_decide_eq_true h1
    refine T_skip' ?_
    refine p_seq ?_
    refine T_seq ?_
    refine T_block ?_
    obtain ⟨p, hp⟩ : ∃ x, ps[k]? = some x := ⟨_, List.getElem?_eq_getElem (by omega)⟩
    obtain ⟨b1, of1, cs1, T1, fz1, ha1, hq1, hr1⟩ := hv.open (i := k) (by omega)
    subst ha1
    refine T_seq (T_region ?_)
    refine TL_q (.int .i64 ((k : Nat) : Int)) (fun _ _ hρ _ => r_move (hρ _ _ rfl)) rfl rfl rfl (w_n rfl) ?_
    refine TL_q (.pointer (some ⟨b1, of1 + k * 3, none⟩)) (fun _ _ hρ _ => r_indexAddrS (i := k) sl22 sz36 (hρ _ _ rfl) (hρ _ _ rfl) (by omega)) rfl rfl rfl (w_n rfl) ?_
    refine TL_q (.agg #[.int .i64 p.to, .slice p.r.a p.r.l.length p.r.cap, .bool p.sp]) (fun _ _ hρ hm => r_loadRow (f := Pcl.cells) (u := p) ag36 sz36 (hρ _ _ rfl) (hm.old hq1) hr1 hp) rfl rfl rfl (w_n rfl) ?_
    refine TL_new 1700 (.cells #[.int .i64 0, .slice none 0 0, .bool false] 36) (fun B => .pointer (some ⟨B, 0, none⟩)) (fun _ _ _ _ => r_alloc (v := .agg #[.int .i64 0, .slice none 0 0, .bool false]) (by kernel_rfl) rfl) rfl rfl rfl (w_n rfl) ?_
    intro B2
    refine TL_q (.int .i64 ((k : Nat) : Int)) (fun _ _ hρ _ => r_assign (hρ _ _ rfl)) rfl rfl rfl (w_n rfl) ?_
    refine TL_store 1700 (.cells #[.int .i64 p.to, .slice p.r.a p.r.l.length p.r.cap, .bool p.sp] 36) rfl (fun _ _ hρ hm => r_store sz36 (hρ _ _ rfl) (hρ _ _ rfl) (hm.at 1700 rfl) rfl rfl rfl rfl) rfl rfl (w_n rfl) ?_
    refine TL_seq ?_
    by_cases hz : p.to = to
    · skip
      refine T_seq (T_region ?_)
      refine TL_q (.pointer (some ⟨B2, 0, none⟩)) (fun _ _ hρ _ => r_fieldAddr fl36_0 sz3 (hρ _ _ rfl)) rfl rfl rfl (w_n rfl) ?_
      refine TL_q (.int .i64 p.to) (fun _ _ hρ hm => r_load ag3 (hρ _ _ rfl) (hm.at 1700 rfl) rfl) rfl rfl rfl (w_n rfl) ?_
      refine TL_q (.int .i64 to) (fun _ _ hρ hm => r_load ag3 (hρ _ _ rfl) (hT2 _ _ _ (hm.of (lk_fresh2 (hfr _ _)))) rfl) rfl rfl rfl (w_n rfl) ?_
      refine TL_q (.bool true) (fun _ _ hρ _ => r_as (r_eql (hρ _ _ rfl) (hρ _ _ rfl)) (bool_as (decide_eq_true hz))) rfl rfl rfl (w_n rfl) ?_
      refine TL_q (.bool true) (fun _ _ hρ _ => r_move (hρ _ _ rfl)) rfl rfl rfl (w_n rfl) ?_
      refine TL_q (.func (.yield l) #[] #[]) (fun _ _ hρ _ => r_move (hρ _ _ rfl)) rfl rfl rfl (want_y 18 rfl rfl rfl) ?_
      refine TL_q (.int .i64 ((k : Nat) : Int)) (fun _ _ hρ _ => r_move (hρ _ _ rfl)) rfl rfl rfl (want_y 18 rfl rfl rfl) ?_
      refine TL_yieldB (fun i => p' (cntN (phiT ps to) k + 1) i) (fun i => LJ (cntN (phiT ps to) k + 1) i) pX LX rfl (fun _ _ hρ _ => r_yield (hρ _ _ rfl) ((cons2 (hρ _ _ rfl) rfl))) (fun W hm => hY (cntN (phiT ps to) k) k i W (cnt_at (by omega) (phi_t hp hz)) hpi (hm.of (lk_fresh2 (hfr _ _)))) rfl rfl rfl (want_y 18 rfl rfl rfl) ?_
      intro yx3 hyx3
      refine TL_q (.bool (!yx3.isLeft)) (fun _ _ hρ _ => r_not (b := yx3.isLeft) (hρ _ _ rfl)) rfl rfl rfl (want_y 18 rfl rfl rfl) ?_
      refine TL_q (.bool (!yx3.isLeft)) (fun _ _ hρ _ => r_pick_t (hρ _ _ rfl) (hρ _ _ rfl)) rfl rfl rfl (w_n rfl) ?_
      refine TL_seq ?_
      refine T_cond rfl (fun h2 => ?_) (fun h2 => ?_)
      · replace h2 := bnot_t h2
        obtain ⟨j, rfl⟩ := isR (by simpa using h2)
        refine T_ret' ?_
        refine p_blk_r ?_
        refine p_then_r ?_
        refine p_then_r ?_
        refine p_blk_r ?_
        refine ret_of rfl (.tuple #[]) (fun tmps w hk hm => results_none rfl _ _ _) (fun w hm => ?_)
        first
          | exact ⟨⟨_, rfl⟩, .inr ⟨j, hyx3, hm⟩⟩
          | (have hk8 : k = ps.length := (by omega); subst hk8; exact ⟨⟨_, rfl⟩, .inl ⟨i, hpi, hm⟩⟩)
      · replace h2 := bnot_f h2
        obtain ⟨i1, rfl⟩ := isL (by simpa using h2)
        refine T_skip' ?_
        refine p_blk_n ?_
        refine p_seq ?_
        refine T_region ?_
        refine TL_q (.int .i64 ((k + 1 : Nat) : Int)) (fun _ _ hρ _ => r_as (r_add (hρ _ _ rfl) (hρ _ _ rfl)) (int_as ((wrap64 (by omega) (by omega)).trans (by omega)))) rfl rfl rfl (w_n rfl) ?_
        refine TL_q (.int .i64 ((k + 1 : Nat) : Int)) (fun _ _ hρ _ => r_move (hρ _ _ rfl)) rfl rfl rfl (w_n rfl) ?_
        refine TL_nil ?_
        exact p_atE (k + 1, i1) ⟨⟨by omega, (cnt_t (phi_t hp hz)).symm ▸ hyx3⟩, by dsimp only; omega⟩ (sub_cons rfl (sub_cons rfl (sub_cons rfl (sub_cons rfl (sub_cons rfl sub_nil))))) (congrArg (fun m => LJ m i1) (cnt_t (phi_t hp hz)).symm)
    · skip
      refine T_seq (T_region ?_)
      refine TL_q (.pointer (some ⟨B2, 0, none⟩)) (fun _ _ hρ _ => r_fieldAddr fl36_0 sz3 (hρ _ _ rfl)) rfl rfl rfl (w_n rfl) ?_
      refine TL_q (.int .i64 p.to) (fun _ _ hρ hm => r_load ag3 (hρ _ _ rfl) (hm.at 1700 rfl) rfl) rfl rfl rfl (w_n rfl) ?_
      refine TL_q (.int .i64 to) (fun _ _ hρ hm => r_load ag3 (hρ _ _ rfl) (hT2 _ _ _ (hm.of (lk_fresh2 (hfr _ _)))) rfl) rfl rfl rfl (w_n rfl) ?_
      refine TL_q (.bool false) (fun _ _ hρ _ => r_as (r_eql (hρ _ _ rfl) (hρ _ _ rfl)) (bool_as (decide_eq_false hz))) rfl rfl rfl (w_n rfl) ?_
      refine TL_q (.bool false) (fun _ _ hρ _ => r_move (hρ _ _ rfl)) rfl rfl rfl (w_n rfl) ?_
      refine TL_no rfl rfl (want_n 18 rfl rfl rfl) ?_
      refine TL_no rfl rfl (want_n 18 rfl rfl rfl) ?_
      refine TL_no rfl rfl (want_n 18 rfl rfl rfl) ?_
      refine TL_no rfl rfl (want_n 18 rfl rfl rfl) ?_
      refine TL_q (.bool false) (fun _ _ hρ _ => r_pick_f (hρ _ _ rfl) (hρ _ _ rfl)) rfl rfl rfl (w_n rfl) ?_
      refine TL_seq ?_
      refine T_cond_f rfl ?_
      refine T_skip' ?_
      refine p_blk_n ?_
      refine p_seq ?_
      refine T_region ?_
      refine TL_q (.int .i64 ((k + 1 : Nat) : Int)) (fun _ _ hρ _ => r_as (r_add (hρ _ _ rfl) (hρ _ _ rfl)) (int_as ((wrap64 (by omega) (by omega)).trans (by omega)))) rfl rfl rfl (w_n rfl) ?_
      refine TL_q (.int .i64 ((k + 1 : Nat) : Int)) (fun _ _ hρ _ => r_move (hρ _ _ rfl)) rfl rfl rfl (w_n rfl) ?_
      refine TL_nil ?_
      refine p_mem (LJ (cntN (phiT ps to) k) i) (fun _ hm => hm.of (lk_fresh2 (hfr _ _))) ?_
      exact p_atE (k + 1, i) ⟨⟨by omega, (cnt_f (phi_f hp hz)).symm ▸ hpi⟩, by dsimp only; omega⟩ (sub_cons rfl (sub_cons rfl (sub_cons rfl (sub_cons rfl (sub_cons rfl sub_nil))))) (congrArg (fun m => LJ m i) (cnt_f (phi_f hp hz)).symm)
  · replace h1 := of_decide_eq_false h1
    refine T_exit' ?_
    refine p_then_x ?_
    refine p_then_x ?_
    refine p_blk_x ?_
    refine p_end ?_
    refine ret_of rfl (.tuple #[]) (fun tmps w hk hm => results_none rfl _ _ _) (fun w hm => ?_)
    first
      | exact ⟨⟨_, rfl⟩, .inr ⟨j, hyx3, hm⟩⟩
      | (have hk8 : k = ps.length := (by omega); subst hk8; exact ⟨⟨_, rfl⟩, .inl ⟨i, hpi, hm⟩⟩)

theorem to_c (a : Option Addr) (n cap : Nat) (lost to : Int) (w : World) : Calls Try.prog 68 #[.agg #[.slice a n cap, .int .u64 lost], .int .i64 to] w fun e w' => ∃ q1 q2, e = .returned (.func (.func 103) #[] #[.pointer (some ⟨q1, 0, none⟩), .pointer (some ⟨q2, 0, none⟩)]) ∧ Below w.heap.size w w' ∧ (Res.blk q1 (.cells #[.slice a n cap, .int .u64 lost] 27)).ok w.heap.size w' ∧ (Res.blk q2 (.cells #[.int .i64 to] 3)).ok w.heap.size w' ∧ ∀ b, (Res.blk q1 (.cells #[.slice a n cap, .int .u64 lost] 27)).foot b → ¬ (Res.blk q2 (.cells #[.int .i64 to] 3)).foot b := by
  refine calls_of_T (l := [.agg #[.slice a n cap, .int .u64 lost], .int .i64 to]) 6 Try.func68 rfl rfl rfl ?_
  show T _ _ _ [(0, .agg #[.slice a n cap, .int .u64 lost]), (1, .int .i64 to)] []
  refine T_seq (T_region ?_)
  refine TL_new 1 (.cells #[.slice a n cap, .int .u64 lost] 27) (fun B => .pointer (some ⟨B, 0, none⟩)) (fun _ _ hρ _ => r_box (hρ _ _ rfl) rfl) rfl rfl rfl (w_n rfl) ?_
  intro B1
  refine TL_new 2 (.cells #[.int .i64 to] 3) (fun B => .pointer (some ⟨B, 0, none⟩)) (fun _ _ hρ _ => r_box (hρ _ _ rfl) rfl) rfl rfl rfl (w_n rfl) ?_
  intro B2
  refine TL_q (.nilFunc) (fun _ _ hρ _ => r_assign (hρ _ _ rfl)) rfl rfl rfl (w_n rfl) ?_
  refine TL_seq ?_
  refine T_seq (T_region ?_)
  refine TL_q (.func (.func 103) #[] #[.pointer (some ⟨B1, 0, none⟩), .pointer (some ⟨B2, 0, none⟩)]) (fun _ _ hρ _ => r_makeFunc (by simp) (map_arr (cons2 (hρ _ _ rfl) (cons2 (hρ _ _ rfl) rfl)))) rfl rfl rfl (w_n rfl) ?_
  refine TL_q (.func (.func 103) #[] #[.pointer (some ⟨B1, 0, none⟩), .pointer (some ⟨B2, 0, none⟩)]) (fun _ _ hρ _ => r_assign (hρ _ _ rfl)) rfl rfl rfl (w_n rfl) ?_
  refine TL_seq ?_
  refine T_ret' ?_
  refine ret_of rfl (.func (.func 103) #[] #[.pointer (some ⟨B1, 0, none⟩), .pointer (some ⟨B2, 0, none⟩)]) (fun tmps w hk hm => res1 rfl (res_tmp (hk 4 _ rfl))) (fun w hm => ?_)
  exact ⟨B1, B2, rfl, hm.ext, hm.own 1 _ rfl, hm.own 2 _ rfl, hm.sep 1 2 _ _ rfl rfl (by decide)⟩

theorem first_none {l : List Nat} (h : l.length = 0) : l[0]? = none := by rw [List.eq_nil_of_length_eq_zero h]; rfl

theorem first_ok (ps : List Pcl) (a : Option Addr) (cap : Nat) (lost to : Int) (w : World) (hv : SliceAt w a cap 3 Pcl.cells ps) (hcap : cap ≤ Go.maxLen) (hb : PcsAt w ps) (hck : checkV (pvs ps) lost = true) : Calls Try.prog 17 #[.agg #[.slice a ps.length cap, .int .u64 lost], .int .i64 to] w fun e w' => e = .returned (.tuple #[.int .i64 (((toV ps to)[0]?.getD 0 : Nat) : Int), .bool ((toV ps to)[0]?).isSome]) ∧ Below w.heap.size w w' := by
  have hvl := hv.1
  unfold Go.maxLen at hcap
  refine calls_of_T (l := [.agg #[.slice a ps.length cap, .int .u64 lost], .int .i64 to]) 19 Try.func17 rfl rfl rfl ?_
  show T _ _ _ [(0, .agg #[.slice a ps.length cap, .int .u64 lost]), (1, .int .i64 to)] []
  refine T_seq (T_region ?_)
  refine TL_new 904 (.cells #[.slice a ps.length cap, .int .u64 lost] 27) (fun B => .pointer (some ⟨B, 0, none⟩)) (fun _ _ hρ _ => r_box (hρ _ _ rfl) rfl) rfl rfl rfl (w_n rfl) ?_
  intro B1
  refine TL_q (.int .i64 0) (fun _ _ hρ _ => r_assign (hρ _ _ rfl)) rfl rfl rfl (w_n rfl) ?_
  refine TL_q (.bool false) (fun _ _ hρ _ => r_assign (hρ _ _ rfl)) rfl rfl rfl (w_n rfl) ?_
  refine TL_seq ?_
  refine T_scope ?_
  refine T_seq ?_
  refine T_seq (T_region ?_)
  refine TL_q (.agg #[.slice a ps.length cap, .int .u64 lost]) (fun _ _ hρ hm => r_loadA ag27 sz27 (hρ _ _ rfl) (hm.at 904 rfl) rfl rfl) rfl rfl rfl (w_n rfl) ?_
  refine TL_call (.int .i64 0) (fun _ _ hρ _ => r_call (args := [.agg #[.slice a ps.length cap, .int .u64 lost]]) (enters_of Try.func31 (by kernel_rfl) rfl) (hρ _ _ rfl) ((cons2 (hρ _ _ rfl) rfl)) rfl) (fun w hm => (ncheck_c ps a cap lost w (hv.keep hm.ext) hcap (hb.keep hm.ext)).mono fun _ _ h => ⟨h.1.trans (congrArg Ending.returned (int_as (if_pos hck))), h.2⟩) rfl rfl rfl (w_n rfl) ?_
  refine TL_q (.bool false) (fun _ _ hρ _ => r_as (r_neq (hρ _ _ rfl) (hρ _ _ rfl)) (by rfl)) rfl rfl rfl (w_n rfl) ?_
  refine TL_seq ?_
  refine T_cond_f rfl ?_
  refine T_skip' ?_
  refine p_seq ?_
  refine T_seq (T_region ?_)
  refine TL_new 905 (.cells #[.int .i64 0] 3) (fun B => .pointer (some ⟨B, 0, none⟩)) (fun _ _ _ _ => r_alloc (v := .int .i64 0) (by kernel_rfl) rfl) rfl rfl rfl (w_n rfl) ?_
  intro B2
  refine TL_new 906 (.cells #[.bool false] 4) (fun B => .pointer (some ⟨B, 0, none⟩)) (fun _ _ _ _ => r_alloc (v := .bool false) (by kernel_rfl) rfl) rfl rfl rfl (w_n rfl) ?_
  intro B3
  refine TL_store 905 (.cells #[.int .i64 0] 3) rfl (fun _ _ hρ hm => r_store sz3 (hρ _ _ rfl) (hρ _ _ rfl) (hm.at 905 rfl) rfl rfl rfl rfl) rfl rfl (w_n rfl) ?_
  refine TL_store 906 (.cells #[.bool false] 4) rfl (fun _ _ hρ hm => r_store sz4 (hρ _ _ rfl) (hρ _ _ rfl) (hm.at 906 rfl) rfl rfl rfl rfl) rfl rfl (w_n rfl) ?_
  refine TL_seq ?_
  refine T_label ?_
  refine T_seq ?_
  refine T_seq (T_region ?_)
  refine TL_q (.agg #[.slice a ps.length cap, .int .u64 lost]) (fun _ _ hρ hm => r_loadA ag27 sz27 (hρ _ _ rfl) (hm.at 904 rfl) rfl rfl) rfl rfl rfl (w_n rfl) ?_
  refine TL_q (.int .i64 to) (fun _ _ hρ _ => r_move (hρ _ _ rfl)) rfl rfl rfl (w_n rfl) ?_
  refine TL_callN (fun (_ : Nat × Nat) => True) (fun (qa4, qb4) => .func (.func 103) #[] #[.pointer (some ⟨qa4, 0, none⟩), .pointer (some ⟨qb4, 0, none⟩)]) (fun (qa4, qb4) => [(907, .blk qa4 (.cells #[.slice a ps.length cap, .int .u64 lost] 27)), (908, .blk qb4 (.cells #[.int .i64 to] 3))]) (fun _ _ hρ _ => r_call (args := [.agg #[.slice a ps.length cap, .int .u64 lost], .int .i64 to]) (enters_of Try.func68 (by kernel_rfl) rfl) (hρ _ _ rfl) ((cons2 (hρ _ _ rfl) (cons2 (hρ _ _ rfl) rfl))) rfl) (fun w _ => (to_c a ps.length cap lost to w).mono fun e w' ⟨q1, q2, he, hb, r1, r2, hs⟩ => ⟨(q1, q2), trivial, he, hb, newOk2 907 908 r1 r2 hs⟩) rfl rfl rfl (w_n rfl) ?_
  rintro ⟨qa4, qb4⟩ -
  refine TL_seq ?_
  refine T_block ?_
  refine T_sub [(4, .int .i64 0), (5, .bool false), (6, .pointer (some ⟨B2, 0, none⟩)), (7, .pointer (some ⟨B3, 0, none⟩)), (14, .func (.func 103) #[] #[.pointer (some ⟨qa4, 0, none⟩), .pointer (some ⟨qb4, 0, none⟩)])] [(907, .blk qa4 (.cells #[.slice a ps.length cap, .int .u64 lost] 27)), (908, .blk qb4 (.cells #[.int .i64 to] 3)), (904, .blk B1 (.cells #[.slice a ps.length cap, .int .u64 lost] 27)), (905, .blk B2 (.cells #[.int .i64 0] 3)), (906, .blk B3 (.cells #[.bool false] 4))] (sub_cons rfl (sub_cons rfl (sub_cons rfl (sub_cons rfl (sub_cons rfl sub_nil))))) (sub_cons rfl (sub_cons rfl (sub_cons rfl (sub_cons rfl (sub_cons rfl sub_nil))))) ?_
  refine T_range (ι := Nat) (encs := encI) (xs := toV ps to) rfl rfl (enters_of Try.func103 (by kernel_rfl) rfl) (fun _ => rfl) rfl 801 802 rfl (fun (k : Nat) (i : Nat) => k = 0) (fun (k : Nat) (i : Nat) => [(907, .blk qa4 (.cells #[.slice a ps.length cap, .int .u64 lost] 27)), (908, .blk qb4 (.cells #[.int .i64 to] 3)), (904, .blk B1 (.cells #[.slice a ps.length cap, .int .u64 lost] 27)), (905, .blk B2 (.cells #[.int .i64 0] 3)), (906, .blk B3 (.cells #[.bool false] 4))]) (fun c (i : Nat) => c = .exit 0 ∧ (toV ps to)[0]? = some i) (fun (i : Nat) => [(907, .blk qa4 (.cells #[.slice a ps.length cap, .int .u64 lost] 27)), (908, .blk qb4 (.cells #[.int .i64 to] 3)), (904, .blk B1 (.cells #[.slice a ps.length cap, .int .u64 lost] 27)), (905, .blk B2 (.cells #[.int .i64 ((i : Nat) : Int)] 3)), (906, .blk B3 (.cells #[.bool true] 4))]) (fun x => [(4, .int .i64 0), (5, .bool false), (6, .pointer (some ⟨B2, 0, none⟩)), (7, .pointer (some ⟨B3, 0, none⟩)), (14, .func (.func 103) #[] #[.pointer (some ⟨qa4, 0, none⟩), .pointer (some ⟨qb4, 0, none⟩)]), (8, .int .i64 ((x : Nat) : Int))]) (fun D l rec => to_iter w (fun k (_ : Nat) => k = 0) _ qa4 qb4 ps a cap lost to hv hcap (fun _ _ => rfl) (fun _ _ w hm => hm.at 907 rfl) (fun _ _ w hm => hm.at 908 rfl)) (fun _ _ => ⟨rfl, rfl⟩) (fun _ => ⟨rfl, rfl⟩) 0 rfl (sub_cons rfl (sub_cons rfl (sub_cons rfl (sub_cons rfl (sub_cons rfl sub_nil))))) ?_ ?_ ?_ ?_
  · intro D1 l1 rec1 k x i hx1 hp1
    refine T_sub [(4, .int .i64 0), (5, .bool false), (6, .pointer (some ⟨B2, 0, none⟩)), (7, .pointer (some ⟨B3, 0, none⟩)), (14, .func (.func 103) #[] #[.pointer (some ⟨qa4, 0, none⟩), .pointer (some ⟨qb4, 0, none⟩)]), (15, .int .i64 ((x : Nat) : Int))] [(801, .blk D1 (.deferred (some []))), (802, .blk l1 (.loop rec1)), (907, .blk qa4 (.cells #[.slice a ps.length cap, .int .u64 lost] 27)), (908, .blk qb4 (.cells #[.int .i64 to] 3)), (904, .blk B1 (.cells #[.slice a ps.length cap, .int .u64 lost] 27)), (905, .blk B2 (.cells #[.int .i64 0] 3)), (906, .blk B3 (.cells #[.bool false] 4))] (sub_cons rfl (sub_cons rfl (sub_cons rfl (sub_cons rfl (sub_cons rfl (sub_cons rfl sub_nil)))))) (sub_cons rfl (sub_cons rfl (sub_cons rfl (sub_cons rfl (sub_cons rfl (sub_cons rfl (sub_cons rfl sub_nil))))))) ?_
    refine T_region ?_
    refine TL_q (.int .i64 ((x : Nat) : Int)) (fun _ _ hρ _ => r_assign (hρ _ _ rfl)) rfl rfl rfl (w_n rfl) ?_
    refine TL_nil ?_
    exact p_at () trivial (sub_cons rfl (sub_cons rfl (sub_cons rfl (sub_cons rfl (sub_cons rfl (sub_cons rfl sub_nil)))))) (sub_cons rfl (sub_cons rfl (sub_cons rfl (sub_cons rfl (sub_cons rfl (sub_cons rfl (sub_cons rfl sub_nil)))))))
  · intro D1 l1 rec1 k x i hx1 hp1
    show T _ _ _ [(4, .int .i64 0), (5, .bool false), (6, .pointer (some ⟨B2, 0, none⟩)), (7, .pointer (some ⟨B3, 0, none⟩)), (14, .func (.func 103) #[] #[.pointer (some ⟨qa4, 0, none⟩), .pointer (some ⟨qb4, 0, none⟩)]), (8, .int .i64 ((x : Nat) : Int))] [(801, .blk D1 (.deferred (some []))), (802, .blk l1 (.loop { rec1 with state := .busy })), (907, .blk qa4 (.cells #[.slice a ps.length cap, .int .u64 lost] 27)), (908, .blk qb4 (.cells #[.int .i64 to] 3)), (904, .blk B1 (.cells #[.slice a ps.length cap, .int .u64 lost] 27)), (905, .blk B2 (.cells #[.int .i64 0] 3)), (906, .blk B3 (.cells #[.bool false] 4))]
    subst hp1
    refine T_block ?_
    refine T_seq (T_region ?_)
    refine TL_q (.int .i64 ((x : Nat) : Int)) (fun _ _ hρ _ => r_move (hρ _ _ rfl)) rfl rfl rfl (w_n rfl) ?_
    refine TL_store 905 (.cells #[.int .i64 ((x : Nat) : Int)] 3) rfl (fun _ _ hρ hm => r_store sz3 (hρ _ _ rfl) (hρ _ _ rfl) (hm.at 905 rfl) rfl rfl rfl rfl) rfl rfl (w_n rfl) ?_
    refine TL_store 906 (.cells #[.bool true] 4) rfl (fun _ _ hρ hm => r_store sz4 (hρ _ _ rfl) (hρ _ _ rfl) (hm.at 906 rfl) rfl rfl rfl rfl) rfl rfl (w_n rfl) ?_
    refine TL_seq ?_
    refine T_exit' ?_
    refine p_blk_o rfl ?_
    exact p_round_x x ⟨rfl, hx1⟩ (sub_cons rfl (sub_cons rfl (sub_cons rfl (sub_cons rfl (sub_cons rfl (sub_cons rfl (sub_cons rfl sub_nil)))))))
  · intro D1 i hp1
    refine p_sub [(4, .int .i64 0), (5, .bool false), (6, .pointer (some ⟨B2, 0, none⟩)), (7, .pointer (some ⟨B3, 0, none⟩)), (14, .func (.func 103) #[] #[.pointer (some ⟨qa4, 0, none⟩), .pointer (some ⟨qb4, 0, none⟩)])] [(801, .blk D1 (.deferred (some []))), (907, .blk qa4 (.cells #[.slice a ps.length cap, .int .u64 lost] 27)), (908, .blk qb4 (.cells #[.int .i64 to] 3)), (904, .blk B1 (.cells #[.slice a ps.length cap, .int .u64 lost] 27)), (905, .blk B2 (.cells #[.int .i64 0] 3)), (906, .blk B3 (.cells #[.bool false] 4))] (sub_cons rfl (sub_cons rfl (sub_cons rfl (sub_cons rfl (sub_cons rfl sub_nil))))) (sub_cons rfl (sub_cons rfl (sub_cons rfl (sub_cons rfl (sub_cons rfl (sub_cons rfl sub_nil)))))) ?_
    refine p_blk_n ?_
    refine p_seq ?_
    refine T_seq (T_draw (V := [(0, .int .i64 0), (1, .bool false), (2, .int .i64 0), (3, .bool false)]) [0, 0, 1, 7] [[(6, none)], [(7, none)], [(17, some 0)], [(18, some 1)]] 0 mixed (by kernel_rfl) ?_)
    refine G_last [0, 1, 2, 3] [(4, .int .i64 0), (5, .bool false)] (by kernel_rfl) (allM (all_cons (q_run (.int .i64 0) rfl rfl (wv_n rfl) rfl (fun _ _ hρ hm => r_load ag3 (hρ _ _ rfl) (hm.at 905 rfl) rfl)) (all_cons (q_run (.bool false) rfl rfl (wv_n rfl) rfl (fun _ _ hρ hm => r_load ag4 (hρ _ _ rfl) (hm.at 906 rfl) rfl)) (all_cons (q_run (.int .i64 0) rfl rfl (wv_n rfl) rfl (fun _ _ hρ _ => r_assign (hρ _ _ rfl))) (all_cons (q_run (.bool false) rfl rfl (wv_n rfl) rfl (fun _ _ hρ _ => r_assign (hρ _ _ rfl))) all_nil))))) (end_new 2 rfl rfl (end_new 3 rfl rfl end_nil)) ?_
    refine T_ret' ?_
    refine p_ng_r ?_
    refine ret_of1 801 D1 rfl rfl (.tuple #[.int .i64 0, .bool false]) (fun tmps w hk hm => res2 rfl (res_tmp (hk 4 _ rfl)) (res_tmp (hk 5 _ rfl))) (fun w hm => ?_)
    exact ⟨by rw [first_none hp1]; rfl, hm.ext⟩
  · intro D1 c i hc
    obtain ⟨rfl, hi⟩ := hc
    show T _ _ _ [(4, .int .i64 0), (5, .bool false), (6, .pointer (some ⟨B2, 0, none⟩)), (7, .pointer (some ⟨B3, 0, none⟩)), (14, .func (.func 103) #[] #[.pointer (some ⟨qa4, 0, none⟩), .pointer (some ⟨qb4, 0, none⟩)])] [(801, .blk D1 (.deferred (some []))), (907, .blk qa4 (.cells #[.slice a ps.length cap, .int .u64 lost] 27)), (908, .blk qb4 (.cells #[.int .i64 to] 3)), (904, .blk B1 (.cells #[.slice a ps.length cap, .int .u64 lost] 27)), (905, .blk B2 (.cells #[.int .i64 ((i : Nat) : Int)] 3)), (906, .blk B3 (.cells #[.bool true] 4))]
    refine T_exit' ?_
    refine p_blk_x ?_
    refine p_seq ?_
    refine T_seq (T_draw (V := [(0, .int .i64 ((i : Nat) : Int)), (1, .bool true), (2, .int .i64 ((i : Nat) : Int)), (3, .bool true)]) [0, 0, 1, 7] [[(6, none)], [(7, none)], [(17, some 0)], [(18, some 1)]] 0 mixed (by kernel_rfl) ?_)
    refine G_last [0, 1, 2, 3] [(4, .int .i64 ((i : Nat) : Int)), (5, .bool true)] (by kernel_rfl) (allM (all_cons (q_run (.int .i64 ((i : Nat) : Int)) rfl rfl (wv_n rfl) rfl (fun _ _ hρ hm => r_load ag3 (hρ _ _ rfl) (hm.at 905 rfl) rfl)) (all_cons (q_run (.bool true) rfl rfl (wv_n rfl) rfl (fun _ _ hρ hm => r_load ag4 (hρ _ _ rfl) (hm.at 906 rfl) rfl)) (all_cons (q_run (.int .i64 ((i : Nat) : Int)) rfl rfl (wv_n rfl) rfl (fun _ _ hρ _ => r_assign (hρ _ _ rfl))) (all_cons (q_run (.bool true) rfl rfl (wv_n rfl) rfl (fun _ _ hρ _ => r_assign (hρ _ _ rfl))) all_nil))))) (end_new 2 rfl rfl (end_new 3 rfl rfl end_nil)) ?_
    refine T_ret' ?_
    refine p_ng_r ?_
    refine ret_of1 801 D1 rfl rfl (.tuple #[.int .i64 ((i : Nat) : Int), .bool true]) (fun tmps w hk hm => res2 rfl (res_tmp (hk 4 _ rfl)) (res_tmp (hk 5 _ rfl))) (fun w hm => ?_)
    exact ⟨by rw [hi]; rfl, hm.ext⟩

theorem first_no (ps : List Pcl) (a : Option Addr) (cap : Nat) (lost to : Int) (w : World) (hv : SliceAt w a cap 3 Pcl.cells ps) (hcap : cap ≤ Go.maxLen) (hb : PcsAt w ps) (hck : ¬ checkV (pvs ps) lost = true) : Calls Try.prog 17 #[.agg #[.slice a ps.length cap, .int .u64 lost], .int .i64 to] w fun e w' => e = .returned (.tuple #[.int .i64 0, .bool false]) ∧ Below w.heap.size w w' := by
  have hvl := hv.1
  unfold Go.maxLen at hcap
  refine calls_of_T (l := [.agg #[.slice a ps.length cap, .int .u64 lost], .int .i64 to]) 19 Try.func17 rfl rfl rfl ?_
  show T _ _ _ [(0, .agg #[.slice a ps.length cap, .int .u64 lost]), (1, .int .i64 to)] []
  refine T_seq (T_region ?_)
  refine TL_new 904 (.cells #[.slice a ps.length cap, .int .u64 lost] 27) (fun B => .pointer (some ⟨B, 0, none⟩)) (fun _ _ hρ _ => r_box (hρ _ _ rfl) rfl) rfl rfl rfl (w_n rfl) ?_
  intro B1
  refine TL_q (.int .i64 0) (fun _ _ hρ _ => r_assign (hρ _ _ rfl)) rfl rfl rfl (w_n rfl) ?_
  refine TL_q (.bool false) (fun _ _ hρ _ => r_assign (hρ _ _ rfl)) rfl rfl rfl (w_n rfl) ?_
  refine TL_seq ?_
  refine T_scope ?_
  refine T_seq ?_
  refine T_seq (T_region ?_)
  refine TL_q (.agg #[.slice a ps.length cap, .int .u64 lost]) (fun _ _ hρ hm => r_loadA ag27 sz27 (hρ _ _ rfl) (hm.at 904 rfl) rfl rfl) rfl rfl rfl (w_n rfl) ?_
  refine TL_call (.int .i64 350) (fun _ _ hρ _ => r_call (args := [.agg #[.slice a ps.length cap, .int .u64 lost]]) (enters_of Try.func31 (by kernel_rfl) rfl) (hρ _ _ rfl) ((cons2 (hρ _ _ rfl) rfl)) rfl) (fun w hm => (ncheck_c ps a cap lost w (hv.keep hm.ext) hcap (hb.keep hm.ext)).mono fun _ _ h => ⟨h.1.trans (congrArg Ending.returned (int_as (if_neg hck))), h.2⟩) rfl rfl rfl (w_n rfl) ?_
  refine TL_q (.bool true) (fun _ _ hρ _ => r_as (r_neq (hρ _ _ rfl) (hρ _ _ rfl)) (by rfl)) rfl rfl rfl (w_n rfl) ?_
  refine TL_seq ?_
  refine T_cond_t rfl ?_
  refine T_seq (T_region ?_)
  refine TL_q (.int .i64 0) (fun _ _ hρ _ => r_assign (hρ _ _ rfl)) rfl rfl rfl (w_n rfl) ?_
  refine TL_q (.bool false) (fun _ _ hρ _ => r_assign (hρ _ _ rfl)) rfl rfl rfl (w_n rfl) ?_
  refine TL_seq ?_
  refine T_ret' ?_
  refine p_then_r ?_
  refine p_ng_r ?_
  refine ret_of rfl (.tuple #[.int .i64 0, .bool false]) (fun tmps w hk hm => res2 rfl (res_tmp (hk 4 _ rfl)) (res_tmp (hk 5 _ rfl))) (fun w hm => ?_)
  exact ⟨rfl, hm.ext⟩
end Go.Proofs.Ytcidgbjgeegepaa
/- net and journal: wakes. Printed by a program of this seat's prover. -/
namespace Go.Proofs.Ytcidgbjgeegepaa
open Go Go.RowKit
set_option maxRecDepth 10000
/-- The nets of wakes. -/
def wk0 : NV := ([⟨0, [1#8, 2#8], false⟩, ⟨4, [3#8], false⟩], 0)
def wk1 : NV := (doV wk0 ⟨4, 0, 0, 1#32⟩).2.1
def wk2 : NV := (doV wk1 ⟨3, 0, 0, 0#32⟩).2.1
def wk3 : NV := (doV wk2 ⟨1, 2, 0, 0#32⟩).2.1
theorem chk_of {x : Hd × List (RowG By)} {n : NV} (h : x.1.nv = n) (hc : checkV n.1 n.2 = true) : checkV (pvs x.1.n.l) x.1.lost = true := by subst h; exact hc
theorem doe_of {x : Hd × List (RowG By)} {n : NV} {t : Trk} {e : Int} (h : x.1.nv = n) (hc : (doV n t).1 = e) : (doV (pvs x.1.n.l, x.1.lost) t).1 = e := by subst h; exact hc
theorem netis_of {x y : Hd × List (RowG By)} {n : NV} {t : Trk} (h : x.1.nv = n) (hk : NetIs (doV (pvs x.1.n.l, x.1.lost) t).2.1 y) : NetIs (doV n t).2.1 y := by subst h; exact hk
theorem told_of {x : Hd × List (RowG By)} {n : NV} {t : Trk} {q : Pcl} (h : x.1.nv = n) (hk : q.pv = toldV (doV (pvs x.1.n.l, x.1.lost) t).2.2) : q.pv = toldV (doV n t).2.2 := by subst h; exact hk
theorem net_len {x : Hd × List (RowG By)} {n : NV} {k : Nat} (h : x.1.nv = n) (hc : n.1.length = k) : x.1.n.l.length = k := by subst h; rw [← hc]; exact (pvs_len _).symm
theorem told_at {w : World} {bs : List (RowG By)} {q : Pcl} (h : poolH 5 1 byc bs w) (hq : q.r ∈ bs ∧ q.r.l.length ≤ 10000 ∨ q.r = ⟨none, 0, []⟩) : SliceAt w q.r.a q.r.cap 1 byc q.r.l :=
  hq.elim (fun h1 => poolAt byc_len h h1.1) fun e => by rw [e]; exact sliceNil w
theorem toV_eq (ps : List Pcl) (to : Int) : toV ps to = (List.range (pvs ps).length).filter fun i => decide (((pvs ps)[i]?).map PV.to = some to) := by
  unfold toV phiT
  rw [pvs_len]
  congr 1
  funext i
  unfold pvs
  rw [List.getElem?_map]
  cases ps[i]? <;> rfl
theorem toV_of {x : Hd × List (RowG By)} {n : NV} {to : Int} {k : Nat} (h : x.1.nv = n) (hc : ((List.range n.1.length).filter fun i => decide ((n.1[i]?).map PV.to = some to))[0]? = some k) : (toV x.1.n.l to)[0]? = some k := by
  subst h; rw [toV_eq]; exact hc
theorem first_of {l : List Nat} {k : Nat} (h : l[0]? = some k) : Value.tuple #[.int .i64 ((l[0]?.getD 0 : Nat) : Int), .bool (l[0]?).isSome] = .tuple #[.int .i64 (k : Int), .bool true] := by rw [h]; rfl

set_option maxHeartbeats 1000000 in
theorem nwakes_c (w : World) : Calls Try.prog 11 #[] w fun e w' => e = .returned (.bool true) ∧ Below w.heap.size w w' := by
  refine calls_of_T (l := []) 137 Try.func11 rfl rfl rfl ?_
  show T _ _ _ [] []
  refine T_seq (T_region ?_)
  refine TL_q (.bool false) (fun _ _ hρ _ => r_assign (hρ _ _ rfl)) rfl rfl rfl (w_n rfl) ?_
  refine TL_seq ?_
  refine T_seq (T_region ?_)
  refine TL_call (.agg #[.slice none 0 0, .int .u64 0]) (fun _ _ hρ _ => r_call (args := []) (enters_of Try.func14 (by kernel_rfl) rfl) (hρ _ _ rfl) (by rfl) rfl) (fun w _ => nnew_c w) rfl rfl rfl (w_n rfl) ?_
  refine TL_new 1 (.cells #[.int .u8 1, .int .u8 2] 5) (fun B => .slice (some ⟨B, 0, none⟩) 2 2) (fun _ _ hρ _ => r_buildSlice (vs := [(0, .int .u8 1), (1, .int .u8 2)]) (by kernel_rfl) (cons2 (pair2 (hρ _ _ rfl)) (cons2 (pair2 (hρ _ _ rfl)) rfl))) rfl rfl rfl (w_n rfl) ?_
  intro B1
  refine TL_q (.agg #[.int .i64 0, .slice (some ⟨B1, 0, none⟩) 2 2, .bool false]) (fun _ _ hρ _ => r_build (vs := [(1, .slice (some ⟨B1, 0, none⟩) 2 2)]) (by kernel_rfl) (cons2 (pair2 (hρ _ _ rfl)) rfl)) rfl rfl rfl (w_n rfl) ?_
  refine TL_new 2 (.cells #[.int .u8 3] 5) (fun B => .slice (some ⟨B, 0, none⟩) 1 1) (fun _ _ hρ _ => r_buildSlice (vs := [(0, .int .u8 3)]) (by kernel_rfl) (cons2 (pair2 (hρ _ _ rfl)) rfl)) rfl rfl rfl (w_n rfl) ?_
  intro B2
  refine TL_q (.agg #[.int .i64 4, .slice (some ⟨B2, 0, none⟩) 1 1, .bool false]) (fun _ _ hρ _ => r_build (vs := [(0, .int .i64 4), (1, .slice (some ⟨B2, 0, none⟩) 1 1)]) (by kernel_rfl) (cons2 (pair2 (hρ _ _ rfl)) (cons2 (pair2 (hρ _ _ rfl)) rfl))) rfl rfl rfl (w_n rfl) ?_
  refine TL_new 3 (.cells #[.int .i64 0, .slice (some ⟨B1, 0, none⟩) 2 2, .bool false, .int .i64 4, .slice (some ⟨B2, 0, none⟩) 1 1, .bool false] 36) (fun B => .slice (some ⟨B, 0, none⟩) 2 2) (fun _ _ hρ _ => r_buildSlice (vs := [(0, .agg #[.int .i64 0, .slice (some ⟨B1, 0, none⟩) 2 2, .bool false]), (1, .agg #[.int .i64 4, .slice (some ⟨B2, 0, none⟩) 1 1, .bool false])]) (by kernel_rfl) (cons2 (pair2 (hρ _ _ rfl)) (cons2 (pair2 (hρ _ _ rfl)) rfl))) rfl rfl rfl (w_n rfl) ?_
  intro B3
  refine TL_callN (fun x : Hd × List (RowG By) => NetIs wk0 x) (fun (h4, bs4) => .tuple #[.agg #[.slice h4.n.a h4.n.l.length h4.n.cap, .int .u64 h4.lost], .int .i64 0]) (fun (h4, bs4) => [(4, .row (.slice h4.n.a h4.n.l.length h4.n.cap) 36 3 h4.n.l.length (h4.n.l.flatMap Pcl.cells)), (5, .pool 5 1 byc bs4)]) (fun _ _ hρ _ => r_call (args := [.agg #[.slice none 0 0, .int .u64 0], .slice (some ⟨B3, 0, none⟩) 2 2]) (enters_of Try.func13 (by kernel_rfl) rfl) (hρ _ _ rfl) ((cons2 (hρ _ _ rfl) (cons2 (hρ _ _ rfl) rfl))) rfl) (fun w hm => (send_ok [] none 0 0 ([⟨0, ⟨(some ⟨B1, 0, none⟩), 2, [1#8, 2#8]⟩, false⟩, ⟨4, ⟨(some ⟨B2, 0, none⟩), 1, [3#8]⟩, false⟩] : List Pcl) (some ⟨B3, 0, none⟩) 2 w (sliceNil w) (by decide) (pcsNil w) ⟨Nat.le_of_ble_eq_true rfl, (fun e => by cases e), .inr ⟨_, 0, _, _, _, rfl, (hm.at 3 rfl), row_of_take (fun _ => rfl) rfl⟩⟩ (Nat.le_of_ble_eq_true rfl) (List.forall_mem_cons.2 ⟨⟨⟨Nat.le_of_ble_eq_true rfl, (fun e => by cases e), .inr ⟨_, 0, _, _, _, rfl, (hm.at 1 rfl), row_of_take (fun _ => rfl) rfl⟩⟩, (Nat.le_of_ble_eq_true rfl), Nat.le_of_ble_eq_true rfl⟩, (List.forall_mem_cons.2 ⟨⟨⟨Nat.le_of_ble_eq_true rfl, (fun e => by cases e), .inr ⟨_, 0, _, _, _, rfl, (hm.at 2 rfl), row_of_take (fun _ => rfl) rfl⟩⟩, (Nat.le_of_ble_eq_true rfl), Nat.le_of_ble_eq_true rfl⟩, (fun _ h => nomatch h)⟩)⟩) (Int.le_refl _) rfl rfl).mono fun e w' ⟨⟨h, bs⟩, hk, he, hb, hn⟩ => ⟨(h, bs), hk, he, hb, newOk2 4 5 hn.row hn.pool hn.sep⟩) rfl rfl rfl (w_n rfl) ?_
  rintro ⟨h4, bs4⟩ hk4
  refine TL_q (.tuple #[.agg #[.slice h4.n.a h4.n.l.length h4.n.cap, .int .u64 h4.lost], .int .i64 0]) (fun _ _ hρ _ => r_move (hρ _ _ rfl)) rfl rfl rfl (w_n rfl) ?_
  refine TL_q (.agg #[.slice h4.n.a h4.n.l.length h4.n.cap, .int .u64 h4.lost]) (fun _ _ hρ _ => r_extract (hρ _ _ rfl) rfl) rfl rfl rfl (w_n rfl) ?_
  refine TL_q (.int .i64 0) (fun _ _ hρ _ => r_extract (hρ _ _ rfl) rfl) rfl rfl rfl (w_n rfl) ?_
  refine TL_new 6 (.cells #[.slice none 0 0, .int .u64 0] 27) (fun B => .pointer (some ⟨B, 0, none⟩)) (fun _ _ _ _ => r_alloc (v := .agg #[.slice none 0 0, .int .u64 0]) (by kernel_rfl) rfl) rfl rfl rfl (w_n rfl) ?_
  intro B5
  refine TL_store 6 (.cells #[.slice h4.n.a h4.n.l.length h4.n.cap, .int .u64 h4.lost] 27) rfl (fun _ _ hρ hm => r_store sz27 (hρ _ _ rfl) (hρ _ _ rfl) (hm.at 6 rfl) rfl rfl rfl rfl) rfl rfl (w_n rfl) ?_
  refine TL_q (.int .i64 0) (fun _ _ hρ _ => r_assign (hρ _ _ rfl)) rfl rfl rfl (w_n rfl) ?_
  refine TL_seq ?_
  refine T_seq (T_region ?_)
  refine TL_q (.agg #[.slice h4.n.a h4.n.l.length h4.n.cap, .int .u64 h4.lost]) (fun _ _ hρ hm => r_loadA ag27 sz27 (hρ _ _ rfl) (hm.at 6 rfl) rfl rfl) rfl rfl rfl (w_n rfl) ?_
  refine TL_call (.tuple #[.int .i64 1, .bool true]) (fun _ _ hρ _ => r_call (args := [.agg #[.slice h4.n.a h4.n.l.length h4.n.cap, .int .u64 h4.lost], .int .i64 4]) (enters_of Try.func17 (by kernel_rfl) rfl) (hρ _ _ rfl) ((cons2 (hρ _ _ rfl) (cons2 (hρ _ _ rfl) rfl))) rfl) (fun w hm => (first_ok h4.n.l h4.n.a h4.n.cap h4.lost 4 w (SliceAt.own Pcl.cells_len (hm.row 4 rfl) rfl rfl) (row_cap (hm.row 4 rfl)) (pcs_pool (hm.pool 5 rfl) hk4.ok.inN) (chk_of hk4.nv (by decide +kernel))).mono fun _ _ h => ⟨h.1.trans (congrArg Ending.returned (first_of (toV_of hk4.nv (by decide +kernel)))), h.2⟩) rfl rfl rfl (w_n rfl) ?_
  refine TL_q (.tuple #[.int .i64 1, .bool true]) (fun _ _ hρ _ => r_move (hρ _ _ rfl)) rfl rfl rfl (w_n rfl) ?_
  refine TL_q (.int .i64 1) (fun _ _ hρ _ => r_extract (hρ _ _ rfl) rfl) rfl rfl rfl (w_n rfl) ?_
  refine TL_q (.bool true) (fun _ _ hρ _ => r_extract (hρ _ _ rfl) rfl) rfl rfl rfl (w_n rfl) ?_
  refine TL_q (.int .i64 1) (fun _ _ hρ _ => r_assign (hρ _ _ rfl)) rfl rfl rfl (w_n rfl) ?_
  refine TL_q (.bool true) (fun _ _ hρ _ => r_assign (hρ _ _ rfl)) rfl rfl rfl (w_n rfl) ?_
  refine TL_seq ?_
  refine T_seq (T_region ?_)
  refine TL_q (.agg #[.slice h4.n.a h4.n.l.length h4.n.cap, .int .u64 h4.lost]) (fun _ _ hρ hm => r_loadA ag27 sz27 (hρ _ _ rfl) (hm.at 6 rfl) rfl rfl) rfl rfl rfl (w_n rfl) ?_
  refine TL_q (.agg #[.int .i64 4, .int .i64 0, .int .i64 0, .int .u32 1]) (fun _ _ hρ _ => r_build (vs := [(0, .int .i64 4), (3, .int .u32 1)]) (by kernel_rfl) (cons2 (pair2 (hρ _ _ rfl)) (cons2 (pair2 (hρ _ _ rfl)) rfl))) rfl rfl rfl (w_n rfl) ?_
  refine TL_callN (fun x : Hd × List (RowG By) × Pcl => NetIs wk1 (x.1, x.2.1) ∧ x.2.2.pv = toldV (doV wk0 ⟨4, 0, 0, 1#32⟩).2.2 ∧ (x.2.2.r ∈ x.2.1 ∧ x.2.2.r.l.length ≤ 10000 ∨ x.2.2.r = ⟨none, 0, []⟩)) (fun (h6, bs6, q6) => .tuple #[.agg #[.slice h6.n.a h6.n.l.length h6.n.cap, .int .u64 h6.lost], .agg #[.int .i64 q6.to, .slice q6.r.a q6.r.l.length q6.r.cap, .bool q6.sp], .int .i64 0]) (fun (h6, bs6, q6) => [(7, .row (.slice h6.n.a h6.n.l.length h6.n.cap) 36 3 h6.n.l.length (h6.n.l.flatMap Pcl.cells)), (8, .pool 5 1 byc bs6)]) (fun _ _ hρ _ => r_call (args := [.agg #[.slice h4.n.a h4.n.l.length h4.n.cap, .int .u64 h4.lost], .agg #[.int .i64 4, .int .i64 0, .int .i64 0, .int .u32 1]]) (enters_of Try.func23 (by kernel_rfl) rfl) (hρ _ _ rfl) ((cons2 (hρ _ _ rfl) (cons2 (hρ _ _ rfl) rfl))) rfl) (fun w hm => (do_ok h4.n.l h4.n.a h4.n.cap h4.lost 4 0 0 (1#32) w (SliceAt.own Pcl.cells_len (hm.row 4 rfl) rfl rfl) (row_cap (hm.row 4 rfl)) (pcs_pool (hm.pool 5 rfl) hk4.ok.inN) hk4.ok.lost0 (chk_of hk4.nv (by decide +kernel)) (doe_of hk4.nv (by decide +kernel))).mono fun e w' ⟨⟨h, bs⟩, q, hk, ht, hi, he, hb, hn⟩ => ⟨(h, bs, q), ⟨netis_of hk4.nv hk, told_of hk4.nv ht, hi⟩, he, hb, newOk2 7 8 hn.row hn.pool hn.sep⟩) rfl rfl rfl (w_n rfl) ?_
  rintro ⟨h6, bs6, q6⟩ ⟨hk6, hq6, hi6⟩
  refine TL_q (.tuple #[.agg #[.slice h6.n.a h6.n.l.length h6.n.cap, .int .u64 h6.lost], .agg #[.int .i64 q6.to, .slice q6.r.a q6.r.l.length q6.r.cap, .bool q6.sp], .int .i64 0]) (fun _ _ hρ _ => r_move (hρ _ _ rfl)) rfl rfl rfl (w_n rfl) ?_
  refine TL_q (.agg #[.slice h6.n.a h6.n.l.length h6.n.cap, .int .u64 h6.lost]) (fun _ _ hρ _ => r_extract (hρ _ _ rfl) rfl) rfl rfl rfl (w_n rfl) ?_
  refine TL_q (.agg #[.int .i64 q6.to, .slice q6.r.a q6.r.l.length q6.r.cap, .bool q6.sp]) (fun _ _ hρ _ => r_extract (hρ _ _ rfl) rfl) rfl rfl rfl (w_n rfl) ?_
  refine TL_q (.int .i64 0) (fun _ _ hρ _ => r_extract (hρ _ _ rfl) rfl) rfl rfl rfl (w_n rfl) ?_
  refine TL_new 9 (.cells #[.int .i64 0, .slice none 0 0, .bool false] 36) (fun B => .pointer (some ⟨B, 0, none⟩)) (fun _ _ _ _ => r_alloc (v := .agg #[.int .i64 0, .slice none 0 0, .bool false]) (by kernel_rfl) rfl) rfl rfl rfl (w_n rfl) ?_
  intro B7
  refine TL_store 6 (.cells #[.slice h6.n.a h6.n.l.length h6.n.cap, .int .u64 h6.lost] 27) rfl (fun _ _ hρ hm => r_store sz27 (hρ _ _ rfl) (hρ _ _ rfl) (hm.at 6 rfl) rfl rfl rfl rfl) rfl rfl (w_n rfl) ?_
  refine TL_store 9 (.cells #[.int .i64 q6.to, .slice q6.r.a q6.r.l.length q6.r.cap, .bool q6.sp] 36) rfl (fun _ _ hρ hm => r_store sz36 (hρ _ _ rfl) (hρ _ _ rfl) (hm.at 9 rfl) rfl rfl rfl rfl) rfl rfl (w_n rfl) ?_
  refine TL_q (.int .i64 0) (fun _ _ hρ _ => r_assign (hρ _ _ rfl)) rfl rfl rfl (w_n rfl) ?_
  refine TL_seq ?_
  refine T_seq (T_region ?_)
  refine TL_q (.agg #[.slice h6.n.a h6.n.l.length h6.n.cap, .int .u64 h6.lost]) (fun _ _ hρ hm => r_loadA ag27 sz27 (hρ _ _ rfl) (hm.at 6 rfl) rfl rfl) rfl rfl rfl (w_n rfl) ?_
  refine TL_q (.agg #[.int .i64 4, .int .i64 0, .int .i64 0, .int .u32 1]) (fun _ _ hρ _ => r_build (vs := [(0, .int .i64 4), (3, .int .u32 1)]) (by kernel_rfl) (cons2 (pair2 (hρ _ _ rfl)) (cons2 (pair2 (hρ _ _ rfl)) rfl))) rfl rfl rfl (w_n rfl) ?_
  refine TL_call (.tuple #[.agg #[.slice none 0 0, .int .u64 0], .agg #[.int .i64 0, .slice none 0 0, .bool false], .int .i64 5]) (fun _ _ hρ _ => r_call (args := [.agg #[.slice h6.n.a h6.n.l.length h6.n.cap, .int .u64 h6.lost], .agg #[.int .i64 4, .int .i64 0, .int .i64 0, .int .u32 1]]) (enters_of Try.func23 (by kernel_rfl) rfl) (hρ _ _ rfl) ((cons2 (hρ _ _ rfl) (cons2 (hρ _ _ rfl) rfl))) rfl) (fun w hm => do_err h6.n.l h6.n.a h6.n.cap h6.lost 4 0 0 (1#32) w (SliceAt.own Pcl.cells_len (hm.row 7 rfl) rfl rfl) (row_cap (hm.row 7 rfl)) (pcs_pool (hm.pool 8 rfl) hk6.ok.inN) 5 hk6.ok.lost0 (chk_of hk6.nv (by decide +kernel)) (doe_of hk6.nv (by decide +kernel)) (by decide)) rfl rfl rfl (w_n rfl) ?_
  refine TL_q (.tuple #[.agg #[.slice none 0 0, .int .u64 0], .agg #[.int .i64 0, .slice none 0 0, .bool false], .int .i64 5]) (fun _ _ hρ _ => r_move (hρ _ _ rfl)) rfl rfl rfl (w_n rfl) ?_
  refine TL_q (.agg #[.slice none 0 0, .int .u64 0]) (fun _ _ hρ _ => r_extract (hρ _ _ rfl) rfl) rfl rfl rfl (w_n rfl) ?_
  refine TL_q (.agg #[.int .i64 0, .slice none 0 0, .bool false]) (fun _ _ hρ _ => r_extract (hρ _ _ rfl) rfl) rfl rfl rfl (w_n rfl) ?_
  refine TL_q (.int .i64 5) (fun _ _ hρ _ => r_extract (hρ _ _ rfl) rfl) rfl rfl rfl (w_n rfl) ?_
  refine TL_new 10 (.cells #[.slice none 0 0, .int .u64 0] 27) (fun B => .pointer (some ⟨B, 0, none⟩)) (fun _ _ _ _ => r_alloc (v := .agg #[.slice none 0 0, .int .u64 0]) (by kernel_rfl) rfl) rfl rfl rfl (w_n rfl) ?_
  intro B8
  refine TL_new 11 (.cells #[.int .i64 0, .slice none 0 0, .bool false] 36) (fun B => .pointer (some ⟨B, 0, none⟩)) (fun _ _ _ _ => r_alloc (v := .agg #[.int .i64 0, .slice none 0 0, .bool false]) (by kernel_rfl) rfl) rfl rfl rfl (w_n rfl) ?_
  intro B9
  refine TL_store 10 (.cells #[.slice none 0 0, .int .u64 0] 27) rfl (fun _ _ hρ hm => r_store sz27 (hρ _ _ rfl) (hρ _ _ rfl) (hm.at 10 rfl) rfl rfl rfl rfl) rfl rfl (w_n rfl) ?_
  refine TL_store 11 (.cells #[.int .i64 0, .slice none 0 0, .bool false] 36) rfl (fun _ _ hρ hm => r_store sz36 (hρ _ _ rfl) (hρ _ _ rfl) (hm.at 11 rfl) rfl rfl rfl rfl) rfl rfl (w_n rfl) ?_
  refine TL_q (.int .i64 5) (fun _ _ hρ _ => r_assign (hρ _ _ rfl)) rfl rfl rfl (w_n rfl) ?_
  refine TL_seq ?_
  refine T_sub [(0, .bool false), (1, .pointer (some ⟨B5, 0, none⟩)), (2, .int .i64 0), (3, .int .i64 1), (4, .bool true), (6, .int .i64 0), (9, .int .i64 5)] [(7, .row (.slice h6.n.a h6.n.l.length h6.n.cap) 36 3 h6.n.l.length (h6.n.l.flatMap Pcl.cells)), (8, .pool 5 1 byc bs6), (4, .row (.slice h4.n.a h4.n.l.length h4.n.cap) 36 3 h4.n.l.length (h4.n.l.flatMap Pcl.cells)), (5, .pool 5 1 byc bs4), (1, .blk B1 (.cells #[.int .u8 1, .int .u8 2] 5)), (2, .blk B2 (.cells #[.int .u8 3] 5)), (3, .blk B3 (.cells #[.int .i64 0, .slice (some ⟨B1, 0, none⟩) 2 2, .bool false, .int .i64 4, .slice (some ⟨B2, 0, none⟩) 1 1, .bool false] 36)), (6, .blk B5 (.cells #[.slice h6.n.a h6.n.l.length h6.n.cap, .int .u64 h6.lost] 27)), (9, .blk B7 (.cells #[.int .i64 q6.to, .slice q6.r.a q6.r.l.length q6.r.cap, .bool q6.sp] 36)), (10, .blk B8 (.cells #[.slice none 0 0, .int .u64 0] 27)), (11, .blk B9 (.cells #[.int .i64 0, .slice none 0 0, .bool false] 36))] (sub_cons rfl (sub_cons rfl (sub_cons rfl (sub_cons rfl (sub_cons rfl (sub_cons rfl (sub_cons rfl sub_nil))))))) (sub_cons rfl (sub_cons rfl (sub_cons rfl (sub_cons rfl (sub_cons rfl (sub_cons rfl (sub_cons rfl (sub_cons rfl (sub_cons rfl (sub_cons rfl (sub_cons rfl sub_nil))))))))))) ?_
  refine T_seq (T_region ?_)
  refine TL_q (.agg #[.slice h6.n.a h6.n.l.length h6.n.cap, .int .u64 h6.lost]) (fun _ _ hρ hm => r_loadA ag27 sz27 (hρ _ _ rfl) (hm.at 6 rfl) rfl rfl) rfl rfl rfl (w_n rfl) ?_
  refine TL_q (.agg #[.int .i64 3, .int .i64 0, .int .i64 0, .int .u32 0]) (fun _ _ hρ _ => r_build (vs := [(0, .int .i64 3)]) (by kernel_rfl) (cons2 (pair2 (hρ _ _ rfl)) rfl)) rfl rfl rfl (w_n rfl) ?_
  refine TL_callN (fun x : Hd × List (RowG By) × Pcl => NetIs wk2 (x.1, x.2.1) ∧ x.2.2.pv = toldV (doV wk1 ⟨3, 0, 0, 0#32⟩).2.2 ∧ (x.2.2.r ∈ x.2.1 ∧ x.2.2.r.l.length ≤ 10000 ∨ x.2.2.r = ⟨none, 0, []⟩)) (fun (h10, bs10, q10) => .tuple #[.agg #[.slice h10.n.a h10.n.l.length h10.n.cap, .int .u64 h10.lost], .agg #[.int .i64 q10.to, .slice q10.r.a q10.r.l.length q10.r.cap, .bool q10.sp], .int .i64 0]) (fun (h10, bs10, q10) => [(12, .row (.slice h10.n.a h10.n.l.length h10.n.cap) 36 3 h10.n.l.length (h10.n.l.flatMap Pcl.cells)), (13, .pool 5 1 byc bs10)]) (fun _ _ hρ _ => r_call (args := [.agg #[.slice h6.n.a h6.n.l.length h6.n.cap, .int .u64 h6.lost], .agg #[.int .i64 3, .int .i64 0, .int .i64 0, .int .u32 0]]) (enters_of Try.func23 (by kernel_rfl) rfl) (hρ _ _ rfl) ((cons2 (hρ _ _ rfl) (cons2 (hρ _ _ rfl) rfl))) rfl) (fun w hm => (do_ok h6.n.l h6.n.a h6.n.cap h6.lost 3 0 0 (0#32) w (SliceAt.own Pcl.cells_len (hm.row 7 rfl) rfl rfl) (row_cap (hm.row 7 rfl)) (pcs_pool (hm.pool 8 rfl) hk6.ok.inN) hk6.ok.lost0 (chk_of hk6.nv (by decide +kernel)) (doe_of hk6.nv (by decide +kernel))).mono fun e w' ⟨⟨h, bs⟩, q, hk, ht, hi, he, hb, hn⟩ => ⟨(h, bs, q), ⟨netis_of hk6.nv hk, told_of hk6.nv ht, hi⟩, he, hb, newOk2 12 13 hn.row hn.pool hn.sep⟩) rfl rfl rfl (w_n rfl) ?_
  rintro ⟨h10, bs10, q10⟩ ⟨hk10, hq10, hi10⟩
  refine TL_q (.tuple #[.agg #[.slice h10.n.a h10.n.l.length h10.n.cap, .int .u64 h10.lost], .agg #[.int .i64 q10.to, .slice q10.r.a q10.r.l.length q10.r.cap, .bool q10.sp], .int .i64 0]) (fun _ _ hρ _ => r_move (hρ _ _ rfl)) rfl rfl rfl (w_n rfl) ?_
  refine TL_q (.agg #[.slice h10.n.a h10.n.l.length h10.n.cap, .int .u64 h10.lost]) (fun _ _ hρ _ => r_extract (hρ _ _ rfl) rfl) rfl rfl rfl (w_n rfl) ?_
  refine TL_q (.agg #[.int .i64 q10.to, .slice q10.r.a q10.r.l.length q10.r.cap, .bool q10.sp]) (fun _ _ hρ _ => r_extract (hρ _ _ rfl) rfl) rfl rfl rfl (w_n rfl) ?_
  refine TL_q (.int .i64 0) (fun _ _ hρ _ => r_extract (hρ _ _ rfl) rfl) rfl rfl rfl (w_n rfl) ?_
  refine TL_new 14 (.cells #[.int .i64 0, .slice none 0 0, .bool false] 36) (fun B => .pointer (some ⟨B, 0, none⟩)) (fun _ _ _ _ => r_alloc (v := .agg #[.int .i64 0, .slice none 0 0, .bool false]) (by kernel_rfl) rfl) rfl rfl rfl (w_n rfl) ?_
  intro B11
  refine TL_store 6 (.cells #[.slice h10.n.a h10.n.l.length h10.n.cap, .int .u64 h10.lost] 27) rfl (fun _ _ hρ hm => r_store sz27 (hρ _ _ rfl) (hρ _ _ rfl) (hm.at 6 rfl) rfl rfl rfl rfl) rfl rfl (w_n rfl) ?_
  refine TL_store 14 (.cells #[.int .i64 q10.to, .slice q10.r.a q10.r.l.length q10.r.cap, .bool q10.sp] 36) rfl (fun _ _ hρ hm => r_store sz36 (hρ _ _ rfl) (hρ _ _ rfl) (hm.at 14 rfl) rfl rfl rfl rfl) rfl rfl (w_n rfl) ?_
  refine TL_q (.int .i64 0) (fun _ _ hρ _ => r_assign (hρ _ _ rfl)) rfl rfl rfl (w_n rfl) ?_
  refine TL_seq ?_
  refine T_seq (T_region ?_)
  refine TL_q (.agg #[.slice h10.n.a h10.n.l.length h10.n.cap, .int .u64 h10.lost]) (fun _ _ hρ hm => r_loadA ag27 sz27 (hρ _ _ rfl) (hm.at 6 rfl) rfl rfl) rfl rfl rfl (w_n rfl) ?_
  refine TL_q (.agg #[.int .i64 1, .int .i64 2, .int .i64 0, .int .u32 0]) (fun _ _ hρ _ => r_build (vs := [(0, .int .i64 1), (1, .int .i64 2)]) (by kernel_rfl) (cons2 (pair2 (hρ _ _ rfl)) (cons2 (pair2 (hρ _ _ rfl)) rfl))) rfl rfl rfl (w_n rfl) ?_
  refine TL_callN (fun x : Hd × List (RowG By) × Pcl => NetIs wk3 (x.1, x.2.1) ∧ x.2.2.pv = toldV (doV wk2 ⟨1, 2, 0, 0#32⟩).2.2 ∧ (x.2.2.r ∈ x.2.1 ∧ x.2.2.r.l.length ≤ 10000 ∨ x.2.2.r = ⟨none, 0, []⟩)) (fun (h12, bs12, q12) => .tuple #[.agg #[.slice h12.n.a h12.n.l.length h12.n.cap, .int .u64 h12.lost], .agg #[.int .i64 q12.to, .slice q12.r.a q12.r.l.length q12.r.cap, .bool q12.sp], .int .i64 0]) (fun (h12, bs12, q12) => [(15, .row (.slice h12.n.a h12.n.l.length h12.n.cap) 36 3 h12.n.l.length (h12.n.l.flatMap Pcl.cells)), (16, .pool 5 1 byc bs12)]) (fun _ _ hρ _ => r_call (args := [.agg #[.slice h10.n.a h10.n.l.length h10.n.cap, .int .u64 h10.lost], .agg #[.int .i64 1, .int .i64 2, .int .i64 0, .int .u32 0]]) (enters_of Try.func23 (by kernel_rfl) rfl) (hρ _ _ rfl) ((cons2 (hρ _ _ rfl) (cons2 (hρ _ _ rfl) rfl))) rfl) (fun w hm => (do_ok h10.n.l h10.n.a h10.n.cap h10.lost 1 2 0 (0#32) w (SliceAt.own Pcl.cells_len (hm.row 12 rfl) rfl rfl) (row_cap (hm.row 12 rfl)) (pcs_pool (hm.pool 13 rfl) hk10.ok.inN) hk10.ok.lost0 (chk_of hk10.nv (by decide +kernel)) (doe_of hk10.nv (by decide +kernel))).mono fun e w' ⟨⟨h, bs⟩, q, hk, ht, hi, he, hb, hn⟩ => ⟨(h, bs, q), ⟨netis_of hk10.nv hk, told_of hk10.nv ht, hi⟩, he, hb, newOk2 15 16 hn.row hn.pool hn.sep⟩) rfl rfl rfl (w_n rfl) ?_
  rintro ⟨h12, bs12, q12⟩ ⟨hk12, hq12, hi12⟩
  refine TL_q (.tuple #[.agg #[.slice h12.n.a h12.n.l.length h12.n.cap, .int .u64 h12.lost], .agg #[.int .i64 q12.to, .slice q12.r.a q12.r.l.length q12.r.cap, .bool q12.sp], .int .i64 0]) (fun _ _ hρ _ => r_move (hρ _ _ rfl)) rfl rfl rfl (w_n rfl) ?_
  refine TL_q (.agg #[.slice h12.n.a h12.n.l.length h12.n.cap, .int .u64 h12.lost]) (fun _ _ hρ _ => r_extract (hρ _ _ rfl) rfl) rfl rfl rfl (w_n rfl) ?_
  refine TL_q (.agg #[.int .i64 q12.to, .slice q12.r.a q12.r.l.length q12.r.cap, .bool q12.sp]) (fun _ _ hρ _ => r_extract (hρ _ _ rfl) rfl) rfl rfl rfl (w_n rfl) ?_
  refine TL_q (.int .i64 0) (fun _ _ hρ _ => r_extract (hρ _ _ rfl) rfl) rfl rfl rfl (w_n rfl) ?_
  refine TL_new 17 (.cells #[.slice none 0 0, .int .u64 0] 27) (fun B => .pointer (some ⟨B, 0, none⟩)) (fun _ _ _ _ => r_alloc (v := .agg #[.slice none 0 0, .int .u64 0]) (by kernel_rfl) rfl) rfl rfl rfl (w_n rfl) ?_
  intro B13
  refine TL_new 18 (.cells #[.int .i64 0, .slice none 0 0, .bool false] 36) (fun B => .pointer (some ⟨B, 0, none⟩)) (fun _ _ _ _ => r_alloc (v := .agg #[.int .i64 0, .slice none 0 0, .bool false]) (by kernel_rfl) rfl) rfl rfl rfl (w_n rfl) ?_
  intro B14
  refine TL_store 17 (.cells #[.slice h12.n.a h12.n.l.length h12.n.cap, .int .u64 h12.lost] 27) rfl (fun _ _ hρ hm => r_store sz27 (hρ _ _ rfl) (hρ _ _ rfl) (hm.at 17 rfl) rfl rfl rfl rfl) rfl rfl (w_n rfl) ?_
  refine TL_store 18 (.cells #[.int .i64 q12.to, .slice q12.r.a q12.r.l.length q12.r.cap, .bool q12.sp] 36) rfl (fun _ _ hρ hm => r_store sz36 (hρ _ _ rfl) (hρ _ _ rfl) (hm.at 18 rfl) rfl rfl rfl rfl) rfl rfl (w_n rfl) ?_
  refine TL_q (.int .i64 0) (fun _ _ hρ _ => r_assign (hρ _ _ rfl)) rfl rfl rfl (w_n rfl) ?_
  refine TL_seq ?_
  refine T_seq (T_region ?_)
  refine TL_q (.agg #[.slice h10.n.a h10.n.l.length h10.n.cap, .int .u64 h10.lost]) (fun _ _ hρ hm => r_loadA ag27 sz27 (hρ _ _ rfl) (hm.at 6 rfl) rfl rfl) rfl rfl rfl (w_n rfl) ?_
  refine TL_q (.agg #[.int .i64 2, .int .i64 9, .int .i64 0, .int .u32 0]) (fun _ _ hρ _ => r_build (vs := [(0, .int .i64 2), (1, .int .i64 9)]) (by kernel_rfl) (cons2 (pair2 (hρ _ _ rfl)) (cons2 (pair2 (hρ _ _ rfl)) rfl))) rfl rfl rfl (w_n rfl) ?_
  refine TL_call (.tuple #[.agg #[.slice none 0 0, .int .u64 0], .agg #[.int .i64 0, .slice none 0 0, .bool false], .int .i64 4]) (fun _ _ hρ _ => r_call (args := [.agg #[.slice h10.n.a h10.n.l.length h10.n.cap, .int .u64 h10.lost], .agg #[.int .i64 2, .int .i64 9, .int .i64 0, .int .u32 0]]) (enters_of Try.func23 (by kernel_rfl) rfl) (hρ _ _ rfl) ((cons2 (hρ _ _ rfl) (cons2 (hρ _ _ rfl) rfl))) rfl) (fun w hm => do_err h10.n.l h10.n.a h10.n.cap h10.lost 2 9 0 (0#32) w (SliceAt.own Pcl.cells_len (hm.row 12 rfl) rfl rfl) (row_cap (hm.row 12 rfl)) (pcs_pool (hm.pool 13 rfl) hk10.ok.inN) 4 hk10.ok.lost0 (chk_of hk10.nv (by decide +kernel)) (doe_of hk10.nv (by decide +kernel)) (by decide)) rfl rfl rfl (w_n rfl) ?_
  refine TL_q (.tuple #[.agg #[.slice none 0 0, .int .u64 0], .agg #[.int .i64 0, .slice none 0 0, .bool false], .int .i64 4]) (fun _ _ hρ _ => r_move (hρ _ _ rfl)) rfl rfl rfl (w_n rfl) ?_
  refine TL_q (.agg #[.slice none 0 0, .int .u64 0]) (fun _ _ hρ _ => r_extract (hρ _ _ rfl) rfl) rfl rfl rfl (w_n rfl) ?_
  refine TL_q (.agg #[.int .i64 0, .slice none 0 0, .bool false]) (fun _ _ hρ _ => r_extract (hρ _ _ rfl) rfl) rfl rfl rfl (w_n rfl) ?_
  refine TL_q (.int .i64 4) (fun _ _ hρ _ => r_extract (hρ _ _ rfl) rfl) rfl rfl rfl (w_n rfl) ?_
  refine TL_new 19 (.cells #[.slice none 0 0, .int .u64 0] 27) (fun B => .pointer (some ⟨B, 0, none⟩)) (fun _ _ _ _ => r_alloc (v := .agg #[.slice none 0 0, .int .u64 0]) (by kernel_rfl) rfl) rfl rfl rfl (w_n rfl) ?_
  intro B15
  refine TL_new 20 (.cells #[.int .i64 0, .slice none 0 0, .bool false] 36) (fun B => .pointer (some ⟨B, 0, none⟩)) (fun _ _ _ _ => r_alloc (v := .agg #[.int .i64 0, .slice none 0 0, .bool false]) (by kernel_rfl) rfl) rfl rfl rfl (w_n rfl) ?_
  intro B16
  refine TL_store 19 (.cells #[.slice none 0 0, .int .u64 0] 27) rfl (fun _ _ hρ hm => r_store sz27 (hρ _ _ rfl) (hρ _ _ rfl) (hm.at 19 rfl) rfl rfl rfl rfl) rfl rfl (w_n rfl) ?_
  refine TL_store 20 (.cells #[.int .i64 0, .slice none 0 0, .bool false] 36) rfl (fun _ _ hρ hm => r_store sz36 (hρ _ _ rfl) (hρ _ _ rfl) (hm.at 20 rfl) rfl rfl rfl rfl) rfl rfl (w_n rfl) ?_
  refine TL_q (.int .i64 4) (fun _ _ hρ _ => r_assign (hρ _ _ rfl)) rfl rfl rfl (w_n rfl) ?_
  refine TL_seq ?_
  refine T_seq (T_region ?_)
  refine TL_q (.agg #[.slice h10.n.a h10.n.l.length h10.n.cap, .int .u64 h10.lost]) (fun _ _ hρ hm => r_loadA ag27 sz27 (hρ _ _ rfl) (hm.at 6 rfl) rfl rfl) rfl rfl rfl (w_n rfl) ?_
  refine TL_callN (fun x : Hd × List (RowG By) => Emptied h10.n.l h10.lost x) (fun (h17, bs17) => .tuple #[.agg #[.slice h17.n.a h17.n.l.length h17.n.cap, .int .u64 h17.lost], .slice h17.t.a h17.t.l.length h17.t.cap, .int .i64 0]) (fun (h17, bs17) => [(21, .row (.slice h17.n.a h17.n.l.length h17.n.cap) 36 3 h17.n.l.length (h17.n.l.flatMap Pcl.cells)), (22, .row (.slice h17.t.a h17.t.l.length h17.t.cap) 36 3 h17.t.l.length (h17.t.l.flatMap Pcl.cells)), (23, .pool 5 1 byc bs17)]) (fun _ _ hρ _ => r_call (args := [.agg #[.slice h10.n.a h10.n.l.length h10.n.cap, .int .u64 h10.lost]]) (enters_of Try.func15 (by kernel_rfl) rfl) (hρ _ _ rfl) ((cons2 (hρ _ _ rfl) rfl)) rfl) (fun w hm => (empty_ok h10.n.l h10.n.a h10.n.cap h10.lost w (SliceAt.own Pcl.cells_len (hm.row 12 rfl) rfl rfl) (row_cap (hm.row 12 rfl)) (pcs_pool (hm.pool 13 rfl) hk10.ok.inN) hk10.ok.lost0 (chk_of hk10.nv (by decide +kernel))).mono fun e w' ⟨x, hx, he, hb, r1, r2, r3, s1, s2, s3⟩ => ⟨x, hx, he, hb, newOk3 21 22 23 r1 r2 r3 s1 s2 s3⟩) rfl rfl rfl (w_n rfl) ?_
  rintro ⟨h17, bs17⟩ hem17
  refine TL_q (.tuple #[.agg #[.slice h17.n.a h17.n.l.length h17.n.cap, .int .u64 h17.lost], .slice h17.t.a h17.t.l.length h17.t.cap, .int .i64 0]) (fun _ _ hρ _ => r_move (hρ _ _ rfl)) rfl rfl rfl (w_n rfl) ?_
  refine TL_q (.agg #[.slice h17.n.a h17.n.l.length h17.n.cap, .int .u64 h17.lost]) (fun _ _ hρ _ => r_extract (hρ _ _ rfl) rfl) rfl rfl rfl (w_n rfl) ?_
  refine TL_q (.slice h17.t.a h17.t.l.length h17.t.cap) (fun _ _ hρ _ => r_extract (hρ _ _ rfl) rfl) rfl rfl rfl (w_n rfl) ?_
  refine TL_q (.int .i64 0) (fun _ _ hρ _ => r_extract (hρ _ _ rfl) rfl) rfl rfl rfl (w_n rfl) ?_
  refine TL_new 24 (.cells #[.slice none 0 0, .int .u64 0] 27) (fun B => .pointer (some ⟨B, 0, none⟩)) (fun _ _ _ _ => r_alloc (v := .agg #[.slice none 0 0, .int .u64 0]) (by kernel_rfl) rfl) rfl rfl rfl (w_n rfl) ?_
  intro B18
  refine TL_store 24 (.cells #[.slice h17.n.a h17.n.l.length h17.n.cap, .int .u64 h17.lost] 27) rfl (fun _ _ hρ hm => r_store sz27 (hρ _ _ rfl) (hρ _ _ rfl) (hm.at 24 rfl) rfl rfl rfl rfl) rfl rfl (w_n rfl) ?_
  refine TL_q (.slice h17.t.a h17.t.l.length h17.t.cap) (fun _ _ hρ _ => r_assign (hρ _ _ rfl)) rfl rfl rfl (w_n rfl) ?_
  refine TL_q (.int .i64 0) (fun _ _ hρ _ => r_assign (hρ _ _ rfl)) rfl rfl rfl (w_n rfl) ?_
  refine TL_seq ?_
  refine T_sub [(0, .bool false), (1, .pointer (some ⟨B5, 0, none⟩)), (2, .int .i64 0), (3, .int .i64 1), (4, .bool true), (6, .int .i64 0), (9, .int .i64 5), (11, .int .i64 0), (12, .pointer (some ⟨B13, 0, none⟩)), (13, .pointer (some ⟨B14, 0, none⟩)), (14, .int .i64 0), (17, .int .i64 4), (19, .slice h17.t.a h17.t.l.length h17.t.cap), (20, .int .i64 0)] [(21, .row (.slice h17.n.a h17.n.l.length h17.n.cap) 36 3 h17.n.l.length (h17.n.l.flatMap Pcl.cells)), (22, .row (.slice h17.t.a h17.t.l.length h17.t.cap) 36 3 h17.t.l.length (h17.t.l.flatMap Pcl.cells)), (23, .pool 5 1 byc bs17), (15, .row (.slice h12.n.a h12.n.l.length h12.n.cap) 36 3 h12.n.l.length (h12.n.l.flatMap Pcl.cells)), (16, .pool 5 1 byc bs12), (12, .row (.slice h10.n.a h10.n.l.length h10.n.cap) 36 3 h10.n.l.length (h10.n.l.flatMap Pcl.cells)), (13, .pool 5 1 byc bs10), (7, .row (.slice h6.n.a h6.n.l.length h6.n.cap) 36 3 h6.n.l.length (h6.n.l.flatMap Pcl.cells)), (8, .pool 5 1 byc bs6), (4, .row (.slice h4.n.a h4.n.l.length h4.n.cap) 36 3 h4.n.l.length (h4.n.l.flatMap Pcl.cells)), (5, .pool 5 1 byc bs4), (1, .blk B1 (.cells #[.int .u8 1, .int .u8 2] 5)), (2, .blk B2 (.cells #[.int .u8 3] 5)), (3, .blk B3 (.cells #[.int .i64 0, .slice (some ⟨B1, 0, none⟩) 2 2, .bool false, .int .i64 4, .slice (some ⟨B2, 0, none⟩) 1 1, .bool false] 36)), (9, .blk B7 (.cells #[.int .i64 q6.to, .slice q6.r.a q6.r.l.length q6.r.cap, .bool q6.sp] 36)), (10, .blk B8 (.cells #[.slice none 0 0, .int .u64 0] 27)), (11, .blk B9 (.cells #[.int .i64 0, .slice none 0 0, .bool false] 36)), (6, .blk B5 (.cells #[.slice h10.n.a h10.n.l.length h10.n.cap, .int .u64 h10.lost] 27)), (14, .blk B11 (.cells #[.int .i64 q10.to, .slice q10.r.a q10.r.l.length q10.r.cap, .bool q10.sp] 36)), (17, .blk B13 (.cells #[.slice h12.n.a h12.n.l.length h12.n.cap, .int .u64 h12.lost] 27)), (18, .blk B14 (.cells #[.int .i64 q12.to, .slice q12.r.a q12.r.l.length q12.r.cap, .bool q12.sp] 36)), (19, .blk B15 (.cells #[.slice none 0 0, .int .u64 0] 27)), (20, .blk B16 (.cells #[.int .i64 0, .slice none 0 0, .bool false] 36)), (24, .blk B18 (.cells #[.slice h17.n.a h17.n.l.length h17.n.cap, .int .u64 h17.lost] 27))] (sub_cons rfl (sub_cons rfl (sub_cons rfl (sub_cons rfl (sub_cons rfl (sub_cons rfl (sub_cons rfl (sub_cons rfl (sub_cons rfl (sub_cons rfl (sub_cons rfl (sub_cons rfl (sub_cons rfl (sub_cons rfl sub_nil)))))))))))))) (sub_cons rfl (sub_cons rfl (sub_cons rfl (sub_cons rfl (sub_cons rfl (sub_cons rfl (sub_cons rfl (sub_cons rfl (sub_cons rfl (sub_cons rfl (sub_cons rfl (sub_cons rfl (sub_cons rfl (sub_cons rfl (sub_cons rfl (sub_cons rfl (sub_cons rfl (sub_cons rfl (sub_cons rfl (sub_cons rfl (sub_cons rfl (sub_cons rfl (sub_cons rfl (sub_cons rfl sub_nil)))))))))))))))))))))))) ?_
  have hl3 : h10.n.l.length = 3 := net_len hk10.nv (show wk2.1.length = 3 from by decide +kernel)
  have hl2 : h12.n.l.length = 2 := net_len hk12.nv (show wk3.1.length = 2 from by decide +kernel)
  have hle : h17.t.l.length = 3 := by rw [← pvs_len, hem17.told, pvs_len]; exact hl3
  have hqv : q12.pv = ⟨0, [0#8, 2#8], true⟩ := hq12.trans (by decide +kernel)
  have hqs : q12.sp = true := congrArg PV.sp hqv
  have hqb : q12.r.l = [0#8, 2#8] := congrArg PV.l hqv
  have hqn : q12.r.l.length = 2 := by rw [hqb]; rfl
  refine T_seq (T_region ?_)
  refine TL_q (.int .i64 0) (fun _ _ hρ _ => r_move (hρ _ _ rfl)) rfl rfl rfl (w_n rfl) ?_
  refine TL_q (.bool true) (fun _ _ hρ _ => r_as (r_eql (hρ _ _ rfl) (hρ _ _ rfl)) (by rfl)) rfl rfl rfl (w_n rfl) ?_
  refine TL_q (.bool true) (fun _ _ hρ _ => r_move (hρ _ _ rfl)) rfl rfl rfl (w_n rfl) ?_
  refine TL_q (.int .i64 0) (fun _ _ hρ _ => r_move (hρ _ _ rfl)) rfl rfl rfl (want_y 79 rfl rfl rfl) ?_
  refine TL_q (.bool true) (fun _ _ hρ _ => r_as (r_eql (hρ _ _ rfl) (hρ _ _ rfl)) (by rfl)) rfl rfl rfl (want_y 79 rfl rfl rfl) ?_
  refine TL_q (.bool true) (fun _ _ hρ _ => r_pick_t (hρ _ _ rfl) (hρ _ _ rfl)) rfl rfl rfl (w_n rfl) ?_
  refine TL_q (.bool true) (fun _ _ hρ _ => r_move (hρ _ _ rfl)) rfl rfl rfl (w_n rfl) ?_
  refine TL_q (.int .i64 0) (fun _ _ hρ _ => r_move (hρ _ _ rfl)) rfl rfl rfl (want_y 83 rfl rfl rfl) ?_
  refine TL_q (.bool true) (fun _ _ hρ _ => r_as (r_eql (hρ _ _ rfl) (hρ _ _ rfl)) (by rfl)) rfl rfl rfl (want_y 83 rfl rfl rfl) ?_
  refine TL_q (.bool true) (fun _ _ hρ _ => r_pick_t (hρ _ _ rfl) (hρ _ _ rfl)) rfl rfl rfl (w_n rfl) ?_
  refine TL_q (.bool true) (fun _ _ hρ _ => r_move (hρ _ _ rfl)) rfl rfl rfl (w_n rfl) ?_
  refine TL_q (.int .i64 0) (fun _ _ hρ _ => r_move (hρ _ _ rfl)) rfl rfl rfl (want_y 87 rfl rfl rfl) ?_
  refine TL_q (.bool true) (fun _ _ hρ _ => r_as (r_eql (hρ _ _ rfl) (hρ _ _ rfl)) (by rfl)) rfl rfl rfl (want_y 87 rfl rfl rfl) ?_
  refine TL_q (.bool true) (fun _ _ hρ _ => r_pick_t (hρ _ _ rfl) (hρ _ _ rfl)) rfl rfl rfl (w_n rfl) ?_
  refine TL_q (.bool true) (fun _ _ hρ _ => r_move (hρ _ _ rfl)) rfl rfl rfl (w_n rfl) ?_
  refine TL_q (.int .i64 0) (fun _ _ hρ _ => r_move (hρ _ _ rfl)) rfl rfl rfl (want_y 91 rfl rfl rfl) ?_
  refine TL_q (.bool true) (fun _ _ hρ _ => r_as (r_eql (hρ _ _ rfl) (hρ _ _ rfl)) (by rfl)) rfl rfl rfl (want_y 91 rfl rfl rfl) ?_
  refine TL_q (.bool true) (fun _ _ hρ _ => r_pick_t (hρ _ _ rfl) (hρ _ _ rfl)) rfl rfl rfl (w_n rfl) ?_
  refine TL_q (.bool true) (fun _ _ hρ _ => r_move (hρ _ _ rfl)) rfl rfl rfl (w_n rfl) ?_
  refine TL_q (.int .i64 5) (fun _ _ hρ _ => r_move (hρ _ _ rfl)) rfl rfl rfl (want_y 95 rfl rfl rfl) ?_
  refine TL_q (.bool true) (fun _ _ hρ _ => r_as (r_eql (hρ _ _ rfl) (hρ _ _ rfl)) (by rfl)) rfl rfl rfl (want_y 95 rfl rfl rfl) ?_
  refine TL_q (.bool true) (fun _ _ hρ _ => r_pick_t (hρ _ _ rfl) (hρ _ _ rfl)) rfl rfl rfl (w_n rfl) ?_
  refine TL_q (.bool true) (fun _ _ hρ _ => r_move (hρ _ _ rfl)) rfl rfl rfl (w_n rfl) ?_
  refine TL_q (.int .i64 4) (fun _ _ hρ _ => r_move (hρ _ _ rfl)) rfl rfl rfl (want_y 99 rfl rfl rfl) ?_
  refine TL_q (.bool true) (fun _ _ hρ _ => r_as (r_eql (hρ _ _ rfl) (hρ _ _ rfl)) (by rfl)) rfl rfl rfl (want_y 99 rfl rfl rfl) ?_
  refine TL_q (.bool true) (fun _ _ hρ _ => r_pick_t (hρ _ _ rfl) (hρ _ _ rfl)) rfl rfl rfl (w_n rfl) ?_
  refine TL_q (.bool true) (fun _ _ hρ _ => r_move (hρ _ _ rfl)) rfl rfl rfl (w_n rfl) ?_
  refine TL_q (.int .i64 1) (fun _ _ hρ _ => r_move (hρ _ _ rfl)) rfl rfl rfl (want_y 103 rfl rfl rfl) ?_
  refine TL_q (.bool true) (fun _ _ hρ _ => r_as (r_eql (hρ _ _ rfl) (hρ _ _ rfl)) (by rfl)) rfl rfl rfl (want_y 103 rfl rfl rfl) ?_
  refine TL_q (.bool true) (fun _ _ hρ _ => r_pick_t (hρ _ _ rfl) (hρ _ _ rfl)) rfl rfl rfl (w_n rfl) ?_
  refine TL_q (.bool true) (fun _ _ hρ _ => r_move (hρ _ _ rfl)) rfl rfl rfl (w_n rfl) ?_
  refine TL_q (.bool true) (fun _ _ hρ _ => r_move (hρ _ _ rfl)) rfl rfl rfl (want_y 107 rfl rfl rfl) ?_
  refine TL_q (.bool true) (fun _ _ hρ _ => r_pick_t (hρ _ _ rfl) (hρ _ _ rfl)) rfl rfl rfl (w_n rfl) ?_
  refine TL_q (.bool true) (fun _ _ hρ _ => r_move (hρ _ _ rfl)) rfl rfl rfl (w_n rfl) ?_
  refine TL_q (.pointer (some ⟨B5, 0, none⟩)) (fun _ _ hρ _ => r_fieldAddr fl27_0 sz22 (hρ _ _ rfl)) rfl rfl rfl (want_y 110 rfl rfl rfl) ?_
  refine TL_q (.slice h10.n.a h10.n.l.length h10.n.cap) (fun _ _ hρ hm => r_load ag22 (hρ _ _ rfl) (hm.at 6 rfl) rfl) rfl rfl rfl (want_y 110 rfl rfl rfl) ?_
  refine TL_q (.int .i64 ((h10.n.l.length : Nat) : Int)) (fun _ _ hρ _ => r_len sl22 (hρ _ _ rfl)) rfl rfl rfl (want_y 110 rfl rfl rfl) ?_
  refine TL_q (.bool true) (fun _ _ hρ _ => r_as (r_eql (hρ _ _ rfl) (hρ _ _ rfl)) (bool_as (decide_eq_true (by omega)))) rfl rfl rfl (want_y 110 rfl rfl rfl) ?_
  refine TL_q (.bool true) (fun _ _ hρ _ => r_pick_t (hρ _ _ rfl) (hρ _ _ rfl)) rfl rfl rfl (w_n rfl) ?_
  refine TL_q (.bool true) (fun _ _ hρ _ => r_move (hρ _ _ rfl)) rfl rfl rfl (w_n rfl) ?_
  refine TL_q (.pointer (some ⟨B13, 0, none⟩)) (fun _ _ hρ _ => r_fieldAddr fl27_0 sz22 (hρ _ _ rfl)) rfl rfl rfl (want_y 116 rfl rfl rfl) ?_
  refine TL_q (.slice h12.n.a h12.n.l.length h12.n.cap) (fun _ _ hρ hm => r_load ag22 (hρ _ _ rfl) (hm.at 17 rfl) rfl) rfl rfl rfl (want_y 116 rfl rfl rfl) ?_
  refine TL_q (.int .i64 ((h12.n.l.length : Nat) : Int)) (fun _ _ hρ _ => r_len sl22 (hρ _ _ rfl)) rfl rfl rfl (want_y 116 rfl rfl rfl) ?_
  refine TL_q (.bool true) (fun _ _ hρ _ => r_as (r_eql (hρ _ _ rfl) (hρ _ _ rfl)) (bool_as (decide_eq_true (by omega)))) rfl rfl rfl (want_y 116 rfl rfl rfl) ?_
  refine TL_q (.bool true) (fun _ _ hρ _ => r_pick_t (hρ _ _ rfl) (hρ _ _ rfl)) rfl rfl rfl (w_n rfl) ?_
  refine TL_q (.bool true) (fun _ _ hρ _ => r_move (hρ _ _ rfl)) rfl rfl rfl (w_n rfl) ?_
  refine TL_q (.pointer (some ⟨B14, 2, none⟩)) (fun _ _ hρ _ => r_fieldAddr fl36_2 sz4 (hρ _ _ rfl)) rfl rfl rfl (want_y 122 rfl rfl rfl) ?_
  refine TL_q (.bool true) (fun _ _ hρ hm => r_as (r_load ag4 (hρ _ _ rfl) (hm.at 18 rfl) rfl) (bool_as hqs)) rfl rfl rfl (want_y 122 rfl rfl rfl) ?_
  refine TL_q (.bool true) (fun _ _ hρ _ => r_pick_t (hρ _ _ rfl) (hρ _ _ rfl)) rfl rfl rfl (w_n rfl) ?_
  refine TL_q (.bool true) (fun _ _ hρ _ => r_move (hρ _ _ rfl)) rfl rfl rfl (w_n rfl) ?_
  refine TL_q (.pointer (some ⟨B14, 1, none⟩)) (fun _ _ hρ _ => r_fieldAddr fl36_1 sz34 (hρ _ _ rfl)) rfl rfl rfl (want_y 126 rfl rfl rfl) ?_
  refine TL_q (.slice q12.r.a q12.r.l.length q12.r.cap) (fun _ _ hρ hm => r_load ag34 (hρ _ _ rfl) (hm.at 18 rfl) rfl) rfl rfl rfl (want_y 126 rfl rfl rfl) ?_
  refine TL_new 25 (.cells #[.int .u8 0, .int .u8 2] 5) (fun B => .slice (some ⟨B, 0, none⟩) 2 2) (fun _ _ hρ _ => r_buildSlice (vs := [(0, .int .u8 0), (1, .int .u8 2)]) (by kernel_rfl) (cons2 (pair2 (hρ _ _ rfl)) (cons2 (pair2 (hρ _ _ rfl)) rfl))) rfl rfl rfl (want_y 126 rfl rfl rfl) ?_
  intro B19
  refine TL_call (.bool true) (fun _ _ hρ _ => r_call (args := [.slice q12.r.a q12.r.l.length q12.r.cap, .slice (some ⟨B19, 0, none⟩) 2 2]) (enters_of Try.func16 (by kernel_rfl) rfl) (hρ _ _ rfl) ((cons2 (hρ _ _ rfl) (cons2 (hρ _ _ rfl) rfl))) rfl) (fun w hm => (equal_b q12.r.l [0#8, 2#8] q12.r.a (some ⟨B19, 0, none⟩) q12.r.cap 2 w (told_at (hm.pool 16 rfl) hi12) ⟨Nat.le_of_ble_eq_true rfl, (fun e => by cases e), .inr ⟨_, 0, _, _, _, rfl, (hm.at 25 rfl), row_of_take (fun _ => rfl) rfl⟩⟩ (by omega) (Nat.le_of_ble_eq_true rfl)).mono fun _ _ h => ⟨h.1.trans (congrArg Ending.returned (bool_as (decide_eq_true hqb))), h.2⟩) rfl rfl rfl (want_y 126 rfl rfl rfl) ?_
  refine TL_q (.bool true) (fun _ _ hρ _ => r_pick_t (hρ _ _ rfl) (hρ _ _ rfl)) rfl rfl rfl (w_n rfl) ?_
  refine TL_q (.bool true) (fun _ _ hρ _ => r_move (hρ _ _ rfl)) rfl rfl rfl (w_n rfl) ?_
  refine TL_q (.slice h17.t.a h17.t.l.length h17.t.cap) (fun _ _ hρ _ => r_move (hρ _ _ rfl)) rfl rfl rfl (want_y 132 rfl rfl rfl) ?_
  refine TL_q (.int .i64 ((h17.t.l.length : Nat) : Int)) (fun _ _ hρ _ => r_len sl22 (hρ _ _ rfl)) rfl rfl rfl (want_y 132 rfl rfl rfl) ?_
  refine TL_q (.bool true) (fun _ _ hρ _ => r_as (r_eql (hρ _ _ rfl) (hρ _ _ rfl)) (bool_as (decide_eq_true (by omega)))) rfl rfl rfl (want_y 132 rfl rfl rfl) ?_
  refine TL_q (.bool true) (fun _ _ hρ _ => r_pick_t (hρ _ _ rfl) (hρ _ _ rfl)) rfl rfl rfl (w_n rfl) ?_
  refine TL_q (.bool true) (fun _ _ hρ _ => r_assign (hρ _ _ rfl)) rfl rfl rfl (w_n rfl) ?_
  refine TL_seq ?_
  refine T_sub [(0, .bool true)] [(21, .row (.slice h17.n.a h17.n.l.length h17.n.cap) 36 3 h17.n.l.length (h17.n.l.flatMap Pcl.cells)), (22, .row (.slice h17.t.a h17.t.l.length h17.t.cap) 36 3 h17.t.l.length (h17.t.l.flatMap Pcl.cells)), (23, .pool 5 1 byc bs17), (15, .row (.slice h12.n.a h12.n.l.length h12.n.cap) 36 3 h12.n.l.length (h12.n.l.flatMap Pcl.cells)), (16, .pool 5 1 byc bs12), (12, .row (.slice h10.n.a h10.n.l.length h10.n.cap) 36 3 h10.n.l.length (h10.n.l.flatMap Pcl.cells)), (13, .pool 5 1 byc bs10), (7, .row (.slice h6.n.a h6.n.l.length h6.n.cap) 36 3 h6.n.l.length (h6.n.l.flatMap Pcl.cells)), (8, .pool 5 1 byc bs6), (4, .row (.slice h4.n.a h4.n.l.length h4.n.cap) 36 3 h4.n.l.length (h4.n.l.flatMap Pcl.cells)), (5, .pool 5 1 byc bs4), (1, .blk B1 (.cells #[.int .u8 1, .int .u8 2] 5)), (2, .blk B2 (.cells #[.int .u8 3] 5)), (3, .blk B3 (.cells #[.int .i64 0, .slice (some ⟨B1, 0, none⟩) 2 2, .bool false, .int .i64 4, .slice (some ⟨B2, 0, none⟩) 1 1, .bool false] 36)), (9, .blk B7 (.cells #[.int .i64 q6.to, .slice q6.r.a q6.r.l.length q6.r.cap, .bool q6.sp] 36)), (10, .blk B8 (.cells #[.slice none 0 0, .int .u64 0] 27)), (11, .blk B9 (.cells #[.int .i64 0, .slice none 0 0, .bool false] 36)), (6, .blk B5 (.cells #[.slice h10.n.a h10.n.l.length h10.n.cap, .int .u64 h10.lost] 27)), (14, .blk B11 (.cells #[.int .i64 q10.to, .slice q10.r.a q10.r.l.length q10.r.cap, .bool q10.sp] 36)), (17, .blk B13 (.cells #[.slice h12.n.a h12.n.l.length h12.n.cap, .int .u64 h12.lost] 27)), (18, .blk B14 (.cells #[.int .i64 q12.to, .slice q12.r.a q12.r.l.length q12.r.cap, .bool q12.sp] 36)), (19, .blk B15 (.cells #[.slice none 0 0, .int .u64 0] 27)), (20, .blk B16 (.cells #[.int .i64 0, .slice none 0 0, .bool false] 36)), (24, .blk B18 (.cells #[.slice h17.n.a h17.n.l.length h17.n.cap, .int .u64 h17.lost] 27)), (25, .blk B19 (.cells #[.int .u8 0, .int .u8 2] 5))] (sub_cons rfl sub_nil) (sub_cons rfl (sub_cons rfl (sub_cons rfl (sub_cons rfl (sub_cons rfl (sub_cons rfl (sub_cons rfl (sub_cons rfl (sub_cons rfl (sub_cons rfl (sub_cons rfl (sub_cons rfl (sub_cons rfl (sub_cons rfl (sub_cons rfl (sub_cons rfl (sub_cons rfl (sub_cons rfl (sub_cons rfl (sub_cons rfl (sub_cons rfl (sub_cons rfl (sub_cons rfl (sub_cons rfl (sub_cons rfl sub_nil))))))))))))))))))))))))) ?_
  refine T_ret' ?_
  refine ret_of rfl (.bool true) (fun tmps w hk hm => res1 rfl (res_tmp (hk 0 _ rfl))) (fun w hm => ?_)
  exact ⟨rfl, hm.ext⟩
end Go.Proofs.Ytcidgbjgeegepaa
/- net: what is sent into a net of nothing; the first place of a parcel to there. -/
namespace Go.Proofs.Ytcidgbjgeegepaa
open Go Go.RowKit
theorem toV_cons (p : Pcl) (ps : List Pcl) (to : Int) : toV (p :: ps) to = (if p.to = to then [0] else []) ++ (toV ps to).map (· + 1) := by
  unfold toV
  rw [List.length_cons, List.range_succ_eq_map, List.filter_cons, List.filter_map]
  have e : phiT (p :: ps) to ∘ Nat.succ = phiT ps to := by funext i; rfl
  rw [e]
  by_cases h : p.to = to
  · rw [if_pos (show phiT (p :: ps) to 0 = true from decide_eq_true (by rw [← h]; rfl)), if_pos h]; rfl
  · rw [if_neg (show ¬ phiT (p :: ps) to 0 = true from fun e => h (Option.some.inj (of_decide_eq_true (p := ((p :: ps)[0]?).map Pcl.to = some to) e))), if_neg h]; rfl
theorem toV_first (ps : List Pcl) (to : Int) : (toV ps to)[0]? = ps.findIdx? fun p => decide (p.to = to) := by
  induction ps with
  | nil => rfl
  | cons p ps ih =>
    rw [toV_cons, List.findIdx?_cons]
    by_cases h : p.to = to
    · rw [if_pos h, if_pos (decide_eq_true h)]; rfl
    · rw [if_neg h, if_neg (by simpa using h), List.nil_append, List.getElem?_map, ih]
end Go.Proofs.Ytcidgbjgeegepaa
/- Slices that are read, wherever they lie. Over any program. -/
namespace Go.Proofs.Ytcidgbjgeegepaa
open Go Go.RowKit
section
variable {C : Cx} {Q : Post} {K : List (Nat × Value)} {L : Heap} {α : Type} {s : Nat} {f : α → List Value} {l : List α} {a : Option Addr} {cap : Nat}
theorem T_open {c : Code} (hs : ∀ w, MemOk C.w₀ L w → SliceAt w a cap s f l) (hl : 0 < l.length) (h : ∀ b off, a = some ⟨b, off, none⟩ → T C c Q K L) : T C c Q K L := by
  intro ac w hf hm
  obtain ⟨b, off, cs, T', fz, h1, _, _⟩ := (hs w hm).open (i := 0) hl
  exact h b off h1 ac w hf hm
end
section
variable {P : Program} {w : World} {ρ : Operand → Value} {d : Option Tmp} {ty : TypeId} {ps : String} {af : Array Edge} {g : Option (Nat × Bool)} {x : Operand} {α : Type} {s : Nat} {f : α → List Value} {l : List α} {b off cap i : Nat} {u : α} {t : TypeId}
theorem slice_in (h : SliceAt w (some ⟨b, off, none⟩) cap s f l) (hu : l[i]? = some u) : ∃ cs T fz, hp w b = some (.cells cs T fz) ∧ Row s f cs off l := by
  obtain ⟨b', off', cs, T, fz, h1, h2, h3⟩ := h.open (i := i) (List.getElem?_eq_some_iff.1 hu).1
  cases h1
  exact ⟨cs, T, fz, h2, h3⟩
theorem r_loadS (ha : aggOf P t = some true) (hs : szOf P t = some s) (hx : ρ x = .pointer (some ⟨b, off + i * s, none⟩)) (h : SliceAt w (some ⟨b, off, none⟩) cap s f l) (hu : l[i]? = some u) : (execOp ρ (mk d (.load t x) ty ps af g)).run P w = .ok (.value (.agg (f u).toArray)) w := by
  obtain ⟨cs, T, fz, h1, h2⟩ := slice_in h hu
  exact r_loadRow ha hs hx h1 h2 hu
end
end Go.Proofs.Ytcidgbjgeegepaa
/- net and journal: NetOrders. Printed by a program of this seat's prover. -/
namespace Go.Proofs.Ytcidgbjgeegepaa
open Go Go.RowKit
set_option maxRecDepth 10000
theorem few_le {ls xs : List Pcl} (h : pvs ls = fewV (pvs xs)) : ls.length ≤ 66 := by
  have := congrArg List.length h
  rw [pvs_len] at this
  unfold fewV at this
  rw [List.length_map, List.length_take] at this
  omega
end Go.Proofs.Ytcidgbjgeegepaa
/- Things of one's own taken together. Over any program. -/
namespace Go.Proofs.Ytcidgbjgeegepaa
open Go Go.RowKit
theorem MemOk.fuse {w₀ w : World} {L : Heap} (h : MemOk w₀ L w) (i j : Nat) {r s : Res} (t : Res) (hi : lk L i = some r) (hj : lk L j = some s) (hne : Nat.beq i j = false) (ht : t.ok w₀.heap.size w) (hf : ∀ b, t.foot b → r.foot b ∨ s.foot b) : MemOk w₀ ((i, t) :: (j, .no) :: L) w := by
  have h0 : MemOk w₀ ((j, .no) :: L) w := h.set j _ h.ext ⟨trivial, (fun _ hb => hb.elim), fun _ _ _ _ => trivial⟩ (fun _ _ _ _ b _ => ⟨rfl, id⟩)
  refine h0.set i t h0.ext ht (fun k q hk hne' b hb => ⟨rfl, fun hr => ?_⟩)
  by_cases e2 : j = k
  · subst e2; rw [lk_cons_same] at hk; cases hk; exact hb
  · rw [lk_cons_other _ _ e2] at hk
    rcases hf b hr with h1 | h1
    · exact h.sep i k r q hi hk (Ne.symm hne') b h1 hb
    · exact h.sep j k s q hj hk e2 b h1 hb
section
variable {α : Type} (K : ShK α)
/-- Two shelves become one. -/
theorem MemOk.shMerge {w₀ w : World} {L : Heap} (h : MemOk w₀ L w) (i j : Nat) {l m : List α} (hi : lk L i = some (.shelf K l)) (hj : lk L j = some (.shelf K m)) (hne : Nat.beq i j = false) : MemOk w₀ ((i, .shelf K (l ++ m)) :: (j, .no) :: L) w := by
  have o1 := h.own i _ hi
  have o2 := h.own j _ hj
  have key : ∀ b, K.F (l ++ m) b → K.F l b ∨ K.F m b := fun b ⟨x, hx, hb⟩ => (List.mem_append.1 hx).imp (fun h => ⟨x, h, hb⟩) fun h => ⟨x, h, hb⟩
  exact h.fuse i j (.shelf K (l ++ m)) hi hj hne ⟨fun x hx => (List.mem_append.1 hx).elim (o1.1 x) (o2.1 x), fun b hb => (key b hb).elim (o1.2.1 b) (o2.2.1 b), K.keeps⟩ key
end
section
variable {α : Type} {K : ShK α} {w₀ w w' : World} {L : Heap} {l : List α} {d : α}
end
/-- What is new in memory, told of two things. -/
theorem ShNew.same {α : Type} {K : ShK α} {w w' : World} {l : List α} {d : α} (hb : Below w.heap.size w w') (hd : K.At w d) (hl : d ∈ l) : ShNew K w w' l d := ⟨hb, K.below hd hb, fun b h => .inr ⟨d, hl, h⟩⟩
end Go.Proofs.Ytcidgbjgeegepaa
/- net: nets that are only read. -/
namespace Go.Proofs.Ytcidgbjgeegepaa
open Go Go.RowKit
/-- A row of parcels, and their bytes: something to be read. -/
theorem MemOk.netShelf {w₀ w : World} {L : Heap} (h : MemOk w₀ L w) (i j : Nat) {n : NetR} {bs : List (RowG By)} (hi : lk L i = some (rowP n)) (hj : lk L j = some (.pool 5 1 byc bs)) (hne : Nat.beq i j = false) (hin : InB bs n.l) : MemOk w₀ ((i, .nets [n]) :: (j, .no) :: L) w := by
  have o1 := h.own i _ hi
  have o2 := h.own j _ hj
  have key : ∀ b, netK.F [n] b → (rowP n).foot b ∨ (Res.pool 5 1 byc bs).foot b := by
    rintro b ⟨x, hx, hb⟩
    rw [List.mem_singleton.1 hx] at hb
    rcases hb with h1 | ⟨p, hp, h1⟩
    · exact .inl (own_slF (o1 : w.ownsRow _ _ _ _ _ _) h1)
    · exact .inr ⟨p.r, (hin p hp).1, own_slF (o2.1 p.r (hin p hp).1) h1⟩
  refine h.fuse i j (.nets [n]) hi hj hne ⟨fun x hx => ?_, fun b hb => ?_, netK.keeps⟩ key
  · rw [List.mem_singleton.1 hx]
    exact ⟨SliceAt.own Pcl.cells_len o1 rfl rfl, row_cap o1, pcs_pool o2.1 hin⟩
  · rcases key b hb with h1 | h1
    · exact Res.low o1 h1
    · exact o2.2.1 b h1
theorem pcl_foot {n : NetR} {p : Pcl} (hp : p ∈ n.l) {b : Nat} (h : slF p.r.a p.r.l b) : netF n b := .inr ⟨p, hp, h⟩
/-- A new row of parcels whose bytes lie as those of other nets. -/
theorem nnew_row {w w' : World} {ns : List NetR} {a : Option Addr} {cap : Nat} {l : List Pcl} (hb : Below w.heap.size w w') (hr : w'.ownsRow w.heap.size 36 3 (.slice a l.length cap) l.length (l.flatMap Pcl.cells)) (hns : ∀ n ∈ ns, NAt w n) (hl : ∀ p ∈ l, ∃ n ∈ ns, p ∈ n.l) : NNew w w' ns ⟨a, cap, l⟩ := by
  refine ⟨hb, ⟨SliceAt.own Pcl.cells_len hr rfl rfl, row_cap hr, fun p hp => ?_⟩, ?_⟩
  · obtain ⟨n, hn, hp2⟩ := hl p hp
    have := (hns n hn).2.2 p hp2
    exact ⟨this.1.keep hb, this.2⟩
  · rintro b (h1 | ⟨p, hp, h1⟩)
    · exact .inl (Res.low (r := .row _ _ _ _ _) hr (own_slF hr h1)).1
    · obtain ⟨n, hn, hp2⟩ := hl p hp
      exact .inr ⟨n, hn, pcl_foot hp2 h1⟩
theorem MemOk.netAt {w₀ w : World} {L : Heap} (h : MemOk w₀ L w) (k : Nat) {l : List NetR} (hk : lk L k = some (.nets l)) {n : NetR} (hx : n ∈ l) : NAt w n := MemOk.shAt (K := netK) h k hk hx
/-- A byte's cell. -/
def isB (v : Value) : Prop := ∃ b : By, v = .int .u8 (b.toNat : Int)
theorem isB_byc : ∀ x, ∀ v ∈ byc x, isB v := fun x v hv => ⟨x, List.mem_singleton.1 hv⟩
theorem o_loadB {P : Program} {w₀ w : World} {L : Heap} {ρ : Operand → Value} {ty : TypeId} {ps : String} {af : Array Edge} {g : Option (Nat × Bool)} {d : Option Tmp} {x : Operand} {t e : TypeId} {B i : Nat} {rs : List (RowG By)} (k : Nat) (hk : lk L k = some (.scr e 1 isB rs)) {r : RowG By} (hr : r ∈ rs) (ha : aggOf P t = some false) (hB : r.a = some ⟨B, 0, none⟩) (hi : i < r.l.length * 1) (hx : ρ x = .pointer (some ⟨B, i, none⟩)) (hm : MemOk w₀ L w) :
    ∃ (b : By) (w' : World), (execOp ρ (mk d (.load t x) ty ps af g)).run P w = .ok (.value (.int .u8 (b.toNat : Int))) w' ∧ MemOk w₀ L w' := by
  obtain ⟨v, ⟨b, rfl⟩, h⟩ := o_loadScr (P := P) (ty := ty) (ps := ps) (af := af) (g := g) (d := d) k hk hr ha hB hi hx hm
  exact ⟨b, w, h, hm⟩
theorem MemOk.scr0 {w₀ w : World} {L : Heap} (h : MemOk w₀ L w) (i j : Nat) : MemOk w₀ ((j, .scr 5 1 isB ([] : List (RowG By))) :: (j, .pool 5 1 byc []) :: (i, .row (.slice none 0 0) 36 3 0 []) :: L) w :=
  ((h.nilRow i 36 3).pool0 j 5 1 byc).poolScr j byc_len (lk_cons_same _ _ _) isB_byc
/-- The first parcel to there. -/
def fiV (l : List Pcl) (to : Int) : Option Nat := l.findIdx? fun p => decide (p.to = to)
theorem fiV_step {l : List Pcl} {k : Nat} {p : Pcl} {to : Int} {o : Option Nat} (ho : o = fiV (l.take k) to) (hp : l[k]? = some p) : fiV (l.take (k + 1)) to = o.or (if p.to = to then some k else none) := by
  subst ho
  have hk := (List.getElem?_eq_some_iff.1 hp).1
  unfold fiV
  rw [List.take_add_one, hp, List.findIdx?_append]
  congr 1
  simp only [Option.toList_some, List.findIdx?_singleton, List.length_take, Nat.min_eq_left (Nat.le_of_lt hk)]
  by_cases e : p.to = to
  · rw [if_pos e, if_pos (decide_eq_true e)]; simp
  · rw [if_neg e, if_neg (by simpa using e)]; rfl
theorem fiV_hit {l : List Pcl} {k : Nat} {p : Pcl} {to : Int} {o : Option Nat} (ho : o = fiV (l.take k) to) (hp : l[k]? = some p) (hn : ¬ o.isSome = true) (he : p.to = to) : some k = fiV (l.take (k + 1)) to := by
  rw [fiV_step ho hp, if_pos he]; cases o with
  | none => rfl
  | some j => exact absurd rfl hn
theorem fiV_was {l : List Pcl} {k : Nat} {p : Pcl} {to : Int} {o : Option Nat} (ho : o = fiV (l.take k) to) (hp : l[k]? = some p) (hn : o.isSome = true) : o = fiV (l.take (k + 1)) to := by
  rw [fiV_step ho hp]; cases o with
  | none => cases hn
  | some j => rfl
theorem fiV_miss {l : List Pcl} {k : Nat} {p : Pcl} {to : Int} {o : Option Nat} (ho : o = fiV (l.take k) to) (hp : l[k]? = some p) (he : ¬ p.to = to) : o = fiV (l.take (k + 1)) to := by
  rw [fiV_step ho hp, if_neg he]; cases o <;> rfl
theorem er_ok {α : Type} {φ : α → Bool} {l : List α} {k : Nat} {p : α} {er : Int} (h : er = (if (l.take k).all φ = true then 0 else 2)) (hp : l[k]? = some p) (hy : φ p = true) : er = (if (l.take (k + 1)).all φ = true then 0 else 2) := by
  rw [h, List.take_add_one, hp, List.all_append]; simp [hy]
theorem er_bad {α : Type} {φ : α → Bool} {l : List α} {k : Nat} {p : α} (hp : l[k]? = some p) (hy : φ p = false) : (2 : Int) = (if (l.take (k + 1)).all φ = true then 0 else 2) := by
  rw [List.take_add_one, hp, List.all_append]; simp [hy]
end Go.Proofs.Ytcidgbjgeegepaa
/- net and journal: the references; what the laws do. Printed by a program of this seat's prover. -/
namespace Go.Proofs.Ytcidgbjgeegepaa
open Go Go.RowKit
set_option maxRecDepth 10000
theorem putV_more {l : List Pcl} {lost : Int} {p : PV} (h : 64 ≤ l.length) (h1 : lost < 4611686018427387904) : (pvs l, lost + 1) = putV (pvs l, lost) p := by
  unfold putV
  rw [if_neg (show ¬ (pvs l).length < 64 by rw [pvs_len]; omega)]
  unfold MT
  rw [if_pos h1]
theorem putV_stay {l : List Pcl} {lost : Int} {p : PV} (h : 64 ≤ l.length) (h1 : ¬ lost < 4611686018427387904) : (pvs l, lost) = putV (pvs l, lost) p := by
  unfold putV
  rw [if_neg (show ¬ (pvs l).length < 64 by rw [pvs_len]; omega)]
  unfold MT
  rw [if_neg h1]

theorem rput_c (ps : List Pcl) (a : Option Addr) (cap : Nat) (lost : Int) (p : Pcl) (ns : List NetR) (w : World) (hns : ∀ m ∈ ns, NAt w m) (hn : (⟨a, cap, ps⟩ : NetR) ∈ ns) (hp : ∃ m ∈ ns, p ∈ m.l) (h0 : 0 ≤ lost) : Calls Try.prog 33 #[.agg #[.slice a ps.length cap, .int .u64 lost], p.v] w fun e w' => ∃ (d : NetR) (lo : Int), (pvs d.l, lo) = putV (pvs ps, lost) p.pv ∧ e = .returned (.agg #[.slice d.a d.l.length d.cap, .int .u64 lo]) ∧ NNew w w' ns d := by
  have hv : SliceAt w a cap 3 Pcl.cells ps := (hns _ hn).1
  have hcap : cap ≤ Go.maxLen := (hns _ hn).2.1
  have hb : PcsAt w ps := (hns _ hn).2.2
  have hvl := hv.1
  unfold Go.maxLen at hcap
  refine calls_of_T (l := [.agg #[.slice a ps.length cap, .int .u64 lost], .agg #[.int .i64 p.to, .slice p.r.a p.r.l.length p.r.cap, .bool p.sp]]) 25 Try.func33 rfl rfl rfl ?_
  show T _ _ _ [(0, .agg #[.slice a ps.length cap, .int .u64 lost]), (1, .agg #[.int .i64 p.to, .slice p.r.a p.r.l.length p.r.cap, .bool p.sp])] []
  refine T_seq (T_region ?_)
  refine TL_new 1 (.cells #[.slice a ps.length cap, .int .u64 lost] 27) (fun B => .pointer (some ⟨B, 0, none⟩)) (fun _ _ hρ _ => r_box (hρ _ _ rfl) rfl) rfl rfl rfl (w_n rfl) ?_
  intro B1
  refine TL_new 2 (.cells #[.int .i64 p.to, .slice p.r.a p.r.l.length p.r.cap, .bool p.sp] 36) (fun B => .pointer (some ⟨B, 0, none⟩)) (fun _ _ hρ _ => r_box (hρ _ _ rfl) rfl) rfl rfl rfl (w_n rfl) ?_
  intro B2
  refine TL_new 3 (.cells #[.slice none 0 0, .int .u64 0] 27) (fun B => .pointer (some ⟨B, 0, none⟩)) (fun _ _ _ _ => r_alloc (v := .agg #[.slice none 0 0, .int .u64 0]) (by kernel_rfl) rfl) rfl rfl rfl (w_n rfl) ?_
  intro B3
  refine TL_seq ?_
  refine T_seq ?_
  refine T_seq (T_region ?_)
  refine TL_q (.pointer (some ⟨B1, 0, none⟩)) (fun _ _ hρ _ => r_fieldAddr fl27_0 sz22 (hρ _ _ rfl)) rfl rfl rfl (w_n rfl) ?_
  refine TL_q (.slice a ps.length cap) (fun _ _ hρ hm => r_load ag22 (hρ _ _ rfl) (hm.at 1 rfl) rfl) rfl rfl rfl (w_n rfl) ?_
  refine TL_q (.int .i64 ((ps.length : Nat) : Int)) (fun _ _ hρ _ => r_len sl22 (hρ _ _ rfl)) rfl rfl rfl (w_n rfl) ?_
  refine TL_q (.bool (decide (((ps.length : Nat) : Int) < 64))) (fun _ _ hρ _ => r_lss (hρ _ _ rfl) (hρ _ _ rfl)) rfl rfl rfl (w_n rfl) ?_
  refine TL_seq ?_
  refine T_cond rfl (fun h1 => ?_) (fun h1 => ?_)
  · replace h1 := of_decide_eq_true h1
    refine T_joinE (ι := Nat × (Option Addr) × Nat) (fun _ => True) (fun (z : Nat × (Option Addr) × Nat) => match z with | (Bx5, ax6, capx6) => [(2, .pointer (some ⟨B1, 0, none⟩)), (4, .pointer (some ⟨B3, 0, none⟩))]) (fun (z : Nat × (Option Addr) × Nat) => match z with | (Bx5, ax6, capx6) => [(1, .blk B1 (.cells #[.slice ax6 ((0 + ps.length) + 1) capx6, .int .u64 lost] 27)), (2, .blk B2 (.cells #[.int .i64 p.to, .slice p.r.a p.r.l.length p.r.cap, .bool p.sp] 36)), (3, .blk B3 (.cells #[.slice none 0 0, .int .u64 0] 27)), (4, .row (.slice ax6 ((0 + ps.length) + 1) capx6) 36 3 ((0 + ps.length) + 1) (([] ++ (ps.flatMap Pcl.cells)) ++ [.int .i64 p.to, .slice p.r.a p.r.l.length p.r.cap, .bool p.sp])), (5, .blk Bx5 (.cells #[.int .i64 p.to, .slice p.r.a p.r.l.length p.r.cap, .bool p.sp] 36))]) (T_draw (V := [(1, .pointer (some ⟨B1, 0, none⟩)), (2, .slice a ps.length cap), (4, .agg #[.int .i64 p.to, .slice p.r.a p.r.l.length p.r.cap, .bool p.sp])]) [0, 0, 2, 7, 0, 16, 63, 127, 255] [[], [(2, none)], [(10, some 1)], [(9, some 0), (11, some 2)], [(3, none)], [(13, some 4)], [(12, some 3), (14, some 5)], [(2, none)], [(16, some 7), (15, some 6)]] 361 mixed (by kernel_rfl) ?_) (fun z hz => ?_)
    · skip
      refine G_step [1, 2, 4] 0 [5] (by kernel_rfl) (allM (all_cons (q_run (.pointer (some ⟨B1, 0, none⟩)) rfl rfl (wv_n rfl) rfl (fun _ _ hρ _ => r_fieldAddr fl27_0 sz22 (hρ _ _ rfl))) (all_cons (q_run (.slice a ps.length cap) rfl rfl (wv_n rfl) rfl (fun _ _ hρ hm => r_load ag22 (hρ _ _ rfl) (hm.at 1 rfl) rfl)) (all_cons (q_run (.agg #[.int .i64 p.to, .slice p.r.a p.r.l.length p.r.cap, .bool p.sp]) rfl rfl (wv_n rfl) rfl (fun _ _ hρ hm => r_loadA ag36 sz36 (hρ _ _ rfl) (hm.at 2 rfl) rfl rfl)) all_nil)))) (allM (all_cons ?_ (all_cons ?_ all_nil)))
      · skip
        refine LOb_new 4 (.cells #[] 36) (fun B => .slice (some ⟨B, 0, none⟩) 0 0) (fun B => []) rfl (wv_n rfl) rfl rfl (fun _ _ _ _ => r_buildSlice (vs := []) (by kernel_rfl) rfl) (fun B => by kernel_rfl) ?_
        intro B4
        refine G_mem ([(4, .row (.slice (some ⟨B4, 0, none⟩) 0 0) 36 3 0 []), (1, .blk B1 (.cells #[.slice a ps.length cap, .int .u64 lost] 27)), (2, .blk B2 (.cells #[.int .i64 p.to, .slice p.r.a p.r.l.length p.r.cap, .bool p.sp] 36)), (3, .blk B3 (.cells #[.slice none 0 0, .int .u64 0] 27))]) (fun _ hm => MemOk.sub (hm.toRow (n := 0) (cap := 0) (s := 3) 4 rfl rfl (by omega) rfl _ rfl) (sub_cons rfl (sub_cons rfl (sub_cons rfl (sub_cons rfl sub_nil))))) ?_
        refine G_step [1, 2, 4] 3 [5] (by kernel_rfl) (allM (all_cons (q_run (.pointer (some ⟨B1, 0, none⟩)) rfl rfl (wv_n rfl) rfl (fun _ _ hρ _ => r_fieldAddr fl27_0 sz22 (hρ _ _ rfl))) (all_cons (q_run (.slice a ps.length cap) rfl rfl (wv_n rfl) rfl (fun _ _ hρ hm => r_load ag22 (hρ _ _ rfl) (hm.at 1 rfl) rfl)) (all_cons (q_run (.agg #[.int .i64 p.to, .slice p.r.a p.r.l.length p.r.cap, .bool p.sp]) rfl rfl (wv_n rfl) rfl (fun _ _ hρ hm => r_loadA ag36 sz36 (hρ _ _ rfl) (hm.at 2 rfl) rfl rfl)) all_nil)))) (allM (all_cons ?_ (all_cons ?_ all_nil)))
        · skip
          refine LOb_append (n := 0) (m := ps.length) (xs := []) (news := (ps.flatMap Pcl.cells)) (z := .agg #[.int .i64 0, .slice none 0 0, .bool false]) 4 (fun a cap => []) rfl (wv_n rfl) rfl rfl rfl sl22 sz36 by36 (by kernel_rfl) rfl rfl (.inl rfl) (fun _ hm => by have := src_of Pcl.cells_len (hv.keep hm.ext); simpa using this) (by first | exact rows_oneG Pcl.cells_one | simp [Value.oneCell']) (by omega) (by omega) (fun a cap => by kernel_rfl) ?_
          intro a5 cap5
          refine G_step [4] 5 [] (by kernel_rfl) (allM (all_cons (q_run (.agg #[.int .i64 p.to, .slice p.r.a p.r.l.length p.r.cap, .bool p.sp]) rfl rfl (wv_n rfl) rfl (fun _ _ hρ hm => r_loadA ag36 sz36 (hρ _ _ rfl) (hm.at 2 rfl) rfl rfl)) all_nil)) (allM (all_cons ?_ all_nil))
          refine LOb_new 5 (.cells #[.int .i64 p.to, .slice p.r.a p.r.l.length p.r.cap, .bool p.sp] 36) (fun B => .slice (some ⟨B, 0, none⟩) 1 1) (fun B => []) rfl (wv_n rfl) rfl rfl (fun _ _ hρ _ => r_buildSlice (vs := [(0, .agg #[.int .i64 p.to, .slice p.r.a p.r.l.length p.r.cap, .bool p.sp])]) (by kernel_rfl) (cons2 (pair2 (hρ _ _ rfl)) rfl)) (fun B => by kernel_rfl) ?_
          intro B6
          refine G_step [] 6 [] (by kernel_rfl) (allM all_nil) (allM (all_cons ?_ all_nil))
          refine LOb_append (n := (0 + ps.length)) (m := 1) (xs := ([] ++ (ps.flatMap Pcl.cells))) (news := [.int .i64 p.to, .slice p.r.a p.r.l.length p.r.cap, .bool p.sp]) (z := .agg #[.int .i64 0, .slice none 0 0, .bool false]) 4 (fun a cap => [(7, .pointer (some ⟨B1, 0, none⟩))]) rfl (wv_n rfl) rfl rfl rfl sl22 sz36 by36 (by kernel_rfl) rfl rfl (.inl rfl) (fun _ hm => src_blk (news := [.int .i64 p.to, .slice p.r.a p.r.l.length p.r.cap, .bool p.sp]) (hm.at 5 rfl) rfl) (by first | exact rows_oneG Pcl.cells_one | simp [Value.oneCell']) (by omega) (by omega) (fun a cap => by kernel_rfl) ?_
          intro a7 cap7
          refine G_step [7] 8 [] (by kernel_rfl) (allM (all_cons (q_run (.pointer (some ⟨B1, 0, none⟩)) rfl rfl (wv_n rfl) rfl (fun _ _ hρ _ => r_fieldAddr fl27_0 sz22 (hρ _ _ rfl))) all_nil)) (allM (all_cons ?_ all_nil))
          refine LOb_store 1 (.cells #[.slice a7 ((0 + ps.length) + 1) cap7, .int .u64 lost] 27) [] rfl (wv_n rfl) rfl rfl rfl (fun _ _ hρ hm => r_store sz22 (hρ _ _ rfl) (hρ _ _ rfl) (hm.at 1 rfl) rfl rfl rfl rfl) (by kernel_rfl) ?_
          exact G_lastQ [] [(2, .pointer (some ⟨B1, 0, none⟩)), (4, .pointer (some ⟨B3, 0, none⟩))] (by kernel_rfl) (allM all_nil) (end_old rfl rfl (end_old rfl rfl end_nil)) (fun a w hf hm => At_intro (B6, a7, cap7) trivial hf hm (sub_cons rfl (sub_cons rfl sub_nil)) (sub_cons rfl (sub_cons rfl (sub_cons rfl (sub_cons rfl (sub_cons rfl sub_nil))))))
        · skip
          refine LOb_new 5 (.cells #[.int .i64 p.to, .slice p.r.a p.r.l.length p.r.cap, .bool p.sp] 36) (fun B => .slice (some ⟨B, 0, none⟩) 1 1) (fun B => []) rfl (wv_n rfl) rfl rfl (fun _ _ hρ _ => r_buildSlice (vs := [(0, .agg #[.int .i64 p.to, .slice p.r.a p.r.l.length p.r.cap, .bool p.sp])]) (by kernel_rfl) (cons2 (pair2 (hρ _ _ rfl)) rfl)) (fun B => by kernel_rfl) ?_
          intro B8
          refine G_step [1, 2] 3 [] (by kernel_rfl) (allM (all_cons (q_run (.pointer (some ⟨B1, 0, none⟩)) rfl rfl (wv_n rfl) rfl (fun _ _ hρ _ => r_fieldAddr fl27_0 sz22 (hρ _ _ rfl))) (all_cons (q_run (.slice a ps.length cap) rfl rfl (wv_n rfl) rfl (fun _ _ hρ hm => r_load ag22 (hρ _ _ rfl) (hm.at 1 rfl) rfl)) all_nil))) (allM (all_cons ?_ all_nil))
          refine LOb_append (n := 0) (m := ps.length) (xs := []) (news := (ps.flatMap Pcl.cells)) (z := .agg #[.int .i64 0, .slice none 0 0, .bool false]) 4 (fun a cap => []) rfl (wv_n rfl) rfl rfl rfl sl22 sz36 by36 (by kernel_rfl) rfl rfl (.inl rfl) (fun _ hm => by have := src_of Pcl.cells_len (hv.keep hm.ext); simpa using this) (by first | exact rows_oneG Pcl.cells_one | simp [Value.oneCell']) (by omega) (by omega) (fun a cap => by kernel_rfl) ?_
          intro a9 cap9
          refine G_step [] 6 [] (by kernel_rfl) (allM all_nil) (allM (all_cons ?_ all_nil))
          refine LOb_append (n := (0 + ps.length)) (m := 1) (xs := ([] ++ (ps.flatMap Pcl.cells))) (news := [.int .i64 p.to, .slice p.r.a p.r.l.length p.r.cap, .bool p.sp]) (z := .agg #[.int .i64 0, .slice none 0 0, .bool false]) 4 (fun a cap => [(7, .pointer (some ⟨B1, 0, none⟩))]) rfl (wv_n rfl) rfl rfl rfl sl22 sz36 by36 (by kernel_rfl) rfl rfl (.inl rfl) (fun _ hm => src_blk (news := [.int .i64 p.to, .slice p.r.a p.r.l.length p.r.cap, .bool p.sp]) (hm.at 5 rfl) rfl) (by first | exact rows_oneG Pcl.cells_one | simp [Value.oneCell']) (by omega) (by omega) (fun a cap => by kernel_rfl) ?_
          intro a10 cap10
          refine G_step [7] 8 [] (by kernel_rfl) (allM (all_cons (q_run (.pointer (some ⟨B1, 0, none⟩)) rfl rfl (wv_n rfl) rfl (fun _ _ hρ _ => r_fieldAddr fl27_0 sz22 (hρ _ _ rfl))) all_nil)) (allM (all_cons ?_ all_nil))
          refine LOb_store 1 (.cells #[.slice a10 ((0 + ps.length) + 1) cap10, .int .u64 lost] 27) [] rfl (wv_n rfl) rfl rfl rfl (fun _ _ hρ hm => r_store sz22 (hρ _ _ rfl) (hρ _ _ rfl) (hm.at 1 rfl) rfl rfl rfl rfl) (by kernel_rfl) ?_
          exact G_lastQ [] [(2, .pointer (some ⟨B1, 0, none⟩)), (4, .pointer (some ⟨B3, 0, none⟩))] (by kernel_rfl) (allM all_nil) (end_old rfl rfl (end_old rfl rfl end_nil)) (fun a w hf hm => At_intro (B8, a10, cap10) trivial hf hm (sub_cons rfl (sub_cons rfl sub_nil)) (sub_cons rfl (sub_cons rfl (sub_cons rfl (sub_cons rfl (sub_cons rfl sub_nil))))))
      · skip
        refine LOb_new 5 (.cells #[.int .i64 p.to, .slice p.r.a p.r.l.length p.r.cap, .bool p.sp] 36) (fun B => .slice (some ⟨B, 0, none⟩) 1 1) (fun B => []) rfl (wv_n rfl) rfl rfl (fun _ _ hρ _ => r_buildSlice (vs := [(0, .agg #[.int .i64 p.to, .slice p.r.a p.r.l.length p.r.cap, .bool p.sp])]) (by kernel_rfl) (cons2 (pair2 (hρ _ _ rfl)) rfl)) (fun B => by kernel_rfl) ?_
        intro B11
        refine G_step [1, 2] 0 [] (by kernel_rfl) (allM (all_cons (q_run (.pointer (some ⟨B1, 0, none⟩)) rfl rfl (wv_n rfl) rfl (fun _ _ hρ _ => r_fieldAddr fl27_0 sz22 (hρ _ _ rfl))) (all_cons (q_run (.slice a ps.length cap) rfl rfl (wv_n rfl) rfl (fun _ _ hρ hm => r_load ag22 (hρ _ _ rfl) (hm.at 1 rfl) rfl)) all_nil))) (allM (all_cons ?_ all_nil))
        refine LOb_new 4 (.cells #[] 36) (fun B => .slice (some ⟨B, 0, none⟩) 0 0) (fun B => []) rfl (wv_n rfl) rfl rfl (fun _ _ _ _ => r_buildSlice (vs := []) (by kernel_rfl) rfl) (fun B => by kernel_rfl) ?_
        intro B12
        refine G_mem ([(4, .row (.slice (some ⟨B12, 0, none⟩) 0 0) 36 3 0 []), (1, .blk B1 (.cells #[.slice a ps.length cap, .int .u64 lost] 27)), (2, .blk B2 (.cells #[.int .i64 p.to, .slice p.r.a p.r.l.length p.r.cap, .bool p.sp] 36)), (3, .blk B3 (.cells #[.slice none 0 0, .int .u64 0] 27)), (5, .blk B11 (.cells #[.int .i64 p.to, .slice p.r.a p.r.l.length p.r.cap, .bool p.sp] 36))]) (fun _ hm => MemOk.sub (hm.toRow (n := 0) (cap := 0) (s := 3) 4 rfl rfl (by omega) rfl _ rfl) (sub_cons rfl (sub_cons rfl (sub_cons rfl (sub_cons rfl (sub_cons rfl sub_nil)))))) ?_
        refine G_step [1, 2] 3 [] (by kernel_rfl) (allM (all_cons (q_run (.pointer (some ⟨B1, 0, none⟩)) rfl rfl (wv_n rfl) rfl (fun _ _ hρ _ => r_fieldAddr fl27_0 sz22 (hρ _ _ rfl))) (all_cons (q_run (.slice a ps.length cap) rfl rfl (wv_n rfl) rfl (fun _ _ hρ hm => r_load ag22 (hρ _ _ rfl) (hm.at 1 rfl) rfl)) all_nil))) (allM (all_cons ?_ all_nil))
        refine LOb_append (n := 0) (m := ps.length) (xs := []) (news := (ps.flatMap Pcl.cells)) (z := .agg #[.int .i64 0, .slice none 0 0, .bool false]) 4 (fun a cap => []) rfl (wv_n rfl) rfl rfl rfl sl22 sz36 by36 (by kernel_rfl) rfl rfl (.inl rfl) (fun _ hm => by have := src_of Pcl.cells_len (hv.keep hm.ext); simpa using this) (by first | exact rows_oneG Pcl.cells_one | simp [Value.oneCell']) (by omega) (by omega) (fun a cap => by kernel_rfl) ?_
        intro a13 cap13
        refine G_step [] 6 [] (by kernel_rfl) (allM all_nil) (allM (all_cons ?_ all_nil))
        refine LOb_append (n := (0 + ps.length)) (m := 1) (xs := ([] ++ (ps.flatMap Pcl.cells))) (news := [.int .i64 p.to, .slice p.r.a p.r.l.length p.r.cap, .bool p.sp]) (z := .agg #[.int .i64 0, .slice none 0 0, .bool false]) 4 (fun a cap => [(7, .pointer (some ⟨B1, 0, none⟩))]) rfl (wv_n rfl) rfl rfl rfl sl22 sz36 by36 (by kernel_rfl) rfl rfl (.inl rfl) (fun _ hm => src_blk (news := [.int .i64 p.to, .slice p.r.a p.r.l.length p.r.cap, .bool p.sp]) (hm.at 5 rfl) rfl) (by first | exact rows_oneG Pcl.cells_one | simp [Value.oneCell']) (by omega) (by omega) (fun a cap => by kernel_rfl) ?_
        intro a14 cap14
        refine G_step [7] 8 [] (by kernel_rfl) (allM (all_cons (q_run (.pointer (some ⟨B1, 0, none⟩)) rfl rfl (wv_n rfl) rfl (fun _ _ hρ _ => r_fieldAddr fl27_0 sz22 (hρ _ _ rfl))) all_nil)) (allM (all_cons ?_ all_nil))
        refine LOb_store 1 (.cells #[.slice a14 ((0 + ps.length) + 1) cap14, .int .u64 lost] 27) [] rfl (wv_n rfl) rfl rfl rfl (fun _ _ hρ hm => r_store sz22 (hρ _ _ rfl) (hρ _ _ rfl) (hm.at 1 rfl) rfl rfl rfl rfl) (by kernel_rfl) ?_
        exact G_lastQ [] [(2, .pointer (some ⟨B1, 0, none⟩)), (4, .pointer (some ⟨B3, 0, none⟩))] (by kernel_rfl) (allM all_nil) (end_old rfl rfl (end_old rfl rfl end_nil)) (fun a w hf hm => At_intro (B11, a14, cap14) trivial hf hm (sub_cons rfl (sub_cons rfl sub_nil)) (sub_cons rfl (sub_cons rfl (sub_cons rfl (sub_cons rfl (sub_cons rfl sub_nil))))))
    · skip
      obtain ⟨Bx5, ax6, capx6⟩ := z
      show POk _ _ .normal [(2, .pointer (some ⟨B1, 0, none⟩)), (4, .pointer (some ⟨B3, 0, none⟩))] [(1, .blk B1 (.cells #[.slice ax6 ((0 + ps.length) + 1) capx6, .int .u64 lost] 27)), (2, .blk B2 (.cells #[.int .i64 p.to, .slice p.r.a p.r.l.length p.r.cap, .bool p.sp] 36)), (3, .blk B3 (.cells #[.slice none 0 0, .int .u64 0] 27)), (4, .row (.slice ax6 ((0 + ps.length) + 1) capx6) 36 3 ((0 + ps.length) + 1) (([] ++ (ps.flatMap Pcl.cells)) ++ [.int .i64 p.to, .slice p.r.a p.r.l.length p.r.cap, .bool p.sp])), (5, .blk Bx5 (.cells #[.int .i64 p.to, .slice p.r.a p.r.l.length p.r.cap, .bool p.sp] 36))]
      refine p_seq ?_
      refine T_seq (T_region ?_)
      refine TL_q (.agg #[.slice ax6 ((0 + ps.length) + 1) capx6, .int .u64 lost]) (fun _ _ hρ hm => r_loadA ag27 sz27 (hρ _ _ rfl) (hm.at 1 rfl) rfl rfl) rfl rfl rfl (w_n rfl) ?_
      refine TL_store 3 (.cells #[.slice ax6 ((0 + ps.length) + 1) capx6, .int .u64 lost] 27) rfl (fun _ _ hρ hm => r_store sz27 (hρ _ _ rfl) (hρ _ _ rfl) (hm.at 3 rfl) rfl rfl rfl rfl) rfl rfl (w_n rfl) ?_
      refine TL_seq ?_
      refine T_ret' ?_
      refine ret_of rfl (.agg #[.slice ax6 ((0 + ps.length) + 1) capx6, .int .u64 lost]) (fun tmps w hk hm => res1 rfl (res_cell (hk 4 _ rfl) (run_loadVar_agg ag27 sz27 (hm.at 3 rfl) (Nat.le_of_ble_eq_true rfl) rfl))) (fun w hm => ?_)
      have hrow := hm.row 4 rfl
      have e1 : ((0 + ps.length) + 1) = (ps ++ [p]).length := by simp
      have e2 : (([] ++ (ps.flatMap Pcl.cells)) ++ [.int .i64 p.to, .slice p.r.a p.r.l.length p.r.cap, .bool p.sp]) = (ps ++ [p]).flatMap Pcl.cells := by rw [List.flatMap_append]; rfl
      rw [e1, e2] at hrow
      exact ⟨⟨ax6, capx6, ps ++ [p]⟩, lost, putV_room (show ps.length < 64 by omega) rfl, congrArg (fun k : Nat => Ending.returned (.agg #[.slice ax6 k capx6, .int .u64 lost])) e1, nnew_row hm.ext hrow hns fun x hx => (List.mem_append.1 hx).elim (fun h => ⟨_, hn, h⟩) fun h => by rw [List.mem_singleton.1 h]; exact hp⟩
  · replace h1 := of_decide_eq_false h1
    refine T_seq (T_region ?_)
    refine TL_q (.pointer (some ⟨B1, 1, none⟩)) (fun _ _ hρ _ => r_fieldAddr fl27_1 sz25 (hρ _ _ rfl)) rfl rfl rfl (w_n rfl) ?_
    refine TL_q (.int .u64 lost) (fun _ _ hρ hm => r_load ag25 (hρ _ _ rfl) (hm.at 1 rfl) rfl) rfl rfl rfl (w_n rfl) ?_
    refine TL_q (.bool (decide (lost < 4611686018427387904))) (fun _ _ hρ _ => r_lss (hρ _ _ rfl) (hρ _ _ rfl)) rfl rfl rfl (w_n rfl) ?_
    refine TL_seq ?_
    refine T_cond rfl (fun h2 => ?_) (fun h2 => ?_)
    · replace h2 := of_decide_eq_true h2
      refine T_region ?_
      refine TL_q (.pointer (some ⟨B1, 1, none⟩)) (fun _ _ hρ _ => r_fieldAddr fl27_1 sz25 (hρ _ _ rfl)) rfl rfl rfl (w_n rfl) ?_
      refine TL_q (.int .u64 lost) (fun _ _ hρ hm => r_load ag25 (hρ _ _ rfl) (hm.at 1 rfl) rfl) rfl rfl rfl (w_n rfl) ?_
      refine TL_q (.int .u64 (lost + 1)) (fun _ _ hρ _ => r_as (r_add (hρ _ _ rfl) (hρ _ _ rfl)) (int_as (wrap_u64 (by omega) (by omega)))) rfl rfl rfl (w_n rfl) ?_
      refine TL_q (.pointer (some ⟨B1, 1, none⟩)) (fun _ _ hρ _ => r_fieldAddr fl27_1 sz25 (hρ _ _ rfl)) rfl rfl rfl (w_n rfl) ?_
      refine TL_store 1 (.cells #[.slice a ps.length cap, .int .u64 (lost + 1)] 27) rfl (fun _ _ hρ hm => r_store sz25 (hρ _ _ rfl) (hρ _ _ rfl) (hm.at 1 rfl) rfl rfl rfl rfl) rfl rfl (w_n rfl) ?_
      refine TL_nil ?_
      refine p_seq ?_
      refine T_seq (T_region ?_)
      refine TL_q (.agg #[.slice a ps.length cap, .int .u64 (lost + 1)]) (fun _ _ hρ hm => r_loadA ag27 sz27 (hρ _ _ rfl) (hm.at 1 rfl) rfl rfl) rfl rfl rfl (w_n rfl) ?_
      refine TL_store 3 (.cells #[.slice a ps.length cap, .int .u64 (lost + 1)] 27) rfl (fun _ _ hρ hm => r_store sz27 (hρ _ _ rfl) (hρ _ _ rfl) (hm.at 3 rfl) rfl rfl rfl rfl) rfl rfl (w_n rfl) ?_
      refine TL_seq ?_
      refine T_ret' ?_
      refine ret_of rfl (.agg #[.slice a ps.length cap, .int .u64 (lost + 1)]) (fun tmps w hk hm => res1 rfl (res_cell (hk 4 _ rfl) (run_loadVar_agg ag27 sz27 (hm.at 3 rfl) (Nat.le_of_ble_eq_true rfl) rfl))) (fun w hm => ?_)
      exact ⟨⟨a, cap, ps⟩, lost + 1, putV_more (show 64 ≤ ps.length by omega) (by omega), rfl, ShNew.same hm.ext (hns _ hn) hn⟩
    · replace h2 := of_decide_eq_false h2
      refine T_skip' ?_
      refine p_seq ?_
      refine T_seq (T_region ?_)
      refine TL_q (.agg #[.slice a ps.length cap, .int .u64 lost]) (fun _ _ hρ hm => r_loadA ag27 sz27 (hρ _ _ rfl) (hm.at 1 rfl) rfl rfl) rfl rfl rfl (w_n rfl) ?_
      refine TL_store 3 (.cells #[.slice a ps.length cap, .int .u64 lost] 27) rfl (fun _ _ hρ hm => r_store sz27 (hρ _ _ rfl) (hρ _ _ rfl) (hm.at 3 rfl) rfl rfl rfl rfl) rfl rfl (w_n rfl) ?_
      refine TL_seq ?_
      refine T_ret' ?_
      refine ret_of rfl (.agg #[.slice a ps.length cap, .int .u64 lost]) (fun tmps w hk hm => res1 rfl (res_cell (hk 4 _ rfl) (run_loadVar_agg ag27 sz27 (hm.at 3 rfl) (Nat.le_of_ble_eq_true rfl) rfl))) (fun w hm => ?_)
      exact ⟨⟨a, cap, ps⟩, lost, putV_stay (show 64 ≤ ps.length by omega) (by omega), rfl, ShNew.same hm.ext (hns _ hn) hn⟩

end Go.Proofs.Ytcidgbjgeegepaa
/- net and journal: own, spoil. Printed by a program of this seat's prover. -/
namespace Go.Proofs.Ytcidgbjgeegepaa
open Go Go.RowKit
set_option maxRecDepth 10000
theorem own_c (xs : List Pcl) (a : Option Addr) (cap : Nat) (lost : Int) (w : World) (hv : SliceAt w a cap 3 Pcl.cells xs) (hcap : cap ≤ Go.maxLen) (hx : PcsIn w xs) : Calls Try.prog 20 #[.agg #[.slice a xs.length cap, .int .u64 lost]] w fun e w' => ∃ (n : NetR) (bs : List (RowG By)), pvs n.l = fewV (pvs xs) ∧ InB bs n.l ∧ e = .returned (.agg #[.slice n.a n.l.length n.cap, .int .u64 lost]) ∧ Below w.heap.size w w' ∧ (rowP n).ok w.heap.size w' ∧ (Res.pool 5 1 byc bs).ok w.heap.size w' ∧ ∀ b, (rowP n).foot b → ¬ (Res.pool 5 1 byc bs).foot b := by
  refine calls_of_T (l := [.agg #[.slice a xs.length cap, .int .u64 lost]]) 9 Try.func20 rfl rfl rfl ?_
  show T _ _ _ [(0, .agg #[.slice a xs.length cap, .int .u64 lost])] []
  refine T_seq (T_region ?_)
  refine TL_new 1 (.cells #[.slice a xs.length cap, .int .u64 lost] 27) (fun B => .pointer (some ⟨B, 0, none⟩)) (fun _ _ hρ _ => r_box (hρ _ _ rfl) rfl) rfl rfl rfl (w_n rfl) ?_
  intro B1
  refine TL_new 2 (.cells #[.slice none 0 0, .int .u64 0] 27) (fun B => .pointer (some ⟨B, 0, none⟩)) (fun _ _ _ _ => r_alloc (v := .agg #[.slice none 0 0, .int .u64 0]) (by kernel_rfl) rfl) rfl rfl rfl (w_n rfl) ?_
  intro B2
  refine TL_seq ?_
  refine T_seq (T_draw (V := [(0, .pointer (some ⟨B1, 0, none⟩)), (1, .slice a xs.length cap), (3, .pointer (some ⟨B1, 1, none⟩)), (4, .int .u64 lost)]) [0, 1, 3, 0, 8, 31, 63] [[(1, none)], [(3, some 0)], [(4, some 1)], [(1, none)], [(6, some 3)], [(5, some 2), (7, some 4)], [(2, none), (8, some 5)]] 68 mixed (by kernel_rfl) ?_)
  refine G_step [0, 1, 3, 4] 2 [] (by kernel_rfl) (allM (all_cons (q_run (.pointer (some ⟨B1, 0, none⟩)) rfl rfl (wv_n rfl) rfl (fun _ _ hρ _ => r_fieldAddr fl27_0 sz22 (hρ _ _ rfl))) (all_cons (q_run (.slice a xs.length cap) rfl rfl (wv_n rfl) rfl (fun _ _ hρ hm => r_load ag22 (hρ _ _ rfl) (hm.at 1 rfl) rfl)) (all_cons (q_run (.pointer (some ⟨B1, 1, none⟩)) rfl rfl (wv_n rfl) rfl (fun _ _ hρ _ => r_fieldAddr fl27_1 sz25 (hρ _ _ rfl))) (all_cons (q_run (.int .u64 lost) rfl rfl (wv_n rfl) rfl (fun _ _ hρ hm => r_load ag25 (hρ _ _ rfl) (hm.at 1 rfl) rfl)) all_nil))))) (allM (all_cons ?_ all_nil))
  refine LOb_callN (fun ((n1, b1) : NetR × List (RowG By)) => pvs n1.l = fewV (pvs xs) ∧ InB b1 n1.l) (fun (n1, b1) => .slice n1.a n1.l.length n1.cap) (fun (n1, b1) => [(960, .row (.slice n1.a n1.l.length n1.cap) 36 3 n1.l.length (n1.l.flatMap Pcl.cells)), (961, .pool 5 1 byc b1)]) (fun (n1, b1) => [(5, .agg #[.slice n1.a n1.l.length n1.cap, .int .u64 lost])]) rfl (wv_n rfl) rfl rfl (fun _ _ hρ _ => r_call (args := [.slice a xs.length cap]) (enters_of Try.func12 (by kernel_rfl) rfl) (hρ _ _ rfl) ((cons2 (hρ _ _ rfl) rfl)) rfl) (fun w hm => (few_c xs a cap w (hv.keep hm.ext) hcap (fun p hp => ⟨(hx p hp).1.keep hm.ext, (hx p hp).2⟩)).mono fun e w' ⟨n, bs, hf, hi, he, hb, r1, r2, hs⟩ => ⟨(n, bs), ⟨hf, hi⟩, he, hb, newOk2 960 961 r1 r2 hs⟩) (fun (n1, b1) => by kernel_rfl) ?_
  rintro ⟨n1, b1⟩ hfn1
  refine G_step [3, 4, 5] 6 [] (by kernel_rfl) (allM (all_cons (q_run (.pointer (some ⟨B1, 1, none⟩)) rfl rfl (wv_n rfl) rfl (fun _ _ hρ _ => r_fieldAddr fl27_1 sz25 (hρ _ _ rfl))) (all_cons (q_run (.int .u64 lost) rfl rfl (wv_n rfl) rfl (fun _ _ hρ hm => r_load ag25 (hρ _ _ rfl) (hm.at 1 rfl) rfl)) (all_cons (q_run (.agg #[.slice n1.a n1.l.length n1.cap, .int .u64 lost]) rfl rfl (wv_n rfl) rfl (fun _ _ hρ _ => r_build (vs := [(0, .slice n1.a n1.l.length n1.cap), (1, .int .u64 lost)]) (by kernel_rfl) (cons2 (pair2 (hρ _ _ rfl)) (cons2 (pair2 (hρ _ _ rfl)) rfl)))) all_nil)))) (allM (all_cons ?_ all_nil))
  refine LOb_store 2 (.cells #[.slice n1.a n1.l.length n1.cap, .int .u64 lost] 27) [] rfl (wv_n rfl) rfl rfl rfl (fun _ _ hρ hm => r_store sz27 (hρ _ _ rfl) (hρ _ _ rfl) (hm.at 2 rfl) rfl rfl rfl rfl) (by kernel_rfl) ?_
  refine G_last [] [(2, .pointer (some ⟨B2, 0, none⟩))] (by kernel_rfl) (allM all_nil) (end_old rfl rfl end_nil) ?_
  refine T_ret' ?_
  refine ret_of rfl (.agg #[.slice n1.a n1.l.length n1.cap, .int .u64 lost]) (fun tmps w hk hm => res1 rfl (res_cell (hk 2 _ rfl) (run_loadVar_agg ag27 sz27 (hm.at 2 rfl) (Nat.le_of_ble_eq_true rfl) rfl))) (fun w hm => ?_)
  exact ⟨n1, b1, hfn1.1, hfn1.2, rfl, hm.ext, hm.own 960 _ rfl, hm.own 961 _ rfl, hm.sep 960 961 _ _ rfl rfl (by decide)⟩

theorem lspoil_ht {w₀ : World} {L : Heap} (n : NetR) (bs : List (RowG By)) (lost : Int) (hL : NoIds L 1000 1050) (hin : InB bs n.l) (hl9 : n.l.length ≤ 1000) : ∀ w, MemOk w₀ ((901, rowP n) :: (903, .scr 5 1 isB bs) :: L) w → Calls Try.prog 27 #[.agg #[.slice n.a n.l.length n.cap, .int .u64 lost]] w (HAns w₀ (fun _ : Unit => True) (fun _ => .tuple #[]) (fun _ => (901, rowP n) :: (903, .scr 5 1 isB bs) :: L)) := by
  obtain ⟨na, nc, nl⟩ := n
  replace hin : InB bs nl := hin
  replace hl9 : nl.length ≤ 1000 := hl9
  refine ht_of_T (l := [.agg #[.slice na nl.length nc, .int .u64 lost]]) (L := ((901, .row (.slice na nl.length nc) 36 3 nl.length (nl.flatMap Pcl.cells)) :: (903, .scr 5 1 isB bs) :: L)) 27 Try.func27 rfl rfl rfl ?_
  show T _ _ _ [(0, .agg #[.slice na nl.length nc, .int .u64 lost])] ((901, .row (.slice na nl.length nc) 36 3 nl.length (nl.flatMap Pcl.cells)) :: (903, .scr 5 1 isB bs) :: L)
  refine T_seq (T_region ?_)
  refine TL_new 1001 (.cells #[.slice na nl.length nc, .int .u64 lost] 27) (fun B => .pointer (some ⟨B, 0, none⟩)) (fun _ _ hρ _ => r_box (hρ _ _ rfl) rfl) rfl rfl rfl (w_n rfl) ?_
  intro B1
  refine TL_seq ?_
  refine T_seq (T_region ?_)
  refine TL_q (.pointer (some ⟨B1, 0, none⟩)) (fun _ _ hρ _ => r_fieldAddr fl27_0 sz22 (hρ _ _ rfl)) rfl rfl rfl (w_n rfl) ?_
  refine TL_q (.slice na nl.length nc) (fun _ _ hρ hm => r_load ag22 (hρ _ _ rfl) (hm.at 1001 rfl) rfl) rfl rfl rfl (w_n rfl) ?_
  refine TL_q (.int .i64 ((nl.length : Nat) : Int)) (fun _ _ hρ _ => r_len sl22 (hρ _ _ rfl)) rfl rfl rfl (w_n rfl) ?_
  refine TL_q (.int .i64 0) (fun _ _ hρ _ => r_move (hρ _ _ rfl)) rfl rfl rfl (w_n rfl) ?_
  refine TL_seq ?_
  refine T_block ?_
  refine T_loopT (ι := Nat) (fun (k : Nat) => k ≤ nl.length) (fun (k : Nat) => [(6, .slice na nl.length nc), (7, .int .i64 ((nl.length : Nat) : Int)), (8, .int .i64 ((k : Nat) : Int))]) (fun (k : Nat) => ((901, .row (.slice na nl.length nc) 36 3 nl.length (nl.flatMap Pcl.cells)) :: (903, .scr 5 1 isB bs) :: (1001, .blk B1 (.cells #[.slice na nl.length nc, .int .u64 lost] 27)) :: L)) (fun (k : Nat) => nl.length - k) 0 (Nat.zero_le _) (sub_cons rfl (sub_cons rfl (sub_cons rfl sub_nil))) (by first | exact lk_fin (F := [_, _, _]) (sub_cons rfl (sub_cons rfl (sub_cons rfl sub_nil))) rfl hL | exact lk_fin (F := [_, _, _, _]) (sub_cons rfl (sub_cons rfl (sub_cons rfl sub_nil))) rfl hL | exact lk_fin (F := [_, _, _, _, _]) (sub_cons rfl (sub_cons rfl (sub_cons rfl sub_nil))) rfl hL | exact lk_fin (F := [_, _, _, _, _, _]) (sub_cons rfl (sub_cons rfl (sub_cons rfl sub_nil))) rfl hL | exact lk_fin (F := [_, _, _, _, _, _, _]) (sub_cons rfl (sub_cons rfl (sub_cons rfl sub_nil))) rfl hL | exact lk_fin (F := [_, _, _, _, _, _, _, _]) (sub_cons rfl (sub_cons rfl (sub_cons rfl sub_nil))) rfl hL | exact lk_fin (F := [_, _, _, _, _, _, _, _, _]) (sub_cons rfl (sub_cons rfl (sub_cons rfl sub_nil))) rfl hL | exact lk_fin (F := [_, _, _, _, _, _, _, _, _, _]) (sub_cons rfl (sub_cons rfl (sub_cons rfl sub_nil))) rfl hL | exact lk_fin (F := [_, _, _, _, _, _, _, _, _, _, _]) (sub_cons rfl (sub_cons rfl (sub_cons rfl sub_nil))) rfl hL | exact lk_fin (F := [_, _, _, _, _, _, _, _, _, _, _, _]) (sub_cons rfl (sub_cons rfl (sub_cons rfl sub_nil))) rfl hL | exact lk_fin (F := [_, _, _, _, _, _, _, _, _, _, _, _, _]) (sub_cons rfl (sub_cons rfl (sub_cons rfl sub_nil))) rfl hL | exact lk_fin (F := [_, _, _, _, _, _, _, _, _, _, _, _, _, _]) (sub_cons rfl (sub_cons rfl (sub_cons rfl sub_nil))) rfl hL) ?_
  rintro k hp
  have hk := hp
  show T _ _ _ [(6, .slice na nl.length nc), (7, .int .i64 ((nl.length : Nat) : Int)), (8, .int .i64 ((k : Nat) : Int))] ((901, .row (.slice na nl.length nc) 36 3 nl.length (nl.flatMap Pcl.cells)) :: (903, .scr 5 1 isB bs) :: (1001, .blk B1 (.cells #[.slice na nl.length nc, .int .u64 lost] 27)) :: L)
  refine T_seq (T_region ?_)
  refine TL_q (.bool (decide (((k : Nat) : Int) < ((nl.length : Nat) : Int)))) (fun _ _ hρ _ => r_lss (hρ _ _ rfl) (hρ _ _ rfl)) rfl rfl rfl (w_n rfl) ?_
  refine TL_seq ?_
  refine T_seq ?_
  refine T_cond rfl (fun h1 => ?_) (fun h1 => ?_)
  · replace h1 := of_decide_eq_true h1
    refine T_skip' ?_
    refine p_seq ?_
    refine T_seq ?_
    refine T_block ?_
    obtain ⟨p, hp9⟩ : ∃ x, nl[k]? = some x := ⟨_, List.getElem?_eq_getElem (by omega)⟩
    have hin9 := hin p (List.mem_of_getElem? hp9)
    refine T_row 901 rfl (by omega) (fun g2 ha2 => ?_)
    subst ha2
    refine T_rowcap 901 rfl (fun hrc2 => ?_)
    refine T_seq (T_region ?_)
    refine TL_q (.pointer (some ⟨g2, 0 + k * 3, none⟩)) (fun _ _ hρ _ => r_indexAddrS (i := k) sl22 sz36 (hρ _ _ rfl) (hρ _ _ rfl) (by omega)) rfl rfl rfl (w_n rfl) ?_
    refine TL_q (.agg #[.int .i64 p.to, .slice p.r.a p.r.l.length p.r.cap, .bool p.sp]) (fun _ _ hρ hm => r_loadOwn (f := Pcl.cells) (u := p) (l := nl) ag36 sz36 (hρ _ _ rfl) (hm.row 901 rfl) rfl rfl Pcl.cells_len hp9) rfl rfl rfl (w_n rfl) ?_
    refine TL_new 1002 (.cells #[.int .i64 0, .slice none 0 0, .bool false] 36) (fun B => .pointer (some ⟨B, 0, none⟩)) (fun _ _ _ _ => r_alloc (v := .agg #[.int .i64 0, .slice none 0 0, .bool false]) (by kernel_rfl) rfl) rfl rfl rfl (w_n rfl) ?_
    intro B3
    refine TL_store 1002 (.cells #[.int .i64 p.to, .slice p.r.a p.r.l.length p.r.cap, .bool p.sp] 36) rfl (fun _ _ hρ hm => r_store sz36 (hρ _ _ rfl) (hρ _ _ rfl) (hm.at 1002 rfl) rfl rfl rfl rfl) rfl rfl (w_n rfl) ?_
    refine TL_seq ?_
    refine T_seq (T_region ?_)
    refine TL_q (.pointer (some ⟨B3, 1, none⟩)) (fun _ _ hρ _ => r_fieldAddr fl36_1 sz34 (hρ _ _ rfl)) rfl rfl rfl (w_n rfl) ?_
    refine TL_q (.slice p.r.a p.r.l.length p.r.cap) (fun _ _ hρ hm => r_load ag34 (hρ _ _ rfl) (hm.at 1002 rfl) rfl) rfl rfl rfl (w_n rfl) ?_
    refine TL_q (.int .i64 ((p.r.l.length : Nat) : Int)) (fun _ _ hρ _ => r_len sl34 (hρ _ _ rfl)) rfl rfl rfl (w_n rfl) ?_
    refine TL_q (.int .i64 0) (fun _ _ hρ _ => r_move (hρ _ _ rfl)) rfl rfl rfl (w_n rfl) ?_
    refine TL_seq ?_
    refine T_block ?_
    refine T_loopT (ι := Nat) (fun (m : Nat) => m ≤ p.r.l.length) (fun (m : Nat) => [(6, .slice (some ⟨g2, 0, none⟩) nl.length nc), (7, .int .i64 ((nl.length : Nat) : Int)), (8, .int .i64 ((k : Nat) : Int)), (9, .bool (decide (((k : Nat) : Int) < ((nl.length : Nat) : Int)))), (10, .pointer (some ⟨g2, 0 + k * 3, none⟩)), (11, .agg #[.int .i64 p.to, .slice p.r.a p.r.l.length p.r.cap, .bool p.sp]), (3, .pointer (some ⟨B3, 0, none⟩)), (12, .pointer (some ⟨B3, 1, none⟩)), (13, .slice p.r.a p.r.l.length p.r.cap), (14, .int .i64 ((p.r.l.length : Nat) : Int)), (15, .int .i64 ((m : Nat) : Int))]) (fun (m : Nat) => ((901, .row (.slice (some ⟨g2, 0, none⟩) nl.length nc) 36 3 nl.length (nl.flatMap Pcl.cells)) :: (903, .scr 5 1 isB bs) :: (1001, .blk B1 (.cells #[.slice (some ⟨g2, 0, none⟩) nl.length nc, .int .u64 lost] 27)) :: (1002, .blk B3 (.cells #[.int .i64 p.to, .slice p.r.a p.r.l.length p.r.cap, .bool p.sp] 36)) :: L)) (fun (m : Nat) => p.r.l.length - m) 0 (Nat.zero_le _) (sub_cons rfl (sub_cons rfl (sub_cons rfl (sub_cons rfl (sub_cons rfl (sub_cons rfl (sub_cons rfl (sub_cons rfl (sub_cons rfl (sub_cons rfl (sub_cons rfl sub_nil))))))))))) (by first | exact lk_fin (F := [_, _, _, _]) (sub_cons rfl (sub_cons rfl (sub_cons rfl (sub_cons rfl sub_nil)))) rfl hL | exact lk_fin (F := [_, _, _, _, _]) (sub_cons rfl (sub_cons rfl (sub_cons rfl (sub_cons rfl sub_nil)))) rfl hL | exact lk_fin (F := [_, _, _, _, _, _]) (sub_cons rfl (sub_cons rfl (sub_cons rfl (sub_cons rfl sub_nil)))) rfl hL | exact lk_fin (F := [_, _, _, _, _, _, _]) (sub_cons rfl (sub_cons rfl (sub_cons rfl (sub_cons rfl sub_nil)))) rfl hL | exact lk_fin (F := [_, _, _, _, _, _, _, _]) (sub_cons rfl (sub_cons rfl (sub_cons rfl (sub_cons rfl sub_nil)))) rfl hL | exact lk_fin (F := [_, _, _, _, _, _, _, _, _]) (sub_cons rfl (sub_cons rfl (sub_cons rfl (sub_cons rfl sub_nil)))) rfl hL | exact lk_fin (F := [_, _, _, _, _, _, _, _, _, _]) (sub_cons rfl (sub_cons rfl (sub_cons rfl (sub_cons rfl sub_nil)))) rfl hL | exact lk_fin (F := [_, _, _, _, _, _, _, _, _, _, _]) (sub_cons rfl (sub_cons rfl (sub_cons rfl (sub_cons rfl sub_nil)))) rfl hL | exact lk_fin (F := [_, _, _, _, _, _, _, _, _, _, _, _]) (sub_cons rfl (sub_cons rfl (sub_cons rfl (sub_cons rfl sub_nil)))) rfl hL | exact lk_fin (F := [_, _, _, _, _, _, _, _, _, _, _, _, _]) (sub_cons rfl (sub_cons rfl (sub_cons rfl (sub_cons rfl sub_nil)))) rfl hL | exact lk_fin (F := [_, _, _, _, _, _, _, _, _, _, _, _, _, _]) (sub_cons rfl (sub_cons rfl (sub_cons rfl (sub_cons rfl sub_nil)))) rfl hL | exact lk_fin (F := [_, _, _, _, _, _, _, _, _, _, _, _, _, _, _]) (sub_cons rfl (sub_cons rfl (sub_cons rfl (sub_cons rfl sub_nil)))) rfl hL) ?_
    rintro m hp
    have hmk := hp
    show T _ _ _ [(6, .slice (some ⟨g2, 0, none⟩) nl.length nc), (7, .int .i64 ((nl.length : Nat) : Int)), (8, .int .i64 ((k : Nat) : Int)), (9, .bool (decide (((k : Nat) : Int) < ((nl.length : Nat) : Int)))), (10, .pointer (some ⟨g2, 0 + k * 3, none⟩)), (11, .agg #[.int .i64 p.to, .slice p.r.a p.r.l.length p.r.cap, .bool p.sp]), (3, .pointer (some ⟨B3, 0, none⟩)), (12, .pointer (some ⟨B3, 1, none⟩)), (13, .slice p.r.a p.r.l.length p.r.cap), (14, .int .i64 ((p.r.l.length : Nat) : Int)), (15, .int .i64 ((m : Nat) : Int))] ((901, .row (.slice (some ⟨g2, 0, none⟩) nl.length nc) 36 3 nl.length (nl.flatMap Pcl.cells)) :: (903, .scr 5 1 isB bs) :: (1001, .blk B1 (.cells #[.slice (some ⟨g2, 0, none⟩) nl.length nc, .int .u64 lost] 27)) :: (1002, .blk B3 (.cells #[.int .i64 p.to, .slice p.r.a p.r.l.length p.r.cap, .bool p.sp] 36)) :: L)
    refine T_seq (T_region ?_)
    refine TL_q (.bool (decide (((m : Nat) : Int) < ((p.r.l.length : Nat) : Int)))) (fun _ _ hρ _ => r_lss (hρ _ _ rfl) (hρ _ _ rfl)) rfl rfl rfl (w_n rfl) ?_
    refine TL_seq ?_
    refine T_seq ?_
    refine T_cond rfl (fun h2 => ?_) (fun h2 => ?_)
    · replace h2 := of_decide_eq_true h2
      refine T_skip' ?_
      refine p_seq ?_
      refine T_seq ?_
      refine T_block ?_
      refine T_seq (T_region ?_)
      refine TL_q (.int .i64 ((m : Nat) : Int)) (fun _ _ hρ _ => r_move (hρ _ _ rfl)) rfl rfl rfl (w_n rfl) ?_
      refine TL_q (.int .i64 ((m : Nat) : Int)) (fun _ _ hρ _ => r_assign (hρ _ _ rfl)) rfl rfl rfl (w_n rfl) ?_
      refine TL_seq ?_
      refine T_scr 903 rfl hin9.1 (fun e => by have := congrArg List.length e; simp only [List.length_nil] at this; omega) (fun B9 hB9 => ?_)
      rw [hB9]
      refine T_region ?_
      refine TL_q (.pointer (some ⟨B3, 1, none⟩)) (fun _ _ hρ _ => r_fieldAddr fl36_1 sz34 (hρ _ _ rfl)) rfl rfl rfl (w_n rfl) ?_
      refine TL_q (.slice (some ⟨B9, 0, none⟩) p.r.l.length p.r.cap) (fun _ _ hρ hm => r_load ag34 (hρ _ _ rfl) (hm.at 1002 rfl) rfl) rfl rfl rfl (w_n rfl) ?_
      refine TL_q (.int .i64 ((m : Nat) : Int)) (fun _ _ hρ _ => r_move (hρ _ _ rfl)) rfl rfl rfl (w_n rfl) ?_
      refine TL_q (.pointer (some ⟨B9, 0 + m * 1, none⟩)) (fun _ _ hρ _ => r_indexAddrS (i := m) sl34 sz5 (hρ _ _ rfl) (hρ _ _ rfl) (by omega)) rfl rfl rfl (w_n rfl) ?_
      refine TL_op (ι := By) (fun B => .int .u8 ((B).toNat : Int)) _ (fun _ _ hρ hm => o_loadB (i := 0 + m * 1) 903 rfl hin9.1 ag5 hB9 (by omega) (hρ _ _ rfl) hm) rfl rfl rfl (w_n rfl) ?_
      intro B4
      refine TL_q (.int .u8 ((B4 + (1#8)).toNat : Int)) (fun _ _ hρ _ => r_addB (k := .u8) (a := B4) (b := (1#8)) rfl (hρ _ _ rfl) (hρ _ _ rfl)) rfl rfl rfl (w_n rfl) ?_
      refine TL_q (.pointer (some ⟨B9, 0 + m * 1, none⟩)) (fun _ _ hρ _ => r_indexAddrS (i := m) sl34 sz5 (hρ _ _ rfl) (hρ _ _ rfl) (by omega)) rfl rfl rfl (w_n rfl) ?_
      refine TL_opS _ (fun _ _ hρ hm => o_storeScr (i := 0 + m * 1) (v := .int .u8 ((B4 + (1#8)).toNat : Int)) 903 rfl hin9.1 hB9 (by omega) (hρ _ _ rfl) (hρ _ _ rfl) sz5 rfl rfl ⟨_, rfl⟩ hm) rfl rfl (w_n rfl) ?_
      refine TL_nil ?_
      refine p_blk_n ?_
      refine p_seq ?_
      rw [← hB9]
      refine T_region ?_
      refine TL_q (.int .i64 ((m + 1 : Nat) : Int)) (fun _ _ hρ _ => r_as (r_add (hρ _ _ rfl) (hρ _ _ rfl)) (int_as ((wrap64 (by omega) (by omega)).trans (by omega)))) rfl rfl rfl (w_n rfl) ?_
      refine TL_q (.int .i64 ((m + 1 : Nat) : Int)) (fun _ _ hρ _ => r_move (hρ _ _ rfl)) rfl rfl rfl (w_n rfl) ?_
      refine TL_nil ?_
      exact p_atT (m + 1) ⟨by omega, by omega⟩ (sub_cons rfl (sub_cons rfl (sub_cons rfl (sub_cons rfl (sub_cons rfl (sub_cons rfl (sub_cons rfl (sub_cons rfl (sub_cons rfl (sub_cons rfl (sub_cons rfl sub_nil))))))))))) (by first | exact lk_fin (F := [_, _, _, _]) (sub_cons rfl (sub_cons rfl (sub_cons rfl (sub_cons rfl sub_nil)))) rfl hL | exact lk_fin (F := [_, _, _, _, _]) (sub_cons rfl (sub_cons rfl (sub_cons rfl (sub_cons rfl sub_nil)))) rfl hL | exact lk_fin (F := [_, _, _, _, _, _]) (sub_cons rfl (sub_cons rfl (sub_cons rfl (sub_cons rfl sub_nil)))) rfl hL | exact lk_fin (F := [_, _, _, _, _, _, _]) (sub_cons rfl (sub_cons rfl (sub_cons rfl (sub_cons rfl sub_nil)))) rfl hL | exact lk_fin (F := [_, _, _, _, _, _, _, _]) (sub_cons rfl (sub_cons rfl (sub_cons rfl (sub_cons rfl sub_nil)))) rfl hL | exact lk_fin (F := [_, _, _, _, _, _, _, _, _]) (sub_cons rfl (sub_cons rfl (sub_cons rfl (sub_cons rfl sub_nil)))) rfl hL | exact lk_fin (F := [_, _, _, _, _, _, _, _, _, _]) (sub_cons rfl (sub_cons rfl (sub_cons rfl (sub_cons rfl sub_nil)))) rfl hL | exact lk_fin (F := [_, _, _, _, _, _, _, _, _, _, _]) (sub_cons rfl (sub_cons rfl (sub_cons rfl (sub_cons rfl sub_nil)))) rfl hL | exact lk_fin (F := [_, _, _, _, _, _, _, _, _, _, _, _]) (sub_cons rfl (sub_cons rfl (sub_cons rfl (sub_cons rfl sub_nil)))) rfl hL | exact lk_fin (F := [_, _, _, _, _, _, _, _, _, _, _, _, _]) (sub_cons rfl (sub_cons rfl (sub_cons rfl (sub_cons rfl sub_nil)))) rfl hL | exact lk_fin (F := [_, _, _, _, _, _, _, _, _, _, _, _, _, _]) (sub_cons rfl (sub_cons rfl (sub_cons rfl (sub_cons rfl sub_nil)))) rfl hL | exact lk_fin (F := [_, _, _, _, _, _, _, _, _, _, _, _, _, _, _]) (sub_cons rfl (sub_cons rfl (sub_cons rfl (sub_cons rfl sub_nil)))) rfl hL)
    · replace h2 := of_decide_eq_false h2
      refine T_exit' ?_
      refine p_then_x ?_
      refine p_then_x ?_
      refine p_blk_x ?_
      refine p_blk_n ?_
      refine p_seq ?_
      refine T_region ?_
      refine TL_q (.int .i64 ((k + 1 : Nat) : Int)) (fun _ _ hρ _ => r_as (r_add (hρ _ _ rfl) (hρ _ _ rfl)) (int_as ((wrap64 (by omega) (by omega)).trans (by omega)))) rfl rfl rfl (w_n rfl) ?_
      refine TL_q (.int .i64 ((k + 1 : Nat) : Int)) (fun _ _ hρ _ => r_move (hρ _ _ rfl)) rfl rfl rfl (w_n rfl) ?_
      refine TL_nil ?_
      exact p_atT (k + 1) ⟨by omega, by omega⟩ (sub_cons rfl (sub_cons rfl (sub_cons rfl sub_nil))) (by first | exact lk_fin (F := [_, _, _, _]) (sub_cons rfl (sub_cons rfl (sub_cons rfl sub_nil))) rfl hL | exact lk_fin (F := [_, _, _, _, _]) (sub_cons rfl (sub_cons rfl (sub_cons rfl sub_nil))) rfl hL | exact lk_fin (F := [_, _, _, _, _, _]) (sub_cons rfl (sub_cons rfl (sub_cons rfl sub_nil))) rfl hL | exact lk_fin (F := [_, _, _, _, _, _, _]) (sub_cons rfl (sub_cons rfl (sub_cons rfl sub_nil))) rfl hL | exact lk_fin (F := [_, _, _, _, _, _, _, _]) (sub_cons rfl (sub_cons rfl (sub_cons rfl sub_nil))) rfl hL | exact lk_fin (F := [_, _, _, _, _, _, _, _, _]) (sub_cons rfl (sub_cons rfl (sub_cons rfl sub_nil))) rfl hL | exact lk_fin (F := [_, _, _, _, _, _, _, _, _, _]) (sub_cons rfl (sub_cons rfl (sub_cons rfl sub_nil))) rfl hL | exact lk_fin (F := [_, _, _, _, _, _, _, _, _, _, _]) (sub_cons rfl (sub_cons rfl (sub_cons rfl sub_nil))) rfl hL | exact lk_fin (F := [_, _, _, _, _, _, _, _, _, _, _, _]) (sub_cons rfl (sub_cons rfl (sub_cons rfl sub_nil))) rfl hL | exact lk_fin (F := [_, _, _, _, _, _, _, _, _, _, _, _, _]) (sub_cons rfl (sub_cons rfl (sub_cons rfl sub_nil))) rfl hL | exact lk_fin (F := [_, _, _, _, _, _, _, _, _, _, _, _, _, _]) (sub_cons rfl (sub_cons rfl (sub_cons rfl sub_nil))) rfl hL | exact lk_fin (F := [_, _, _, _, _, _, _, _, _, _, _, _, _, _, _]) (sub_cons rfl (sub_cons rfl (sub_cons rfl sub_nil))) rfl hL)
  · replace h1 := of_decide_eq_false h1
    refine T_exit' ?_
    refine p_then_x ?_
    refine p_then_x ?_
    refine p_blk_x ?_
    refine p_end ?_
    refine ret_of rfl (.tuple #[]) (fun tmps w hk hm => results_none rfl _ _ _) (fun w hm => ?_)
    refine ⟨(), trivial, rfl, ?_⟩
    first | exact hm.of (lk_fin (F := [_, _, _]) (T := [(901, rowP ⟨na, nc, nl⟩), (903, .scr 5 1 isB bs)]) (sub_cons rfl (sub_cons rfl sub_nil)) rfl hL) | exact hm.of (lk_fin (F := [_, _, _, _]) (T := [(901, rowP ⟨na, nc, nl⟩), (903, .scr 5 1 isB bs)]) (sub_cons rfl (sub_cons rfl sub_nil)) rfl hL) | exact hm.of (lk_fin (F := [_, _, _, _, _]) (T := [(901, rowP ⟨na, nc, nl⟩), (903, .scr 5 1 isB bs)]) (sub_cons rfl (sub_cons rfl sub_nil)) rfl hL) | exact hm.of (lk_fin (F := [_, _, _, _, _, _]) (T := [(901, rowP ⟨na, nc, nl⟩), (903, .scr 5 1 isB bs)]) (sub_cons rfl (sub_cons rfl sub_nil)) rfl hL) | exact hm.of (lk_fin (F := [_, _, _, _, _, _, _]) (T := [(901, rowP ⟨na, nc, nl⟩), (903, .scr 5 1 isB bs)]) (sub_cons rfl (sub_cons rfl sub_nil)) rfl hL) | exact hm.of (lk_fin (F := [_, _, _, _, _, _, _, _]) (T := [(901, rowP ⟨na, nc, nl⟩), (903, .scr 5 1 isB bs)]) (sub_cons rfl (sub_cons rfl sub_nil)) rfl hL) | exact hm.of (lk_fin (F := [_, _, _, _, _, _, _, _, _]) (T := [(901, rowP ⟨na, nc, nl⟩), (903, .scr 5 1 isB bs)]) (sub_cons rfl (sub_cons rfl sub_nil)) rfl hL) | exact hm.of (lk_fin (F := [_, _, _, _, _, _, _, _, _, _]) (T := [(901, rowP ⟨na, nc, nl⟩), (903, .scr 5 1 isB bs)]) (sub_cons rfl (sub_cons rfl sub_nil)) rfl hL)
end Go.Proofs.Ytcidgbjgeegepaa
