/- Texts of this seat, merged: part 4. -/
import Derived.Test.YtcidgbjgeegepaaMg3
/- net and journal: Do. Printed by a program of this seat's prover. -/
namespace Go.Proofs.Ytcidgbjgeegepaa
open Go Go.RowKit
set_option maxRecDepth 10000
/-- The last of parcels (the zero parcel, if there is none). -/
def lastP (l : List Pcl) : Pcl := l.getLast?.getD ⟨0, ⟨none, 0, []⟩, false⟩
theorem lastP_step {l : List Pcl} {k : Nat} {p : Pcl} (h : l[k]? = some p) : lastP (l.take (k + 1)) = p := by
  unfold lastP
  rw [List.take_add_one, h]
  simp
def toldV (l : List PV) : PV := l.getLast?.getD zeroP
theorem lastP_pv (l : List Pcl) : (lastP l).pv = toldV (pvs l) := by
  unfold lastP toldV pvs
  rw [List.getLast?_map]
  cases l.getLast? <;> rfl
/-- What a trick on a net has come to. -/
structure Did (n : NV) (t : Trk) (x : Nat × Hd × List (RowG By)) : Prop where
  nv : x.2.1.nv = (doV n t).2.1
  told : (lastP x.2.1.t.l).pv = toldV (doV n t).2.2
  ok : HdOk x.2.1 x.2.2
theorem did_of {n : NV} {t : Trk} {H : Nat} {h h' : Hd} {bs bs' : List (RowG By)} (hv : h.nv = n) (ht : h.t = ⟨none, 0, []⟩) (hd : Done h bs t (h', bs')) : Did n t (H, h', bs') := by
  subst hv
  refine ⟨hd.nv, ?_, hd.ok⟩
  have := hd.told
  rw [ht] at this
  dsimp only at this ⊢
  rw [lastP_pv, this]; rfl

theorem do1_ok {w₀ : World} {L : Heap} (T0 T1 T2 T3 : Nat) (ps : List Pcl) (a : Option Addr) (cap : Nat) (lost tk i tb : Int) (tm : Wd) (hL : NoIds L 910 1950) (hv : SliceAt w₀ a cap 3 Pcl.cells ps) (hcap : cap ≤ Go.maxLen) (hb : PcsAt w₀ ps) (h0 : 0 ≤ lost) (hck : checkV (pvs ps) lost = true) (hdo : (doV (pvs ps, lost) ⟨tk, i, tb, tm⟩).1 = 0) : ∀ w, MemOk w₀ ([(904, .blk T0 (.cells #[.slice a ps.length cap, .int .u64 lost] 27)), (905, .blk T1 (.cells #[.int .i64 tk, .int .i64 i, .int .i64 tb, .int .u32 (tm.toNat : Int)] 48)), (906, .blk T2 (.cells #[.slice none 0 0, .int .u64 0] 27)), (907, .blk T3 (.cells #[.int .i64 0, .slice none 0 0, .bool false] 36))] ++ L) w → Calls Try.prog 69 #[.pointer (some ⟨T0, 0, none⟩), .pointer (some ⟨T1, 0, none⟩), .pointer (some ⟨T2, 0, none⟩), .pointer (some ⟨T3, 0, none⟩)] w (HAns w₀ (fun x : Nat × Hd × List (RowG By) => Did (pvs ps, lost) ⟨tk, i, tb, tm⟩ x) (fun _ => .tuple #[]) (fun x => hdL x.1 x.2.1 x.2.2 ++ [(904, .blk T0 (.cells #[.slice a ps.length cap, .int .u64 lost] 27)), (905, .blk T1 (.cells #[.int .i64 tk, .int .i64 i, .int .i64 tb, .int .u32 (tm.toNat : Int)] 48)), (906, .blk T2 (.cells #[.slice x.2.1.n.a x.2.1.n.l.length x.2.1.n.cap, .int .u64 x.2.1.lost] 27)), (907, .blk T3 (.cells #[.int .i64 (lastP x.2.1.t.l).to, .slice (lastP x.2.1.t.l).r.a (lastP x.2.1.t.l).r.l.length (lastP x.2.1.t.l).r.cap, .bool (lastP x.2.1.t.l).sp] 36))] ++ L)) := by
  have hvl := hv.1
  unfold Go.maxLen at hcap
  refine ht_of_T (l := [.pointer (some ⟨T0, 0, none⟩), .pointer (some ⟨T1, 0, none⟩), .pointer (some ⟨T2, 0, none⟩), .pointer (some ⟨T3, 0, none⟩)]) (L := ((904, .blk T0 (.cells #[.slice a ps.length cap, .int .u64 lost] 27)) :: (905, .blk T1 (.cells #[.int .i64 tk, .int .i64 i, .int .i64 tb, .int .u32 ((tm).toNat : Int)] 48)) :: (906, .blk T2 (.cells #[.slice none 0 0, .int .u64 0] 27)) :: (907, .blk T3 (.cells #[.int .i64 0, .slice none 0 0, .bool false] 36)) :: L)) 32 Try.func69 rfl rfl rfl ?_
  show T _ _ _ [(0, .pointer (some ⟨T0, 0, none⟩)), (1, .pointer (some ⟨T1, 0, none⟩)), (2, .pointer (some ⟨T2, 0, none⟩)), (3, .pointer (some ⟨T3, 0, none⟩))] ((904, .blk T0 (.cells #[.slice a ps.length cap, .int .u64 lost] 27)) :: (905, .blk T1 (.cells #[.int .i64 tk, .int .i64 i, .int .i64 tb, .int .u32 ((tm).toNat : Int)] 48)) :: (906, .blk T2 (.cells #[.slice none 0 0, .int .u64 0] 27)) :: (907, .blk T3 (.cells #[.int .i64 0, .slice none 0 0, .bool false] 36)) :: L)
  refine T_seq (T_region ?_)
  refine TL_q (.agg #[.slice a ps.length cap, .int .u64 lost]) (fun _ _ hρ hm => r_loadA ag27 sz27 (hρ _ _ rfl) (hm.at 904 rfl) rfl rfl) rfl rfl rfl (w_n rfl) ?_
  refine TL_callN (fun x : Nat × Hd × List (RowG By) => OfOk ps lost x) (fun (H1, h1, bs1) => .pointer (some ⟨H1, 0, none⟩)) (fun (H1, h1, bs1) => [(900, .blk H1 (.cells #[.slice h1.n.a h1.n.l.length h1.n.cap, .int .u64 h1.lost, .slice h1.t.a h1.t.l.length h1.t.cap] 104)), (901, .row (.slice h1.n.a h1.n.l.length h1.n.cap) 36 3 h1.n.l.length (h1.n.l.flatMap Pcl.cells)), (902, .row (.slice h1.t.a h1.t.l.length h1.t.cap) 36 3 h1.t.l.length (h1.t.l.flatMap Pcl.cells)), (903, .pool 5 1 byc bs1)]) (fun _ _ hρ _ => r_call (args := [.agg #[.slice a ps.length cap, .int .u64 lost]]) (enters_of Try.func61 (by kernel_rfl) rfl) (hρ _ _ rfl) ((cons2 (hρ _ _ rfl) rfl)) rfl) (fun w hm => (of_ok ps a cap lost w (hv.keep hm.ext) hcap (hb.keep hm.ext) h0 hck).mono fun e w' ⟨⟨H, h, bs⟩, hx, he, hb, hn⟩ => ⟨(H, h, bs), hx, he, hb, hn⟩) rfl rfl rfl (w_n rfl) ?_
  rintro ⟨H1, h1, bs1⟩ ⟨hv1, hk1, ht1⟩
  refine TL_q (.pointer (some ⟨H1, 0, none⟩)) (fun _ _ hρ _ => r_assign (hρ _ _ rfl)) rfl rfl rfl (w_n rfl) ?_
  refine TL_seq ?_
  refine T_seq (T_region ?_)
  refine TL_q (.pointer (some ⟨H1, 0, none⟩)) (fun _ _ hρ _ => r_move (hρ _ _ rfl)) rfl rfl rfl (w_n rfl) ?_
  refine TL_q (.agg #[.int .i64 tk, .int .i64 i, .int .i64 tb, .int .u32 ((tm).toNat : Int)]) (fun _ _ hρ hm => r_loadA ag48 sz48 (hρ _ _ rfl) (hm.at 905 rfl) rfl rfl) rfl rfl rfl (w_n rfl) ?_
  refine TL_callH _ _ _ (fun _ _ hρ _ => r_call (args := [.pointer (some ⟨H1, 0, none⟩), .agg #[.int .i64 tk, .int .i64 i, .int .i64 tb, .int .u32 ((tm).toNat : Int)]]) (enters_of Try.func70 (by kernel_rfl) rfl) (hρ _ _ rfl) ((cons2 (hρ _ _ rfl) (cons2 (hρ _ _ rfl) rfl))) rfl) (fun w hm => (does_any H1 (⟨⟨h1.n.a, h1.n.cap, h1.n.l⟩, h1.lost, ⟨h1.t.a, h1.t.cap, h1.t.l⟩⟩ : Hd) bs1 ⟨tk, i, tb, tm⟩ (by repeat (first | exact hL.sub rfl rfl | refine noIds_cons rfl ?_)) hk1 (by rw [show (_ : NetR) = _ from ht1]; exact Nat.zero_le _) w (hm.of (lk_dups (A := hdL H1 (⟨⟨h1.n.a, h1.n.cap, h1.n.l⟩, h1.lost, ⟨h1.t.a, h1.t.cap, h1.t.l⟩⟩ : Hd) bs1) (sub_cons rfl (sub_cons rfl (sub_cons rfl (sub_cons rfl sub_nil))))))).mono fun e w' ⟨x, hx, he, hm⟩ => ⟨x, hx, he.trans (congrArg Ending.returned (int_as ((congrArg (fun n => (doV n _).1) hv1).trans hdo))), hm⟩) rfl rfl rfl (w_n rfl) ?_
  rintro ⟨⟨⟨na2, nc2, nl2⟩, lo2, ⟨ta2, tc2, tl2⟩⟩, bs2⟩ hd2
  refine TL_q (.int .i64 0) (fun _ _ hρ _ => r_assign (hρ _ _ rfl)) rfl rfl rfl (w_n rfl) ?_
  refine TL_seq ?_
  refine T_seq (T_region ?_)
  refine TL_q (.int .i64 0) (fun _ _ hρ _ => r_move (hρ _ _ rfl)) rfl rfl rfl (w_n rfl) ?_
  refine TL_q (.bool true) (fun _ _ hρ _ => r_as (r_eql (hρ _ _ rfl) (hρ _ _ rfl)) (bool_as (decide_eq_true rfl))) rfl rfl rfl (w_n rfl) ?_
  refine TL_q (.int .i64 0) (fun _ _ hρ _ => r_move (hρ _ _ rfl)) rfl rfl rfl (w_n rfl) ?_
  refine TL_call (.tuple #[]) (fun _ _ hρ _ => r_call (args := [.bool true, .int .i64 0]) (enters_of Try.func62 (by kernel_rfl) rfl) (hρ _ _ rfl) ((cons2 (hρ _ _ rfl) (cons2 (hρ _ _ rfl) rfl))) rfl) (fun w _ => need_ok_net 0 w) rfl rfl rfl (w_n rfl) ?_
  refine TL_seq ?_
  refine T_seq (T_region ?_)
  refine TL_q (.pointer (some ⟨H1, 0, none⟩)) (fun _ _ hρ _ => r_move (hρ _ _ rfl)) rfl rfl rfl (w_n rfl) ?_
  refine TL_q (.pointer (some ⟨H1, 0, none⟩)) (fun _ _ hρ _ => r_nilCheck (hρ _ _ rfl) rfl) rfl rfl rfl (w_n rfl) ?_
  refine TL_q (.pointer (some ⟨H1, 0, none⟩)) (fun _ _ hρ _ => r_fieldAddr fl104_0 sz27 (hρ _ _ rfl)) rfl rfl rfl (w_n rfl) ?_
  refine TL_q (.agg #[.slice na2 nl2.length nc2, .int .u64 lo2]) (fun _ _ hρ hm => r_loadA ag27 sz27 (hρ _ _ rfl) (hm.at 900 rfl) rfl rfl) rfl rfl rfl (w_n rfl) ?_
  refine TL_store 906 (.cells #[.slice na2 nl2.length nc2, .int .u64 lo2] 27) rfl (fun _ _ hρ hm => r_store sz27 (hρ _ _ rfl) (hρ _ _ rfl) (hm.at 906 rfl) rfl rfl rfl rfl) rfl rfl (w_n rfl) ?_
  refine TL_seq ?_
  have h9 : tl2.length ≤ 1 := Nat.le_trans hd2.len (Nat.le_of_eq (congrArg (fun t : NetR => t.l.length + 1) ht1))
  refine T_seq (T_region ?_)
  refine TL_q (.pointer (some ⟨H1, 0, none⟩)) (fun _ _ hρ _ => r_move (hρ _ _ rfl)) rfl rfl rfl (w_n rfl) ?_
  refine TL_q (.pointer (some ⟨H1, 0, none⟩)) (fun _ _ hρ _ => r_nilCheck (hρ _ _ rfl) rfl) rfl rfl rfl (w_n rfl) ?_
  refine TL_q (.pointer (some ⟨H1, 2, none⟩)) (fun _ _ hρ _ => r_fieldAddr fl104_1 sz22 (hρ _ _ rfl)) rfl rfl rfl (w_n rfl) ?_
  refine TL_q (.slice ta2 tl2.length tc2) (fun _ _ hρ hm => r_load ag22 (hρ _ _ rfl) (hm.at 900 rfl) rfl) rfl rfl rfl (w_n rfl) ?_
  refine TL_q (.int .i64 ((tl2.length : Nat) : Int)) (fun _ _ hρ _ => r_len sl22 (hρ _ _ rfl)) rfl rfl rfl (w_n rfl) ?_
  refine TL_q (.int .i64 0) (fun _ _ hρ _ => r_move (hρ _ _ rfl)) rfl rfl rfl (w_n rfl) ?_
  refine TL_seq ?_
  refine T_block ?_
  refine T_loopT (ι := Nat × Pcl) (fun (z : Nat × Pcl) => match z with | (k, q) => k ≤ tl2.length ∧ q = lastP (tl2.take k)) (fun (z : Nat × Pcl) => match z with | (k, q) => [(3, .pointer (some ⟨T3, 0, none⟩)), (24, .slice ta2 tl2.length tc2), (25, .int .i64 ((tl2.length : Nat) : Int)), (26, .int .i64 ((k : Nat) : Int))]) (fun (z : Nat × Pcl) => match z with | (k, q) => ((900, .blk H1 (.cells #[.slice na2 nl2.length nc2, .int .u64 lo2, .slice ta2 tl2.length tc2] 104)) :: (901, .row (.slice na2 nl2.length nc2) 36 3 nl2.length (nl2.flatMap Pcl.cells)) :: (902, .row (.slice ta2 tl2.length tc2) 36 3 tl2.length (tl2.flatMap Pcl.cells)) :: (903, .pool 5 1 byc bs2) :: (904, .blk T0 (.cells #[.slice a ps.length cap, .int .u64 lost] 27)) :: (905, .blk T1 (.cells #[.int .i64 tk, .int .i64 i, .int .i64 tb, .int .u32 ((tm).toNat : Int)] 48)) :: (906, .blk T2 (.cells #[.slice na2 nl2.length nc2, .int .u64 lo2] 27)) :: (907, .blk T3 (.cells #[.int .i64 q.to, .slice q.r.a q.r.l.length q.r.cap, .bool q.sp] 36)) :: L)) (fun (z : Nat × Pcl) => match z with | (k, q) => tl2.length - k) (0, ⟨0, ⟨none, 0, []⟩, false⟩) ⟨Nat.zero_le _, rfl⟩ (sub_cons rfl (sub_cons rfl (sub_cons rfl (sub_cons rfl sub_nil)))) (by first | exact lk_fin (F := [_, _, _, _, _, _, _, _]) (sub_cons rfl (sub_cons rfl (sub_cons rfl (sub_cons rfl (sub_cons rfl (sub_cons rfl (sub_cons rfl (sub_cons rfl sub_nil)))))))) rfl hL | exact lk_fin (F := [_, _, _, _, _, _, _, _, _]) (sub_cons rfl (sub_cons rfl (sub_cons rfl (sub_cons rfl (sub_cons rfl (sub_cons rfl (sub_cons rfl (sub_cons rfl sub_nil)))))))) rfl hL | exact lk_fin (F := [_, _, _, _, _, _, _, _, _, _]) (sub_cons rfl (sub_cons rfl (sub_cons rfl (sub_cons rfl (sub_cons rfl (sub_cons rfl (sub_cons rfl (sub_cons rfl sub_nil)))))))) rfl hL | exact lk_fin (F := [_, _, _, _, _, _, _, _, _, _, _]) (sub_cons rfl (sub_cons rfl (sub_cons rfl (sub_cons rfl (sub_cons rfl (sub_cons rfl (sub_cons rfl (sub_cons rfl sub_nil)))))))) rfl hL | exact lk_fin (F := [_, _, _, _, _, _, _, _, _, _, _, _]) (sub_cons rfl (sub_cons rfl (sub_cons rfl (sub_cons rfl (sub_cons rfl (sub_cons rfl (sub_cons rfl (sub_cons rfl sub_nil)))))))) rfl hL | exact lk_fin (F := [_, _, _, _, _, _, _, _, _, _, _, _, _]) (sub_cons rfl (sub_cons rfl (sub_cons rfl (sub_cons rfl (sub_cons rfl (sub_cons rfl (sub_cons rfl (sub_cons rfl sub_nil)))))))) rfl hL | exact lk_fin (F := [_, _, _, _, _, _, _, _, _, _, _, _, _, _]) (sub_cons rfl (sub_cons rfl (sub_cons rfl (sub_cons rfl (sub_cons rfl (sub_cons rfl (sub_cons rfl (sub_cons rfl sub_nil)))))))) rfl hL | exact lk_fin (F := [_, _, _, _, _, _, _, _, _, _, _, _, _, _, _]) (sub_cons rfl (sub_cons rfl (sub_cons rfl (sub_cons rfl (sub_cons rfl (sub_cons rfl (sub_cons rfl (sub_cons rfl sub_nil)))))))) rfl hL | exact lk_fin (F := [_, _, _, _, _, _, _, _, _, _, _, _, _, _, _, _]) (sub_cons rfl (sub_cons rfl (sub_cons rfl (sub_cons rfl (sub_cons rfl (sub_cons rfl (sub_cons rfl (sub_cons rfl sub_nil)))))))) rfl hL | exact lk_fin (F := [_, _, _, _, _, _, _, _, _, _, _, _, _, _, _, _, _]) (sub_cons rfl (sub_cons rfl (sub_cons rfl (sub_cons rfl (sub_cons rfl (sub_cons rfl (sub_cons rfl (sub_cons rfl sub_nil)))))))) rfl hL | exact lk_fin (F := [_, _, _, _, _, _, _, _, _, _, _, _, _, _, _, _, _, _]) (sub_cons rfl (sub_cons rfl (sub_cons rfl (sub_cons rfl (sub_cons rfl (sub_cons rfl (sub_cons rfl (sub_cons rfl sub_nil)))))))) rfl hL | exact lk_fin (F := [_, _, _, _, _, _, _, _, _, _, _, _, _, _, _, _, _, _, _]) (sub_cons rfl (sub_cons rfl (sub_cons rfl (sub_cons rfl (sub_cons rfl (sub_cons rfl (sub_cons rfl (sub_cons rfl sub_nil)))))))) rfl hL) ?_
  rintro ⟨k, q⟩ hp
  obtain ⟨hk, hq⟩ := hp
  show T _ _ _ [(3, .pointer (some ⟨T3, 0, none⟩)), (24, .slice ta2 tl2.length tc2), (25, .int .i64 ((tl2.length : Nat) : Int)), (26, .int .i64 ((k : Nat) : Int))] ((900, .blk H1 (.cells #[.slice na2 nl2.length nc2, .int .u64 lo2, .slice ta2 tl2.length tc2] 104)) :: (901, .row (.slice na2 nl2.length nc2) 36 3 nl2.length (nl2.flatMap Pcl.cells)) :: (902, .row (.slice ta2 tl2.length tc2) 36 3 tl2.length (tl2.flatMap Pcl.cells)) :: (903, .pool 5 1 byc bs2) :: (904, .blk T0 (.cells #[.slice a ps.length cap, .int .u64 lost] 27)) :: (905, .blk T1 (.cells #[.int .i64 tk, .int .i64 i, .int .i64 tb, .int .u32 ((tm).toNat : Int)] 48)) :: (906, .blk T2 (.cells #[.slice na2 nl2.length nc2, .int .u64 lo2] 27)) :: (907, .blk T3 (.cells #[.int .i64 q.to, .slice q.r.a q.r.l.length q.r.cap, .bool q.sp] 36)) :: L)
  refine T_seq (T_region ?_)
  refine TL_q (.bool (decide (((k : Nat) : Int) < ((tl2.length : Nat) : Int)))) (fun _ _ hρ _ => r_lss (hρ _ _ rfl) (hρ _ _ rfl)) rfl rfl rfl (w_n rfl) ?_
  refine TL_seq ?_
  refine T_seq ?_
  refine T_cond rfl (fun h1 => ?_) (fun h1 => ?_)
  · replace h1 := of_decide_eq_true h1
    refine T_skip' ?_
    refine p_seq ?_
    refine T_seq ?_
    refine T_block ?_
    obtain ⟨p, hp⟩ : ∃ x, tl2[k]? = some x := ⟨_, List.getElem?_eq_getElem (by omega)⟩
    refine T_row 902 rfl (by omega) (fun g3 ha3 => ?_)
    subst ha3
    refine T_rowcap 902 rfl (fun hrc3 => ?_)
    refine T_seq (T_region ?_)
    refine TL_q (.pointer (some ⟨g3, 0 + k * 3, none⟩)) (fun _ _ hρ _ => r_indexAddrS (i := k) sl22 sz36 (hρ _ _ rfl) (hρ _ _ rfl) (by omega)) rfl rfl rfl (w_n rfl) ?_
    refine TL_q (.agg #[.int .i64 p.to, .slice p.r.a p.r.l.length p.r.cap, .bool p.sp]) (fun _ _ hρ hm => r_loadOwn (f := Pcl.cells) (u := p) (l := tl2) ag36 sz36 (hρ _ _ rfl) (hm.row 902 rfl) rfl rfl Pcl.cells_len hp) rfl rfl rfl (w_n rfl) ?_
    refine TL_new 1301 (.cells #[.int .i64 0, .slice none 0 0, .bool false] 36) (fun B => .pointer (some ⟨B, 0, none⟩)) (fun _ _ _ _ => r_alloc (v := .agg #[.int .i64 0, .slice none 0 0, .bool false]) (by kernel_rfl) rfl) rfl rfl rfl (w_n rfl) ?_
    intro B4
    refine TL_store 1301 (.cells #[.int .i64 p.to, .slice p.r.a p.r.l.length p.r.cap, .bool p.sp] 36) rfl (fun _ _ hρ hm => r_store sz36 (hρ _ _ rfl) (hρ _ _ rfl) (hm.at 1301 rfl) rfl rfl rfl rfl) rfl rfl (w_n rfl) ?_
    refine TL_seq ?_
    refine T_region ?_
    refine TL_q (.agg #[.int .i64 p.to, .slice p.r.a p.r.l.length p.r.cap, .bool p.sp]) (fun _ _ hρ hm => r_loadA ag36 sz36 (hρ _ _ rfl) (hm.at 1301 rfl) rfl rfl) rfl rfl rfl (w_n rfl) ?_
    refine TL_store 907 (.cells #[.int .i64 p.to, .slice p.r.a p.r.l.length p.r.cap, .bool p.sp] 36) rfl (fun _ _ hρ hm => r_store sz36 (hρ _ _ rfl) (hρ _ _ rfl) (hm.at 907 rfl) rfl rfl rfl rfl) rfl rfl (w_n rfl) ?_
    refine TL_nil ?_
    refine p_blk_n ?_
    refine p_seq ?_
    refine T_region ?_
    refine TL_q (.int .i64 ((k + 1 : Nat) : Int)) (fun _ _ hρ _ => r_as (r_add (hρ _ _ rfl) (hρ _ _ rfl)) (int_as ((wrap64 (by omega) (by omega)).trans (by omega)))) rfl rfl rfl (w_n rfl) ?_
    refine TL_q (.int .i64 ((k + 1 : Nat) : Int)) (fun _ _ hρ _ => r_move (hρ _ _ rfl)) rfl rfl rfl (w_n rfl) ?_
    refine TL_nil ?_
    exact p_atT (k + 1, p) ⟨⟨by omega, (lastP_step hp).symm⟩, by dsimp only; omega⟩ (sub_cons rfl (sub_cons rfl (sub_cons rfl (sub_cons rfl sub_nil)))) (by first | exact lk_fin (F := [_, _, _, _, _, _, _, _, _]) (sub_cons rfl (sub_cons rfl (sub_cons rfl (sub_cons rfl (sub_cons rfl (sub_cons rfl (sub_cons rfl (sub_cons rfl sub_nil)))))))) rfl hL | exact lk_fin (F := [_, _, _, _, _, _, _, _, _, _]) (sub_cons rfl (sub_cons rfl (sub_cons rfl (sub_cons rfl (sub_cons rfl (sub_cons rfl (sub_cons rfl (sub_cons rfl sub_nil)))))))) rfl hL | exact lk_fin (F := [_, _, _, _, _, _, _, _, _, _, _]) (sub_cons rfl (sub_cons rfl (sub_cons rfl (sub_cons rfl (sub_cons rfl (sub_cons rfl (sub_cons rfl (sub_cons rfl sub_nil)))))))) rfl hL | exact lk_fin (F := [_, _, _, _, _, _, _, _, _, _, _, _]) (sub_cons rfl (sub_cons rfl (sub_cons rfl (sub_cons rfl (sub_cons rfl (sub_cons rfl (sub_cons rfl (sub_cons rfl sub_nil)))))))) rfl hL | exact lk_fin (F := [_, _, _, _, _, _, _, _, _, _, _, _, _]) (sub_cons rfl (sub_cons rfl (sub_cons rfl (sub_cons rfl (sub_cons rfl (sub_cons rfl (sub_cons rfl (sub_cons rfl sub_nil)))))))) rfl hL | exact lk_fin (F := [_, _, _, _, _, _, _, _, _, _, _, _, _, _]) (sub_cons rfl (sub_cons rfl (sub_cons rfl (sub_cons rfl (sub_cons rfl (sub_cons rfl (sub_cons rfl (sub_cons rfl sub_nil)))))))) rfl hL | exact lk_fin (F := [_, _, _, _, _, _, _, _, _, _, _, _, _, _, _]) (sub_cons rfl (sub_cons rfl (sub_cons rfl (sub_cons rfl (sub_cons rfl (sub_cons rfl (sub_cons rfl (sub_cons rfl sub_nil)))))))) rfl hL | exact lk_fin (F := [_, _, _, _, _, _, _, _, _, _, _, _, _, _, _, _]) (sub_cons rfl (sub_cons rfl (sub_cons rfl (sub_cons rfl (sub_cons rfl (sub_cons rfl (sub_cons rfl (sub_cons rfl sub_nil)))))))) rfl hL | exact lk_fin (F := [_, _, _, _, _, _, _, _, _, _, _, _, _, _, _, _, _]) (sub_cons rfl (sub_cons rfl (sub_cons rfl (sub_cons rfl (sub_cons rfl (sub_cons rfl (sub_cons rfl (sub_cons rfl sub_nil)))))))) rfl hL | exact lk_fin (F := [_, _, _, _, _, _, _, _, _, _, _, _, _, _, _, _, _, _]) (sub_cons rfl (sub_cons rfl (sub_cons rfl (sub_cons rfl (sub_cons rfl (sub_cons rfl (sub_cons rfl (sub_cons rfl sub_nil)))))))) rfl hL | exact lk_fin (F := [_, _, _, _, _, _, _, _, _, _, _, _, _, _, _, _, _, _, _]) (sub_cons rfl (sub_cons rfl (sub_cons rfl (sub_cons rfl (sub_cons rfl (sub_cons rfl (sub_cons rfl (sub_cons rfl sub_nil)))))))) rfl hL | exact lk_fin (F := [_, _, _, _, _, _, _, _, _, _, _, _, _, _, _, _, _, _, _, _]) (sub_cons rfl (sub_cons rfl (sub_cons rfl (sub_cons rfl (sub_cons rfl (sub_cons rfl (sub_cons rfl (sub_cons rfl sub_nil)))))))) rfl hL)
  · replace h1 := of_decide_eq_false h1
    refine T_exit' ?_
    refine p_then_x ?_
    refine p_then_x ?_
    refine p_blk_x ?_
    refine p_end ?_
    refine ret_of rfl (.tuple #[]) (fun tmps w hk hm => results_none rfl _ _ _) (fun w hm => ?_)
    have hke : k = tl2.length := by omega
    subst hke
    rw [List.take_length] at hq
    subst hq
    refine ⟨(H1, (⟨⟨na2, nc2, nl2⟩, lo2, ⟨ta2, tc2, tl2⟩⟩ : Hd), bs2), did_of hv1 ht1 hd2, rfl, ?_⟩
    first | exact hm.of (lk_fin (F := [_, _, _, _, _, _, _, _]) (T := hdL H1 (⟨⟨na2, nc2, nl2⟩, lo2, ⟨ta2, tc2, tl2⟩⟩ : Hd) bs2 ++ [(904, .blk T0 (.cells #[.slice a ps.length cap, .int .u64 lost] 27)), (905, .blk T1 (.cells #[.int .i64 tk, .int .i64 i, .int .i64 tb, .int .u32 (tm.toNat : Int)] 48)), (906, .blk T2 (.cells #[.slice (⟨⟨na2, nc2, nl2⟩, lo2, ⟨ta2, tc2, tl2⟩⟩ : Hd).n.a (⟨⟨na2, nc2, nl2⟩, lo2, ⟨ta2, tc2, tl2⟩⟩ : Hd).n.l.length (⟨⟨na2, nc2, nl2⟩, lo2, ⟨ta2, tc2, tl2⟩⟩ : Hd).n.cap, .int .u64 (⟨⟨na2, nc2, nl2⟩, lo2, ⟨ta2, tc2, tl2⟩⟩ : Hd).lost] 27)), (907, .blk T3 (.cells #[.int .i64 (lastP tl2).to, .slice (lastP tl2).r.a (lastP tl2).r.l.length (lastP tl2).r.cap, .bool (lastP tl2).sp] 36))]) (sub_cons rfl (sub_cons rfl (sub_cons rfl (sub_cons rfl (sub_cons rfl (sub_cons rfl (sub_cons rfl (sub_cons rfl sub_nil)))))))) rfl hL) | exact hm.of (lk_fin (F := [_, _, _, _, _, _, _, _, _]) (T := hdL H1 (⟨⟨na2, nc2, nl2⟩, lo2, ⟨ta2, tc2, tl2⟩⟩ : Hd) bs2 ++ [(904, .blk T0 (.cells #[.slice a ps.length cap, .int .u64 lost] 27)), (905, .blk T1 (.cells #[.int .i64 tk, .int .i64 i, .int .i64 tb, .int .u32 (tm.toNat : Int)] 48)), (906, .blk T2 (.cells #[.slice (⟨⟨na2, nc2, nl2⟩, lo2, ⟨ta2, tc2, tl2⟩⟩ : Hd).n.a (⟨⟨na2, nc2, nl2⟩, lo2, ⟨ta2, tc2, tl2⟩⟩ : Hd).n.l.length (⟨⟨na2, nc2, nl2⟩, lo2, ⟨ta2, tc2, tl2⟩⟩ : Hd).n.cap, .int .u64 (⟨⟨na2, nc2, nl2⟩, lo2, ⟨ta2, tc2, tl2⟩⟩ : Hd).lost] 27)), (907, .blk T3 (.cells #[.int .i64 (lastP tl2).to, .slice (lastP tl2).r.a (lastP tl2).r.l.length (lastP tl2).r.cap, .bool (lastP tl2).sp] 36))]) (sub_cons rfl (sub_cons rfl (sub_cons rfl (sub_cons rfl (sub_cons rfl (sub_cons rfl (sub_cons rfl (sub_cons rfl sub_nil)))))))) rfl hL) | exact hm.of (lk_fin (F := [_, _, _, _, _, _, _, _, _, _]) (T := hdL H1 (⟨⟨na2, nc2, nl2⟩, lo2, ⟨ta2, tc2, tl2⟩⟩ : Hd) bs2 ++ [(904, .blk T0 (.cells #[.slice a ps.length cap, .int .u64 lost] 27)), (905, .blk T1 (.cells #[.int .i64 tk, .int .i64 i, .int .i64 tb, .int .u32 (tm.toNat : Int)] 48)), (906, .blk T2 (.cells #[.slice (⟨⟨na2, nc2, nl2⟩, lo2, ⟨ta2, tc2, tl2⟩⟩ : Hd).n.a (⟨⟨na2, nc2, nl2⟩, lo2, ⟨ta2, tc2, tl2⟩⟩ : Hd).n.l.length (⟨⟨na2, nc2, nl2⟩, lo2, ⟨ta2, tc2, tl2⟩⟩ : Hd).n.cap, .int .u64 (⟨⟨na2, nc2, nl2⟩, lo2, ⟨ta2, tc2, tl2⟩⟩ : Hd).lost] 27)), (907, .blk T3 (.cells #[.int .i64 (lastP tl2).to, .slice (lastP tl2).r.a (lastP tl2).r.l.length (lastP tl2).r.cap, .bool (lastP tl2).sp] 36))]) (sub_cons rfl (sub_cons rfl (sub_cons rfl (sub_cons rfl (sub_cons rfl (sub_cons rfl (sub_cons rfl (sub_cons rfl sub_nil)))))))) rfl hL) | exact hm.of (lk_fin (F := [_, _, _, _, _, _, _, _, _, _, _]) (T := hdL H1 (⟨⟨na2, nc2, nl2⟩, lo2, ⟨ta2, tc2, tl2⟩⟩ : Hd) bs2 ++ [(904, .blk T0 (.cells #[.slice a ps.length cap, .int .u64 lost] 27)), (905, .blk T1 (.cells #[.int .i64 tk, .int .i64 i, .int .i64 tb, .int .u32 (tm.toNat : Int)] 48)), (906, .blk T2 (.cells #[.slice (⟨⟨na2, nc2, nl2⟩, lo2, ⟨ta2, tc2, tl2⟩⟩ : Hd).n.a (⟨⟨na2, nc2, nl2⟩, lo2, ⟨ta2, tc2, tl2⟩⟩ : Hd).n.l.length (⟨⟨na2, nc2, nl2⟩, lo2, ⟨ta2, tc2, tl2⟩⟩ : Hd).n.cap, .int .u64 (⟨⟨na2, nc2, nl2⟩, lo2, ⟨ta2, tc2, tl2⟩⟩ : Hd).lost] 27)), (907, .blk T3 (.cells #[.int .i64 (lastP tl2).to, .slice (lastP tl2).r.a (lastP tl2).r.l.length (lastP tl2).r.cap, .bool (lastP tl2).sp] 36))]) (sub_cons rfl (sub_cons rfl (sub_cons rfl (sub_cons rfl (sub_cons rfl (sub_cons rfl (sub_cons rfl (sub_cons rfl sub_nil)))))))) rfl hL) | exact hm.of (lk_fin (F := [_, _, _, _, _, _, _, _, _, _, _, _]) (T := hdL H1 (⟨⟨na2, nc2, nl2⟩, lo2, ⟨ta2, tc2, tl2⟩⟩ : Hd) bs2 ++ [(904, .blk T0 (.cells #[.slice a ps.length cap, .int .u64 lost] 27)), (905, .blk T1 (.cells #[.int .i64 tk, .int .i64 i, .int .i64 tb, .int .u32 (tm.toNat : Int)] 48)), (906, .blk T2 (.cells #[.slice (⟨⟨na2, nc2, nl2⟩, lo2, ⟨ta2, tc2, tl2⟩⟩ : Hd).n.a (⟨⟨na2, nc2, nl2⟩, lo2, ⟨ta2, tc2, tl2⟩⟩ : Hd).n.l.length (⟨⟨na2, nc2, nl2⟩, lo2, ⟨ta2, tc2, tl2⟩⟩ : Hd).n.cap, .int .u64 (⟨⟨na2, nc2, nl2⟩, lo2, ⟨ta2, tc2, tl2⟩⟩ : Hd).lost] 27)), (907, .blk T3 (.cells #[.int .i64 (lastP tl2).to, .slice (lastP tl2).r.a (lastP tl2).r.l.length (lastP tl2).r.cap, .bool (lastP tl2).sp] 36))]) (sub_cons rfl (sub_cons rfl (sub_cons rfl (sub_cons rfl (sub_cons rfl (sub_cons rfl (sub_cons rfl (sub_cons rfl sub_nil)))))))) rfl hL) | exact hm.of (lk_fin (F := [_, _, _, _, _, _, _, _, _, _, _, _, _]) (T := hdL H1 (⟨⟨na2, nc2, nl2⟩, lo2, ⟨ta2, tc2, tl2⟩⟩ : Hd) bs2 ++ [(904, .blk T0 (.cells #[.slice a ps.length cap, .int .u64 lost] 27)), (905, .blk T1 (.cells #[.int .i64 tk, .int .i64 i, .int .i64 tb, .int .u32 (tm.toNat : Int)] 48)), (906, .blk T2 (.cells #[.slice (⟨⟨na2, nc2, nl2⟩, lo2, ⟨ta2, tc2, tl2⟩⟩ : Hd).n.a (⟨⟨na2, nc2, nl2⟩, lo2, ⟨ta2, tc2, tl2⟩⟩ : Hd).n.l.length (⟨⟨na2, nc2, nl2⟩, lo2, ⟨ta2, tc2, tl2⟩⟩ : Hd).n.cap, .int .u64 (⟨⟨na2, nc2, nl2⟩, lo2, ⟨ta2, tc2, tl2⟩⟩ : Hd).lost] 27)), (907, .blk T3 (.cells #[.int .i64 (lastP tl2).to, .slice (lastP tl2).r.a (lastP tl2).r.l.length (lastP tl2).r.cap, .bool (lastP tl2).sp] 36))]) (sub_cons rfl (sub_cons rfl (sub_cons rfl (sub_cons rfl (sub_cons rfl (sub_cons rfl (sub_cons rfl (sub_cons rfl sub_nil)))))))) rfl hL) | exact hm.of (lk_fin (F := [_, _, _, _, _, _, _, _, _, _, _, _, _, _]) (T := hdL H1 (⟨⟨na2, nc2, nl2⟩, lo2, ⟨ta2, tc2, tl2⟩⟩ : Hd) bs2 ++ [(904, .blk T0 (.cells #[.slice a ps.length cap, .int .u64 lost] 27)), (905, .blk T1 (.cells #[.int .i64 tk, .int .i64 i, .int .i64 tb, .int .u32 (tm.toNat : Int)] 48)), (906, .blk T2 (.cells #[.slice (⟨⟨na2, nc2, nl2⟩, lo2, ⟨ta2, tc2, tl2⟩⟩ : Hd).n.a (⟨⟨na2, nc2, nl2⟩, lo2, ⟨ta2, tc2, tl2⟩⟩ : Hd).n.l.length (⟨⟨na2, nc2, nl2⟩, lo2, ⟨ta2, tc2, tl2⟩⟩ : Hd).n.cap, .int .u64 (⟨⟨na2, nc2, nl2⟩, lo2, ⟨ta2, tc2, tl2⟩⟩ : Hd).lost] 27)), (907, .blk T3 (.cells #[.int .i64 (lastP tl2).to, .slice (lastP tl2).r.a (lastP tl2).r.l.length (lastP tl2).r.cap, .bool (lastP tl2).sp] 36))]) (sub_cons rfl (sub_cons rfl (sub_cons rfl (sub_cons rfl (sub_cons rfl (sub_cons rfl (sub_cons rfl (sub_cons rfl sub_nil)))))))) rfl hL) | exact hm.of (lk_fin (F := [_, _, _, _, _, _, _, _, _, _, _, _, _, _, _]) (T := hdL H1 (⟨⟨na2, nc2, nl2⟩, lo2, ⟨ta2, tc2, tl2⟩⟩ : Hd) bs2 ++ [(904, .blk T0 (.cells #[.slice a ps.length cap, .int .u64 lost] 27)), (905, .blk T1 (.cells #[.int .i64 tk, .int .i64 i, .int .i64 tb, .int .u32 (tm.toNat : Int)] 48)), (906, .blk T2 (.cells #[.slice (⟨⟨na2, nc2, nl2⟩, lo2, ⟨ta2, tc2, tl2⟩⟩ : Hd).n.a (⟨⟨na2, nc2, nl2⟩, lo2, ⟨ta2, tc2, tl2⟩⟩ : Hd).n.l.length (⟨⟨na2, nc2, nl2⟩, lo2, ⟨ta2, tc2, tl2⟩⟩ : Hd).n.cap, .int .u64 (⟨⟨na2, nc2, nl2⟩, lo2, ⟨ta2, tc2, tl2⟩⟩ : Hd).lost] 27)), (907, .blk T3 (.cells #[.int .i64 (lastP tl2).to, .slice (lastP tl2).r.a (lastP tl2).r.l.length (lastP tl2).r.cap, .bool (lastP tl2).sp] 36))]) (sub_cons rfl (sub_cons rfl (sub_cons rfl (sub_cons rfl (sub_cons rfl (sub_cons rfl (sub_cons rfl (sub_cons rfl sub_nil)))))))) rfl hL) | exact hm.of (lk_fin (F := [_, _, _, _, _, _, _, _, _, _, _, _, _, _, _, _]) (T := hdL H1 (⟨⟨na2, nc2, nl2⟩, lo2, ⟨ta2, tc2, tl2⟩⟩ : Hd) bs2 ++ [(904, .blk T0 (.cells #[.slice a ps.length cap, .int .u64 lost] 27)), (905, .blk T1 (.cells #[.int .i64 tk, .int .i64 i, .int .i64 tb, .int .u32 (tm.toNat : Int)] 48)), (906, .blk T2 (.cells #[.slice (⟨⟨na2, nc2, nl2⟩, lo2, ⟨ta2, tc2, tl2⟩⟩ : Hd).n.a (⟨⟨na2, nc2, nl2⟩, lo2, ⟨ta2, tc2, tl2⟩⟩ : Hd).n.l.length (⟨⟨na2, nc2, nl2⟩, lo2, ⟨ta2, tc2, tl2⟩⟩ : Hd).n.cap, .int .u64 (⟨⟨na2, nc2, nl2⟩, lo2, ⟨ta2, tc2, tl2⟩⟩ : Hd).lost] 27)), (907, .blk T3 (.cells #[.int .i64 (lastP tl2).to, .slice (lastP tl2).r.a (lastP tl2).r.l.length (lastP tl2).r.cap, .bool (lastP tl2).sp] 36))]) (sub_cons rfl (sub_cons rfl (sub_cons rfl (sub_cons rfl (sub_cons rfl (sub_cons rfl (sub_cons rfl (sub_cons rfl sub_nil)))))))) rfl hL) | exact hm.of (lk_fin (F := [_, _, _, _, _, _, _, _, _, _, _, _, _, _, _, _, _]) (T := hdL H1 (⟨⟨na2, nc2, nl2⟩, lo2, ⟨ta2, tc2, tl2⟩⟩ : Hd) bs2 ++ [(904, .blk T0 (.cells #[.slice a ps.length cap, .int .u64 lost] 27)), (905, .blk T1 (.cells #[.int .i64 tk, .int .i64 i, .int .i64 tb, .int .u32 (tm.toNat : Int)] 48)), (906, .blk T2 (.cells #[.slice (⟨⟨na2, nc2, nl2⟩, lo2, ⟨ta2, tc2, tl2⟩⟩ : Hd).n.a (⟨⟨na2, nc2, nl2⟩, lo2, ⟨ta2, tc2, tl2⟩⟩ : Hd).n.l.length (⟨⟨na2, nc2, nl2⟩, lo2, ⟨ta2, tc2, tl2⟩⟩ : Hd).n.cap, .int .u64 (⟨⟨na2, nc2, nl2⟩, lo2, ⟨ta2, tc2, tl2⟩⟩ : Hd).lost] 27)), (907, .blk T3 (.cells #[.int .i64 (lastP tl2).to, .slice (lastP tl2).r.a (lastP tl2).r.l.length (lastP tl2).r.cap, .bool (lastP tl2).sp] 36))]) (sub_cons rfl (sub_cons rfl (sub_cons rfl (sub_cons rfl (sub_cons rfl (sub_cons rfl (sub_cons rfl (sub_cons rfl sub_nil)))))))) rfl hL)

theorem do1_net {w₀ : World} {L : Heap} (T0 T1 T2 T3 : Nat) (ps : List Pcl) (a : Option Addr) (cap : Nat) (lost tk i tb : Int) (tm : Wd) (hL : NoIds L 910 1950) (hv : SliceAt w₀ a cap 3 Pcl.cells ps) (hcap : cap ≤ Go.maxLen) (hb : PcsAt w₀ ps) (hck : ¬ checkV (pvs ps) lost = true) : ∀ w, MemOk w₀ ([(904, .blk T0 (.cells #[.slice a ps.length cap, .int .u64 lost] 27)), (905, .blk T1 (.cells #[.int .i64 tk, .int .i64 i, .int .i64 tb, .int .u32 (tm.toNat : Int)] 48)), (906, .blk T2 (.cells #[.slice none 0 0, .int .u64 0] 27)), (907, .blk T3 (.cells #[.int .i64 0, .slice none 0 0, .bool false] 36))] ++ L) w → Calls Try.prog 69 #[.pointer (some ⟨T0, 0, none⟩), .pointer (some ⟨T1, 0, none⟩), .pointer (some ⟨T2, 0, none⟩), .pointer (some ⟨T3, 0, none⟩)] w (PAns w₀ (fun _ : Unit => True) (fun _ => .iface 28 (.int .i64 350)) (fun _ => [(904, .blk T0 (.cells #[.slice a ps.length cap, .int .u64 lost] 27)), (905, .blk T1 (.cells #[.int .i64 tk, .int .i64 i, .int .i64 tb, .int .u32 (tm.toNat : Int)] 48)), (906, .blk T2 (.cells #[.slice none 0 0, .int .u64 0] 27)), (907, .blk T3 (.cells #[.int .i64 0, .slice none 0 0, .bool false] 36))] ++ L)) := by
  have hvl := hv.1
  unfold Go.maxLen at hcap
  refine ht_of_T (l := [.pointer (some ⟨T0, 0, none⟩), .pointer (some ⟨T1, 0, none⟩), .pointer (some ⟨T2, 0, none⟩), .pointer (some ⟨T3, 0, none⟩)]) (L := ((904, .blk T0 (.cells #[.slice a ps.length cap, .int .u64 lost] 27)) :: (905, .blk T1 (.cells #[.int .i64 tk, .int .i64 i, .int .i64 tb, .int .u32 ((tm).toNat : Int)] 48)) :: (906, .blk T2 (.cells #[.slice none 0 0, .int .u64 0] 27)) :: (907, .blk T3 (.cells #[.int .i64 0, .slice none 0 0, .bool false] 36)) :: L)) 32 Try.func69 rfl rfl rfl ?_
  show T _ _ _ [(0, .pointer (some ⟨T0, 0, none⟩)), (1, .pointer (some ⟨T1, 0, none⟩)), (2, .pointer (some ⟨T2, 0, none⟩)), (3, .pointer (some ⟨T3, 0, none⟩))] ((904, .blk T0 (.cells #[.slice a ps.length cap, .int .u64 lost] 27)) :: (905, .blk T1 (.cells #[.int .i64 tk, .int .i64 i, .int .i64 tb, .int .u32 ((tm).toNat : Int)] 48)) :: (906, .blk T2 (.cells #[.slice none 0 0, .int .u64 0] 27)) :: (907, .blk T3 (.cells #[.int .i64 0, .slice none 0 0, .bool false] 36)) :: L)
  refine T_seq (T_region ?_)
  refine TL_q (.agg #[.slice a ps.length cap, .int .u64 lost]) (fun _ _ hρ hm => r_loadA ag27 sz27 (hρ _ _ rfl) (hm.at 904 rfl) rfl rfl) rfl rfl rfl (w_n rfl) ?_
  refine TL_callQ (v := .iface 28 (.int .i64 350)) (fun _ _ hρ _ => r_call (args := [.agg #[.slice a ps.length cap, .int .u64 lost]]) (enters_of Try.func61 (by kernel_rfl) rfl) (hρ _ _ rfl) ((cons2 (hρ _ _ rfl) rfl)) rfl) (fun w hm => of_no ps a cap lost w (hv.keep hm.ext) hcap (hb.keep hm.ext) hck) rfl (w_n rfl) ?_
  refine p_then_p ?_
  refine p_pan rfl (fun w hm => ?_)
  refine ⟨(), trivial, rfl, ?_⟩
  first | exact hm.of (lk_fin (F := [_, _, _, _]) (T := [(904, .blk T0 (.cells #[.slice a ps.length cap, .int .u64 lost] 27)), (905, .blk T1 (.cells #[.int .i64 tk, .int .i64 i, .int .i64 tb, .int .u32 (tm.toNat : Int)] 48)), (906, .blk T2 (.cells #[.slice none 0 0, .int .u64 0] 27)), (907, .blk T3 (.cells #[.int .i64 0, .slice none 0 0, .bool false] 36))]) (sub_cons rfl (sub_cons rfl (sub_cons rfl (sub_cons rfl sub_nil)))) rfl hL) | exact hm.of (lk_fin (F := [_, _, _, _, _]) (T := [(904, .blk T0 (.cells #[.slice a ps.length cap, .int .u64 lost] 27)), (905, .blk T1 (.cells #[.int .i64 tk, .int .i64 i, .int .i64 tb, .int .u32 (tm.toNat : Int)] 48)), (906, .blk T2 (.cells #[.slice none 0 0, .int .u64 0] 27)), (907, .blk T3 (.cells #[.int .i64 0, .slice none 0 0, .bool false] 36))]) (sub_cons rfl (sub_cons rfl (sub_cons rfl (sub_cons rfl sub_nil)))) rfl hL) | exact hm.of (lk_fin (F := [_, _, _, _, _, _]) (T := [(904, .blk T0 (.cells #[.slice a ps.length cap, .int .u64 lost] 27)), (905, .blk T1 (.cells #[.int .i64 tk, .int .i64 i, .int .i64 tb, .int .u32 (tm.toNat : Int)] 48)), (906, .blk T2 (.cells #[.slice none 0 0, .int .u64 0] 27)), (907, .blk T3 (.cells #[.int .i64 0, .slice none 0 0, .bool false] 36))]) (sub_cons rfl (sub_cons rfl (sub_cons rfl (sub_cons rfl sub_nil)))) rfl hL) | exact hm.of (lk_fin (F := [_, _, _, _, _, _, _]) (T := [(904, .blk T0 (.cells #[.slice a ps.length cap, .int .u64 lost] 27)), (905, .blk T1 (.cells #[.int .i64 tk, .int .i64 i, .int .i64 tb, .int .u32 (tm.toNat : Int)] 48)), (906, .blk T2 (.cells #[.slice none 0 0, .int .u64 0] 27)), (907, .blk T3 (.cells #[.int .i64 0, .slice none 0 0, .bool false] 36))]) (sub_cons rfl (sub_cons rfl (sub_cons rfl (sub_cons rfl sub_nil)))) rfl hL) | exact hm.of (lk_fin (F := [_, _, _, _, _, _, _, _]) (T := [(904, .blk T0 (.cells #[.slice a ps.length cap, .int .u64 lost] 27)), (905, .blk T1 (.cells #[.int .i64 tk, .int .i64 i, .int .i64 tb, .int .u32 (tm.toNat : Int)] 48)), (906, .blk T2 (.cells #[.slice none 0 0, .int .u64 0] 27)), (907, .blk T3 (.cells #[.int .i64 0, .slice none 0 0, .bool false] 36))]) (sub_cons rfl (sub_cons rfl (sub_cons rfl (sub_cons rfl sub_nil)))) rfl hL) | exact hm.of (lk_fin (F := [_, _, _, _, _, _, _, _, _]) (T := [(904, .blk T0 (.cells #[.slice a ps.length cap, .int .u64 lost] 27)), (905, .blk T1 (.cells #[.int .i64 tk, .int .i64 i, .int .i64 tb, .int .u32 (tm.toNat : Int)] 48)), (906, .blk T2 (.cells #[.slice none 0 0, .int .u64 0] 27)), (907, .blk T3 (.cells #[.int .i64 0, .slice none 0 0, .bool false] 36))]) (sub_cons rfl (sub_cons rfl (sub_cons rfl (sub_cons rfl sub_nil)))) rfl hL) | exact hm.of (lk_fin (F := [_, _, _, _, _, _, _, _, _, _]) (T := [(904, .blk T0 (.cells #[.slice a ps.length cap, .int .u64 lost] 27)), (905, .blk T1 (.cells #[.int .i64 tk, .int .i64 i, .int .i64 tb, .int .u32 (tm.toNat : Int)] 48)), (906, .blk T2 (.cells #[.slice none 0 0, .int .u64 0] 27)), (907, .blk T3 (.cells #[.int .i64 0, .slice none 0 0, .bool false] 36))]) (sub_cons rfl (sub_cons rfl (sub_cons rfl (sub_cons rfl sub_nil)))) rfl hL) | exact hm.of (lk_fin (F := [_, _, _, _, _, _, _, _, _, _, _]) (T := [(904, .blk T0 (.cells #[.slice a ps.length cap, .int .u64 lost] 27)), (905, .blk T1 (.cells #[.int .i64 tk, .int .i64 i, .int .i64 tb, .int .u32 (tm.toNat : Int)] 48)), (906, .blk T2 (.cells #[.slice none 0 0, .int .u64 0] 27)), (907, .blk T3 (.cells #[.int .i64 0, .slice none 0 0, .bool false] 36))]) (sub_cons rfl (sub_cons rfl (sub_cons rfl (sub_cons rfl sub_nil)))) rfl hL) | exact hm.of (lk_fin (F := [_, _, _, _, _, _, _, _, _, _, _, _]) (T := [(904, .blk T0 (.cells #[.slice a ps.length cap, .int .u64 lost] 27)), (905, .blk T1 (.cells #[.int .i64 tk, .int .i64 i, .int .i64 tb, .int .u32 (tm.toNat : Int)] 48)), (906, .blk T2 (.cells #[.slice none 0 0, .int .u64 0] 27)), (907, .blk T3 (.cells #[.int .i64 0, .slice none 0 0, .bool false] 36))]) (sub_cons rfl (sub_cons rfl (sub_cons rfl (sub_cons rfl sub_nil)))) rfl hL) | exact hm.of (lk_fin (F := [_, _, _, _, _, _, _, _, _, _, _, _, _]) (T := [(904, .blk T0 (.cells #[.slice a ps.length cap, .int .u64 lost] 27)), (905, .blk T1 (.cells #[.int .i64 tk, .int .i64 i, .int .i64 tb, .int .u32 (tm.toNat : Int)] 48)), (906, .blk T2 (.cells #[.slice none 0 0, .int .u64 0] 27)), (907, .blk T3 (.cells #[.int .i64 0, .slice none 0 0, .bool false] 36))]) (sub_cons rfl (sub_cons rfl (sub_cons rfl (sub_cons rfl sub_nil)))) rfl hL)

theorem do1_err {w₀ : World} {L : Heap} (T0 T1 T2 T3 : Nat) (ps : List Pcl) (a : Option Addr) (cap : Nat) (lost tk i tb : Int) (tm : Wd) (hL : NoIds L 910 1950) (hv : SliceAt w₀ a cap 3 Pcl.cells ps) (hcap : cap ≤ Go.maxLen) (hb : PcsAt w₀ ps) (er : Int) (h0 : 0 ≤ lost) (hck : checkV (pvs ps) lost = true) (hdo : (doV (pvs ps, lost) ⟨tk, i, tb, tm⟩).1 = er) (her : ¬ er = 0) : ∀ w, MemOk w₀ ([(904, .blk T0 (.cells #[.slice a ps.length cap, .int .u64 lost] 27)), (905, .blk T1 (.cells #[.int .i64 tk, .int .i64 i, .int .i64 tb, .int .u32 (tm.toNat : Int)] 48)), (906, .blk T2 (.cells #[.slice none 0 0, .int .u64 0] 27)), (907, .blk T3 (.cells #[.int .i64 0, .slice none 0 0, .bool false] 36))] ++ L) w → Calls Try.prog 69 #[.pointer (some ⟨T0, 0, none⟩), .pointer (some ⟨T1, 0, none⟩), .pointer (some ⟨T2, 0, none⟩), .pointer (some ⟨T3, 0, none⟩)] w (PAns w₀ (fun _ : Nat × Hd × List (RowG By) => True) (fun _ => .iface 28 (.int .i64 er)) (fun x => hdL x.1 x.2.1 x.2.2 ++ [(904, .blk T0 (.cells #[.slice a ps.length cap, .int .u64 lost] 27)), (905, .blk T1 (.cells #[.int .i64 tk, .int .i64 i, .int .i64 tb, .int .u32 (tm.toNat : Int)] 48)), (906, .blk T2 (.cells #[.slice none 0 0, .int .u64 0] 27)), (907, .blk T3 (.cells #[.int .i64 0, .slice none 0 0, .bool false] 36))] ++ L)) := by
  have hvl := hv.1
  unfold Go.maxLen at hcap
  refine ht_of_T (l := [.pointer (some ⟨T0, 0, none⟩), .pointer (some ⟨T1, 0, none⟩), .pointer (some ⟨T2, 0, none⟩), .pointer (some ⟨T3, 0, none⟩)]) (L := ((904, .blk T0 (.cells #[.slice a ps.length cap, .int .u64 lost] 27)) :: (905, .blk T1 (.cells #[.int .i64 tk, .int .i64 i, .int .i64 tb, .int .u32 ((tm).toNat : Int)] 48)) :: (906, .blk T2 (.cells #[.slice none 0 0, .int .u64 0] 27)) :: (907, .blk T3 (.cells #[.int .i64 0, .slice none 0 0, .bool false] 36)) :: L)) 32 Try.func69 rfl rfl rfl ?_
  show T _ _ _ [(0, .pointer (some ⟨T0, 0, none⟩)), (1, .pointer (some ⟨T1, 0, none⟩)), (2, .pointer (some ⟨T2, 0, none⟩)), (3, .pointer (some ⟨T3, 0, none⟩))] ((904, .blk T0 (.cells #[.slice a ps.length cap, .int .u64 lost] 27)) :: (905, .blk T1 (.cells #[.int .i64 tk, .int .i64 i, .int .i64 tb, .int .u32 ((tm).toNat : Int)] 48)) :: (906, .blk T2 (.cells #[.slice none 0 0, .int .u64 0] 27)) :: (907, .blk T3 (.cells #[.int .i64 0, .slice none 0 0, .bool false] 36)) :: L)
  refine T_seq (T_region ?_)
  refine TL_q (.agg #[.slice a ps.length cap, .int .u64 lost]) (fun _ _ hρ hm => r_loadA ag27 sz27 (hρ _ _ rfl) (hm.at 904 rfl) rfl rfl) rfl rfl rfl (w_n rfl) ?_
  refine TL_callN (fun x : Nat × Hd × List (RowG By) => OfOk ps lost x) (fun (H1, h1, bs1) => .pointer (some ⟨H1, 0, none⟩)) (fun (H1, h1, bs1) => [(900, .blk H1 (.cells #[.slice h1.n.a h1.n.l.length h1.n.cap, .int .u64 h1.lost, .slice h1.t.a h1.t.l.length h1.t.cap] 104)), (901, .row (.slice h1.n.a h1.n.l.length h1.n.cap) 36 3 h1.n.l.length (h1.n.l.flatMap Pcl.cells)), (902, .row (.slice h1.t.a h1.t.l.length h1.t.cap) 36 3 h1.t.l.length (h1.t.l.flatMap Pcl.cells)), (903, .pool 5 1 byc bs1)]) (fun _ _ hρ _ => r_call (args := [.agg #[.slice a ps.length cap, .int .u64 lost]]) (enters_of Try.func61 (by kernel_rfl) rfl) (hρ _ _ rfl) ((cons2 (hρ _ _ rfl) rfl)) rfl) (fun w hm => (of_ok ps a cap lost w (hv.keep hm.ext) hcap (hb.keep hm.ext) h0 hck).mono fun e w' ⟨⟨H, h, bs⟩, hx, he, hb, hn⟩ => ⟨(H, h, bs), hx, he, hb, hn⟩) rfl rfl rfl (w_n rfl) ?_
  rintro ⟨H1, h1, bs1⟩ ⟨hv1, hk1, ht1⟩
  refine TL_q (.pointer (some ⟨H1, 0, none⟩)) (fun _ _ hρ _ => r_assign (hρ _ _ rfl)) rfl rfl rfl (w_n rfl) ?_
  refine TL_seq ?_
  refine T_seq (T_region ?_)
  refine TL_q (.pointer (some ⟨H1, 0, none⟩)) (fun _ _ hρ _ => r_move (hρ _ _ rfl)) rfl rfl rfl (w_n rfl) ?_
  refine TL_q (.agg #[.int .i64 tk, .int .i64 i, .int .i64 tb, .int .u32 ((tm).toNat : Int)]) (fun _ _ hρ hm => r_loadA ag48 sz48 (hρ _ _ rfl) (hm.at 905 rfl) rfl rfl) rfl rfl rfl (w_n rfl) ?_
  refine TL_callH _ _ _ (fun _ _ hρ _ => r_call (args := [.pointer (some ⟨H1, 0, none⟩), .agg #[.int .i64 tk, .int .i64 i, .int .i64 tb, .int .u32 ((tm).toNat : Int)]]) (enters_of Try.func70 (by kernel_rfl) rfl) (hρ _ _ rfl) ((cons2 (hρ _ _ rfl) (cons2 (hρ _ _ rfl) rfl))) rfl) (fun w hm => (does_any H1 (⟨⟨h1.n.a, h1.n.cap, h1.n.l⟩, h1.lost, ⟨h1.t.a, h1.t.cap, h1.t.l⟩⟩ : Hd) bs1 ⟨tk, i, tb, tm⟩ (by repeat (first | exact hL.sub rfl rfl | refine noIds_cons rfl ?_)) hk1 (by rw [show (_ : NetR) = _ from ht1]; exact Nat.zero_le _) w (hm.of (lk_dups (A := hdL H1 (⟨⟨h1.n.a, h1.n.cap, h1.n.l⟩, h1.lost, ⟨h1.t.a, h1.t.cap, h1.t.l⟩⟩ : Hd) bs1) (sub_cons rfl (sub_cons rfl (sub_cons rfl (sub_cons rfl sub_nil))))))).mono fun e w' ⟨x, hx, he, hm⟩ => ⟨x, hx, he.trans (congrArg Ending.returned (int_as ((congrArg (fun n => (doV n _).1) hv1).trans hdo))), hm⟩) rfl rfl rfl (w_n rfl) ?_
  rintro ⟨⟨⟨na2, nc2, nl2⟩, lo2, ⟨ta2, tc2, tl2⟩⟩, bs2⟩ hd2
  refine TL_q (.int .i64 er) (fun _ _ hρ _ => r_assign (hρ _ _ rfl)) rfl rfl rfl (w_n rfl) ?_
  refine TL_seq ?_
  refine T_seq (T_region ?_)
  refine TL_q (.int .i64 er) (fun _ _ hρ _ => r_move (hρ _ _ rfl)) rfl rfl rfl (w_n rfl) ?_
  refine TL_q (.bool false) (fun _ _ hρ _ => r_as (r_eql (hρ _ _ rfl) (hρ _ _ rfl)) (bool_as (decide_eq_false her))) rfl rfl rfl (w_n rfl) ?_
  refine TL_q (.int .i64 er) (fun _ _ hρ _ => r_move (hρ _ _ rfl)) rfl rfl rfl (w_n rfl) ?_
  refine TL_callQ (v := .iface 28 (.int .i64 er)) (fun _ _ hρ _ => r_call (args := [.bool false, .int .i64 er]) (enters_of Try.func62 (by kernel_rfl) rfl) (hρ _ _ rfl) ((cons2 (hρ _ _ rfl) (cons2 (hρ _ _ rfl) rfl))) rfl) (fun w _ => need_no_net er w) rfl (w_n rfl) ?_
  refine p_then_p ?_
  refine p_pan rfl (fun w hm => ?_)
  refine ⟨(H1, ⟨⟨na2, nc2, nl2⟩, lo2, ⟨ta2, tc2, tl2⟩⟩, bs2), trivial, rfl, ?_⟩
  first | exact hm.of (lk_fin (F := [_, _, _, _, _, _, _, _]) (T := hdL _ _ _ ++ [(904, .blk T0 (.cells #[.slice a ps.length cap, .int .u64 lost] 27)), (905, .blk T1 (.cells #[.int .i64 tk, .int .i64 i, .int .i64 tb, .int .u32 (tm.toNat : Int)] 48)), (906, .blk T2 (.cells #[.slice none 0 0, .int .u64 0] 27)), (907, .blk T3 (.cells #[.int .i64 0, .slice none 0 0, .bool false] 36))]) (sub_cons rfl (sub_cons rfl (sub_cons rfl (sub_cons rfl (sub_cons rfl (sub_cons rfl (sub_cons rfl (sub_cons rfl sub_nil)))))))) rfl hL) | exact hm.of (lk_fin (F := [_, _, _, _, _, _, _, _, _]) (T := hdL _ _ _ ++ [(904, .blk T0 (.cells #[.slice a ps.length cap, .int .u64 lost] 27)), (905, .blk T1 (.cells #[.int .i64 tk, .int .i64 i, .int .i64 tb, .int .u32 (tm.toNat : Int)] 48)), (906, .blk T2 (.cells #[.slice none 0 0, .int .u64 0] 27)), (907, .blk T3 (.cells #[.int .i64 0, .slice none 0 0, .bool false] 36))]) (sub_cons rfl (sub_cons rfl (sub_cons rfl (sub_cons rfl (sub_cons rfl (sub_cons rfl (sub_cons rfl (sub_cons rfl sub_nil)))))))) rfl hL) | exact hm.of (lk_fin (F := [_, _, _, _, _, _, _, _, _, _]) (T := hdL _ _ _ ++ [(904, .blk T0 (.cells #[.slice a ps.length cap, .int .u64 lost] 27)), (905, .blk T1 (.cells #[.int .i64 tk, .int .i64 i, .int .i64 tb, .int .u32 (tm.toNat : Int)] 48)), (906, .blk T2 (.cells #[.slice none 0 0, .int .u64 0] 27)), (907, .blk T3 (.cells #[.int .i64 0, .slice none 0 0, .bool false] 36))]) (sub_cons rfl (sub_cons rfl (sub_cons rfl (sub_cons rfl (sub_cons rfl (sub_cons rfl (sub_cons rfl (sub_cons rfl sub_nil)))))))) rfl hL) | exact hm.of (lk_fin (F := [_, _, _, _, _, _, _, _, _, _, _]) (T := hdL _ _ _ ++ [(904, .blk T0 (.cells #[.slice a ps.length cap, .int .u64 lost] 27)), (905, .blk T1 (.cells #[.int .i64 tk, .int .i64 i, .int .i64 tb, .int .u32 (tm.toNat : Int)] 48)), (906, .blk T2 (.cells #[.slice none 0 0, .int .u64 0] 27)), (907, .blk T3 (.cells #[.int .i64 0, .slice none 0 0, .bool false] 36))]) (sub_cons rfl (sub_cons rfl (sub_cons rfl (sub_cons rfl (sub_cons rfl (sub_cons rfl (sub_cons rfl (sub_cons rfl sub_nil)))))))) rfl hL) | exact hm.of (lk_fin (F := [_, _, _, _, _, _, _, _, _, _, _, _]) (T := hdL _ _ _ ++ [(904, .blk T0 (.cells #[.slice a ps.length cap, .int .u64 lost] 27)), (905, .blk T1 (.cells #[.int .i64 tk, .int .i64 i, .int .i64 tb, .int .u32 (tm.toNat : Int)] 48)), (906, .blk T2 (.cells #[.slice none 0 0, .int .u64 0] 27)), (907, .blk T3 (.cells #[.int .i64 0, .slice none 0 0, .bool false] 36))]) (sub_cons rfl (sub_cons rfl (sub_cons rfl (sub_cons rfl (sub_cons rfl (sub_cons rfl (sub_cons rfl (sub_cons rfl sub_nil)))))))) rfl hL) | exact hm.of (lk_fin (F := [_, _, _, _, _, _, _, _, _, _, _, _, _]) (T := hdL _ _ _ ++ [(904, .blk T0 (.cells #[.slice a ps.length cap, .int .u64 lost] 27)), (905, .blk T1 (.cells #[.int .i64 tk, .int .i64 i, .int .i64 tb, .int .u32 (tm.toNat : Int)] 48)), (906, .blk T2 (.cells #[.slice none 0 0, .int .u64 0] 27)), (907, .blk T3 (.cells #[.int .i64 0, .slice none 0 0, .bool false] 36))]) (sub_cons rfl (sub_cons rfl (sub_cons rfl (sub_cons rfl (sub_cons rfl (sub_cons rfl (sub_cons rfl (sub_cons rfl sub_nil)))))))) rfl hL) | exact hm.of (lk_fin (F := [_, _, _, _, _, _, _, _, _, _, _, _, _, _]) (T := hdL _ _ _ ++ [(904, .blk T0 (.cells #[.slice a ps.length cap, .int .u64 lost] 27)), (905, .blk T1 (.cells #[.int .i64 tk, .int .i64 i, .int .i64 tb, .int .u32 (tm.toNat : Int)] 48)), (906, .blk T2 (.cells #[.slice none 0 0, .int .u64 0] 27)), (907, .blk T3 (.cells #[.int .i64 0, .slice none 0 0, .bool false] 36))]) (sub_cons rfl (sub_cons rfl (sub_cons rfl (sub_cons rfl (sub_cons rfl (sub_cons rfl (sub_cons rfl (sub_cons rfl sub_nil)))))))) rfl hL) | exact hm.of (lk_fin (F := [_, _, _, _, _, _, _, _, _, _, _, _, _, _, _]) (T := hdL _ _ _ ++ [(904, .blk T0 (.cells #[.slice a ps.length cap, .int .u64 lost] 27)), (905, .blk T1 (.cells #[.int .i64 tk, .int .i64 i, .int .i64 tb, .int .u32 (tm.toNat : Int)] 48)), (906, .blk T2 (.cells #[.slice none 0 0, .int .u64 0] 27)), (907, .blk T3 (.cells #[.int .i64 0, .slice none 0 0, .bool false] 36))]) (sub_cons rfl (sub_cons rfl (sub_cons rfl (sub_cons rfl (sub_cons rfl (sub_cons rfl (sub_cons rfl (sub_cons rfl sub_nil)))))))) rfl hL) | exact hm.of (lk_fin (F := [_, _, _, _, _, _, _, _, _, _, _, _, _, _, _, _]) (T := hdL _ _ _ ++ [(904, .blk T0 (.cells #[.slice a ps.length cap, .int .u64 lost] 27)), (905, .blk T1 (.cells #[.int .i64 tk, .int .i64 i, .int .i64 tb, .int .u32 (tm.toNat : Int)] 48)), (906, .blk T2 (.cells #[.slice none 0 0, .int .u64 0] 27)), (907, .blk T3 (.cells #[.int .i64 0, .slice none 0 0, .bool false] 36))]) (sub_cons rfl (sub_cons rfl (sub_cons rfl (sub_cons rfl (sub_cons rfl (sub_cons rfl (sub_cons rfl (sub_cons rfl sub_nil)))))))) rfl hL) | exact hm.of (lk_fin (F := [_, _, _, _, _, _, _, _, _, _, _, _, _, _, _, _, _]) (T := hdL _ _ _ ++ [(904, .blk T0 (.cells #[.slice a ps.length cap, .int .u64 lost] 27)), (905, .blk T1 (.cells #[.int .i64 tk, .int .i64 i, .int .i64 tb, .int .u32 (tm.toNat : Int)] 48)), (906, .blk T2 (.cells #[.slice none 0 0, .int .u64 0] 27)), (907, .blk T3 (.cells #[.int .i64 0, .slice none 0 0, .bool false] 36))]) (sub_cons rfl (sub_cons rfl (sub_cons rfl (sub_cons rfl (sub_cons rfl (sub_cons rfl (sub_cons rfl (sub_cons rfl sub_nil)))))))) rfl hL)
end Go.Proofs.Ytcidgbjgeegepaa
/- net and journal: Do. Printed by a program of this seat's prover. -/
namespace Go.Proofs.Ytcidgbjgeegepaa
open Go Go.RowKit
set_option maxRecDepth 10000
abbrev dxL (T0 T1 T2 T3 : Nat) (a : Option Addr) (n cap : Nat) (lost tk i tb : Int) (tm : Wd) (c : Option Addr) (k d : Nat) (lo : Int) (q : Pcl) : Heap := [(904, .blk T0 (.cells #[.slice a n cap, .int .u64 lost] 27)), (905, .blk T1 (.cells #[.int .i64 tk, .int .i64 i, .int .i64 tb, .int .u32 (tm.toNat : Int)] 48)), (906, .blk T2 (.cells #[.slice c k d, .int .u64 lo] 27)), (907, .blk T3 (.cells #[.int .i64 q.to, .slice q.r.a q.r.l.length q.r.cap, .bool q.sp] 36))]

theorem lastP_in {bs : List (RowG By)} {l : List Pcl} (h : InB bs l) : (lastP l).r ∈ bs ∧ (lastP l).r.l.length ≤ 10000 ∨ (lastP l).r = ⟨none, 0, []⟩ := by
  unfold lastP
  cases e : l.getLast? with
  | none => exact .inr rfl
  | some p => exact .inl (h p (List.mem_of_getLast? e))

theorem do_ok (ps : List Pcl) (a : Option Addr) (cap : Nat) (lost tk i tb : Int) (tm : Wd) (w : World) (hv : SliceAt w a cap 3 Pcl.cells ps) (hcap : cap ≤ Go.maxLen) (hb : PcsAt w ps) (h0 : 0 ≤ lost) (hck : checkV (pvs ps) lost = true) (hdo : (doV (pvs ps, lost) ⟨tk, i, tb, tm⟩).1 = 0) : Calls Try.prog 23 #[.agg #[.slice a ps.length cap, .int .u64 lost], .agg #[.int .i64 tk, .int .i64 i, .int .i64 tb, .int .u32 (tm.toNat : Int)]] w fun e w' => ∃ (x : Hd × List (RowG By)) (q : Pcl), NetIs (doV (pvs ps, lost) ⟨tk, i, tb, tm⟩).2.1 x ∧ q.pv = toldV (doV (pvs ps, lost) ⟨tk, i, tb, tm⟩).2.2 ∧ (q.r ∈ x.2 ∧ q.r.l.length ≤ 10000 ∨ q.r = ⟨none, 0, []⟩) ∧ e = .returned (.tuple #[.agg #[.slice x.1.n.a x.1.n.l.length x.1.n.cap, .int .u64 x.1.lost], .agg #[.int .i64 q.to, .slice q.r.a q.r.l.length q.r.cap, .bool q.sp], .int .i64 0]) ∧ Below w.heap.size w w' ∧ NetNew w w' x := by
  have hvl := hv.1
  unfold Go.maxLen at hcap
  refine calls_of_T (l := [.agg #[.slice a ps.length cap, .int .u64 lost], .agg #[.int .i64 tk, .int .i64 i, .int .i64 tb, .int .u32 ((tm).toNat : Int)]]) 15 Try.func23 rfl rfl rfl ?_
  show T _ _ _ [(0, .agg #[.slice a ps.length cap, .int .u64 lost]), (1, .agg #[.int .i64 tk, .int .i64 i, .int .i64 tb, .int .u32 ((tm).toNat : Int)])] []
  refine T_seq (T_region ?_)
  refine TL_new 904 (.cells #[.slice a ps.length cap, .int .u64 lost] 27) (fun B => .pointer (some ⟨B, 0, none⟩)) (fun _ _ hρ _ => r_box (hρ _ _ rfl) rfl) rfl rfl rfl (w_n rfl) ?_
  intro B1
  refine TL_new 905 (.cells #[.int .i64 tk, .int .i64 i, .int .i64 tb, .int .u32 ((tm).toNat : Int)] 48) (fun B => .pointer (some ⟨B, 0, none⟩)) (fun _ _ hρ _ => r_box (hρ _ _ rfl) rfl) rfl rfl rfl (w_n rfl) ?_
  intro B2
  refine TL_new 908 (.cells #[.slice none 0 0, .int .u64 0] 27) (fun B => .pointer (some ⟨B, 0, none⟩)) (fun _ _ _ _ => r_alloc (v := .agg #[.slice none 0 0, .int .u64 0]) (by kernel_rfl) rfl) rfl rfl rfl (w_n rfl) ?_
  intro B3
  refine TL_new 909 (.cells #[.int .i64 0, .slice none 0 0, .bool false] 36) (fun B => .pointer (some ⟨B, 0, none⟩)) (fun _ _ _ _ => r_alloc (v := .agg #[.int .i64 0, .slice none 0 0, .bool false]) (by kernel_rfl) rfl) rfl rfl rfl (w_n rfl) ?_
  intro B4
  refine TL_q (.int .i64 0) (fun _ _ hρ _ => r_assign (hρ _ _ rfl)) rfl rfl rfl (w_n rfl) ?_
  refine TL_seq ?_
  refine T_seq (T_region ?_)
  refine TL_new 906 (.cells #[.slice none 0 0, .int .u64 0] 27) (fun B => .pointer (some ⟨B, 0, none⟩)) (fun _ _ _ _ => r_alloc (v := .agg #[.slice none 0 0, .int .u64 0]) (by kernel_rfl) rfl) rfl rfl rfl (w_n rfl) ?_
  intro B5
  refine TL_seq ?_
  refine T_seq (T_region ?_)
  refine TL_new 907 (.cells #[.int .i64 0, .slice none 0 0, .bool false] 36) (fun B => .pointer (some ⟨B, 0, none⟩)) (fun _ _ _ _ => r_alloc (v := .agg #[.int .i64 0, .slice none 0 0, .bool false]) (by kernel_rfl) rfl) rfl rfl rfl (w_n rfl) ?_
  intro B6
  refine TL_seq ?_
  refine T_seq (T_region ?_)
  refine TL_q (.func (.func 69) #[] #[.pointer (some ⟨B1, 0, none⟩), .pointer (some ⟨B2, 0, none⟩), .pointer (some ⟨B5, 0, none⟩), .pointer (some ⟨B6, 0, none⟩)]) (fun _ _ hρ _ => r_makeFunc (by simp) (map_arr (cons2 (hρ _ _ rfl) (cons2 (hρ _ _ rfl) (cons2 (hρ _ _ rfl) (cons2 (hρ _ _ rfl) rfl)))))) rfl rfl rfl (w_n rfl) ?_
  refine TL_callH _ _ _ (fun _ _ hρ _ => r_call (args := [.func (.func 69) #[] #[.pointer (some ⟨B1, 0, none⟩), .pointer (some ⟨B2, 0, none⟩), .pointer (some ⟨B5, 0, none⟩), .pointer (some ⟨B6, 0, none⟩)]]) (enters_of Try.func59 (by kernel_rfl) rfl) (hρ _ _ rfl) ((cons2 (hρ _ _ rfl) rfl)) rfl) (fun w hm => trO_ok 69 #[.pointer (some ⟨B1, 0, none⟩), .pointer (some ⟨B2, 0, none⟩), .pointer (some ⟨B5, 0, none⟩), .pointer (some ⟨B6, 0, none⟩)] (fun x : Nat × Hd × List (RowG By) => Did (pvs ps, lost) ⟨tk, i, tb, tm⟩ x) (fun x => hdL x.1 x.2.1 x.2.2 ++ dxL B1 B2 B5 B6 a ps.length cap lost tk i tb tm x.2.1.n.a x.2.1.n.l.length x.2.1.n.cap x.2.1.lost (lastP x.2.1.t.l)) (enters_of Try.func69 (by kernel_rfl) rfl) (lk_ids (by repeat (first | exact noIds_nil _ _ | refine noIds_cons rfl ?_))) (fun _ => rfl) (fun B w hm => do1_ok B1 B2 B5 B6 ps a cap lost tk i tb tm (by repeat (first | exact noIds_nil _ _ | refine noIds_cons rfl ?_)) hv hcap hb h0 hck hdo w (hm.of (lk_dups (A := dxL B1 B2 B5 B6 a ps.length cap lost tk i tb tm none 0 0 0 ⟨0, ⟨none, 0, []⟩, false⟩) (sub_cons rfl (sub_cons rfl (sub_cons rfl (sub_cons rfl sub_nil))))))) w hm) rfl rfl rfl (w_n rfl) ?_
  rintro ⟨H7, h7, bs7⟩ hd7
  refine TL_q (.int .i64 0) (fun _ _ hρ _ => r_assign (hρ _ _ rfl)) rfl rfl rfl (w_n rfl) ?_
  refine TL_seq ?_
  refine T_seq (T_draw (V := [(0, .agg #[.slice h7.n.a h7.n.l.length h7.n.cap, .int .u64 h7.lost]), (1, .agg #[.int .i64 ((lastP h7.t.l).to), .slice ((lastP h7.t.l).r.a) ((lastP h7.t.l).r.l.length) ((lastP h7.t.l).r.cap), .bool ((lastP h7.t.l).sp)]), (2, .int .i64 0)]) [0, 0, 0, 1, 11, 31] [[(7, none)], [(8, none)], [(9, none)], [(4, none), (12, some 0)], [(5, none), (13, some 1)], [(14, some 2)]] 24 mixed (by kernel_rfl) ?_)
  refine G_step [0, 1, 2] 3 [] (by kernel_rfl) (allM (all_cons (q_run (.agg #[.slice h7.n.a h7.n.l.length h7.n.cap, .int .u64 h7.lost]) rfl rfl (wv_n rfl) rfl (fun _ _ hρ hm => r_loadA ag27 sz27 (hρ _ _ rfl) (hm.at 906 rfl) rfl rfl)) (all_cons (q_run (.agg #[.int .i64 ((lastP h7.t.l).to), .slice ((lastP h7.t.l).r.a) ((lastP h7.t.l).r.l.length) ((lastP h7.t.l).r.cap), .bool ((lastP h7.t.l).sp)]) rfl rfl (wv_n rfl) rfl (fun _ _ hρ hm => r_loadA ag36 sz36 (hρ _ _ rfl) (hm.at 907 rfl) rfl rfl)) (all_cons (q_run (.int .i64 0) rfl rfl (wv_n rfl) rfl (fun _ _ hρ _ => r_move (hρ _ _ rfl))) all_nil)))) (allM (all_cons ?_ all_nil))
  refine LOb_store 908 (.cells #[.slice h7.n.a h7.n.l.length h7.n.cap, .int .u64 h7.lost] 27) [] rfl (wv_n rfl) rfl rfl rfl (fun _ _ hρ hm => r_store sz27 (hρ _ _ rfl) (hρ _ _ rfl) (hm.at 908 rfl) rfl rfl rfl rfl) (by kernel_rfl) ?_
  refine G_step [1, 2] 4 [] (by kernel_rfl) (allM (all_cons (q_run (.agg #[.int .i64 ((lastP h7.t.l).to), .slice ((lastP h7.t.l).r.a) ((lastP h7.t.l).r.l.length) ((lastP h7.t.l).r.cap), .bool ((lastP h7.t.l).sp)]) rfl rfl (wv_n rfl) rfl (fun _ _ hρ hm => r_loadA ag36 sz36 (hρ _ _ rfl) (hm.at 907 rfl) rfl rfl)) (all_cons (q_run (.int .i64 0) rfl rfl (wv_n rfl) rfl (fun _ _ hρ _ => r_move (hρ _ _ rfl))) all_nil))) (allM (all_cons ?_ all_nil))
  refine LOb_store 909 (.cells #[.int .i64 ((lastP h7.t.l).to), .slice ((lastP h7.t.l).r.a) ((lastP h7.t.l).r.l.length) ((lastP h7.t.l).r.cap), .bool ((lastP h7.t.l).sp)] 36) [(5, .int .i64 0)] rfl (wv_n rfl) rfl rfl rfl (fun _ _ hρ hm => r_store sz36 (hρ _ _ rfl) (hρ _ _ rfl) (hm.at 909 rfl) rfl rfl rfl rfl) (by kernel_rfl) ?_
  refine G_last [2, 5] [(4, .pointer (some ⟨B3, 0, none⟩)), (5, .pointer (some ⟨B4, 0, none⟩)), (6, .int .i64 0)] (by kernel_rfl) (allM (all_cons (q_run (.int .i64 0) rfl rfl (wv_n rfl) rfl (fun _ _ hρ _ => r_move (hρ _ _ rfl))) (all_cons (q_run (.int .i64 0) rfl rfl (wv_n rfl) rfl (fun _ _ hρ _ => r_assign (hρ _ _ rfl))) all_nil))) (end_old rfl rfl (end_old rfl rfl (end_new 5 rfl rfl end_nil))) ?_
  refine T_ret' ?_
  refine ret_of rfl (.tuple #[.agg #[.slice h7.n.a h7.n.l.length h7.n.cap, .int .u64 h7.lost], .agg #[.int .i64 ((lastP h7.t.l).to), .slice ((lastP h7.t.l).r.a) ((lastP h7.t.l).r.l.length) ((lastP h7.t.l).r.cap), .bool ((lastP h7.t.l).sp)], .int .i64 0]) (fun tmps w hk hm => res3 rfl (res_cell (hk 4 _ rfl) (run_loadVar_agg ag27 sz27 (hm.at 908 rfl) (Nat.le_of_ble_eq_true rfl) rfl)) (res_cell (hk 5 _ rfl) (run_loadVar_agg ag36 sz36 (hm.at 909 rfl) (Nat.le_of_ble_eq_true rfl) rfl)) (res_tmp (hk 6 _ rfl))) (fun w hm => ?_)
  exact ⟨(h7, bs7), lastP h7.t.l, ⟨hd7.nv, hd7.ok⟩, hd7.told, lastP_in hd7.ok.inT, rfl, hm.ext, hm.own 901 _ rfl, hm.own 903 _ rfl, hm.sep 901 903 _ _ rfl rfl (by decide)⟩

theorem do_net (ps : List Pcl) (a : Option Addr) (cap : Nat) (lost tk i tb : Int) (tm : Wd) (w : World) (hv : SliceAt w a cap 3 Pcl.cells ps) (hcap : cap ≤ Go.maxLen) (hb : PcsAt w ps) (hck : ¬ checkV (pvs ps) lost = true) : Calls Try.prog 23 #[.agg #[.slice a ps.length cap, .int .u64 lost], .agg #[.int .i64 tk, .int .i64 i, .int .i64 tb, .int .u32 (tm.toNat : Int)]] w fun e w' => e = .returned (.tuple #[.agg #[.slice none 0 0, .int .u64 0], .agg #[.int .i64 0, .slice none 0 0, .bool false], .int .i64 350]) ∧ Below w.heap.size w w' := by
  have hvl := hv.1
  unfold Go.maxLen at hcap
  refine calls_of_T (l := [.agg #[.slice a ps.length cap, .int .u64 lost], .agg #[.int .i64 tk, .int .i64 i, .int .i64 tb, .int .u32 ((tm).toNat : Int)]]) 15 Try.func23 rfl rfl rfl ?_
  show T _ _ _ [(0, .agg #[.slice a ps.length cap, .int .u64 lost]), (1, .agg #[.int .i64 tk, .int .i64 i, .int .i64 tb, .int .u32 ((tm).toNat : Int)])] []
  refine T_seq (T_region ?_)
  refine TL_new 904 (.cells #[.slice a ps.length cap, .int .u64 lost] 27) (fun B => .pointer (some ⟨B, 0, none⟩)) (fun _ _ hρ _ => r_box (hρ _ _ rfl) rfl) rfl rfl rfl (w_n rfl) ?_
  intro B1
  refine TL_new 905 (.cells #[.int .i64 tk, .int .i64 i, .int .i64 tb, .int .u32 ((tm).toNat : Int)] 48) (fun B => .pointer (some ⟨B, 0, none⟩)) (fun _ _ hρ _ => r_box (hρ _ _ rfl) rfl) rfl rfl rfl (w_n rfl) ?_
  intro B2
  refine TL_new 908 (.cells #[.slice none 0 0, .int .u64 0] 27) (fun B => .pointer (some ⟨B, 0, none⟩)) (fun _ _ _ _ => r_alloc (v := .agg #[.slice none 0 0, .int .u64 0]) (by kernel_rfl) rfl) rfl rfl rfl (w_n rfl) ?_
  intro B3
  refine TL_new 909 (.cells #[.int .i64 0, .slice none 0 0, .bool false] 36) (fun B => .pointer (some ⟨B, 0, none⟩)) (fun _ _ _ _ => r_alloc (v := .agg #[.int .i64 0, .slice none 0 0, .bool false]) (by kernel_rfl) rfl) rfl rfl rfl (w_n rfl) ?_
  intro B4
  refine TL_q (.int .i64 0) (fun _ _ hρ _ => r_assign (hρ _ _ rfl)) rfl rfl rfl (w_n rfl) ?_
  refine TL_seq ?_
  refine T_seq (T_region ?_)
  refine TL_new 906 (.cells #[.slice none 0 0, .int .u64 0] 27) (fun B => .pointer (some ⟨B, 0, none⟩)) (fun _ _ _ _ => r_alloc (v := .agg #[.slice none 0 0, .int .u64 0]) (by kernel_rfl) rfl) rfl rfl rfl (w_n rfl) ?_
  intro B5
  refine TL_seq ?_
  refine T_seq (T_region ?_)
  refine TL_new 907 (.cells #[.int .i64 0, .slice none 0 0, .bool false] 36) (fun B => .pointer (some ⟨B, 0, none⟩)) (fun _ _ _ _ => r_alloc (v := .agg #[.int .i64 0, .slice none 0 0, .bool false]) (by kernel_rfl) rfl) rfl rfl rfl (w_n rfl) ?_
  intro B6
  refine TL_seq ?_
  refine T_seq (T_region ?_)
  refine TL_q (.func (.func 69) #[] #[.pointer (some ⟨B1, 0, none⟩), .pointer (some ⟨B2, 0, none⟩), .pointer (some ⟨B5, 0, none⟩), .pointer (some ⟨B6, 0, none⟩)]) (fun _ _ hρ _ => r_makeFunc (by simp) (map_arr (cons2 (hρ _ _ rfl) (cons2 (hρ _ _ rfl) (cons2 (hρ _ _ rfl) (cons2 (hρ _ _ rfl) rfl)))))) rfl rfl rfl (w_n rfl) ?_
  refine TL_callH _ _ _ (fun _ _ hρ _ => r_call (args := [.func (.func 69) #[] #[.pointer (some ⟨B1, 0, none⟩), .pointer (some ⟨B2, 0, none⟩), .pointer (some ⟨B5, 0, none⟩), .pointer (some ⟨B6, 0, none⟩)]]) (enters_of Try.func59 (by kernel_rfl) rfl) (hρ _ _ rfl) ((cons2 (hρ _ _ rfl) rfl)) rfl) (fun w hm => trO_no 69 #[.pointer (some ⟨B1, 0, none⟩), .pointer (some ⟨B2, 0, none⟩), .pointer (some ⟨B5, 0, none⟩), .pointer (some ⟨B6, 0, none⟩)] (fun _ : Unit => True) (fun _ => 350) (fun _ => dxL B1 B2 B5 B6 a ps.length cap lost tk i tb tm none 0 0 0 ⟨0, ⟨none, 0, []⟩, false⟩) (enters_of Try.func69 (by kernel_rfl) rfl) (lk_ids (by repeat (first | exact noIds_nil _ _ | refine noIds_cons rfl ?_))) (fun _ => rfl) (fun B w hm => do1_net B1 B2 B5 B6 ps a cap lost tk i tb tm (by repeat (first | exact noIds_nil _ _ | refine noIds_cons rfl ?_)) hv hcap hb hck w (hm.of (lk_dups (A := dxL B1 B2 B5 B6 a ps.length cap lost tk i tb tm none 0 0 0 ⟨0, ⟨none, 0, []⟩, false⟩) (sub_cons rfl (sub_cons rfl (sub_cons rfl (sub_cons rfl sub_nil))))))) w hm) rfl rfl rfl (w_n rfl) ?_
  rintro ⟨⟩ -
  refine TL_q (.int .i64 350) (fun _ _ hρ _ => r_assign (hρ _ _ rfl)) rfl rfl rfl (w_n rfl) ?_
  refine TL_seq ?_
  refine T_seq (T_draw (V := [(0, .agg #[.slice none 0 0, .int .u64 0]), (1, .agg #[.int .i64 0, .slice none 0 0, .bool false]), (2, .int .i64 350)]) [0, 0, 0, 1, 11, 31] [[(7, none)], [(8, none)], [(9, none)], [(4, none), (12, some 0)], [(5, none), (13, some 1)], [(14, some 2)]] 24 mixed (by kernel_rfl) ?_)
  refine G_step [0, 1, 2] 3 [] (by kernel_rfl) (allM (all_cons (q_run (.agg #[.slice none 0 0, .int .u64 0]) rfl rfl (wv_n rfl) rfl (fun _ _ hρ hm => r_loadA ag27 sz27 (hρ _ _ rfl) (hm.at 906 rfl) rfl rfl)) (all_cons (q_run (.agg #[.int .i64 0, .slice none 0 0, .bool false]) rfl rfl (wv_n rfl) rfl (fun _ _ hρ hm => r_loadA ag36 sz36 (hρ _ _ rfl) (hm.at 907 rfl) rfl rfl)) (all_cons (q_run (.int .i64 350) rfl rfl (wv_n rfl) rfl (fun _ _ hρ _ => r_move (hρ _ _ rfl))) all_nil)))) (allM (all_cons ?_ all_nil))
  refine LOb_store 908 (.cells #[.slice none 0 0, .int .u64 0] 27) [] rfl (wv_n rfl) rfl rfl rfl (fun _ _ hρ hm => r_store sz27 (hρ _ _ rfl) (hρ _ _ rfl) (hm.at 908 rfl) rfl rfl rfl rfl) (by kernel_rfl) ?_
  refine G_step [1, 2] 4 [] (by kernel_rfl) (allM (all_cons (q_run (.agg #[.int .i64 0, .slice none 0 0, .bool false]) rfl rfl (wv_n rfl) rfl (fun _ _ hρ hm => r_loadA ag36 sz36 (hρ _ _ rfl) (hm.at 907 rfl) rfl rfl)) (all_cons (q_run (.int .i64 350) rfl rfl (wv_n rfl) rfl (fun _ _ hρ _ => r_move (hρ _ _ rfl))) all_nil))) (allM (all_cons ?_ all_nil))
  refine LOb_store 909 (.cells #[.int .i64 0, .slice none 0 0, .bool false] 36) [(5, .int .i64 350)] rfl (wv_n rfl) rfl rfl rfl (fun _ _ hρ hm => r_store sz36 (hρ _ _ rfl) (hρ _ _ rfl) (hm.at 909 rfl) rfl rfl rfl rfl) (by kernel_rfl) ?_
  refine G_last [2, 5] [(4, .pointer (some ⟨B3, 0, none⟩)), (5, .pointer (some ⟨B4, 0, none⟩)), (6, .int .i64 350)] (by kernel_rfl) (allM (all_cons (q_run (.int .i64 350) rfl rfl (wv_n rfl) rfl (fun _ _ hρ _ => r_move (hρ _ _ rfl))) (all_cons (q_run (.int .i64 350) rfl rfl (wv_n rfl) rfl (fun _ _ hρ _ => r_assign (hρ _ _ rfl))) all_nil))) (end_old rfl rfl (end_old rfl rfl (end_new 5 rfl rfl end_nil))) ?_
  refine T_ret' ?_
  refine ret_of rfl (.tuple #[.agg #[.slice none 0 0, .int .u64 0], .agg #[.int .i64 0, .slice none 0 0, .bool false], .int .i64 350]) (fun tmps w hk hm => res3 rfl (res_cell (hk 4 _ rfl) (run_loadVar_agg ag27 sz27 (hm.at 908 rfl) (Nat.le_of_ble_eq_true rfl) rfl)) (res_cell (hk 5 _ rfl) (run_loadVar_agg ag36 sz36 (hm.at 909 rfl) (Nat.le_of_ble_eq_true rfl) rfl)) (res_tmp (hk 6 _ rfl))) (fun w hm => ?_)
  exact ⟨rfl, hm.ext⟩

theorem do_err (ps : List Pcl) (a : Option Addr) (cap : Nat) (lost tk i tb : Int) (tm : Wd) (w : World) (hv : SliceAt w a cap 3 Pcl.cells ps) (hcap : cap ≤ Go.maxLen) (hb : PcsAt w ps) (er : Int) (h0 : 0 ≤ lost) (hck : checkV (pvs ps) lost = true) (hdo : (doV (pvs ps, lost) ⟨tk, i, tb, tm⟩).1 = er) (her : ¬ er = 0) : Calls Try.prog 23 #[.agg #[.slice a ps.length cap, .int .u64 lost], .agg #[.int .i64 tk, .int .i64 i, .int .i64 tb, .int .u32 (tm.toNat : Int)]] w fun e w' => e = .returned (.tuple #[.agg #[.slice none 0 0, .int .u64 0], .agg #[.int .i64 0, .slice none 0 0, .bool false], .int .i64 er]) ∧ Below w.heap.size w w' := by
  have hvl := hv.1
  unfold Go.maxLen at hcap
  refine calls_of_T (l := [.agg #[.slice a ps.length cap, .int .u64 lost], .agg #[.int .i64 tk, .int .i64 i, .int .i64 tb, .int .u32 ((tm).toNat : Int)]]) 15 Try.func23 rfl rfl rfl ?_
  show T _ _ _ [(0, .agg #[.slice a ps.length cap, .int .u64 lost]), (1, .agg #[.int .i64 tk, .int .i64 i, .int .i64 tb, .int .u32 ((tm).toNat : Int)])] []
  refine T_seq (T_region ?_)
  refine TL_new 904 (.cells #[.slice a ps.length cap, .int .u64 lost] 27) (fun B => .pointer (some ⟨B, 0, none⟩)) (fun _ _ hρ _ => r_box (hρ _ _ rfl) rfl) rfl rfl rfl (w_n rfl) ?_
  intro B1
  refine TL_new 905 (.cells #[.int .i64 tk, .int .i64 i, .int .i64 tb, .int .u32 ((tm).toNat : Int)] 48) (fun B => .pointer (some ⟨B, 0, none⟩)) (fun _ _ hρ _ => r_box (hρ _ _ rfl) rfl) rfl rfl rfl (w_n rfl) ?_
  intro B2
  refine TL_new 908 (.cells #[.slice none 0 0, .int .u64 0] 27) (fun B => .pointer (some ⟨B, 0, none⟩)) (fun _ _ _ _ => r_alloc (v := .agg #[.slice none 0 0, .int .u64 0]) (by kernel_rfl) rfl) rfl rfl rfl (w_n rfl) ?_
  intro B3
  refine TL_new 909 (.cells #[.int .i64 0, .slice none 0 0, .bool false] 36) (fun B => .pointer (some ⟨B, 0, none⟩)) (fun _ _ _ _ => r_alloc (v := .agg #[.int .i64 0, .slice none 0 0, .bool false]) (by kernel_rfl) rfl) rfl rfl rfl (w_n rfl) ?_
  intro B4
  refine TL_q (.int .i64 0) (fun _ _ hρ _ => r_assign (hρ _ _ rfl)) rfl rfl rfl (w_n rfl) ?_
  refine TL_seq ?_
  refine T_seq (T_region ?_)
  refine TL_new 906 (.cells #[.slice none 0 0, .int .u64 0] 27) (fun B => .pointer (some ⟨B, 0, none⟩)) (fun _ _ _ _ => r_alloc (v := .agg #[.slice none 0 0, .int .u64 0]) (by kernel_rfl) rfl) rfl rfl rfl (w_n rfl) ?_
  intro B5
  refine TL_seq ?_
  refine T_seq (T_region ?_)
  refine TL_new 907 (.cells #[.int .i64 0, .slice none 0 0, .bool false] 36) (fun B => .pointer (some ⟨B, 0, none⟩)) (fun _ _ _ _ => r_alloc (v := .agg #[.int .i64 0, .slice none 0 0, .bool false]) (by kernel_rfl) rfl) rfl rfl rfl (w_n rfl) ?_
  intro B6
  refine TL_seq ?_
  refine T_seq (T_region ?_)
  refine TL_q (.func (.func 69) #[] #[.pointer (some ⟨B1, 0, none⟩), .pointer (some ⟨B2, 0, none⟩), .pointer (some ⟨B5, 0, none⟩), .pointer (some ⟨B6, 0, none⟩)]) (fun _ _ hρ _ => r_makeFunc (by simp) (map_arr (cons2 (hρ _ _ rfl) (cons2 (hρ _ _ rfl) (cons2 (hρ _ _ rfl) (cons2 (hρ _ _ rfl) rfl)))))) rfl rfl rfl (w_n rfl) ?_
  refine TL_callH _ _ _ (fun _ _ hρ _ => r_call (args := [.func (.func 69) #[] #[.pointer (some ⟨B1, 0, none⟩), .pointer (some ⟨B2, 0, none⟩), .pointer (some ⟨B5, 0, none⟩), .pointer (some ⟨B6, 0, none⟩)]]) (enters_of Try.func59 (by kernel_rfl) rfl) (hρ _ _ rfl) ((cons2 (hρ _ _ rfl) rfl)) rfl) (fun w hm => trO_no 69 #[.pointer (some ⟨B1, 0, none⟩), .pointer (some ⟨B2, 0, none⟩), .pointer (some ⟨B5, 0, none⟩), .pointer (some ⟨B6, 0, none⟩)] (fun _ : Nat × Hd × List (RowG By) => True) (fun _ => er) (fun x => hdL x.1 x.2.1 x.2.2 ++ dxL B1 B2 B5 B6 a ps.length cap lost tk i tb tm none 0 0 0 ⟨0, ⟨none, 0, []⟩, false⟩) (enters_of Try.func69 (by kernel_rfl) rfl) (lk_ids (by repeat (first | exact noIds_nil _ _ | refine noIds_cons rfl ?_))) (fun _ => rfl) (fun B w hm => do1_err B1 B2 B5 B6 ps a cap lost tk i tb tm (by repeat (first | exact noIds_nil _ _ | refine noIds_cons rfl ?_)) hv hcap hb er h0 hck hdo her w (hm.of (lk_dups (A := dxL B1 B2 B5 B6 a ps.length cap lost tk i tb tm none 0 0 0 ⟨0, ⟨none, 0, []⟩, false⟩) (sub_cons rfl (sub_cons rfl (sub_cons rfl (sub_cons rfl sub_nil))))))) w hm) rfl rfl rfl (w_n rfl) ?_
  rintro ⟨H7, h7, bs7⟩ -
  refine TL_q (.int .i64 er) (fun _ _ hρ _ => r_assign (hρ _ _ rfl)) rfl rfl rfl (w_n rfl) ?_
  refine TL_seq ?_
  refine T_seq (T_draw (V := [(0, .agg #[.slice none 0 0, .int .u64 0]), (1, .agg #[.int .i64 0, .slice none 0 0, .bool false]), (2, .int .i64 er)]) [0, 0, 0, 1, 11, 31] [[(7, none)], [(8, none)], [(9, none)], [(4, none), (12, some 0)], [(5, none), (13, some 1)], [(14, some 2)]] 24 mixed (by kernel_rfl) ?_)
  refine G_step [0, 1, 2] 3 [] (by kernel_rfl) (allM (all_cons (q_run (.agg #[.slice none 0 0, .int .u64 0]) rfl rfl (wv_n rfl) rfl (fun _ _ hρ hm => r_loadA ag27 sz27 (hρ _ _ rfl) (hm.at 906 rfl) rfl rfl)) (all_cons (q_run (.agg #[.int .i64 0, .slice none 0 0, .bool false]) rfl rfl (wv_n rfl) rfl (fun _ _ hρ hm => r_loadA ag36 sz36 (hρ _ _ rfl) (hm.at 907 rfl) rfl rfl)) (all_cons (q_run (.int .i64 er) rfl rfl (wv_n rfl) rfl (fun _ _ hρ _ => r_move (hρ _ _ rfl))) all_nil)))) (allM (all_cons ?_ all_nil))
  refine LOb_store 908 (.cells #[.slice none 0 0, .int .u64 0] 27) [] rfl (wv_n rfl) rfl rfl rfl (fun _ _ hρ hm => r_store sz27 (hρ _ _ rfl) (hρ _ _ rfl) (hm.at 908 rfl) rfl rfl rfl rfl) (by kernel_rfl) ?_
  refine G_step [1, 2] 4 [] (by kernel_rfl) (allM (all_cons (q_run (.agg #[.int .i64 0, .slice none 0 0, .bool false]) rfl rfl (wv_n rfl) rfl (fun _ _ hρ hm => r_loadA ag36 sz36 (hρ _ _ rfl) (hm.at 907 rfl) rfl rfl)) (all_cons (q_run (.int .i64 er) rfl rfl (wv_n rfl) rfl (fun _ _ hρ _ => r_move (hρ _ _ rfl))) all_nil))) (allM (all_cons ?_ all_nil))
  refine LOb_store 909 (.cells #[.int .i64 0, .slice none 0 0, .bool false] 36) [(5, .int .i64 er)] rfl (wv_n rfl) rfl rfl rfl (fun _ _ hρ hm => r_store sz36 (hρ _ _ rfl) (hρ _ _ rfl) (hm.at 909 rfl) rfl rfl rfl rfl) (by kernel_rfl) ?_
  refine G_last [2, 5] [(4, .pointer (some ⟨B3, 0, none⟩)), (5, .pointer (some ⟨B4, 0, none⟩)), (6, .int .i64 er)] (by kernel_rfl) (allM (all_cons (q_run (.int .i64 er) rfl rfl (wv_n rfl) rfl (fun _ _ hρ _ => r_move (hρ _ _ rfl))) (all_cons (q_run (.int .i64 er) rfl rfl (wv_n rfl) rfl (fun _ _ hρ _ => r_assign (hρ _ _ rfl))) all_nil))) (end_old rfl rfl (end_old rfl rfl (end_new 5 rfl rfl end_nil))) ?_
  refine T_ret' ?_
  refine ret_of rfl (.tuple #[.agg #[.slice none 0 0, .int .u64 0], .agg #[.int .i64 0, .slice none 0 0, .bool false], .int .i64 er]) (fun tmps w hk hm => res3 rfl (res_cell (hk 4 _ rfl) (run_loadVar_agg ag27 sz27 (hm.at 908 rfl) (Nat.le_of_ble_eq_true rfl) rfl)) (res_cell (hk 5 _ rfl) (run_loadVar_agg ag36 sz36 (hm.at 909 rfl) (Nat.le_of_ble_eq_true rfl) rfl)) (res_tmp (hk 6 _ rfl))) (fun w hm => ?_)
  exact ⟨rfl, hm.ext⟩
end Go.Proofs.Ytcidgbjgeegepaa
/- net and journal: Run. Printed by a program of this seat's prover. -/
namespace Go.Proofs.Ytcidgbjgeegepaa
open Go Go.RowKit
set_option maxRecDepth 10000
abbrev rxL (T0 T1 : Nat) (a : Option Addr) (n cap : Nat) (lost : Int) (p : Option Addr) : Heap := [(904, .blk T0 (.cells #[.slice a n cap, .int .u64 lost] 27)), (905, .blk T1 (.cells #[.pointer p] 98))]

/-- What tricks come to, one behind the other: the net, what is told, how many are passed over. -/
def runV (n : NV) (l : List Trk) : NV × List PV × Int := l.foldl (fun s t => ((doV s.1 t).2.1, s.2.1 ++ (doV s.1 t).2.2, if (doV s.1 t).1 = 0 then s.2.2 else s.2.2 + 1)) (n, [], 0)
structure RunIs (n : NV) (l : List Trk) (x : Hd × List (RowG By)) (ov : Int) : Prop where
  is : (x.1.nv, pvs x.1.t.l, ov) = runV n l
  ok : HdOk x.1 x.2
  over : 0 ≤ ov ∧ ov ≤ l.length
  len : x.1.t.l.length ≤ l.length
theorem runs_zero {ps : List Pcl} {lost : Int} {H : Nat} {h : Hd} {bs : List (RowG By)} (ho : OfOk ps lost (H, h, bs)) : RunIs (pvs ps, lost) [] (h, bs) 0 := by
  have e := ho.nv
  have e2 := ho.t
  dsimp only at e e2
  exact ⟨by dsimp only; rw [e, e2]; rfl, ho.ok, ⟨Int.le_refl _, Int.le_refl _⟩, by dsimp only; rw [e2]; exact Nat.zero_le _⟩
theorem runs_step {n : NV} {l : List Trk} {k : Nat} {t : Trk} {h h' : Hd} {bs bs' : List (RowG By)} {ov ov' : Int} (hr : RunIs n (l.take k) (h, bs) ov) (ht : l[k]? = some t) (hd : Done h bs t (h', bs')) (ho : (if (doV h.nv t).1 = 0 then ov else ov + 1) = ov') : RunIs n (l.take (k + 1)) (h', bs') ov' := by
  have e : l.take (k + 1) = l.take k ++ [t] := by rw [List.take_add_one, ht]; rfl
  have e1 := hr.is
  refine ⟨?_, hd.ok, ?_, ?_⟩
  · rw [e]
    unfold runV at e1 ⊢
    rw [List.foldl_append, ← e1]
    have h1 := hd.nv
    have h2 := hd.told
    dsimp only [List.foldl_cons, List.foldl_nil] at h1 h2 ⊢
    rw [h1, h2, ho]
  · have := hr.over
    rw [e, List.length_append, List.length_singleton, ← ho]
    split <;> constructor <;> omega
  · have := hr.len
    have h3 := hd.len
    rw [e, List.length_append, List.length_singleton]
    dsimp only at this h3 ⊢
    omega

theorem run1_ok {w₀ : World} {L : Heap} (T0 T1 : Nat) (ps : List Pcl) (a : Option Addr) (cap : Nat) (lost : Int) (hL : NoIds L 910 1950) (hv : SliceAt w₀ a cap 3 Pcl.cells ps) (hcap : cap ≤ Go.maxLen) (hb : PcsAt w₀ ps) (h0 : 0 ≤ lost) (hck : checkV (pvs ps) lost = true) : ∀ w, MemOk w₀ ([(904, .blk T0 (.cells #[.slice a ps.length cap, .int .u64 lost] 27)), (905, .blk T1 (.cells #[.pointer none] 98))] ++ L) w → Calls Try.prog 74 #[.pointer (some ⟨T0, 0, none⟩), .pointer (some ⟨T1, 0, none⟩)] w (HAns w₀ (fun x : Nat × Hd × List (RowG By) => OfOk ps lost x) (fun _ => .tuple #[]) (fun x => hdL x.1 x.2.1 x.2.2 ++ [(904, .blk T0 (.cells #[.slice a ps.length cap, .int .u64 lost] 27)), (905, .blk T1 (.cells #[.pointer (some ⟨x.1, 0, none⟩)] 98))] ++ L)) := by
  have hvl := hv.1
  unfold Go.maxLen at hcap
  refine ht_of_T (l := [.pointer (some ⟨T0, 0, none⟩), .pointer (some ⟨T1, 0, none⟩)]) (L := ((904, .blk T0 (.cells #[.slice a ps.length cap, .int .u64 lost] 27)) :: (905, .blk T1 (.cells #[.pointer none] 98)) :: L)) 4 Try.func74 rfl rfl rfl ?_
  show T _ _ _ [(0, .pointer (some ⟨T0, 0, none⟩)), (1, .pointer (some ⟨T1, 0, none⟩))] ((904, .blk T0 (.cells #[.slice a ps.length cap, .int .u64 lost] 27)) :: (905, .blk T1 (.cells #[.pointer none] 98)) :: L)
  refine T_region ?_
  refine TL_q (.agg #[.slice a ps.length cap, .int .u64 lost]) (fun _ _ hρ hm => r_loadA ag27 sz27 (hρ _ _ rfl) (hm.at 904 rfl) rfl rfl) rfl rfl rfl (w_n rfl) ?_
  refine TL_callN (fun x : Nat × Hd × List (RowG By) => OfOk ps lost x) (fun (H1, h1, bs1) => .pointer (some ⟨H1, 0, none⟩)) (fun (H1, h1, bs1) => [(900, .blk H1 (.cells #[.slice h1.n.a h1.n.l.length h1.n.cap, .int .u64 h1.lost, .slice h1.t.a h1.t.l.length h1.t.cap] 104)), (901, .row (.slice h1.n.a h1.n.l.length h1.n.cap) 36 3 h1.n.l.length (h1.n.l.flatMap Pcl.cells)), (902, .row (.slice h1.t.a h1.t.l.length h1.t.cap) 36 3 h1.t.l.length (h1.t.l.flatMap Pcl.cells)), (903, .pool 5 1 byc bs1)]) (fun _ _ hρ _ => r_call (args := [.agg #[.slice a ps.length cap, .int .u64 lost]]) (enters_of Try.func61 (by kernel_rfl) rfl) (hρ _ _ rfl) ((cons2 (hρ _ _ rfl) rfl)) rfl) (fun w hm => (of_ok ps a cap lost w (hv.keep hm.ext) hcap (hb.keep hm.ext) h0 hck).mono fun e w' ⟨⟨H, h, bs⟩, hx, he, hb, hn⟩ => ⟨(H, h, bs), hx, he, hb, hn⟩) rfl rfl rfl (w_n rfl) ?_
  rintro ⟨H1, h1, bs1⟩ ⟨hv1, hk1, ht1⟩
  refine TL_store 905 (.cells #[.pointer (some ⟨H1, 0, none⟩)] 98) rfl (fun _ _ hρ hm => r_store sz98 (hρ _ _ rfl) (hρ _ _ rfl) (hm.at 905 rfl) rfl rfl rfl rfl) rfl rfl (w_n rfl) ?_
  refine TL_nil ?_
  refine p_end ?_
  refine ret_of rfl (.tuple #[]) (fun tmps w hk hm => results_none rfl _ _ _) (fun w hm => ?_)
  refine ⟨(H1, h1, bs1), ⟨hv1, hk1, ht1⟩, rfl, ?_⟩
  first | exact hm.of (lk_fin (F := [_, _, _, _, _, _]) (T := hdL H1 h1 bs1 ++ [(904, .blk T0 (.cells #[.slice a ps.length cap, .int .u64 lost] 27)), (905, .blk T1 (.cells #[.pointer (some ⟨H1, 0, none⟩)] 98))]) (sub_cons rfl (sub_cons rfl (sub_cons rfl (sub_cons rfl (sub_cons rfl (sub_cons rfl sub_nil)))))) rfl hL) | exact hm.of (lk_fin (F := [_, _, _, _, _, _, _]) (T := hdL H1 h1 bs1 ++ [(904, .blk T0 (.cells #[.slice a ps.length cap, .int .u64 lost] 27)), (905, .blk T1 (.cells #[.pointer (some ⟨H1, 0, none⟩)] 98))]) (sub_cons rfl (sub_cons rfl (sub_cons rfl (sub_cons rfl (sub_cons rfl (sub_cons rfl sub_nil)))))) rfl hL) | exact hm.of (lk_fin (F := [_, _, _, _, _, _, _, _]) (T := hdL H1 h1 bs1 ++ [(904, .blk T0 (.cells #[.slice a ps.length cap, .int .u64 lost] 27)), (905, .blk T1 (.cells #[.pointer (some ⟨H1, 0, none⟩)] 98))]) (sub_cons rfl (sub_cons rfl (sub_cons rfl (sub_cons rfl (sub_cons rfl (sub_cons rfl sub_nil)))))) rfl hL) | exact hm.of (lk_fin (F := [_, _, _, _, _, _, _, _, _]) (T := hdL H1 h1 bs1 ++ [(904, .blk T0 (.cells #[.slice a ps.length cap, .int .u64 lost] 27)), (905, .blk T1 (.cells #[.pointer (some ⟨H1, 0, none⟩)] 98))]) (sub_cons rfl (sub_cons rfl (sub_cons rfl (sub_cons rfl (sub_cons rfl (sub_cons rfl sub_nil)))))) rfl hL) | exact hm.of (lk_fin (F := [_, _, _, _, _, _, _, _, _, _]) (T := hdL H1 h1 bs1 ++ [(904, .blk T0 (.cells #[.slice a ps.length cap, .int .u64 lost] 27)), (905, .blk T1 (.cells #[.pointer (some ⟨H1, 0, none⟩)] 98))]) (sub_cons rfl (sub_cons rfl (sub_cons rfl (sub_cons rfl (sub_cons rfl (sub_cons rfl sub_nil)))))) rfl hL) | exact hm.of (lk_fin (F := [_, _, _, _, _, _, _, _, _, _, _]) (T := hdL H1 h1 bs1 ++ [(904, .blk T0 (.cells #[.slice a ps.length cap, .int .u64 lost] 27)), (905, .blk T1 (.cells #[.pointer (some ⟨H1, 0, none⟩)] 98))]) (sub_cons rfl (sub_cons rfl (sub_cons rfl (sub_cons rfl (sub_cons rfl (sub_cons rfl sub_nil)))))) rfl hL) | exact hm.of (lk_fin (F := [_, _, _, _, _, _, _, _, _, _, _, _]) (T := hdL H1 h1 bs1 ++ [(904, .blk T0 (.cells #[.slice a ps.length cap, .int .u64 lost] 27)), (905, .blk T1 (.cells #[.pointer (some ⟨H1, 0, none⟩)] 98))]) (sub_cons rfl (sub_cons rfl (sub_cons rfl (sub_cons rfl (sub_cons rfl (sub_cons rfl sub_nil)))))) rfl hL) | exact hm.of (lk_fin (F := [_, _, _, _, _, _, _, _, _, _, _, _, _]) (T := hdL H1 h1 bs1 ++ [(904, .blk T0 (.cells #[.slice a ps.length cap, .int .u64 lost] 27)), (905, .blk T1 (.cells #[.pointer (some ⟨H1, 0, none⟩)] 98))]) (sub_cons rfl (sub_cons rfl (sub_cons rfl (sub_cons rfl (sub_cons rfl (sub_cons rfl sub_nil)))))) rfl hL) | exact hm.of (lk_fin (F := [_, _, _, _, _, _, _, _, _, _, _, _, _, _]) (T := hdL H1 h1 bs1 ++ [(904, .blk T0 (.cells #[.slice a ps.length cap, .int .u64 lost] 27)), (905, .blk T1 (.cells #[.pointer (some ⟨H1, 0, none⟩)] 98))]) (sub_cons rfl (sub_cons rfl (sub_cons rfl (sub_cons rfl (sub_cons rfl (sub_cons rfl sub_nil)))))) rfl hL) | exact hm.of (lk_fin (F := [_, _, _, _, _, _, _, _, _, _, _, _, _, _, _]) (T := hdL H1 h1 bs1 ++ [(904, .blk T0 (.cells #[.slice a ps.length cap, .int .u64 lost] 27)), (905, .blk T1 (.cells #[.pointer (some ⟨H1, 0, none⟩)] 98))]) (sub_cons rfl (sub_cons rfl (sub_cons rfl (sub_cons rfl (sub_cons rfl (sub_cons rfl sub_nil)))))) rfl hL)

theorem run1_net {w₀ : World} {L : Heap} (T0 T1 : Nat) (ps : List Pcl) (a : Option Addr) (cap : Nat) (lost : Int) (hL : NoIds L 910 1950) (hv : SliceAt w₀ a cap 3 Pcl.cells ps) (hcap : cap ≤ Go.maxLen) (hb : PcsAt w₀ ps) (hck : ¬ checkV (pvs ps) lost = true) : ∀ w, MemOk w₀ ([(904, .blk T0 (.cells #[.slice a ps.length cap, .int .u64 lost] 27)), (905, .blk T1 (.cells #[.pointer none] 98))] ++ L) w → Calls Try.prog 74 #[.pointer (some ⟨T0, 0, none⟩), .pointer (some ⟨T1, 0, none⟩)] w (PAns w₀ (fun _ : Unit => True) (fun _ => .iface 28 (.int .i64 350)) (fun _ => [(904, .blk T0 (.cells #[.slice a ps.length cap, .int .u64 lost] 27)), (905, .blk T1 (.cells #[.pointer none] 98))] ++ L)) := by
  have hvl := hv.1
  unfold Go.maxLen at hcap
  refine ht_of_T (l := [.pointer (some ⟨T0, 0, none⟩), .pointer (some ⟨T1, 0, none⟩)]) (L := ((904, .blk T0 (.cells #[.slice a ps.length cap, .int .u64 lost] 27)) :: (905, .blk T1 (.cells #[.pointer none] 98)) :: L)) 4 Try.func74 rfl rfl rfl ?_
  show T _ _ _ [(0, .pointer (some ⟨T0, 0, none⟩)), (1, .pointer (some ⟨T1, 0, none⟩))] ((904, .blk T0 (.cells #[.slice a ps.length cap, .int .u64 lost] 27)) :: (905, .blk T1 (.cells #[.pointer none] 98)) :: L)
  refine T_region ?_
  refine TL_q (.agg #[.slice a ps.length cap, .int .u64 lost]) (fun _ _ hρ hm => r_loadA ag27 sz27 (hρ _ _ rfl) (hm.at 904 rfl) rfl rfl) rfl rfl rfl (w_n rfl) ?_
  refine TL_callQ (v := .iface 28 (.int .i64 350)) (fun _ _ hρ _ => r_call (args := [.agg #[.slice a ps.length cap, .int .u64 lost]]) (enters_of Try.func61 (by kernel_rfl) rfl) (hρ _ _ rfl) ((cons2 (hρ _ _ rfl) rfl)) rfl) (fun w hm => of_no ps a cap lost w (hv.keep hm.ext) hcap (hb.keep hm.ext) hck) rfl (w_n rfl) ?_
  refine p_pan rfl (fun w hm => ?_)
  refine ⟨(), trivial, rfl, ?_⟩
  first | exact hm.of (lk_fin (F := [_, _]) (T := [(904, .blk T0 (.cells #[.slice a ps.length cap, .int .u64 lost] 27)), (905, .blk T1 (.cells #[.pointer none] 98))]) (sub_cons rfl (sub_cons rfl sub_nil)) rfl hL) | exact hm.of (lk_fin (F := [_, _, _]) (T := [(904, .blk T0 (.cells #[.slice a ps.length cap, .int .u64 lost] 27)), (905, .blk T1 (.cells #[.pointer none] 98))]) (sub_cons rfl (sub_cons rfl sub_nil)) rfl hL) | exact hm.of (lk_fin (F := [_, _, _, _]) (T := [(904, .blk T0 (.cells #[.slice a ps.length cap, .int .u64 lost] 27)), (905, .blk T1 (.cells #[.pointer none] 98))]) (sub_cons rfl (sub_cons rfl sub_nil)) rfl hL) | exact hm.of (lk_fin (F := [_, _, _, _, _]) (T := [(904, .blk T0 (.cells #[.slice a ps.length cap, .int .u64 lost] 27)), (905, .blk T1 (.cells #[.pointer none] 98))]) (sub_cons rfl (sub_cons rfl sub_nil)) rfl hL) | exact hm.of (lk_fin (F := [_, _, _, _, _, _]) (T := [(904, .blk T0 (.cells #[.slice a ps.length cap, .int .u64 lost] 27)), (905, .blk T1 (.cells #[.pointer none] 98))]) (sub_cons rfl (sub_cons rfl sub_nil)) rfl hL) | exact hm.of (lk_fin (F := [_, _, _, _, _, _, _]) (T := [(904, .blk T0 (.cells #[.slice a ps.length cap, .int .u64 lost] 27)), (905, .blk T1 (.cells #[.pointer none] 98))]) (sub_cons rfl (sub_cons rfl sub_nil)) rfl hL) | exact hm.of (lk_fin (F := [_, _, _, _, _, _, _, _]) (T := [(904, .blk T0 (.cells #[.slice a ps.length cap, .int .u64 lost] 27)), (905, .blk T1 (.cells #[.pointer none] 98))]) (sub_cons rfl (sub_cons rfl sub_nil)) rfl hL) | exact hm.of (lk_fin (F := [_, _, _, _, _, _, _, _, _]) (T := [(904, .blk T0 (.cells #[.slice a ps.length cap, .int .u64 lost] 27)), (905, .blk T1 (.cells #[.pointer none] 98))]) (sub_cons rfl (sub_cons rfl sub_nil)) rfl hL) | exact hm.of (lk_fin (F := [_, _, _, _, _, _, _, _, _, _]) (T := [(904, .blk T0 (.cells #[.slice a ps.length cap, .int .u64 lost] 27)), (905, .blk T1 (.cells #[.pointer none] 98))]) (sub_cons rfl (sub_cons rfl sub_nil)) rfl hL) | exact hm.of (lk_fin (F := [_, _, _, _, _, _, _, _, _, _, _]) (T := [(904, .blk T0 (.cells #[.slice a ps.length cap, .int .u64 lost] 27)), (905, .blk T1 (.cells #[.pointer none] 98))]) (sub_cons rfl (sub_cons rfl sub_nil)) rfl hL)

theorem run_ok (ps : List Pcl) (a : Option Addr) (cap : Nat) (lost : Int) (ts : List Trk) (b : Option Addr) (capb : Nat) (w : World) (hv : SliceAt w a cap 3 Pcl.cells ps) (hcap : cap ≤ Go.maxLen) (hb : PcsAt w ps) (hu : SliceAt w b capb 4 Trk.cells ts) (hcapb : capb ≤ Go.maxLen) (ht9 : ts.length ≤ 100) (h0 : 0 ≤ lost) (hck : checkV (pvs ps) lost = true) : Calls Try.prog 28 #[.agg #[.slice a ps.length cap, .int .u64 lost], .slice b ts.length capb] w fun e w' => ∃ (x : Hd × List (RowG By)) (ov : Int), RunIs (pvs ps, lost) ts x ov ∧ e = .returned (.tuple #[.agg #[.slice x.1.n.a x.1.n.l.length x.1.n.cap, .int .u64 x.1.lost], .slice x.1.t.a x.1.t.l.length x.1.t.cap, .int .i64 ov, .int .i64 0]) ∧ Below w.heap.size w w' ∧ (rowP x.1.n).ok w.heap.size w' ∧ (rowP x.1.t).ok w.heap.size w' ∧ (Res.pool 5 1 byc x.2).ok w.heap.size w' ∧ (∀ b, (rowP x.1.n).foot b → ¬ (rowP x.1.t).foot b) ∧ (∀ b, (rowP x.1.n).foot b → ¬ (Res.pool 5 1 byc x.2).foot b) ∧ (∀ b, (rowP x.1.t).foot b → ¬ (Res.pool 5 1 byc x.2).foot b) := by
  have hvl := hv.1
  unfold Go.maxLen at hcap
  have hul := hu.1
  unfold Go.maxLen at hcapb
  refine calls_of_T (l := [.agg #[.slice a ps.length cap, .int .u64 lost], .slice b ts.length capb]) 41 Try.func28 rfl rfl rfl ?_
  show T _ _ _ [(0, .agg #[.slice a ps.length cap, .int .u64 lost]), (1, .slice b ts.length capb)] []
  refine T_seq (T_region ?_)
  refine TL_new 904 (.cells #[.slice a ps.length cap, .int .u64 lost] 27) (fun B => .pointer (some ⟨B, 0, none⟩)) (fun _ _ hρ _ => r_box (hρ _ _ rfl) rfl) rfl rfl rfl (w_n rfl) ?_
  intro B1
  refine TL_new 908 (.cells #[.slice none 0 0, .int .u64 0] 27) (fun B => .pointer (some ⟨B, 0, none⟩)) (fun _ _ _ _ => r_alloc (v := .agg #[.slice none 0 0, .int .u64 0]) (by kernel_rfl) rfl) rfl rfl rfl (w_n rfl) ?_
  intro B2
  refine TL_q (.slice none 0 0) (fun _ _ hρ _ => r_assign (hρ _ _ rfl)) rfl rfl rfl (w_n rfl) ?_
  refine TL_q (.int .i64 0) (fun _ _ hρ _ => r_assign (hρ _ _ rfl)) rfl rfl rfl (w_n rfl) ?_
  refine TL_q (.int .i64 0) (fun _ _ hρ _ => r_assign (hρ _ _ rfl)) rfl rfl rfl (w_n rfl) ?_
  refine TL_seq ?_
  refine T_seq (T_region ?_)
  refine TL_new 905 (.cells #[.pointer none] 98) (fun B => .pointer (some ⟨B, 0, none⟩)) (fun _ _ _ _ => r_alloc (v := .pointer none) (by kernel_rfl) rfl) rfl rfl rfl (w_n rfl) ?_
  intro B3
  refine TL_seq ?_
  refine T_seq ?_
  refine T_seq (T_region ?_)
  refine TL_q (.func (.func 74) #[] #[.pointer (some ⟨B1, 0, none⟩), .pointer (some ⟨B3, 0, none⟩)]) (fun _ _ hρ _ => r_makeFunc (by simp) (map_arr (cons2 (hρ _ _ rfl) (cons2 (hρ _ _ rfl) rfl)))) rfl rfl rfl (w_n rfl) ?_
  refine TL_callH _ _ _ (fun _ _ hρ _ => r_call (args := [.func (.func 74) #[] #[.pointer (some ⟨B1, 0, none⟩), .pointer (some ⟨B3, 0, none⟩)]]) (enters_of Try.func59 (by kernel_rfl) rfl) (hρ _ _ rfl) ((cons2 (hρ _ _ rfl) rfl)) rfl) (fun w hm => trO_ok 74 #[.pointer (some ⟨B1, 0, none⟩), .pointer (some ⟨B3, 0, none⟩)] (fun x : Nat × Hd × List (RowG By) => OfOk ps lost x) (fun x => hdL x.1 x.2.1 x.2.2 ++ rxL B1 B3 a ps.length cap lost (some ⟨x.1, 0, none⟩)) (enters_of Try.func74 (by kernel_rfl) rfl) (lk_ids (by repeat (first | exact noIds_nil _ _ | refine noIds_cons rfl ?_))) (fun _ => rfl) (fun B w hm => run1_ok B1 B3 ps a cap lost (by repeat (first | exact noIds_nil _ _ | refine noIds_cons rfl ?_)) hv hcap hb h0 hck w (hm.of (lk_dups (A := rxL B1 B3 a ps.length cap lost none) (sub_cons rfl (sub_cons rfl sub_nil))))) w hm) rfl rfl rfl (w_n rfl) ?_
  rintro ⟨H4, ⟨⟨na4, nc4, nl4⟩, lo4, ⟨ta4, tc4, tl4⟩⟩, bs4⟩ ho4
  refine TL_q (.int .i64 0) (fun _ _ hρ _ => r_assign (hρ _ _ rfl)) rfl rfl rfl (w_n rfl) ?_
  refine TL_seq ?_
  refine T_seq (T_region ?_)
  refine TL_q (.int .i64 0) (fun _ _ hρ _ => r_move (hρ _ _ rfl)) rfl rfl rfl (w_n rfl) ?_
  refine TL_q (.bool false) (fun _ _ hρ _ => r_as (r_neq (hρ _ _ rfl) (hρ _ _ rfl)) (by rfl)) rfl rfl rfl (w_n rfl) ?_
  refine TL_seq ?_
  refine T_cond_f rfl ?_
  refine T_skip' ?_
  refine p_seq ?_
  refine T_seq (T_region ?_)
  refine TL_q (.int .i64 0) (fun _ _ hρ _ => r_assign (hρ _ _ rfl)) rfl rfl rfl (w_n rfl) ?_
  refine TL_seq ?_
  refine T_seq ?_
  refine T_seq (T_region ?_)
  refine TL_q (.slice b ts.length capb) (fun _ _ hρ _ => r_move (hρ _ _ rfl)) rfl rfl rfl (w_n rfl) ?_
  refine TL_q (.int .i64 ((ts.length : Nat) : Int)) (fun _ _ hρ _ => r_len sl43 (hρ _ _ rfl)) rfl rfl rfl (w_n rfl) ?_
  refine TL_q (.int .i64 0) (fun _ _ hρ _ => r_move (hρ _ _ rfl)) rfl rfl rfl (w_n rfl) ?_
  refine TL_seq ?_
  refine T_block ?_
  refine T_loop (ι := Nat × Option Addr × Nat × List Pcl × Int × Option Addr × Nat × List Pcl × List (RowG By) × Int) (fun (z : Nat × Option Addr × Nat × List Pcl × Int × Option Addr × Nat × List Pcl × List (RowG By) × Int) => match z with | (k, na9, nc9, nl9, lo9, ta9, tc9, tl9, bs9, ov) => k ≤ ts.length ∧ RunIs (pvs ps, lost) (ts.take k) ((⟨⟨na9, nc9, nl9⟩, lo9, ⟨ta9, tc9, tl9⟩⟩ : Hd), bs9) ov) (fun (z : Nat × Option Addr × Nat × List Pcl × Int × Option Addr × Nat × List Pcl × List (RowG By) × Int) => match z with | (k, na9, nc9, nl9, lo9, ta9, tc9, tl9, bs9, ov) => [(4, .pointer (some ⟨B2, 0, none⟩)), (5, .slice none 0 0), (6, .int .i64 0), (7, .int .i64 0), (8, .pointer (some ⟨B3, 0, none⟩)), (19, .slice b ts.length capb), (20, .int .i64 ((ts.length : Nat) : Int)), (21, .int .i64 ((k : Nat) : Int)), (10, .int .i64 ov)]) (fun (z : Nat × Option Addr × Nat × List Pcl × Int × Option Addr × Nat × List Pcl × List (RowG By) × Int) => match z with | (k, na9, nc9, nl9, lo9, ta9, tc9, tl9, bs9, ov) => [(905, .blk B3 (.cells #[.pointer (some ⟨H4, 0, none⟩)] 98)), (904, .blk B1 (.cells #[.slice a ps.length cap, .int .u64 lost] 27)), (908, .blk B2 (.cells #[.slice none 0 0, .int .u64 0] 27)), (900, .blk H4 (.cells #[.slice na9 nl9.length nc9, .int .u64 lo9, .slice ta9 tl9.length tc9] 104)), (901, .row (.slice na9 nl9.length nc9) 36 3 nl9.length (nl9.flatMap Pcl.cells)), (902, .row (.slice ta9 tl9.length tc9) 36 3 tl9.length (tl9.flatMap Pcl.cells)), (903, .pool 5 1 byc bs9)]) (fun (z : Nat × Option Addr × Nat × List Pcl × Int × Option Addr × Nat × List Pcl × List (RowG By) × Int) => match z with | (k, na9, nc9, nl9, lo9, ta9, tc9, tl9, bs9, ov) => ts.length - k) (0, na4, nc4, nl4, lo4, ta4, tc4, tl4, bs4, 0) ⟨Nat.zero_le _, runs_zero ho4⟩ (sub_cons rfl (sub_cons rfl (sub_cons rfl (sub_cons rfl (sub_cons rfl (sub_cons rfl (sub_cons rfl (sub_cons rfl (sub_cons rfl sub_nil))))))))) (sub_cons rfl (sub_cons rfl (sub_cons rfl (sub_cons rfl (sub_cons rfl (sub_cons rfl (sub_cons rfl sub_nil))))))) ?_
  rintro ⟨k, na9, nc9, nl9, lo9, ta9, tc9, tl9, bs9, ov⟩ hp
  obtain ⟨hk, hr9⟩ := hp
  have hob := hr9.over
  rw [List.length_take] at hob
  show T _ _ _ [(4, .pointer (some ⟨B2, 0, none⟩)), (5, .slice none 0 0), (6, .int .i64 0), (7, .int .i64 0), (8, .pointer (some ⟨B3, 0, none⟩)), (19, .slice b ts.length capb), (20, .int .i64 ((ts.length : Nat) : Int)), (21, .int .i64 ((k : Nat) : Int)), (10, .int .i64 ov)] [(905, .blk B3 (.cells #[.pointer (some ⟨H4, 0, none⟩)] 98)), (904, .blk B1 (.cells #[.slice a ps.length cap, .int .u64 lost] 27)), (908, .blk B2 (.cells #[.slice none 0 0, .int .u64 0] 27)), (900, .blk H4 (.cells #[.slice na9 nl9.length nc9, .int .u64 lo9, .slice ta9 tl9.length tc9] 104)), (901, .row (.slice na9 nl9.length nc9) 36 3 nl9.length (nl9.flatMap Pcl.cells)), (902, .row (.slice ta9 tl9.length tc9) 36 3 tl9.length (tl9.flatMap Pcl.cells)), (903, .pool 5 1 byc bs9)]
  refine T_seq (T_region ?_)
  refine TL_q (.bool (decide (((k : Nat) : Int) < ((ts.length : Nat) : Int)))) (fun _ _ hρ _ => r_lss (hρ _ _ rfl) (hρ _ _ rfl)) rfl rfl rfl (w_n rfl) ?_
  refine TL_seq ?_
  refine T_seq ?_
  refine T_cond rfl (fun h1 => ?_) (fun h1 => ?_)
  · replace h1 := of_decide_eq_true h1
    refine T_skip' ?_
    refine p_seq ?_
    refine T_seq ?_
    refine T_block ?_
    obtain ⟨t, ht⟩ : ∃ x, ts[k]? = some x := ⟨_, List.getElem?_eq_getElem (by omega)⟩
    obtain ⟨b5, of5, cs5, T5, fz5, ha5, hq5, hr5⟩ := hu.open (i := k) (by omega)
    subst ha5
    refine T_seq (T_region ?_)
    refine TL_q (.pointer (some ⟨b5, of5 + k * 4, none⟩)) (fun _ _ hρ _ => r_indexAddrS (i := k) sl43 sz48 (hρ _ _ rfl) (hρ _ _ rfl) (by omega)) rfl rfl rfl (w_n rfl) ?_
    refine TL_q (.agg #[.int .i64 t.kind, .int .i64 t.at', .int .i64 t.bit, .int .u32 ((t.mask).toNat : Int)]) (fun _ _ hρ hm => r_loadRow (f := Trk.cells) (u := t) ag48 sz48 (hρ _ _ rfl) (hm.old hq5) hr5 ht) rfl rfl rfl (w_n rfl) ?_
    refine TL_new 909 (.cells #[.int .i64 0, .int .i64 0, .int .i64 0, .int .u32 0] 48) (fun B => .pointer (some ⟨B, 0, none⟩)) (fun _ _ _ _ => r_alloc (v := .agg #[.int .i64 0, .int .i64 0, .int .i64 0, .int .u32 0]) (by kernel_rfl) rfl) rfl rfl rfl (w_n rfl) ?_
    intro B6
    refine TL_store 909 (.cells #[.int .i64 t.kind, .int .i64 t.at', .int .i64 t.bit, .int .u32 ((t.mask).toNat : Int)] 48) rfl (fun _ _ hρ hm => r_store sz48 (hρ _ _ rfl) (hρ _ _ rfl) (hm.at 909 rfl) rfl rfl rfl rfl) rfl rfl (w_n rfl) ?_
    refine TL_seq ?_
    refine T_seq (T_region ?_)
    refine TL_q (.pointer (some ⟨H4, 0, none⟩)) (fun _ _ hρ hm => r_load ag98 (hρ _ _ rfl) (hm.at 905 rfl) rfl) rfl rfl rfl (w_n rfl) ?_
    refine TL_q (.agg #[.int .i64 t.kind, .int .i64 t.at', .int .i64 t.bit, .int .u32 ((t.mask).toNat : Int)]) (fun _ _ hρ hm => r_loadA ag48 sz48 (hρ _ _ rfl) (hm.at 909 rfl) rfl rfl) rfl rfl rfl (w_n rfl) ?_
    refine TL_callH _ _ _ (fun _ _ hρ _ => r_call (args := [.pointer (some ⟨H4, 0, none⟩), .agg #[.int .i64 t.kind, .int .i64 t.at', .int .i64 t.bit, .int .u32 ((t.mask).toNat : Int)]]) (enters_of Try.func70 (by kernel_rfl) rfl) (hρ _ _ rfl) ((cons2 (hρ _ _ rfl) (cons2 (hρ _ _ rfl) rfl))) rfl) (fun w hm => (does_any H4 (⟨⟨na9, nc9, nl9⟩, lo9, ⟨ta9, tc9, tl9⟩⟩ : Hd) bs9 ⟨t.kind, t.at', t.bit, t.mask⟩ (by repeat (first | exact noIds_nil _ _ | refine noIds_cons rfl ?_)) hr9.ok (by have := hr9.len; rw [List.length_take] at this; dsimp only at this ⊢; omega) w (hm.of (lk_dups (A := hdL H4 (⟨⟨na9, nc9, nl9⟩, lo9, ⟨ta9, tc9, tl9⟩⟩ : Hd) bs9) (sub_cons rfl (sub_cons rfl (sub_cons rfl (sub_cons rfl sub_nil))))))).mono fun e w' ⟨x, hx, he, hm⟩ => ⟨x, hx, he.trans (congrArg Ending.returned (int_as (rfl))), hm⟩) rfl rfl rfl (w_n rfl) ?_
    rintro ⟨⟨⟨na7, nc7, nl7⟩, lo7, ⟨ta7, tc7, tl7⟩⟩, bs7⟩ hd7
    refine TL_q (.bool (!decide ((doV (⟨⟨na9, nc9, nl9⟩, lo9, ⟨ta9, tc9, tl9⟩⟩ : Hd).nv ⟨t.kind, t.at', t.bit, t.mask⟩).1 = 0))) (fun _ _ hρ _ => r_neq (hρ _ _ rfl) (hρ _ _ rfl)) rfl rfl rfl (w_n rfl) ?_
    refine TL_seq ?_
    refine T_cond rfl (fun h2 => ?_) (fun h2 => ?_)
    · replace h2 := of_decide_eq_false (bnot_t h2)
      have hz : ¬ (doV (⟨⟨na9, nc9, nl9⟩, lo9, ⟨ta9, tc9, tl9⟩⟩ : Hd).nv ⟨t.kind, t.at', t.bit, t.mask⟩).1 = 0 := h2
      refine T_region ?_
      refine TL_q (.int .i64 ov) (fun _ _ hρ _ => r_move (hρ _ _ rfl)) rfl rfl rfl (w_n rfl) ?_
      refine TL_q (.int .i64 (ov + 1)) (fun _ _ hρ _ => r_as (r_add (hρ _ _ rfl) (hρ _ _ rfl)) (int_as (wrap64 (by omega) (by omega)))) rfl rfl rfl (w_n rfl) ?_
      refine TL_q (.int .i64 (ov + 1)) (fun _ _ hρ _ => r_assign (hρ _ _ rfl)) rfl rfl rfl (w_n rfl) ?_
      refine TL_nil ?_
      refine p_blk_n ?_
      refine p_seq ?_
      refine T_region ?_
      refine TL_q (.int .i64 ((k + 1 : Nat) : Int)) (fun _ _ hρ _ => r_as (r_add (hρ _ _ rfl) (hρ _ _ rfl)) (int_as ((wrap64 (by omega) (by omega)).trans (by omega)))) rfl rfl rfl (w_n rfl) ?_
      refine TL_q (.int .i64 ((k + 1 : Nat) : Int)) (fun _ _ hρ _ => r_move (hρ _ _ rfl)) rfl rfl rfl (w_n rfl) ?_
      refine TL_nil ?_
      exact p_at (k + 1, na7, nc7, nl7, lo7, ta7, tc7, tl7, bs7, ov + 1) ⟨⟨by omega, runs_step hr9 ht hd7 (if_neg hz)⟩, by dsimp only; omega⟩ (sub_cons rfl (sub_cons rfl (sub_cons rfl (sub_cons rfl (sub_cons rfl (sub_cons rfl (sub_cons rfl (sub_cons rfl (sub_cons rfl sub_nil))))))))) (sub_cons rfl (sub_cons rfl (sub_cons rfl (sub_cons rfl (sub_cons rfl (sub_cons rfl (sub_cons rfl sub_nil)))))))
    · replace h2 := of_decide_eq_true (bnot_f h2)
      have hz : (doV (⟨⟨na9, nc9, nl9⟩, lo9, ⟨ta9, tc9, tl9⟩⟩ : Hd).nv ⟨t.kind, t.at', t.bit, t.mask⟩).1 = 0 := h2
      refine T_skip' ?_
      refine p_blk_n ?_
      refine p_seq ?_
      refine T_region ?_
      refine TL_q (.int .i64 ((k + 1 : Nat) : Int)) (fun _ _ hρ _ => r_as (r_add (hρ _ _ rfl) (hρ _ _ rfl)) (int_as ((wrap64 (by omega) (by omega)).trans (by omega)))) rfl rfl rfl (w_n rfl) ?_
      refine TL_q (.int .i64 ((k + 1 : Nat) : Int)) (fun _ _ hρ _ => r_move (hρ _ _ rfl)) rfl rfl rfl (w_n rfl) ?_
      refine TL_nil ?_
      exact p_at (k + 1, na7, nc7, nl7, lo7, ta7, tc7, tl7, bs7, ov) ⟨⟨by omega, runs_step hr9 ht hd7 (if_pos hz)⟩, by dsimp only; omega⟩ (sub_cons rfl (sub_cons rfl (sub_cons rfl (sub_cons rfl (sub_cons rfl (sub_cons rfl (sub_cons rfl (sub_cons rfl (sub_cons rfl sub_nil))))))))) (sub_cons rfl (sub_cons rfl (sub_cons rfl (sub_cons rfl (sub_cons rfl (sub_cons rfl (sub_cons rfl sub_nil)))))))
  · replace h1 := of_decide_eq_false h1
    refine T_exit' ?_
    refine p_then_x ?_
    refine p_then_x ?_
    refine p_blk_x ?_
    refine p_seq ?_
    refine T_seq (T_draw (V := [(0, .pointer (some ⟨H4, 0, none⟩)), (1, .pointer (some ⟨H4, 0, none⟩)), (2, .pointer (some ⟨H4, 0, none⟩)), (3, .agg #[.slice na9 nl9.length nc9, .int .u64 lo9]), (4, .pointer (some ⟨H4, 0, none⟩)), (5, .pointer (some ⟨H4, 0, none⟩)), (6, .pointer (some ⟨H4, 2, none⟩)), (7, .slice ta9 tl9.length tc9), (8, .int .i64 ov)]) [0, 1, 3, 7, 0, 16, 48, 112, 0, 15, 767, 2047, 4095] [[(8, none)], [(32, some 0)], [(33, some 1)], [(34, some 2)], [(8, none)], [(36, some 4)], [(37, some 5)], [(38, some 6)], [(10, none)], [(4, none), (35, some 3)], [(39, some 7)], [(40, some 8)], []] 512 mixed (by kernel_rfl) ?_)
    refine G_step [0, 1, 2, 3, 4, 5, 6, 7, 8] 9 [] (by kernel_rfl) (allM (all_cons (q_run (.pointer (some ⟨H4, 0, none⟩)) rfl rfl (wv_n rfl) rfl (fun _ _ hρ hm => r_load ag98 (hρ _ _ rfl) (hm.at 905 rfl) rfl)) (all_cons (q_run (.pointer (some ⟨H4, 0, none⟩)) rfl rfl (wv_n rfl) rfl (fun _ _ hρ _ => r_nilCheck (hρ _ _ rfl) rfl)) (all_cons (q_run (.pointer (some ⟨H4, 0, none⟩)) rfl rfl (wv_n rfl) rfl (fun _ _ hρ _ => r_fieldAddr fl104_0 sz27 (hρ _ _ rfl))) (all_cons (q_run (.agg #[.slice na9 nl9.length nc9, .int .u64 lo9]) rfl rfl (wv_n rfl) rfl (fun _ _ hρ hm => r_loadA ag27 sz27 (hρ _ _ rfl) (hm.at 900 rfl) rfl rfl)) (all_cons (q_run (.pointer (some ⟨H4, 0, none⟩)) rfl rfl (wv_n rfl) rfl (fun _ _ hρ hm => r_load ag98 (hρ _ _ rfl) (hm.at 905 rfl) rfl)) (all_cons (q_run (.pointer (some ⟨H4, 0, none⟩)) rfl rfl (wv_n rfl) rfl (fun _ _ hρ _ => r_nilCheck (hρ _ _ rfl) rfl)) (all_cons (q_run (.pointer (some ⟨H4, 2, none⟩)) rfl rfl (wv_n rfl) rfl (fun _ _ hρ _ => r_fieldAddr fl104_1 sz22 (hρ _ _ rfl))) (all_cons (q_run (.slice ta9 tl9.length tc9) rfl rfl (wv_n rfl) rfl (fun _ _ hρ hm => r_load ag22 (hρ _ _ rfl) (hm.at 900 rfl) rfl)) (all_cons (q_run (.int .i64 ov) rfl rfl (wv_n rfl) rfl (fun _ _ hρ _ => r_move (hρ _ _ rfl))) all_nil)))))))))) (allM (all_cons ?_ all_nil))
    refine LOb_store 908 (.cells #[.slice na9 nl9.length nc9, .int .u64 lo9] 27) [(10, .slice ta9 tl9.length tc9), (11, .int .i64 ov), (12, .int .i64 0)] rfl (wv_n rfl) rfl rfl rfl (fun _ _ hρ hm => r_store sz27 (hρ _ _ rfl) (hρ _ _ rfl) (hm.at 908 rfl) rfl rfl rfl rfl) (by kernel_rfl) ?_
    refine G_last [4, 5, 6, 7, 8, 10, 11, 12] [(4, .pointer (some ⟨B2, 0, none⟩)), (5, .slice ta9 tl9.length tc9), (6, .int .i64 ov), (7, .int .i64 0)] (by kernel_rfl) (allM (all_cons (q_run (.pointer (some ⟨H4, 0, none⟩)) rfl rfl (wv_n rfl) rfl (fun _ _ hρ hm => r_load ag98 (hρ _ _ rfl) (hm.at 905 rfl) rfl)) (all_cons (q_run (.pointer (some ⟨H4, 0, none⟩)) rfl rfl (wv_n rfl) rfl (fun _ _ hρ _ => r_nilCheck (hρ _ _ rfl) rfl)) (all_cons (q_run (.pointer (some ⟨H4, 2, none⟩)) rfl rfl (wv_n rfl) rfl (fun _ _ hρ _ => r_fieldAddr fl104_1 sz22 (hρ _ _ rfl))) (all_cons (q_run (.slice ta9 tl9.length tc9) rfl rfl (wv_n rfl) rfl (fun _ _ hρ hm => r_load ag22 (hρ _ _ rfl) (hm.at 900 rfl) rfl)) (all_cons (q_run (.int .i64 ov) rfl rfl (wv_n rfl) rfl (fun _ _ hρ _ => r_move (hρ _ _ rfl))) (all_cons (q_run (.slice ta9 tl9.length tc9) rfl rfl (wv_n rfl) rfl (fun _ _ hρ _ => r_assign (hρ _ _ rfl))) (all_cons (q_run (.int .i64 ov) rfl rfl (wv_n rfl) rfl (fun _ _ hρ _ => r_assign (hρ _ _ rfl))) (all_cons (q_run (.int .i64 0) rfl rfl (wv_n rfl) rfl (fun _ _ hρ _ => r_assign (hρ _ _ rfl))) all_nil))))))))) (end_old rfl rfl (end_new 10 rfl rfl (end_new 11 rfl rfl (end_new 12 rfl rfl end_nil)))) ?_
    refine T_ret' ?_
    refine ret_of rfl (.tuple #[.agg #[.slice na9 nl9.length nc9, .int .u64 lo9], .slice ta9 tl9.length tc9, .int .i64 ov, .int .i64 0]) (fun tmps w hk hm => res4 rfl (res_cell (hk 4 _ rfl) (run_loadVar_agg ag27 sz27 (hm.at 908 rfl) (Nat.le_of_ble_eq_true rfl) rfl)) (res_tmp (hk 5 _ rfl)) (res_tmp (hk 6 _ rfl)) (res_tmp (hk 7 _ rfl))) (fun w hm => ?_)
    have hke : k = ts.length := by omega
    subst hke
    rw [List.take_length] at hr9
    exact ⟨((⟨⟨na9, nc9, nl9⟩, lo9, ⟨ta9, tc9, tl9⟩⟩ : Hd), bs9), ov, hr9, rfl, hm.ext, hm.own 901 _ rfl, hm.own 902 _ rfl, hm.own 903 _ rfl, hm.sep 901 902 _ _ rfl rfl (by decide), hm.sep 901 903 _ _ rfl rfl (by decide), hm.sep 902 903 _ _ rfl rfl (by decide)⟩

theorem run_net (ps : List Pcl) (a : Option Addr) (cap : Nat) (lost : Int) (ts : List Trk) (b : Option Addr) (capb : Nat) (w : World) (hv : SliceAt w a cap 3 Pcl.cells ps) (hcap : cap ≤ Go.maxLen) (hb : PcsAt w ps) (hu : SliceAt w b capb 4 Trk.cells ts) (hcapb : capb ≤ Go.maxLen) (ht9 : ts.length ≤ 100) (hck : ¬ checkV (pvs ps) lost = true) : Calls Try.prog 28 #[.agg #[.slice a ps.length cap, .int .u64 lost], .slice b ts.length capb] w fun e w' => e = .returned (.tuple #[.agg #[.slice none 0 0, .int .u64 0], .slice none 0 0, .int .i64 0, .int .i64 350]) ∧ Below w.heap.size w w' := by
  have hvl := hv.1
  unfold Go.maxLen at hcap
  have hul := hu.1
  unfold Go.maxLen at hcapb
  refine calls_of_T (l := [.agg #[.slice a ps.length cap, .int .u64 lost], .slice b ts.length capb]) 41 Try.func28 rfl rfl rfl ?_
  show T _ _ _ [(0, .agg #[.slice a ps.length cap, .int .u64 lost]), (1, .slice b ts.length capb)] []
  refine T_seq (T_region ?_)
  refine TL_new 904 (.cells #[.slice a ps.length cap, .int .u64 lost] 27) (fun B => .pointer (some ⟨B, 0, none⟩)) (fun _ _ hρ _ => r_box (hρ _ _ rfl) rfl) rfl rfl rfl (w_n rfl) ?_
  intro B1
  refine TL_new 908 (.cells #[.slice none 0 0, .int .u64 0] 27) (fun B => .pointer (some ⟨B, 0, none⟩)) (fun _ _ _ _ => r_alloc (v := .agg #[.slice none 0 0, .int .u64 0]) (by kernel_rfl) rfl) rfl rfl rfl (w_n rfl) ?_
  intro B2
  refine TL_q (.slice none 0 0) (fun _ _ hρ _ => r_assign (hρ _ _ rfl)) rfl rfl rfl (w_n rfl) ?_
  refine TL_q (.int .i64 0) (fun _ _ hρ _ => r_assign (hρ _ _ rfl)) rfl rfl rfl (w_n rfl) ?_
  refine TL_q (.int .i64 0) (fun _ _ hρ _ => r_assign (hρ _ _ rfl)) rfl rfl rfl (w_n rfl) ?_
  refine TL_seq ?_
  refine T_seq (T_region ?_)
  refine TL_new 905 (.cells #[.pointer none] 98) (fun B => .pointer (some ⟨B, 0, none⟩)) (fun _ _ _ _ => r_alloc (v := .pointer none) (by kernel_rfl) rfl) rfl rfl rfl (w_n rfl) ?_
  intro B3
  refine TL_seq ?_
  refine T_seq ?_
  refine T_seq (T_region ?_)
  refine TL_q (.func (.func 74) #[] #[.pointer (some ⟨B1, 0, none⟩), .pointer (some ⟨B3, 0, none⟩)]) (fun _ _ hρ _ => r_makeFunc (by simp) (map_arr (cons2 (hρ _ _ rfl) (cons2 (hρ _ _ rfl) rfl)))) rfl rfl rfl (w_n rfl) ?_
  refine TL_callH _ _ _ (fun _ _ hρ _ => r_call (args := [.func (.func 74) #[] #[.pointer (some ⟨B1, 0, none⟩), .pointer (some ⟨B3, 0, none⟩)]]) (enters_of Try.func59 (by kernel_rfl) rfl) (hρ _ _ rfl) ((cons2 (hρ _ _ rfl) rfl)) rfl) (fun w hm => trO_no 74 #[.pointer (some ⟨B1, 0, none⟩), .pointer (some ⟨B3, 0, none⟩)] (fun _ : Unit => True) (fun _ => 350) (fun _ => rxL B1 B3 a ps.length cap lost none) (enters_of Try.func74 (by kernel_rfl) rfl) (lk_ids (by repeat (first | exact noIds_nil _ _ | refine noIds_cons rfl ?_))) (fun _ => rfl) (fun B w hm => run1_net B1 B3 ps a cap lost (by repeat (first | exact noIds_nil _ _ | refine noIds_cons rfl ?_)) hv hcap hb hck w (hm.of (lk_dups (A := rxL B1 B3 a ps.length cap lost none) (sub_cons rfl (sub_cons rfl sub_nil))))) w hm) rfl rfl rfl (w_n rfl) ?_
  rintro ⟨⟩ -
  refine TL_q (.int .i64 350) (fun _ _ hρ _ => r_assign (hρ _ _ rfl)) rfl rfl rfl (w_n rfl) ?_
  refine TL_seq ?_
  refine T_seq (T_region ?_)
  refine TL_q (.int .i64 350) (fun _ _ hρ _ => r_move (hρ _ _ rfl)) rfl rfl rfl (w_n rfl) ?_
  refine TL_q (.bool true) (fun _ _ hρ _ => r_as (r_neq (hρ _ _ rfl) (hρ _ _ rfl)) (by rfl)) rfl rfl rfl (w_n rfl) ?_
  refine TL_seq ?_
  refine T_cond_t rfl ?_
  refine T_seq (T_region ?_)
  refine TL_q (.agg #[.slice none 0 0, .int .u64 0]) (fun _ _ _ _ => r_build (vs := []) (by kernel_rfl) rfl) rfl rfl rfl (w_n rfl) ?_
  refine TL_q (.int .i64 350) (fun _ _ hρ _ => r_move (hρ _ _ rfl)) rfl rfl rfl (w_n rfl) ?_
  refine TL_store 908 (.cells #[.slice none 0 0, .int .u64 0] 27) rfl (fun _ _ hρ hm => r_store sz27 (hρ _ _ rfl) (hρ _ _ rfl) (hm.at 908 rfl) rfl rfl rfl rfl) rfl rfl (w_n rfl) ?_
  refine TL_q (.slice none 0 0) (fun _ _ hρ _ => r_assign (hρ _ _ rfl)) rfl rfl rfl (w_n rfl) ?_
  refine TL_q (.int .i64 0) (fun _ _ hρ _ => r_assign (hρ _ _ rfl)) rfl rfl rfl (w_n rfl) ?_
  refine TL_q (.int .i64 350) (fun _ _ hρ _ => r_assign (hρ _ _ rfl)) rfl rfl rfl (w_n rfl) ?_
  refine TL_seq ?_
  refine T_ret' ?_
  refine p_then_r ?_
  refine ret_of rfl (.tuple #[.agg #[.slice none 0 0, .int .u64 0], .slice none 0 0, .int .i64 0, .int .i64 350]) (fun tmps w hk hm => res4 rfl (res_cell (hk 4 _ rfl) (run_loadVar_agg ag27 sz27 (hm.at 908 rfl) (Nat.le_of_ble_eq_true rfl) rfl)) (res_tmp (hk 5 _ rfl)) (res_tmp (hk 6 _ rfl)) (res_tmp (hk 7 _ rfl))) (fun w hm => ?_)
  exact ⟨rfl, hm.ext⟩
end Go.Proofs.Ytcidgbjgeegepaa
/- A copy into a part of a row of one's own, out of cells anywhere. Over any program. -/
namespace Go.Proofs.Ytcidgbjgeegepaa
open Go Go.RowKit
section
variable {P : Program} {w w₀ : World} {ρ : Operand → Value} {d : Option Tmp} {ty : TypeId} {ps : String} {af : Array Edge} {g : Option (Nat × Bool)} {L : Heap}
theorem o_copyG {x y : Operand} {t t2 e : TypeId} {ats : Array TypeId} {n cap B s lo dn dc k m c b off : Nat} {xs news xs' : List Value} (i : Nat) (hi : lk L i = some (.row (.slice (some ⟨B, 0, none⟩) n cap) e s n xs)) (hx : ρ x = .slice (some ⟨B, lo, none⟩) dn dc) (hlo : lo + k * s ≤ n * s) (hy : ρ y = .slice (some ⟨b, off, none⟩) m c) (hat : ats = #[t, t2])
    (ht : sliOf P t = some e) (hs : szOf P e = some s) (hk : min m dn = k) (hlen : news.length = k * s) (hcell : ∀ j u, news[j]? = some u → w.cell? ⟨b, off + j, none⟩ = some u) (hone : ∀ u ∈ news, u.oneCell' = true) (hxs : xs.take lo ++ news ++ xs.drop (lo + news.length) = xs') (hm : MemOk w₀ L w) :
    ∃ w', (execOp ρ (mk d (.call { callee := .builtin .copy, args := #[x, y], argTypes := ats }) ty ps af g)).run P w = .ok (.value (.int .i64 (k : Nat))) w' ∧ MemOk w₀ ((i, .row (.slice (some ⟨B, 0, none⟩) n cap) e s n xs') :: L) w' := by
  subst hat hxs
  have hrow := hm.row i hi
  obtain ⟨ti, hti, hsz⟩ := Option.map_eq_some_iff.1 hs
  suffices hg : ∃ w', (Builtin.copy_ #[t, t2] ty #[.slice (some ⟨B, lo, none⟩) dn dc, .slice (some ⟨b, off, none⟩) m c]).run P w = .ok (.int .i64 (k : Nat)) w' ∧ MemOk w₀ ((i, .row (.slice (some ⟨B, 0, none⟩) n cap) e s n (xs.take lo ++ news ++ xs.drop (lo + news.length))) :: L) w' by
    obtain ⟨w', h1, h2⟩ := hg
    refine ⟨w', ?_, h2⟩
    rw [run_builtin]
    simp only [List.map_toArray, List.map_cons, List.map_nil, hx, hy]
    exact run_v h1
  rcases hrow.2 with ⟨h1, _⟩ | ⟨g, cap', cur, h1, hbg, hg, hnc, hcm, hcs, htk⟩
  · cases h1
  · cases h1
    have hle := Nat.mul_le_mul_right s hnc
    have hld := run_loadCells_list (P := P) w ⟨b, off, none⟩ news (fun j u hu => by rw [addr_add]; exact hcell j u hu)
    have hst := run_storeCells_at P B lo e news 0 cur w hg (by omega) hone
    have hr : (Builtin.copy_ #[t, t2] ty #[.slice (some ⟨B, lo, none⟩) dn dc, .slice (some ⟨b, off, none⟩) m c]).run P w = .ok (.int .i64 (k : Nat)) (w.setRow B (cur.toList.take lo ++ news ++ cur.toList.drop (lo + news.length)).toArray) := by
      simp only [Nat.add_zero] at hst
      have hk' : Nat.min m dn = k := hk
      simp [Builtin.copy_, run_underlying (und_sli ht), Builtin.lenOf, Builtin.firstCells, sizeOf, typeInfo, hti, hsz, goInt, hk', ← hlen, hld]
      simp at hst
      rw [hst]
      rfl
    have hcl : cur.toList.length = cap * s := by rw [Array.length_toList]; exact hcs
    have hxl : xs = cur.toList.take (n * s) := htk.symm
    refine ⟨_, hr, ?_⟩
    refine hm.grow (.inl hi) ⟨rfl, rfl, rfl, by simp, fun k _ hk => setRow_other w B k _ (fun e => hk (by simp [Value.ownBlock, e]))⟩ ⟨?_, .inr ⟨B, cap, _, rfl, hbg, setRow_heap w B cur _ e _ hg, hnc, hcm, ?_, ?_⟩⟩ (.inl rfl)
    · rw [List.length_append, List.length_append, List.length_take, List.length_drop, hrow.1]; omega
    · simp only [List.size_toArray, List.length_append, List.length_take, List.length_drop, hcl]
      omega
    · have hA : (cur.toList.take lo ++ news).length = lo + news.length := by rw [List.length_append, List.length_take]; omega
      show ((cur.toList.take lo ++ news) ++ cur.toList.drop (lo + news.length)).take (n * s) = _
      rw [hxl, List.take_take, Nat.min_eq_left (show lo ≤ n * s by omega), List.drop_take, List.take_append, hA, List.take_of_length_le (by rw [hA]; omega)]
end
end Go.Proofs.Ytcidgbjgeegepaa
/- slices.Repeat: what it has made so far. Over any program. -/
namespace Go.Proofs.Ytcidgbjgeegepaa
open Go Go.RowKit
/-- k elements u, of n; the others z. -/
def repG {α : Type} (z u : α) (k n : Nat) : List α := List.replicate k u ++ List.replicate (n - k) z
section
variable {α : Type} {f : α → List Value} {s : Nat}
theorem repG_zero (z u : α) (n : Nat) : repG z u 0 n = List.replicate n z := by simp [repG]
theorem repG_all (z u : α) (n : Nat) : repG z u n n = List.replicate n u := by simp [repG]
theorem rep_len (hf : ∀ x, (f x).length = s) (u : α) (m : Nat) : ((List.replicate m u).flatMap f).length = m * s := by rw [flat_length hf, List.length_replicate]
theorem rep_copy (hf : ∀ x, (f x).length = s) (z u : α) {k m n : Nat} (h : k + m ≤ n) : ((repG z u k n).flatMap f).take (k * s) ++ (List.replicate m u).flatMap f ++ ((repG z u k n).flatMap f).drop (k * s + ((List.replicate m u).flatMap f).length) = (repG z u (k + m) n).flatMap f := by
  have e : List.replicate (n - k) z = List.replicate m z ++ List.replicate (n - (k + m)) z := by rw [List.replicate_append_replicate]; congr 1; omega
  unfold repG
  rw [e, List.flatMap_append, List.flatMap_append, List.take_left' (rep_len hf u k), rep_len hf, ← List.append_assoc, List.drop_left' (by rw [List.length_append, rep_len hf, rep_len hf])]
  rw [List.flatMap_append, ← List.flatMap_append (xs := List.replicate k u), List.replicate_append_replicate]
theorem rep_cell {w : World} {base n cap B : Nat} {e : TypeId} {xs : List Value} (h : w.ownsRow base e s (.slice (some ⟨B, 0, none⟩) n cap) n xs) {j : Nat} {u : Value} (hj : xs[j]? = some u) : w.cell? ⟨B, 0 + j, none⟩ = some u := by
  rcases h.2 with ⟨h1, _⟩ | ⟨g, cap', cur, h1, _, hg, _, _, _, htk⟩
  · cases h1
  · cases h1
    refine cell_of hg ?_
    rw [Nat.zero_add, ← Array.getElem?_toList]
    rw [← htk, List.getElem?_take] at hj
    split at hj
    · exact hj
    · cases hj
theorem rep_pre (z u : α) {k m n : Nat} (h : m ≤ k) {j : Nat} {v : Value} (hj : ((List.replicate m u).flatMap f)[j]? = some v) : ((repG z u k n).flatMap f)[j]? = some v := by
  have e : List.replicate k u = List.replicate m u ++ List.replicate (k - m) u := by rw [List.replicate_append_replicate]; congr 1; omega
  unfold repG
  rw [e, List.append_assoc, List.flatMap_append, List.getElem?_append_left (List.getElem?_eq_some_iff.1 hj).1]
  exact hj
theorem rep_ones (ho : ∀ x, ∀ v ∈ f x, v.oneCell' = true) (u : α) (m : Nat) : ∀ v ∈ (List.replicate m u).flatMap f, v.oneCell' = true := fun v hv => by
  obtain ⟨x, _, hx⟩ := List.mem_flatMap.1 hv
  exact ho x v hx
theorem rep_one {u : α} {j : Nat} {v : Value} (hj : ((List.replicate 1 u).flatMap f)[j]? = some v) : (f u).toArray[0 + j]? = some v := by
  have e : (List.replicate 1 u).flatMap f = f u := by simp
  rw [e] at hj
  rw [Nat.zero_add, List.getElem?_toArray]; exact hj
theorem rep_first (hf : ∀ x, (f x).length = s) (z u : α) {n : Nat} (hn : 1 ≤ n) : ((List.replicate n z).flatMap f).take 0 ++ (List.replicate 1 u).flatMap f ++ ((List.replicate n z).flatMap f).drop (0 + ((List.replicate 1 u).flatMap f).length) = (repG z u 1 n).flatMap f := by
  have := rep_copy hf z u (k := 0) (m := 1) (n := n) (by omega)
  rw [repG_zero] at this
  simpa using this
end
end Go.Proofs.Ytcidgbjgeegepaa
/- net and journal: slices.Repeat; Empty. Printed by a program of this seat's prover. -/
namespace Go.Proofs.Ytcidgbjgeegepaa
open Go Go.RowKit
set_option maxRecDepth 10000
abbrev trk0 : Trk := ⟨0, 0, 0, 0⟩

theorem mul64_b (n : Nat) (hn : n ≤ 70) (w : World) : Calls Try.prog 120 #[.int .u64 1, .int .u64 ((BitVec.ofNat 64 n).toNat : Int)] w fun e w' => e = .returned (.tuple #[.int .u64 0, .int .u64 (n : Int)]) ∧ Below w.heap.size w w' := by
  refine calls_of_T (l := [.int .u64 1, .int .u64 ((BitVec.ofNat 64 n).toNat : Int)]) 51 Try.func120 rfl rfl rfl ?_
  show T _ _ _ [(0, .int .u64 1), (1, .int .u64 ((BitVec.ofNat 64 n).toNat : Int))] []
  refine T_seq (T_region ?_)
  refine TL_q (.int .u64 0) (fun _ _ hρ _ => r_assign (hρ _ _ rfl)) rfl rfl rfl (w_n rfl) ?_
  refine TL_q (.int .u64 0) (fun _ _ hρ _ => r_assign (hρ _ _ rfl)) rfl rfl rfl (w_n rfl) ?_
  refine TL_seq ?_
  refine T_seq (T_region ?_)
  refine TL_q (.int .u64 1) (fun _ _ hρ _ => r_move (hρ _ _ rfl)) rfl rfl rfl (w_n rfl) ?_
  refine TL_q (.int .u64 1) (fun _ _ hρ _ => r_as (r_andB (k := .u64) (a := (1#64)) (b := (4294967295#64)) rfl (hρ _ _ rfl) (hρ _ _ rfl)) (by rfl)) rfl rfl rfl (w_n rfl) ?_
  refine TL_q (.int .u64 1) (fun _ _ hρ _ => r_assign (hρ _ _ rfl)) rfl rfl rfl (w_n rfl) ?_
  refine TL_seq ?_
  refine T_seq (T_region ?_)
  refine TL_q (.int .u64 1) (fun _ _ hρ _ => r_move (hρ _ _ rfl)) rfl rfl rfl (w_n rfl) ?_
  refine TL_q (.int .u64 0) (fun _ _ hρ _ => r_as (r_shrB (k := .u64) (a := (1#64)) (n := 32) (by decide) (hρ _ _ rfl) (hρ _ _ rfl)) (by rfl)) rfl rfl rfl (w_n rfl) ?_
  refine TL_q (.int .u64 0) (fun _ _ hρ _ => r_assign (hρ _ _ rfl)) rfl rfl rfl (w_n rfl) ?_
  refine TL_seq ?_
  refine T_seq (T_region ?_)
  refine TL_q (.int .u64 ((BitVec.ofNat 64 n).toNat : Int)) (fun _ _ hρ _ => r_move (hρ _ _ rfl)) rfl rfl rfl (w_n rfl) ?_
  refine TL_q (.int .u64 (((BitVec.ofNat 64 n) &&& (4294967295#64)).toNat : Int)) (fun _ _ hρ _ => r_andB (k := .u64) (a := (BitVec.ofNat 64 n)) (b := (4294967295#64)) rfl (hρ _ _ rfl) (hρ _ _ rfl)) rfl rfl rfl (w_n rfl) ?_
  refine TL_q (.int .u64 (((BitVec.ofNat 64 n) &&& (4294967295#64)).toNat : Int)) (fun _ _ hρ _ => r_assign (hρ _ _ rfl)) rfl rfl rfl (w_n rfl) ?_
  refine TL_seq ?_
  refine T_seq (T_region ?_)
  refine TL_q (.int .u64 ((BitVec.ofNat 64 n).toNat : Int)) (fun _ _ hρ _ => r_move (hρ _ _ rfl)) rfl rfl rfl (w_n rfl) ?_
  refine TL_q (.int .u64 (((BitVec.ofNat 64 n) >>> 32).toNat : Int)) (fun _ _ hρ _ => r_shrB (k := .u64) (a := (BitVec.ofNat 64 n)) (n := 32) (by decide) (hρ _ _ rfl) (hρ _ _ rfl)) rfl rfl rfl (w_n rfl) ?_
  refine TL_q (.int .u64 (((BitVec.ofNat 64 n) >>> 32).toNat : Int)) (fun _ _ hρ _ => r_assign (hρ _ _ rfl)) rfl rfl rfl (w_n rfl) ?_
  refine TL_seq ?_
  refine T_seq (T_region ?_)
  refine TL_q (.int .u64 1) (fun _ _ hρ _ => r_move (hρ _ _ rfl)) rfl rfl rfl (w_n rfl) ?_
  refine TL_q (.int .u64 (((BitVec.ofNat 64 n) &&& (4294967295#64)).toNat : Int)) (fun _ _ hρ _ => r_move (hρ _ _ rfl)) rfl rfl rfl (w_n rfl) ?_
  refine TL_q (.int .u64 (((1#64) * ((BitVec.ofNat 64 n) &&& (4294967295#64))).toNat : Int)) (fun _ _ hρ _ => r_mulB (k := .u64) (a := (1#64)) (b := ((BitVec.ofNat 64 n) &&& (4294967295#64))) rfl (hρ _ _ rfl) (hρ _ _ rfl)) rfl rfl rfl (w_n rfl) ?_
  refine TL_q (.int .u64 (((1#64) * ((BitVec.ofNat 64 n) &&& (4294967295#64))).toNat : Int)) (fun _ _ hρ _ => r_assign (hρ _ _ rfl)) rfl rfl rfl (w_n rfl) ?_
  refine TL_seq ?_
  refine T_seq (T_region ?_)
  refine TL_q (.int .u64 0) (fun _ _ hρ _ => r_move (hρ _ _ rfl)) rfl rfl rfl (w_n rfl) ?_
  refine TL_q (.int .u64 (((BitVec.ofNat 64 n) &&& (4294967295#64)).toNat : Int)) (fun _ _ hρ _ => r_move (hρ _ _ rfl)) rfl rfl rfl (w_n rfl) ?_
  refine TL_q (.int .u64 (((0#64) * ((BitVec.ofNat 64 n) &&& (4294967295#64))).toNat : Int)) (fun _ _ hρ _ => r_mulB (k := .u64) (a := (0#64)) (b := ((BitVec.ofNat 64 n) &&& (4294967295#64))) rfl (hρ _ _ rfl) (hρ _ _ rfl)) rfl rfl rfl (w_n rfl) ?_
  refine TL_q (.int .u64 (((1#64) * ((BitVec.ofNat 64 n) &&& (4294967295#64))).toNat : Int)) (fun _ _ hρ _ => r_move (hρ _ _ rfl)) rfl rfl rfl (w_n rfl) ?_
  refine TL_q (.int .u64 ((((1#64) * ((BitVec.ofNat 64 n) &&& (4294967295#64))) >>> 32).toNat : Int)) (fun _ _ hρ _ => r_shrB (k := .u64) (a := ((1#64) * ((BitVec.ofNat 64 n) &&& (4294967295#64)))) (n := 32) (by decide) (hρ _ _ rfl) (hρ _ _ rfl)) rfl rfl rfl (w_n rfl) ?_
  refine TL_q (.int .u64 ((((0#64) * ((BitVec.ofNat 64 n) &&& (4294967295#64))) + (((1#64) * ((BitVec.ofNat 64 n) &&& (4294967295#64))) >>> 32)).toNat : Int)) (fun _ _ hρ _ => r_addB (k := .u64) (a := ((0#64) * ((BitVec.ofNat 64 n) &&& (4294967295#64)))) (b := (((1#64) * ((BitVec.ofNat 64 n) &&& (4294967295#64))) >>> 32)) rfl (hρ _ _ rfl) (hρ _ _ rfl)) rfl rfl rfl (w_n rfl) ?_
  refine TL_q (.int .u64 ((((0#64) * ((BitVec.ofNat 64 n) &&& (4294967295#64))) + (((1#64) * ((BitVec.ofNat 64 n) &&& (4294967295#64))) >>> 32)).toNat : Int)) (fun _ _ hρ _ => r_assign (hρ _ _ rfl)) rfl rfl rfl (w_n rfl) ?_
  refine TL_seq ?_
  refine T_seq (T_region ?_)
  refine TL_q (.int .u64 ((((0#64) * ((BitVec.ofNat 64 n) &&& (4294967295#64))) + (((1#64) * ((BitVec.ofNat 64 n) &&& (4294967295#64))) >>> 32)).toNat : Int)) (fun _ _ hρ _ => r_move (hρ _ _ rfl)) rfl rfl rfl (w_n rfl) ?_
  refine TL_q (.int .u64 (((((0#64) * ((BitVec.ofNat 64 n) &&& (4294967295#64))) + (((1#64) * ((BitVec.ofNat 64 n) &&& (4294967295#64))) >>> 32)) &&& (4294967295#64)).toNat : Int)) (fun _ _ hρ _ => r_andB (k := .u64) (a := (((0#64) * ((BitVec.ofNat 64 n) &&& (4294967295#64))) + (((1#64) * ((BitVec.ofNat 64 n) &&& (4294967295#64))) >>> 32))) (b := (4294967295#64)) rfl (hρ _ _ rfl) (hρ _ _ rfl)) rfl rfl rfl (w_n rfl) ?_
  refine TL_q (.int .u64 (((((0#64) * ((BitVec.ofNat 64 n) &&& (4294967295#64))) + (((1#64) * ((BitVec.ofNat 64 n) &&& (4294967295#64))) >>> 32)) &&& (4294967295#64)).toNat : Int)) (fun _ _ hρ _ => r_assign (hρ _ _ rfl)) rfl rfl rfl (w_n rfl) ?_
  refine TL_seq ?_
  refine T_seq (T_region ?_)
  refine TL_q (.int .u64 ((((0#64) * ((BitVec.ofNat 64 n) &&& (4294967295#64))) + (((1#64) * ((BitVec.ofNat 64 n) &&& (4294967295#64))) >>> 32)).toNat : Int)) (fun _ _ hρ _ => r_move (hρ _ _ rfl)) rfl rfl rfl (w_n rfl) ?_
  refine TL_q (.int .u64 (((((0#64) * ((BitVec.ofNat 64 n) &&& (4294967295#64))) + (((1#64) * ((BitVec.ofNat 64 n) &&& (4294967295#64))) >>> 32)) >>> 32).toNat : Int)) (fun _ _ hρ _ => r_shrB (k := .u64) (a := (((0#64) * ((BitVec.ofNat 64 n) &&& (4294967295#64))) + (((1#64) * ((BitVec.ofNat 64 n) &&& (4294967295#64))) >>> 32))) (n := 32) (by decide) (hρ _ _ rfl) (hρ _ _ rfl)) rfl rfl rfl (w_n rfl) ?_
  refine TL_q (.int .u64 (((((0#64) * ((BitVec.ofNat 64 n) &&& (4294967295#64))) + (((1#64) * ((BitVec.ofNat 64 n) &&& (4294967295#64))) >>> 32)) >>> 32).toNat : Int)) (fun _ _ hρ _ => r_assign (hρ _ _ rfl)) rfl rfl rfl (w_n rfl) ?_
  refine TL_seq ?_
  refine T_sub [(0, .int .u64 1), (1, .int .u64 ((BitVec.ofNat 64 n).toNat : Int)), (4, .int .u64 0), (5, .int .u64 0), (6, .int .u64 1), (7, .int .u64 0), (9, .int .u64 (((BitVec.ofNat 64 n) >>> 32).toNat : Int)), (12, .int .u64 (((((0#64) * ((BitVec.ofNat 64 n) &&& (4294967295#64))) + (((1#64) * ((BitVec.ofNat 64 n) &&& (4294967295#64))) >>> 32)) &&& (4294967295#64)).toNat : Int)), (13, .int .u64 (((((0#64) * ((BitVec.ofNat 64 n) &&& (4294967295#64))) + (((1#64) * ((BitVec.ofNat 64 n) &&& (4294967295#64))) >>> 32)) >>> 32).toNat : Int))] [] (sub_cons rfl (sub_cons rfl (sub_cons rfl (sub_cons rfl (sub_cons rfl (sub_cons rfl (sub_cons rfl (sub_cons rfl (sub_cons rfl sub_nil))))))))) sub_nil ?_
  refine T_seq (T_region ?_)
  refine TL_q (.int .u64 (((((0#64) * ((BitVec.ofNat 64 n) &&& (4294967295#64))) + (((1#64) * ((BitVec.ofNat 64 n) &&& (4294967295#64))) >>> 32)) &&& (4294967295#64)).toNat : Int)) (fun _ _ hρ _ => r_move (hρ _ _ rfl)) rfl rfl rfl (w_n rfl) ?_
  refine TL_q (.int .u64 1) (fun _ _ hρ _ => r_move (hρ _ _ rfl)) rfl rfl rfl (w_n rfl) ?_
  refine TL_q (.int .u64 (((BitVec.ofNat 64 n) >>> 32).toNat : Int)) (fun _ _ hρ _ => r_move (hρ _ _ rfl)) rfl rfl rfl (w_n rfl) ?_
  refine TL_q (.int .u64 (((1#64) * ((BitVec.ofNat 64 n) >>> 32)).toNat : Int)) (fun _ _ hρ _ => r_mulB (k := .u64) (a := (1#64)) (b := ((BitVec.ofNat 64 n) >>> 32)) rfl (hρ _ _ rfl) (hρ _ _ rfl)) rfl rfl rfl (w_n rfl) ?_
  refine TL_q (.int .u64 ((((((0#64) * ((BitVec.ofNat 64 n) &&& (4294967295#64))) + (((1#64) * ((BitVec.ofNat 64 n) &&& (4294967295#64))) >>> 32)) &&& (4294967295#64)) + ((1#64) * ((BitVec.ofNat 64 n) >>> 32))).toNat : Int)) (fun _ _ hρ _ => r_addB (k := .u64) (a := ((((0#64) * ((BitVec.ofNat 64 n) &&& (4294967295#64))) + (((1#64) * ((BitVec.ofNat 64 n) &&& (4294967295#64))) >>> 32)) &&& (4294967295#64))) (b := ((1#64) * ((BitVec.ofNat 64 n) >>> 32))) rfl (hρ _ _ rfl) (hρ _ _ rfl)) rfl rfl rfl (w_n rfl) ?_
  refine TL_q (.int .u64 ((((((0#64) * ((BitVec.ofNat 64 n) &&& (4294967295#64))) + (((1#64) * ((BitVec.ofNat 64 n) &&& (4294967295#64))) >>> 32)) &&& (4294967295#64)) + ((1#64) * ((BitVec.ofNat 64 n) >>> 32))).toNat : Int)) (fun _ _ hρ _ => r_assign (hρ _ _ rfl)) rfl rfl rfl (w_n rfl) ?_
  refine TL_seq ?_
  refine T_seq (T_region ?_)
  refine TL_q (.int .u64 0) (fun _ _ hρ _ => r_move (hρ _ _ rfl)) rfl rfl rfl (w_n rfl) ?_
  refine TL_q (.int .u64 (((BitVec.ofNat 64 n) >>> 32).toNat : Int)) (fun _ _ hρ _ => r_move (hρ _ _ rfl)) rfl rfl rfl (w_n rfl) ?_
  refine TL_q (.int .u64 (((0#64) * ((BitVec.ofNat 64 n) >>> 32)).toNat : Int)) (fun _ _ hρ _ => r_mulB (k := .u64) (a := (0#64)) (b := ((BitVec.ofNat 64 n) >>> 32)) rfl (hρ _ _ rfl) (hρ _ _ rfl)) rfl rfl rfl (w_n rfl) ?_
  refine TL_q (.int .u64 (((((0#64) * ((BitVec.ofNat 64 n) &&& (4294967295#64))) + (((1#64) * ((BitVec.ofNat 64 n) &&& (4294967295#64))) >>> 32)) >>> 32).toNat : Int)) (fun _ _ hρ _ => r_move (hρ _ _ rfl)) rfl rfl rfl (w_n rfl) ?_
  refine TL_q (.int .u64 ((((0#64) * ((BitVec.ofNat 64 n) >>> 32)) + ((((0#64) * ((BitVec.ofNat 64 n) &&& (4294967295#64))) + (((1#64) * ((BitVec.ofNat 64 n) &&& (4294967295#64))) >>> 32)) >>> 32)).toNat : Int)) (fun _ _ hρ _ => r_addB (k := .u64) (a := ((0#64) * ((BitVec.ofNat 64 n) >>> 32))) (b := ((((0#64) * ((BitVec.ofNat 64 n) &&& (4294967295#64))) + (((1#64) * ((BitVec.ofNat 64 n) &&& (4294967295#64))) >>> 32)) >>> 32)) rfl (hρ _ _ rfl) (hρ _ _ rfl)) rfl rfl rfl (w_n rfl) ?_
  refine TL_q (.int .u64 ((((((0#64) * ((BitVec.ofNat 64 n) &&& (4294967295#64))) + (((1#64) * ((BitVec.ofNat 64 n) &&& (4294967295#64))) >>> 32)) &&& (4294967295#64)) + ((1#64) * ((BitVec.ofNat 64 n) >>> 32))).toNat : Int)) (fun _ _ hρ _ => r_move (hρ _ _ rfl)) rfl rfl rfl (w_n rfl) ?_
  refine TL_q (.int .u64 (((((((0#64) * ((BitVec.ofNat 64 n) &&& (4294967295#64))) + (((1#64) * ((BitVec.ofNat 64 n) &&& (4294967295#64))) >>> 32)) &&& (4294967295#64)) + ((1#64) * ((BitVec.ofNat 64 n) >>> 32))) >>> 32).toNat : Int)) (fun _ _ hρ _ => r_shrB (k := .u64) (a := (((((0#64) * ((BitVec.ofNat 64 n) &&& (4294967295#64))) + (((1#64) * ((BitVec.ofNat 64 n) &&& (4294967295#64))) >>> 32)) &&& (4294967295#64)) + ((1#64) * ((BitVec.ofNat 64 n) >>> 32)))) (n := 32) (by decide) (hρ _ _ rfl) (hρ _ _ rfl)) rfl rfl rfl (w_n rfl) ?_
  refine TL_q (.int .u64 (((((0#64) * ((BitVec.ofNat 64 n) >>> 32)) + ((((0#64) * ((BitVec.ofNat 64 n) &&& (4294967295#64))) + (((1#64) * ((BitVec.ofNat 64 n) &&& (4294967295#64))) >>> 32)) >>> 32)) + ((((((0#64) * ((BitVec.ofNat 64 n) &&& (4294967295#64))) + (((1#64) * ((BitVec.ofNat 64 n) &&& (4294967295#64))) >>> 32)) &&& (4294967295#64)) + ((1#64) * ((BitVec.ofNat 64 n) >>> 32))) >>> 32)).toNat : Int)) (fun _ _ hρ _ => r_addB (k := .u64) (a := (((0#64) * ((BitVec.ofNat 64 n) >>> 32)) + ((((0#64) * ((BitVec.ofNat 64 n) &&& (4294967295#64))) + (((1#64) * ((BitVec.ofNat 64 n) &&& (4294967295#64))) >>> 32)) >>> 32))) (b := ((((((0#64) * ((BitVec.ofNat 64 n) &&& (4294967295#64))) + (((1#64) * ((BitVec.ofNat 64 n) &&& (4294967295#64))) >>> 32)) &&& (4294967295#64)) + ((1#64) * ((BitVec.ofNat 64 n) >>> 32))) >>> 32)) rfl (hρ _ _ rfl) (hρ _ _ rfl)) rfl rfl rfl (w_n rfl) ?_
  refine TL_q (.int .u64 (((((0#64) * ((BitVec.ofNat 64 n) >>> 32)) + ((((0#64) * ((BitVec.ofNat 64 n) &&& (4294967295#64))) + (((1#64) * ((BitVec.ofNat 64 n) &&& (4294967295#64))) >>> 32)) >>> 32)) + ((((((0#64) * ((BitVec.ofNat 64 n) &&& (4294967295#64))) + (((1#64) * ((BitVec.ofNat 64 n) &&& (4294967295#64))) >>> 32)) &&& (4294967295#64)) + ((1#64) * ((BitVec.ofNat 64 n) >>> 32))) >>> 32)).toNat : Int)) (fun _ _ hρ _ => r_assign (hρ _ _ rfl)) rfl rfl rfl (w_n rfl) ?_
  refine TL_seq ?_
  refine T_seq (T_region ?_)
  refine TL_q (.int .u64 1) (fun _ _ hρ _ => r_move (hρ _ _ rfl)) rfl rfl rfl (w_n rfl) ?_
  refine TL_q (.int .u64 ((BitVec.ofNat 64 n).toNat : Int)) (fun _ _ hρ _ => r_move (hρ _ _ rfl)) rfl rfl rfl (w_n rfl) ?_
  refine TL_q (.int .u64 (((1#64) * (BitVec.ofNat 64 n)).toNat : Int)) (fun _ _ hρ _ => r_mulB (k := .u64) (a := (1#64)) (b := (BitVec.ofNat 64 n)) rfl (hρ _ _ rfl) (hρ _ _ rfl)) rfl rfl rfl (w_n rfl) ?_
  refine TL_q (.int .u64 (((1#64) * (BitVec.ofNat 64 n)).toNat : Int)) (fun _ _ hρ _ => r_assign (hρ _ _ rfl)) rfl rfl rfl (w_n rfl) ?_
  refine TL_seq ?_
  refine T_ret' ?_
  refine ret_of rfl (.tuple #[.int .u64 (((((0#64) * ((BitVec.ofNat 64 n) >>> 32)) + ((((0#64) * ((BitVec.ofNat 64 n) &&& (4294967295#64))) + (((1#64) * ((BitVec.ofNat 64 n) &&& (4294967295#64))) >>> 32)) >>> 32)) + ((((((0#64) * ((BitVec.ofNat 64 n) &&& (4294967295#64))) + (((1#64) * ((BitVec.ofNat 64 n) &&& (4294967295#64))) >>> 32)) &&& (4294967295#64)) + ((1#64) * ((BitVec.ofNat 64 n) >>> 32))) >>> 32)).toNat : Int), .int .u64 (((1#64) * (BitVec.ofNat 64 n)).toNat : Int)]) (fun tmps w hk hm => res2 rfl (res_tmp (hk 4 _ rfl)) (res_tmp (hk 5 _ rfl))) (fun w hm => ?_)
  have key : ∀ m : Fin 71, ((((((0#64) * ((BitVec.ofNat 64 m.val) >>> 32)) + ((((0#64) * ((BitVec.ofNat 64 m.val) &&& (4294967295#64))) + (((1#64) * ((BitVec.ofNat 64 m.val) &&& (4294967295#64))) >>> 32)) >>> 32)) + ((((((0#64) * ((BitVec.ofNat 64 m.val) &&& (4294967295#64))) + (((1#64) * ((BitVec.ofNat 64 m.val) &&& (4294967295#64))) >>> 32)) &&& (4294967295#64)) + ((1#64) * ((BitVec.ofNat 64 m.val) >>> 32))) >>> 32)).toNat : Int) : Int) = 0 ∧ ((((1#64) * (BitVec.ofNat 64 m.val)).toNat : Int) : Int) = ((m.val : Nat) : Int) := by decide +kernel
  have k1 : ((((((0#64) * ((BitVec.ofNat 64 n) >>> 32)) + ((((0#64) * ((BitVec.ofNat 64 n) &&& (4294967295#64))) + (((1#64) * ((BitVec.ofNat 64 n) &&& (4294967295#64))) >>> 32)) >>> 32)) + ((((((0#64) * ((BitVec.ofNat 64 n) &&& (4294967295#64))) + (((1#64) * ((BitVec.ofNat 64 n) &&& (4294967295#64))) >>> 32)) &&& (4294967295#64)) + ((1#64) * ((BitVec.ofNat 64 n) >>> 32))) >>> 32)).toNat : Int) : Int) = 0 := (key ⟨n, by omega⟩).1
  have k2 : ((((1#64) * (BitVec.ofNat 64 n)).toNat : Int) : Int) = ((n : Nat) : Int) := (key ⟨n, by omega⟩).2
  exact ⟨by rw [k1, k2], hm.ext⟩

theorem mul64_c (n : Nat) (hn : n ≤ 70) (w : World) : Calls Try.prog 120 #[.int .u64 1, .int .u64 (n : Int)] w fun e w' => e = .returned (.tuple #[.int .u64 0, .int .u64 (n : Int)]) ∧ Below w.heap.size w w' := by
  have h := mul64_b n hn w
  rwa [show ((BitVec.ofNat 64 n).toNat : Int) = n from by rw [BitVec.toNat_ofNat, Nat.mod_eq_of_lt (by omega)]] at h

theorem mul_c (n : Nat) (hn : n ≤ 70) (w : World) : Calls Try.prog 102 #[.int .u64 1, .int .u64 (n : Int)] w fun e w' => e = .returned (.tuple #[.int .u64 0, .int .u64 (n : Int)]) ∧ Below w.heap.size w w' := by
  refine calls_of_T (l := [.int .u64 1, .int .u64 ((n : Nat) : Int)]) 30 Try.func102 rfl rfl rfl ?_
  show T _ _ _ [(0, .int .u64 1), (1, .int .u64 ((n : Nat) : Int))] []
  refine T_seq (T_region ?_)
  refine TL_q (.int .u64 0) (fun _ _ hρ _ => r_assign (hρ _ _ rfl)) rfl rfl rfl (w_n rfl) ?_
  refine TL_q (.int .u64 0) (fun _ _ hρ _ => r_assign (hρ _ _ rfl)) rfl rfl rfl (w_n rfl) ?_
  refine TL_seq ?_
  refine T_seq ?_
  refine T_cond_f rfl ?_
  refine T_skip' ?_
  refine p_seq ?_
  refine T_seq (T_region ?_)
  refine TL_q (.int .u64 1) (fun _ _ hρ _ => r_move (hρ _ _ rfl)) rfl rfl rfl (w_n rfl) ?_
  refine TL_q (.int .u64 ((n : Nat) : Int)) (fun _ _ hρ _ => r_move (hρ _ _ rfl)) rfl rfl rfl (w_n rfl) ?_
  refine TL_call (.tuple #[.int .u64 0, .int .u64 ((n : Nat) : Int)]) (fun _ _ hρ _ => r_call (args := [.int .u64 1, .int .u64 ((n : Nat) : Int)]) (enters_of Try.func120 (by kernel_rfl) rfl) (hρ _ _ rfl) ((cons2 (hρ _ _ rfl) (cons2 (hρ _ _ rfl) rfl))) rfl) (fun w _ => mul64_c n (by omega) w) rfl rfl rfl (w_n rfl) ?_
  refine TL_q (.tuple #[.int .u64 0, .int .u64 ((n : Nat) : Int)]) (fun _ _ hρ _ => r_move (hρ _ _ rfl)) rfl rfl rfl (w_n rfl) ?_
  refine TL_q (.int .u64 0) (fun _ _ hρ _ => r_extract (hρ _ _ rfl) rfl) rfl rfl rfl (w_n rfl) ?_
  refine TL_q (.int .u64 ((n : Nat) : Int)) (fun _ _ hρ _ => r_extract (hρ _ _ rfl) rfl) rfl rfl rfl (w_n rfl) ?_
  refine TL_q (.int .u64 0) (fun _ _ hρ _ => r_assign (hρ _ _ rfl)) rfl rfl rfl (w_n rfl) ?_
  refine TL_q (.int .u64 ((n : Nat) : Int)) (fun _ _ hρ _ => r_assign (hρ _ _ rfl)) rfl rfl rfl (w_n rfl) ?_
  refine TL_seq ?_
  refine T_seq (T_region ?_)
  refine TL_q (.int .u64 0) (fun _ _ hρ _ => r_move (hρ _ _ rfl)) rfl rfl rfl (w_n rfl) ?_
  refine TL_q (.int .u64 ((n : Nat) : Int)) (fun _ _ hρ _ => r_move (hρ _ _ rfl)) rfl rfl rfl (w_n rfl) ?_
  refine TL_q (.int .u64 0) (fun _ _ hρ _ => r_assign (hρ _ _ rfl)) rfl rfl rfl (w_n rfl) ?_
  refine TL_q (.int .u64 ((n : Nat) : Int)) (fun _ _ hρ _ => r_assign (hρ _ _ rfl)) rfl rfl rfl (w_n rfl) ?_
  refine TL_seq ?_
  refine T_ret' ?_
  refine ret_of rfl (.tuple #[.int .u64 0, .int .u64 ((n : Nat) : Int)]) (fun tmps w hk hm => res2 rfl (res_tmp (hk 4 _ rfl)) (res_tmp (hk 5 _ rfl))) (fun w hm => ?_)
  exact ⟨rfl, hm.ext⟩

theorem rep_t (c : Trk) (n bx : Nat) (w : World) (hn1 : 1 ≤ n) (hn : n ≤ 70) (hb : hp w bx = some (.cells (Trk.cells c).toArray 48)) : Calls Try.prog 67 #[.slice (some ⟨bx, 0, none⟩) 1 1, .int .i64 (n : Int)] w fun e w' => ∃ a' cap', e = .returned (.slice a' (List.replicate n c).length cap') ∧ Below w.heap.size w w' ∧ w'.ownsRow w.heap.size 48 4 (.slice a' (List.replicate n c).length cap') (List.replicate n c).length ((List.replicate n c).flatMap Trk.cells) := by
  refine calls_of_T (l := [.slice (some ⟨bx, 0, none⟩) 1 1, .int .i64 ((n : Nat) : Int)]) 48 Try.func67 rfl rfl rfl ?_
  show T _ _ _ [(0, .slice (some ⟨bx, 0, none⟩) 1 1), (1, .int .i64 ((n : Nat) : Int))] []
  refine T_seq (T_region ?_)
  refine TL_q (.slice none 0 0) (fun _ _ hρ _ => r_assign (hρ _ _ rfl)) rfl rfl rfl (w_n rfl) ?_
  refine TL_seq ?_
  refine T_seq ?_
  refine T_seq (T_region ?_)
  refine TL_q (.int .i64 ((n : Nat) : Int)) (fun _ _ hρ _ => r_move (hρ _ _ rfl)) rfl rfl rfl (w_n rfl) ?_
  refine TL_q (.bool false) (fun _ _ hρ _ => r_as (r_lss (hρ _ _ rfl) (hρ _ _ rfl)) (bool_as (decide_eq_false (by omega)))) rfl rfl rfl (w_n rfl) ?_
  refine TL_seq ?_
  refine T_cond_f rfl ?_
  refine T_skip' ?_
  refine p_seq ?_
  refine T_seq (T_region ?_)
  refine TL_q (.slice (some ⟨bx, 0, none⟩) 1 1) (fun _ _ hρ _ => r_move (hρ _ _ rfl)) rfl rfl rfl (w_n rfl) ?_
  refine TL_q (.int .i64 1) (fun _ _ hρ _ => r_len sl43 (hρ _ _ rfl)) rfl rfl rfl (w_n rfl) ?_
  refine TL_q (.int .u64 1) (fun _ _ hρ _ => r_as (r_conv un3 io80 (hρ _ _ rfl)) (by rfl)) rfl rfl rfl (w_n rfl) ?_
  refine TL_q (.int .i64 ((n : Nat) : Int)) (fun _ _ hρ _ => r_move (hρ _ _ rfl)) rfl rfl rfl (w_n rfl) ?_
  refine TL_q (.int .u64 ((n : Nat) : Int)) (fun _ _ hρ _ => r_as (r_conv un3 io80 (hρ _ _ rfl)) (int_as (wrap_u64 (by omega) (by omega)))) rfl rfl rfl (w_n rfl) ?_
  refine TL_call (.tuple #[.int .u64 0, .int .u64 ((n : Nat) : Int)]) (fun _ _ hρ _ => r_call (args := [.int .u64 1, .int .u64 ((n : Nat) : Int)]) (enters_of Try.func102 (by kernel_rfl) rfl) (hρ _ _ rfl) ((cons2 (hρ _ _ rfl) (cons2 (hρ _ _ rfl) rfl))) rfl) (fun w _ => mul_c n (by omega) w) rfl rfl rfl (w_n rfl) ?_
  refine TL_q (.tuple #[.int .u64 0, .int .u64 ((n : Nat) : Int)]) (fun _ _ hρ _ => r_move (hρ _ _ rfl)) rfl rfl rfl (w_n rfl) ?_
  refine TL_q (.int .u64 0) (fun _ _ hρ _ => r_extract (hρ _ _ rfl) rfl) rfl rfl rfl (w_n rfl) ?_
  refine TL_q (.int .u64 ((n : Nat) : Int)) (fun _ _ hρ _ => r_extract (hρ _ _ rfl) rfl) rfl rfl rfl (w_n rfl) ?_
  refine TL_q (.int .u64 0) (fun _ _ hρ _ => r_assign (hρ _ _ rfl)) rfl rfl rfl (w_n rfl) ?_
  refine TL_q (.int .u64 ((n : Nat) : Int)) (fun _ _ hρ _ => r_assign (hρ _ _ rfl)) rfl rfl rfl (w_n rfl) ?_
  refine TL_seq ?_
  refine T_seq ?_
  refine T_seq (T_region ?_)
  refine TL_q (.int .u64 0) (fun _ _ hρ _ => r_move (hρ _ _ rfl)) rfl rfl rfl (w_n rfl) ?_
  refine TL_q (.bool false) (fun _ _ hρ _ => r_as (r_gtr (hρ _ _ rfl) (hρ _ _ rfl)) (by rfl)) rfl rfl rfl (w_n rfl) ?_
  refine TL_q (.bool false) (fun _ _ hρ _ => r_move (hρ _ _ rfl)) rfl rfl rfl (w_n rfl) ?_
  refine TL_q (.int .u64 ((n : Nat) : Int)) (fun _ _ hρ _ => r_move (hρ _ _ rfl)) rfl rfl rfl (want_y 23 rfl rfl rfl) ?_
  refine TL_q (.bool false) (fun _ _ hρ _ => r_as (r_gtr (hρ _ _ rfl) (hρ _ _ rfl)) (bool_as (decide_eq_false (by omega)))) rfl rfl rfl (want_y 23 rfl rfl rfl) ?_
  refine TL_q (.bool false) (fun _ _ hρ _ => r_pick_f (hρ _ _ rfl) (hρ _ _ rfl)) rfl rfl rfl (w_n rfl) ?_
  refine TL_seq ?_
  refine T_cond_f rfl ?_
  refine T_skip' ?_
  refine p_seq ?_
  refine T_seq (T_region ?_)
  refine TL_q (.int .u64 ((n : Nat) : Int)) (fun _ _ hρ _ => r_move (hρ _ _ rfl)) rfl rfl rfl (w_n rfl) ?_
  refine TL_q (.int .i64 ((n : Nat) : Int)) (fun _ _ hρ _ => r_as (r_conv un80 io3 (hρ _ _ rfl)) (int_as (wrap64 (by omega) (by omega)))) rfl rfl rfl (w_n rfl) ?_
  refine TL_op (ι := Nat) (fun B => .slice (some ⟨B, 0, none⟩) n n) _ (fun _ _ hρ hm => o_make (n := n) (cap := n) (z := .agg #[.int .i64 0, .int .i64 0, .int .i64 0, .int .u32 0]) (f := Trk.cells) (u := trk0) 940 rfl (hρ _ _ rfl) (hρ _ _ rfl) sl43 by48 sz48 rfl (by kernel_rfl) rfl Trk.cells_len (by omega) (by omega) (by omega) hm) rfl rfl rfl (w_n rfl) ?_
  intro B1
  refine TL_q (.slice (some ⟨B1, 0, none⟩) n n) (fun _ _ hρ _ => r_assign (hρ _ _ rfl)) rfl rfl rfl (w_n rfl) ?_
  refine TL_seq ?_
  refine T_seq (T_region ?_)
  refine TL_q (.slice (some ⟨B1, 0, none⟩) n n) (fun _ _ hρ _ => r_move (hρ _ _ rfl)) rfl rfl rfl (w_n rfl) ?_
  refine TL_q (.slice (some ⟨bx, 0, none⟩) 1 1) (fun _ _ hρ _ => r_move (hρ _ _ rfl)) rfl rfl rfl (w_n rfl) ?_
  refine TL_op1 (.int .i64 ((1 : Nat) : Int)) _ (fun _ _ hρ hm => o_copyG (k := 1) (lo := 0) (s := 4) (news := ((List.replicate 1 c).flatMap Trk.cells)) 940 rfl (hρ _ _ rfl) (by omega) (hρ _ _ rfl) rfl sl43 sz48 (by omega) (rep_len Trk.cells_len c 1) (fun j u hj => cell_of (hm.old hb) (rep_one hj)) (rep_ones Trk.cells_one c 1) (rep_first Trk.cells_len trk0 c hn1) hm) rfl rfl rfl (w_n rfl) ?_
  refine TL_q (.int .i64 ((1 : Nat) : Int)) (fun _ _ hρ _ => r_assign (hρ _ _ rfl)) rfl rfl rfl (w_n rfl) ?_
  refine TL_seq ?_
  refine T_seq ?_
  refine T_block ?_
  refine T_loop (ι := Nat) (fun (k : Nat) => 1 ≤ k ∧ k ≤ n) (fun (k : Nat) => [(4, .slice none 0 0), (7, .slice (some ⟨B1, 0, none⟩) n n), (8, .int .i64 ((k : Nat) : Int))]) (fun (k : Nat) => [(940, .row (.slice (some ⟨B1, 0, none⟩) n n) 48 4 n ((repG trk0 c k n).flatMap Trk.cells))]) (fun (k : Nat) => n - k) 1 ⟨Nat.le_refl _, hn1⟩ (sub_cons rfl (sub_cons rfl (sub_cons rfl sub_nil))) (sub_cons rfl sub_nil) ?_
  rintro k hp
  obtain ⟨hk1, hk2⟩ := hp
  show T _ _ _ [(4, .slice none 0 0), (7, .slice (some ⟨B1, 0, none⟩) n n), (8, .int .i64 ((k : Nat) : Int))] [(940, .row (.slice (some ⟨B1, 0, none⟩) n n) 48 4 n ((repG trk0 c k n).flatMap Trk.cells))]
  refine T_seq ?_
  refine T_seq (T_region ?_)
  refine TL_q (.int .i64 ((k : Nat) : Int)) (fun _ _ hρ _ => r_move (hρ _ _ rfl)) rfl rfl rfl (w_n rfl) ?_
  refine TL_q (.slice (some ⟨B1, 0, none⟩) n n) (fun _ _ hρ _ => r_move (hρ _ _ rfl)) rfl rfl rfl (w_n rfl) ?_
  refine TL_q (.int .i64 ((n : Nat) : Int)) (fun _ _ hρ _ => r_len sl43 (hρ _ _ rfl)) rfl rfl rfl (w_n rfl) ?_
  refine TL_q (.bool (decide (((k : Nat) : Int) < ((n : Nat) : Int)))) (fun _ _ hρ _ => r_lss (hρ _ _ rfl) (hρ _ _ rfl)) rfl rfl rfl (w_n rfl) ?_
  refine TL_seq ?_
  refine T_cond rfl (fun h1 => ?_) (fun h1 => ?_)
  · replace h1 := of_decide_eq_true h1
    refine T_skip' ?_
    refine p_seq ?_
    refine T_block ?_
    refine T_draw (V := [(0, .int .i64 ((k : Nat) : Int)), (1, .slice (some ⟨B1, 0, none⟩) n n), (2, .int .i64 ((k : Nat) : Int)), (3, .slice (some ⟨B1, k * 4, none⟩) (n - k) (n - k)), (4, .slice (some ⟨B1, 0, none⟩) n n), (5, .int .i64 ((k : Nat) : Int)), (6, .slice (some ⟨B1, 0, none⟩) k n)]) [0, 0, 0, 6, 0, 0, 48, 126, 255, 511] [[(8, none)], [(7, none)], [(8, none)], [(39, some 1), (40, some 2)], [(7, none)], [(8, none)], [(42, some 4), (43, some 5)], [(41, some 3), (44, some 6)], [(38, some 0), (45, some 7)], [(46, some 8)]] 128 mixed (by kernel_rfl) ?_
    refine G_step [0, 1, 2, 3, 4, 5, 6] 7 [] (by kernel_rfl) (allM (all_cons (q_run (.int .i64 ((k : Nat) : Int)) rfl rfl (wv_n rfl) rfl (fun _ _ hρ _ => r_move (hρ _ _ rfl))) (all_cons (q_run (.slice (some ⟨B1, 0, none⟩) n n) rfl rfl (wv_n rfl) rfl (fun _ _ hρ _ => r_move (hρ _ _ rfl))) (all_cons (q_run (.int .i64 ((k : Nat) : Int)) rfl rfl (wv_n rfl) rfl (fun _ _ hρ _ => r_move (hρ _ _ rfl))) (all_cons (q_run (.slice (some ⟨B1, k * 4, none⟩) (n - k) (n - k)) rfl rfl (wv_n rfl) rfl (fun ρ _ hρ _ => r_as (r_sliceS sl43 sz48 (hρ _ _ rfl) (bd_none ρ _) (bd_none ρ _) (bd_some (n := k) (hρ _ _ rfl)) (by simp) (by omega) (by omega) (by omega)) (by rw [if_neg (by omega), Nat.zero_add]))) (all_cons (q_run (.slice (some ⟨B1, 0, none⟩) n n) rfl rfl (wv_n rfl) rfl (fun _ _ hρ _ => r_move (hρ _ _ rfl))) (all_cons (q_run (.int .i64 ((k : Nat) : Int)) rfl rfl (wv_n rfl) rfl (fun _ _ hρ _ => r_move (hρ _ _ rfl))) (all_cons (q_run (.slice (some ⟨B1, 0, none⟩) k n) rfl rfl (wv_n rfl) rfl (fun ρ _ hρ _ => r_as (r_sliceS sl43 sz48 (hρ _ _ rfl) (bd_none ρ _) (bd_some (n := k) (hρ _ _ rfl)) (bd_none ρ _) (by simp) (by omega) (by omega) (by omega)) (by simp))) all_nil)))))))) (allM (all_cons ?_ all_nil))
    refine LOb_op1 (.int .i64 ((min k (n - k) : Nat) : Int)) _ [(8, .int .i64 ((k + (min k (n - k)) : Nat) : Int)), (9, .int .i64 ((k + (min k (n - k)) : Nat) : Int))] rfl (wv_n rfl) rfl rfl (fun _ _ hρ hm => o_copyG (k := min k (n - k)) (lo := k * 4) (s := 4) (news := ((List.replicate (min k (n - k)) c).flatMap Trk.cells)) 940 rfl (hρ _ _ rfl) (by omega) (hρ _ _ rfl) rfl sl43 sz48 rfl (rep_len Trk.cells_len c _) (fun j u hj => rep_cell (hm.row 940 rfl) (rep_pre trk0 c (by omega) hj)) (rep_ones Trk.cells_one c _) (rep_copy Trk.cells_len trk0 c (by omega)) hm) (by kernel_rfl) ?_
    refine G_lastQ [0, 8, 9] [(4, .slice none 0 0), (7, .slice (some ⟨B1, 0, none⟩) n n), (34, .int .i64 ((k : Nat) : Int)), (35, .slice (some ⟨B1, 0, none⟩) n n), (36, .int .i64 ((n : Nat) : Int)), (37, .bool (decide (((k : Nat) : Int) < ((n : Nat) : Int)))), (38, .int .i64 ((k : Nat) : Int)), (39, .slice (some ⟨B1, 0, none⟩) n n), (40, .int .i64 ((k : Nat) : Int)), (41, .slice (some ⟨B1, k * 4, none⟩) (n - k) (n - k)), (42, .slice (some ⟨B1, 0, none⟩) n n), (43, .int .i64 ((k : Nat) : Int)), (44, .slice (some ⟨B1, 0, none⟩) k n), (45, .int .i64 ((min k (n - k) : Nat) : Int)), (46, .int .i64 ((k + (min k (n - k)) : Nat) : Int)), (8, .int .i64 ((k + (min k (n - k)) : Nat) : Int))] (by kernel_rfl) (allM (all_cons (q_run (.int .i64 ((k : Nat) : Int)) rfl rfl (wv_n rfl) rfl (fun _ _ hρ _ => r_move (hρ _ _ rfl))) (all_cons (q_run (.int .i64 ((k + (min k (n - k)) : Nat) : Int)) rfl rfl (wv_n rfl) rfl (fun _ _ hρ _ => r_as (r_add (hρ _ _ rfl) (hρ _ _ rfl)) (int_as ((wrap64 (by omega) (by omega)).trans (by omega))))) (all_cons (q_run (.int .i64 ((k + (min k (n - k)) : Nat) : Int)) rfl rfl (wv_n rfl) rfl (fun _ _ hρ _ => r_assign (hρ _ _ rfl))) all_nil)))) (end_old rfl rfl (end_old rfl rfl (end_old rfl rfl (end_old rfl rfl (end_old rfl rfl (end_old rfl rfl (end_new 0 rfl rfl (end_new 1 rfl rfl (end_new 2 rfl rfl (end_new 3 rfl rfl (end_new 4 rfl rfl (end_new 5 rfl rfl (end_new 6 rfl rfl (end_new 7 rfl rfl (end_new 8 rfl rfl (end_new 9 rfl rfl end_nil)))))))))))))))) ?_
    refine p_blk_n ?_
    exact p_at (k + min k (n - k)) ⟨by omega, by omega⟩ (sub_cons rfl (sub_cons rfl (sub_cons rfl sub_nil))) (sub_cons rfl sub_nil)
  · replace h1 := of_decide_eq_false h1
    refine T_exit' ?_
    refine p_then_x ?_
    refine p_then_x ?_
    refine p_blk_x ?_
    refine p_seq ?_
    refine T_seq (T_region ?_)
    refine TL_q (.slice (some ⟨B1, 0, none⟩) n n) (fun _ _ hρ _ => r_move (hρ _ _ rfl)) rfl rfl rfl (w_n rfl) ?_
    refine TL_q (.slice (some ⟨B1, 0, none⟩) n n) (fun _ _ hρ _ => r_assign (hρ _ _ rfl)) rfl rfl rfl (w_n rfl) ?_
    refine TL_seq ?_
    refine T_ret' ?_
    refine ret_of rfl (.slice (some ⟨B1, 0, none⟩) n n) (fun tmps w hk hm => res1 rfl (res_tmp (hk 4 _ rfl))) (fun w hm => ?_)
    have hk : k = n := by omega
    subst hk
    have hrow := hm.row 940 rfl
    rw [repG_all] at hrow
    exact ⟨some ⟨B1, 0, none⟩, k, by rw [List.length_replicate], hm.ext, by rw [List.length_replicate]; exact hrow⟩

theorem rep_t0 (c : Trk) (n bx : Nat) (w : World) (hn0 : n = 0) (hb : hp w bx = some (.cells (Trk.cells c).toArray 48)) : Calls Try.prog 67 #[.slice (some ⟨bx, 0, none⟩) 1 1, .int .i64 (n : Int)] w fun e w' => ∃ a' cap', e = .returned (.slice a' (List.replicate n c).length cap') ∧ Below w.heap.size w w' ∧ w'.ownsRow w.heap.size 48 4 (.slice a' (List.replicate n c).length cap') (List.replicate n c).length ((List.replicate n c).flatMap Trk.cells) := by
  refine calls_of_T (l := [.slice (some ⟨bx, 0, none⟩) 1 1, .int .i64 ((n : Nat) : Int)]) 48 Try.func67 rfl rfl rfl ?_
  show T _ _ _ [(0, .slice (some ⟨bx, 0, none⟩) 1 1), (1, .int .i64 ((n : Nat) : Int))] []
  refine T_seq (T_region ?_)
  refine TL_q (.slice none 0 0) (fun _ _ hρ _ => r_assign (hρ _ _ rfl)) rfl rfl rfl (w_n rfl) ?_
  refine TL_seq ?_
  refine T_seq ?_
  refine T_seq (T_region ?_)
  refine TL_q (.int .i64 ((n : Nat) : Int)) (fun _ _ hρ _ => r_move (hρ _ _ rfl)) rfl rfl rfl (w_n rfl) ?_
  refine TL_q (.bool false) (fun _ _ hρ _ => r_as (r_lss (hρ _ _ rfl) (hρ _ _ rfl)) (bool_as (decide_eq_false (by omega)))) rfl rfl rfl (w_n rfl) ?_
  refine TL_seq ?_
  refine T_cond_f rfl ?_
  refine T_skip' ?_
  refine p_seq ?_
  refine T_seq (T_region ?_)
  refine TL_q (.slice (some ⟨bx, 0, none⟩) 1 1) (fun _ _ hρ _ => r_move (hρ _ _ rfl)) rfl rfl rfl (w_n rfl) ?_
  refine TL_q (.int .i64 1) (fun _ _ hρ _ => r_len sl43 (hρ _ _ rfl)) rfl rfl rfl (w_n rfl) ?_
  refine TL_q (.int .u64 1) (fun _ _ hρ _ => r_as (r_conv un3 io80 (hρ _ _ rfl)) (by rfl)) rfl rfl rfl (w_n rfl) ?_
  refine TL_q (.int .i64 ((n : Nat) : Int)) (fun _ _ hρ _ => r_move (hρ _ _ rfl)) rfl rfl rfl (w_n rfl) ?_
  refine TL_q (.int .u64 ((n : Nat) : Int)) (fun _ _ hρ _ => r_as (r_conv un3 io80 (hρ _ _ rfl)) (int_as (wrap_u64 (by omega) (by omega)))) rfl rfl rfl (w_n rfl) ?_
  refine TL_call (.tuple #[.int .u64 0, .int .u64 ((n : Nat) : Int)]) (fun _ _ hρ _ => r_call (args := [.int .u64 1, .int .u64 ((n : Nat) : Int)]) (enters_of Try.func102 (by kernel_rfl) rfl) (hρ _ _ rfl) ((cons2 (hρ _ _ rfl) (cons2 (hρ _ _ rfl) rfl))) rfl) (fun w _ => mul_c n (by omega) w) rfl rfl rfl (w_n rfl) ?_
  refine TL_q (.tuple #[.int .u64 0, .int .u64 ((n : Nat) : Int)]) (fun _ _ hρ _ => r_move (hρ _ _ rfl)) rfl rfl rfl (w_n rfl) ?_
  refine TL_q (.int .u64 0) (fun _ _ hρ _ => r_extract (hρ _ _ rfl) rfl) rfl rfl rfl (w_n rfl) ?_
  refine TL_q (.int .u64 ((n : Nat) : Int)) (fun _ _ hρ _ => r_extract (hρ _ _ rfl) rfl) rfl rfl rfl (w_n rfl) ?_
  refine TL_q (.int .u64 0) (fun _ _ hρ _ => r_assign (hρ _ _ rfl)) rfl rfl rfl (w_n rfl) ?_
  refine TL_q (.int .u64 ((n : Nat) : Int)) (fun _ _ hρ _ => r_assign (hρ _ _ rfl)) rfl rfl rfl (w_n rfl) ?_
  refine TL_seq ?_
  refine T_seq ?_
  refine T_seq (T_region ?_)
  refine TL_q (.int .u64 0) (fun _ _ hρ _ => r_move (hρ _ _ rfl)) rfl rfl rfl (w_n rfl) ?_
  refine TL_q (.bool false) (fun _ _ hρ _ => r_as (r_gtr (hρ _ _ rfl) (hρ _ _ rfl)) (by rfl)) rfl rfl rfl (w_n rfl) ?_
  refine TL_q (.bool false) (fun _ _ hρ _ => r_move (hρ _ _ rfl)) rfl rfl rfl (w_n rfl) ?_
  refine TL_q (.int .u64 ((n : Nat) : Int)) (fun _ _ hρ _ => r_move (hρ _ _ rfl)) rfl rfl rfl (want_y 23 rfl rfl rfl) ?_
  refine TL_q (.bool false) (fun _ _ hρ _ => r_as (r_gtr (hρ _ _ rfl) (hρ _ _ rfl)) (bool_as (decide_eq_false (by omega)))) rfl rfl rfl (want_y 23 rfl rfl rfl) ?_
  refine TL_q (.bool false) (fun _ _ hρ _ => r_pick_f (hρ _ _ rfl) (hρ _ _ rfl)) rfl rfl rfl (w_n rfl) ?_
  refine TL_seq ?_
  refine T_cond_f rfl ?_
  refine T_skip' ?_
  refine p_seq ?_
  refine T_seq (T_region ?_)
  refine TL_q (.int .u64 ((n : Nat) : Int)) (fun _ _ hρ _ => r_move (hρ _ _ rfl)) rfl rfl rfl (w_n rfl) ?_
  refine TL_q (.int .i64 ((n : Nat) : Int)) (fun _ _ hρ _ => r_as (r_conv un80 io3 (hρ _ _ rfl)) (int_as (wrap64 (by omega) (by omega)))) rfl rfl rfl (w_n rfl) ?_
  refine TL_op (ι := Nat) (fun B => .slice (some ⟨B, 0, none⟩) n n) _ (fun _ _ hρ hm => o_make (n := n) (cap := n) (z := .agg #[.int .i64 0, .int .i64 0, .int .i64 0, .int .u32 0]) (f := Trk.cells) (u := trk0) 940 rfl (hρ _ _ rfl) (hρ _ _ rfl) sl43 by48 sz48 rfl (by kernel_rfl) rfl Trk.cells_len (by omega) (by omega) (by omega) hm) rfl rfl rfl (w_n rfl) ?_
  intro B1
  refine TL_q (.slice (some ⟨B1, 0, none⟩) n n) (fun _ _ hρ _ => r_assign (hρ _ _ rfl)) rfl rfl rfl (w_n rfl) ?_
  refine TL_seq ?_
  refine T_seq (T_region ?_)
  refine TL_q (.slice (some ⟨B1, 0, none⟩) n n) (fun _ _ hρ _ => r_move (hρ _ _ rfl)) rfl rfl rfl (w_n rfl) ?_
  refine TL_q (.slice (some ⟨bx, 0, none⟩) 1 1) (fun _ _ hρ _ => r_move (hρ _ _ rfl)) rfl rfl rfl (w_n rfl) ?_
  refine TL_op1 (.int .i64 0) _ (fun _ _ hρ hm => o_copyG (k := 0) (lo := 0) (s := 4) (news := []) 940 rfl (hρ _ _ rfl) (by omega) (hρ _ _ rfl) rfl sl43 sz48 (by omega) rfl (fun j u hj => nomatch hj) (fun u hu => nomatch hu) (show _ = (List.replicate n trk0).flatMap Trk.cells from by simp) hm) rfl rfl rfl (w_n rfl) ?_
  refine TL_q (.int .i64 0) (fun _ _ hρ _ => r_assign (hρ _ _ rfl)) rfl rfl rfl (w_n rfl) ?_
  refine TL_seq ?_
  refine T_seq ?_
  refine T_block ?_
  refine T_rounds 1 ?_
  refine TR_succ ?_
  refine T_seq ?_
  refine T_seq (T_region ?_)
  refine TL_q (.int .i64 0) (fun _ _ hρ _ => r_move (hρ _ _ rfl)) rfl rfl rfl (w_n rfl) ?_
  refine TL_q (.slice (some ⟨B1, 0, none⟩) n n) (fun _ _ hρ _ => r_move (hρ _ _ rfl)) rfl rfl rfl (w_n rfl) ?_
  refine TL_q (.int .i64 ((n : Nat) : Int)) (fun _ _ hρ _ => r_len sl43 (hρ _ _ rfl)) rfl rfl rfl (w_n rfl) ?_
  refine TL_q (.bool false) (fun _ _ hρ _ => r_as (r_lss (hρ _ _ rfl) (hρ _ _ rfl)) (bool_as (decide_eq_false (by omega)))) rfl rfl rfl (w_n rfl) ?_
  refine TL_seq ?_
  refine T_sub [(4, .slice none 0 0), (7, .slice (some ⟨B1, 0, none⟩) n n), (8, .int .i64 0), (34, .int .i64 0), (35, .slice (some ⟨B1, 0, none⟩) n n), (36, .int .i64 ((n : Nat) : Int)), (37, .bool false)] [(940, .row (.slice (some ⟨B1, 0, none⟩) n n) 48 4 n ((List.replicate n trk0).flatMap Trk.cells))] (sub_cons rfl (sub_cons rfl (sub_cons rfl (sub_cons rfl (sub_cons rfl (sub_cons rfl (sub_cons rfl sub_nil))))))) (sub_cons rfl sub_nil) ?_
  refine T_cond_f rfl ?_
  refine T_exit' ?_
  refine p_then_x ?_
  refine p_then_x ?_
  refine p_blk_x ?_
  refine p_seq ?_
  refine T_seq (T_region ?_)
  refine TL_q (.slice (some ⟨B1, 0, none⟩) n n) (fun _ _ hρ _ => r_move (hρ _ _ rfl)) rfl rfl rfl (w_n rfl) ?_
  refine TL_q (.slice (some ⟨B1, 0, none⟩) n n) (fun _ _ hρ _ => r_assign (hρ _ _ rfl)) rfl rfl rfl (w_n rfl) ?_
  refine TL_seq ?_
  refine T_ret' ?_
  refine ret_of rfl (.slice (some ⟨B1, 0, none⟩) n n) (fun tmps w hk hm => res1 rfl (res_tmp (hk 4 _ rfl))) (fun w hm => ?_)
  subst hn0
  exact ⟨some ⟨B1, 0, none⟩, 0, rfl, hm.ext, hm.row 940 rfl⟩

theorem rep_any (c : Trk) (n bx : Nat) (w : World) (hn : n ≤ 70) (hb : hp w bx = some (.cells (Trk.cells c).toArray 48)) : Calls Try.prog 67 #[.slice (some ⟨bx, 0, none⟩) 1 1, .int .i64 (n : Int)] w fun e w' => ∃ a' cap', e = .returned (.slice a' (List.replicate n c).length cap') ∧ Below w.heap.size w w' ∧ w'.ownsRow w.heap.size 48 4 (.slice a' (List.replicate n c).length cap') (List.replicate n c).length ((List.replicate n c).flatMap Trk.cells) := by
  by_cases h : n = 0
  · exact rep_t0 c n bx w h hb
  · exact rep_t c n bx w (by omega) hn hb
end Go.Proofs.Ytcidgbjgeegepaa
/- net and journal: Empty. Printed by a program of this seat's prover. -/
namespace Go.Proofs.Ytcidgbjgeegepaa
open Go Go.RowKit
set_option maxRecDepth 10000
theorem newOk3 {w w' : World} {r s t : Res} (i j k : Nat) (h : r.ok w.heap.size w') (h2 : s.ok w.heap.size w') (h3 : t.ok w.heap.size w') (s1 : ∀ b, r.foot b → ¬ s.foot b) (s2 : ∀ b, r.foot b → ¬ t.foot b) (s3 : ∀ b, s.foot b → ¬ t.foot b) : NewOk w w' [(i, r), (j, s), (k, t)] := by
  have key : ∀ x q, lk [(i, r), (j, s), (k, t)] x = some q → (x = i ∧ q = r) ∨ (x ≠ i ∧ x = j ∧ q = s) ∨ (x ≠ i ∧ x ≠ j ∧ x = k ∧ q = t) := fun x q hx => by
    by_cases e1 : i = x
    · subst e1; rw [lk_cons_same] at hx; cases hx; exact .inl ⟨rfl, rfl⟩
    · rw [lk_cons_other _ _ e1] at hx
      by_cases e2 : j = x
      · subst e2; rw [lk_cons_same] at hx; cases hx; exact .inr (.inl ⟨Ne.symm e1, rfl, rfl⟩)
      · rw [lk_cons_other _ _ e2] at hx
        by_cases e3 : k = x
        · subst e3; rw [lk_cons_same] at hx; cases hx; exact .inr (.inr ⟨Ne.symm e1, Ne.symm e2, rfl, rfl⟩)
        · rw [lk_cons_other _ _ e3] at hx; cases hx
  refine ⟨fun x q hx => ?_, fun x y q q2 hx hy hne b hb hb2 => ?_⟩
  · rcases key x q hx with ⟨_, rfl⟩ | ⟨_, _, rfl⟩ | ⟨_, _, _, rfl⟩
    · exact h
    · exact h2
    · exact h3
  · rcases key x q hx with ⟨rfl, rfl⟩ | ⟨_, rfl, rfl⟩ | ⟨_, _, rfl, rfl⟩ <;> rcases key y q2 hy with ⟨rfl, rfl⟩ | ⟨_, rfl, rfl⟩ | ⟨_, _, rfl, rfl⟩
    · exact hne rfl
    · exact s1 b hb hb2
    · exact s2 b hb hb2
    · exact s1 b hb2 hb
    · exact hne rfl
    · exact s3 b hb hb2
    · exact s2 b hb2 hb
    · exact s3 b hb2 hb
    · exact hne rfl
theorem doV_first (p : PV) (l : List PV) (lost : Int) : doV (p :: l, lost) ⟨1, 0, 0, 0#32⟩ = (0, (l, lost), [p]) := rfl
theorem empty_acc (l : List PV) (lost : Int) : ∀ acc : List PV, (List.replicate l.length (⟨1, 0, 0, 0#32⟩ : Trk)).foldl (fun (s : NV × List PV × Int) t => ((doV s.1 t).2.1, s.2.1 ++ (doV s.1 t).2.2, if (doV s.1 t).1 = 0 then s.2.2 else s.2.2 + 1)) ((l, lost), acc, 0) = (([], lost), acc ++ l, 0) := by
  induction l with
  | nil => intro acc; simp
  | cons p l ih =>
    intro acc
    rw [List.length_cons, List.replicate_succ, List.foldl_cons]
    dsimp only
    rw [doV_first]
    dsimp only
    rw [if_pos rfl, ih, List.append_assoc]; rfl
theorem empty_run (ps : List Pcl) (lost : Int) : runV (pvs ps, lost) (List.replicate ps.length (⟨1, 0, 0, 0#32⟩ : Trk)) = (([], lost), pvs ps, 0) := by
  have := empty_acc (pvs ps) lost []
  rw [pvs_len] at this
  exact this
/-- What an emptied net has come to. -/
structure Emptied (ps : List Pcl) (lost : Int) (x : Hd × List (RowG By)) : Prop where
  nv : x.1.nv = ([], lost)
  told : pvs x.1.t.l = pvs ps
  ok : HdOk x.1 x.2

theorem empty_ok (ps : List Pcl) (a : Option Addr) (cap : Nat) (lost : Int) (w : World) (hv : SliceAt w a cap 3 Pcl.cells ps) (hcap : cap ≤ Go.maxLen) (hb : PcsAt w ps) (h0 : 0 ≤ lost) (hck : checkV (pvs ps) lost = true) : Calls Try.prog 15 #[.agg #[.slice a ps.length cap, .int .u64 lost]] w fun e w' => ∃ x : Hd × List (RowG By), Emptied ps lost x ∧ e = .returned (.tuple #[.agg #[.slice x.1.n.a x.1.n.l.length x.1.n.cap, .int .u64 x.1.lost], .slice x.1.t.a x.1.t.l.length x.1.t.cap, .int .i64 0]) ∧ Below w.heap.size w w' ∧ (rowP x.1.n).ok w.heap.size w' ∧ (rowP x.1.t).ok w.heap.size w' ∧ (Res.pool 5 1 byc x.2).ok w.heap.size w' ∧ (∀ b, (rowP x.1.n).foot b → ¬ (rowP x.1.t).foot b) ∧ (∀ b, (rowP x.1.n).foot b → ¬ (Res.pool 5 1 byc x.2).foot b) ∧ (∀ b, (rowP x.1.t).foot b → ¬ (Res.pool 5 1 byc x.2).foot b) := by
  have hvl := hv.1
  unfold Go.maxLen at hcap
  have hc := checkV_len hck
  have hcl := hc.1
  rw [pvs_len] at hcl
  refine calls_of_T (l := [.agg #[.slice a ps.length cap, .int .u64 lost]]) 25 Try.func15 rfl rfl rfl ?_
  show T _ _ _ [(0, .agg #[.slice a ps.length cap, .int .u64 lost])] []
  refine T_seq (T_region ?_)
  refine TL_new 1 (.cells #[.slice a ps.length cap, .int .u64 lost] 27) (fun B => .pointer (some ⟨B, 0, none⟩)) (fun _ _ hρ _ => r_box (hρ _ _ rfl) rfl) rfl rfl rfl (w_n rfl) ?_
  intro B1
  refine TL_new 2 (.cells #[.slice none 0 0, .int .u64 0] 27) (fun B => .pointer (some ⟨B, 0, none⟩)) (fun _ _ _ _ => r_alloc (v := .agg #[.slice none 0 0, .int .u64 0]) (by kernel_rfl) rfl) rfl rfl rfl (w_n rfl) ?_
  intro B2
  refine TL_q (.slice none 0 0) (fun _ _ hρ _ => r_assign (hρ _ _ rfl)) rfl rfl rfl (w_n rfl) ?_
  refine TL_q (.int .i64 0) (fun _ _ hρ _ => r_assign (hρ _ _ rfl)) rfl rfl rfl (w_n rfl) ?_
  refine TL_seq ?_
  refine T_join (ι := Nat × (Option Addr) × Nat × Hd × (List (RowG By)) × Int × Nat) (fun (z : Nat × (Option Addr) × Nat × Hd × (List (RowG By)) × Int × Nat) => match z with | (Bx2, ar3, cr3, h4, bs4, ov4, Bx13) => (RunIs (pvs ps, lost) (List.replicate ps.length (⟨1, 0, 0, 0#32⟩ : Trk)) (h4, bs4) ov4) ∧ True) (fun (z : Nat × (Option Addr) × Nat × Hd × (List (RowG By)) × Int × Nat) => match z with | (Bx2, ar3, cr3, h4, bs4, ov4, Bx13) => [(2, .pointer (some ⟨B2, 0, none⟩)), (3, .slice none 0 0), (4, .int .i64 0), (5, .pointer (some ⟨Bx13, 0, none⟩)), (6, .slice h4.t.a h4.t.l.length h4.t.cap), (8, .int .i64 0)]) (fun (z : Nat × (Option Addr) × Nat × Hd × (List (RowG By)) × Int × Nat) => match z with | (Bx2, ar3, cr3, h4, bs4, ov4, Bx13) => [(1, .blk B1 (.cells #[.slice a ps.length cap, .int .u64 lost] 27)), (2, .blk B2 (.cells #[.slice none 0 0, .int .u64 0] 27)), (3, .blk Bx2 (.cells #[.int .i64 1, .int .i64 0, .int .i64 0, .int .u32 0] 48)), (4, .row (.slice ar3 ((List.replicate ps.length (⟨1, 0, 0, 0#32⟩ : Trk)).length) cr3) 48 4 ((List.replicate ps.length (⟨1, 0, 0, 0#32⟩ : Trk)).length) ((List.replicate ps.length (⟨1, 0, 0, 0#32⟩ : Trk)).flatMap Trk.cells)), (5, .blk Bx13 (.cells #[.slice h4.n.a h4.n.l.length h4.n.cap, .int .u64 h4.lost] 27)), (951, .row (.slice h4.n.a h4.n.l.length h4.n.cap) 36 3 h4.n.l.length (h4.n.l.flatMap Pcl.cells)), (952, .row (.slice h4.t.a h4.t.l.length h4.t.cap) 36 3 h4.t.l.length (h4.t.l.flatMap Pcl.cells)), (953, .pool 5 1 byc bs4)]) (T_draw (V := [(0, .agg #[.slice a ps.length cap, .int .u64 lost]), (1, .agg #[.int .i64 1, .int .i64 0, .int .i64 0, .int .u32 0]), (3, .pointer (some ⟨B1, 0, none⟩)), (4, .slice a ps.length cap), (5, .int .i64 ((ps.length : Nat) : Int))]) [0, 0, 2, 0, 8, 24, 62, 127, 255, 511, 511, 511, 511, 0, 9215, 26623, 61439, 131071] [[(1, none)], [], [(11, some 1)], [(1, none)], [(13, some 3)], [(14, some 4)], [(12, some 2), (15, some 5)], [(10, some 0), (16, some 6)], [(17, some 7)], [(9, some 8)], [(9, some 8)], [(9, some 8)], [(9, some 8)], [], [(5, some 13), (18, some 9)], [(19, some 10)], [(20, some 11)], [(21, some 12)]] 24772 mixed (by kernel_rfl) ?_) (fun z hz => ?_)
  · skip
    refine G_step [0, 1, 3, 4, 5] 2 [13] (by kernel_rfl) (allM (all_cons (q_run (.agg #[.slice a ps.length cap, .int .u64 lost]) rfl rfl (wv_n rfl) rfl (fun _ _ hρ hm => r_loadA ag27 sz27 (hρ _ _ rfl) (hm.at 1 rfl) rfl rfl)) (all_cons (q_run (.agg #[.int .i64 1, .int .i64 0, .int .i64 0, .int .u32 0]) rfl rfl (wv_n rfl) rfl (fun _ _ hρ _ => r_build (vs := [(0, .int .i64 1)]) (by kernel_rfl) (cons2 (pair2 (hρ _ _ rfl)) rfl))) (all_cons (q_run (.pointer (some ⟨B1, 0, none⟩)) rfl rfl (wv_n rfl) rfl (fun _ _ hρ _ => r_fieldAddr fl27_0 sz22 (hρ _ _ rfl))) (all_cons (q_run (.slice a ps.length cap) rfl rfl (wv_n rfl) rfl (fun _ _ hρ hm => r_load ag22 (hρ _ _ rfl) (hm.at 1 rfl) rfl)) (all_cons (q_run (.int .i64 ((ps.length : Nat) : Int)) rfl rfl (wv_n rfl) rfl (fun _ _ hρ _ => r_len sl22 (hρ _ _ rfl))) all_nil)))))) (allM (all_cons ?_ (all_cons ?_ all_nil)))
    · skip
      refine LOb_new 3 (.cells #[.int .i64 1, .int .i64 0, .int .i64 0, .int .u32 0] 48) (fun B => .slice (some ⟨B, 0, none⟩) 1 1) (fun B => []) rfl (wv_n rfl) rfl rfl (fun _ _ hρ _ => r_buildSlice (vs := [(0, .agg #[.int .i64 1, .int .i64 0, .int .i64 0, .int .u32 0])]) (by kernel_rfl) (cons2 (pair2 (hρ _ _ rfl)) rfl)) (fun B => by kernel_rfl) ?_
      intro B5
      refine G_step [0, 3, 4, 5] 6 [13] (by kernel_rfl) (allM (all_cons (q_run (.agg #[.slice a ps.length cap, .int .u64 lost]) rfl rfl (wv_n rfl) rfl (fun _ _ hρ hm => r_loadA ag27 sz27 (hρ _ _ rfl) (hm.at 1 rfl) rfl rfl)) (all_cons (q_run (.pointer (some ⟨B1, 0, none⟩)) rfl rfl (wv_n rfl) rfl (fun _ _ hρ _ => r_fieldAddr fl27_0 sz22 (hρ _ _ rfl))) (all_cons (q_run (.slice a ps.length cap) rfl rfl (wv_n rfl) rfl (fun _ _ hρ hm => r_load ag22 (hρ _ _ rfl) (hm.at 1 rfl) rfl)) (all_cons (q_run (.int .i64 ((ps.length : Nat) : Int)) rfl rfl (wv_n rfl) rfl (fun _ _ hρ _ => r_len sl22 (hρ _ _ rfl))) all_nil))))) (allM (all_cons ?_ (all_cons ?_ all_nil)))
      · skip
        refine LOb_callN (fun (_ : Option Addr × Nat) => True) (fun (ar6, cr6) => .slice ar6 ((List.replicate ps.length (⟨1, 0, 0, 0#32⟩ : Trk)).length) cr6) (fun (ar6, cr6) => [(4, .row (.slice ar6 ((List.replicate ps.length (⟨1, 0, 0, 0#32⟩ : Trk)).length) cr6) 48 4 ((List.replicate ps.length (⟨1, 0, 0, 0#32⟩ : Trk)).length) ((List.replicate ps.length (⟨1, 0, 0, 0#32⟩ : Trk)).flatMap Trk.cells))]) (fun (ar6, cr6) => []) rfl (wv_n rfl) rfl rfl (fun _ _ hρ _ => r_call (args := [.slice (some ⟨B5, 0, none⟩) 1 1, .int .i64 ((ps.length : Nat) : Int)]) (enters_of Try.func67 (by kernel_rfl) rfl) (hρ _ _ rfl) ((cons2 (hρ _ _ rfl) (cons2 (hρ _ _ rfl) rfl))) rfl) (fun w hm => (rep_any (⟨1, 0, 0, 0#32⟩ : Trk) ps.length B5 w (by omega) (hm.at 3 rfl)).mono fun e w' ⟨a', cap', he, hb, hr⟩ => ⟨(a', cap'), trivial, he, hb, newOk1 4 hr⟩) (fun (ar6, cr6) => by kernel_rfl) ?_
        rintro ⟨ar6, cr6⟩ -
        refine G_step [0] 7 [13] (by kernel_rfl) (allM (all_cons (q_run (.agg #[.slice a ps.length cap, .int .u64 lost]) rfl rfl (wv_n rfl) rfl (fun _ _ hρ hm => r_loadA ag27 sz27 (hρ _ _ rfl) (hm.at 1 rfl) rfl rfl)) all_nil)) (allM (all_cons ?_ (all_cons ?_ all_nil)))
        · skip
          refine LOb_callN (fun x : Hd × List (RowG By) × Int => RunIs (pvs ps, lost) (List.replicate ps.length (⟨1, 0, 0, 0#32⟩ : Trk)) (x.1, x.2.1) x.2.2) (fun (h7, bs7, ov7) => .tuple #[.agg #[.slice h7.n.a h7.n.l.length h7.n.cap, .int .u64 h7.lost], .slice h7.t.a h7.t.l.length h7.t.cap, .int .i64 ov7, .int .i64 0]) (fun (h7, bs7, ov7) => [(951, .row (.slice h7.n.a h7.n.l.length h7.n.cap) 36 3 h7.n.l.length (h7.n.l.flatMap Pcl.cells)), (952, .row (.slice h7.t.a h7.t.l.length h7.t.cap) 36 3 h7.t.l.length (h7.t.l.flatMap Pcl.cells)), (953, .pool 5 1 byc bs7)]) (fun (h7, bs7, ov7) => [(8, .tuple #[.agg #[.slice h7.n.a h7.n.l.length h7.n.cap, .int .u64 h7.lost], .slice h7.t.a h7.t.l.length h7.t.cap, .int .i64 ov7, .int .i64 0]), (9, .agg #[.slice h7.n.a h7.n.l.length h7.n.cap, .int .u64 h7.lost]), (10, .slice h7.t.a h7.t.l.length h7.t.cap), (11, .int .i64 ov7), (12, .int .i64 0)]) rfl (wv_n rfl) rfl rfl (fun _ _ hρ _ => r_call (args := [.agg #[.slice a ps.length cap, .int .u64 lost], .slice ar6 ((List.replicate ps.length (⟨1, 0, 0, 0#32⟩ : Trk)).length) cr6]) (enters_of Try.func28 (by kernel_rfl) rfl) (hρ _ _ rfl) ((cons2 (hρ _ _ rfl) (cons2 (hρ _ _ rfl) rfl))) rfl) (fun w hm => (run_ok ps a cap lost (List.replicate ps.length (⟨1, 0, 0, 0#32⟩ : Trk)) ar6 cr6 w (hv.keep hm.ext) hcap (hb.keep hm.ext) (SliceAt.own Trk.cells_len (hm.row 4 rfl) rfl rfl) (row_cap (hm.row 4 rfl)) (by rw [List.length_replicate]; omega) h0 hck).mono fun e w' ⟨⟨h, bs⟩, ov, hx, he, hb, r1, r2, r3, s1, s2, s3⟩ => ⟨(h, bs, ov), hx, he, hb, newOk3 951 952 953 r1 r2 r3 s1 s2 s3⟩) (fun (h7, bs7, ov7) => by kernel_rfl) ?_
          rintro ⟨h7, bs7, ov7⟩ hr7
          refine G_step [8, 9, 10, 11, 12] 13 [] (by kernel_rfl) (allM (all_cons (q_run (.tuple #[.agg #[.slice h7.n.a h7.n.l.length h7.n.cap, .int .u64 h7.lost], .slice h7.t.a h7.t.l.length h7.t.cap, .int .i64 ov7, .int .i64 0]) rfl rfl (wv_n rfl) rfl (fun _ _ hρ _ => r_move (hρ _ _ rfl))) (all_cons (q_run (.agg #[.slice h7.n.a h7.n.l.length h7.n.cap, .int .u64 h7.lost]) rfl rfl (wv_n rfl) rfl (fun _ _ hρ _ => r_extract (hρ _ _ rfl) rfl)) (all_cons (q_run (.slice h7.t.a h7.t.l.length h7.t.cap) rfl rfl (wv_n rfl) rfl (fun _ _ hρ _ => r_extract (hρ _ _ rfl) rfl)) (all_cons (q_run (.int .i64 ov7) rfl rfl (wv_n rfl) rfl (fun _ _ hρ _ => r_extract (hρ _ _ rfl) rfl)) (all_cons (q_run (.int .i64 0) rfl rfl (wv_n rfl) rfl (fun _ _ hρ _ => r_extract (hρ _ _ rfl) rfl)) all_nil)))))) (allM (all_cons ?_ all_nil))
          refine LOb_new 5 (.cells #[.slice none 0 0, .int .u64 0] 27) (fun B => .pointer (some ⟨B, 0, none⟩)) (fun B => []) rfl (wv_n rfl) rfl rfl (fun _ _ _ _ => r_alloc (v := .agg #[.slice none 0 0, .int .u64 0]) (by kernel_rfl) rfl) (fun B => by kernel_rfl) ?_
          intro B8
          refine G_step [8, 9, 10, 11, 12] 14 [] (by kernel_rfl) (allM (all_cons (q_run (.tuple #[.agg #[.slice h7.n.a h7.n.l.length h7.n.cap, .int .u64 h7.lost], .slice h7.t.a h7.t.l.length h7.t.cap, .int .i64 ov7, .int .i64 0]) rfl rfl (wv_n rfl) rfl (fun _ _ hρ _ => r_move (hρ _ _ rfl))) (all_cons (q_run (.agg #[.slice h7.n.a h7.n.l.length h7.n.cap, .int .u64 h7.lost]) rfl rfl (wv_n rfl) rfl (fun _ _ hρ _ => r_extract (hρ _ _ rfl) rfl)) (all_cons (q_run (.slice h7.t.a h7.t.l.length h7.t.cap) rfl rfl (wv_n rfl) rfl (fun _ _ hρ _ => r_extract (hρ _ _ rfl) rfl)) (all_cons (q_run (.int .i64 ov7) rfl rfl (wv_n rfl) rfl (fun _ _ hρ _ => r_extract (hρ _ _ rfl) rfl)) (all_cons (q_run (.int .i64 0) rfl rfl (wv_n rfl) rfl (fun _ _ hρ _ => r_extract (hρ _ _ rfl) rfl)) all_nil)))))) (allM (all_cons ?_ all_nil))
          refine LOb_store 5 (.cells #[.slice h7.n.a h7.n.l.length h7.n.cap, .int .u64 h7.lost] 27) [(15, .slice h7.t.a h7.t.l.length h7.t.cap), (16, .int .i64 ov7), (17, .int .i64 0)] rfl (wv_n rfl) rfl rfl rfl (fun _ _ hρ hm => r_store sz27 (hρ _ _ rfl) (hρ _ _ rfl) (hm.at 5 rfl) rfl rfl rfl rfl) (by kernel_rfl) ?_
          exact G_lastQ [10, 11, 12, 15, 16, 17] [(2, .pointer (some ⟨B2, 0, none⟩)), (3, .slice none 0 0), (4, .int .i64 0), (5, .pointer (some ⟨B8, 0, none⟩)), (6, .slice h7.t.a h7.t.l.length h7.t.cap), (8, .int .i64 0)] (by kernel_rfl) (allM (all_cons (q_run (.slice h7.t.a h7.t.l.length h7.t.cap) rfl rfl (wv_n rfl) rfl (fun _ _ hρ _ => r_extract (hρ _ _ rfl) rfl)) (all_cons (q_run (.int .i64 ov7) rfl rfl (wv_n rfl) rfl (fun _ _ hρ _ => r_extract (hρ _ _ rfl) rfl)) (all_cons (q_run (.int .i64 0) rfl rfl (wv_n rfl) rfl (fun _ _ hρ _ => r_extract (hρ _ _ rfl) rfl)) (all_cons (q_run (.slice h7.t.a h7.t.l.length h7.t.cap) rfl rfl (wv_n rfl) rfl (fun _ _ hρ _ => r_assign (hρ _ _ rfl))) (all_cons (q_run (.int .i64 ov7) rfl rfl (wv_n rfl) rfl (fun _ _ hρ _ => r_assign (hρ _ _ rfl))) (all_cons (q_run (.int .i64 0) rfl rfl (wv_n rfl) rfl (fun _ _ hρ _ => r_assign (hρ _ _ rfl))) all_nil))))))) (end_old rfl rfl (end_old rfl rfl (end_old rfl rfl (end_new 13 rfl rfl (end_new 15 rfl rfl (end_new 17 rfl rfl end_nil)))))) (fun a w hf hm => At_intro (B5, ar6, cr6, h7, bs7, ov7, B8) ⟨hr7, trivial⟩ hf hm (sub_cons rfl (sub_cons rfl (sub_cons rfl (sub_cons rfl (sub_cons rfl (sub_cons rfl sub_nil)))))) (sub_cons rfl (sub_cons rfl (sub_cons rfl (sub_cons rfl (sub_cons rfl (sub_cons rfl (sub_cons rfl (sub_cons rfl sub_nil)))))))))
        · skip
          refine LOb_new 5 (.cells #[.slice none 0 0, .int .u64 0] 27) (fun B => .pointer (some ⟨B, 0, none⟩)) (fun B => []) rfl (wv_n rfl) rfl rfl (fun _ _ _ _ => r_alloc (v := .agg #[.slice none 0 0, .int .u64 0]) (by kernel_rfl) rfl) (fun B => by kernel_rfl) ?_
          intro B9
          refine G_step [0] 7 [] (by kernel_rfl) (allM (all_cons (q_run (.agg #[.slice a ps.length cap, .int .u64 lost]) rfl rfl (wv_n rfl) rfl (fun _ _ hρ hm => r_loadA ag27 sz27 (hρ _ _ rfl) (hm.at 1 rfl) rfl rfl)) all_nil)) (allM (all_cons ?_ all_nil))
          refine LOb_callN (fun x : Hd × List (RowG By) × Int => RunIs (pvs ps, lost) (List.replicate ps.length (⟨1, 0, 0, 0#32⟩ : Trk)) (x.1, x.2.1) x.2.2) (fun (h10, bs10, ov10) => .tuple #[.agg #[.slice h10.n.a h10.n.l.length h10.n.cap, .int .u64 h10.lost], .slice h10.t.a h10.t.l.length h10.t.cap, .int .i64 ov10, .int .i64 0]) (fun (h10, bs10, ov10) => [(951, .row (.slice h10.n.a h10.n.l.length h10.n.cap) 36 3 h10.n.l.length (h10.n.l.flatMap Pcl.cells)), (952, .row (.slice h10.t.a h10.t.l.length h10.t.cap) 36 3 h10.t.l.length (h10.t.l.flatMap Pcl.cells)), (953, .pool 5 1 byc bs10)]) (fun (h10, bs10, ov10) => [(8, .tuple #[.agg #[.slice h10.n.a h10.n.l.length h10.n.cap, .int .u64 h10.lost], .slice h10.t.a h10.t.l.length h10.t.cap, .int .i64 ov10, .int .i64 0]), (9, .agg #[.slice h10.n.a h10.n.l.length h10.n.cap, .int .u64 h10.lost]), (10, .slice h10.t.a h10.t.l.length h10.t.cap), (11, .int .i64 ov10), (12, .int .i64 0)]) rfl (wv_n rfl) rfl rfl (fun _ _ hρ _ => r_call (args := [.agg #[.slice a ps.length cap, .int .u64 lost], .slice ar6 ((List.replicate ps.length (⟨1, 0, 0, 0#32⟩ : Trk)).length) cr6]) (enters_of Try.func28 (by kernel_rfl) rfl) (hρ _ _ rfl) ((cons2 (hρ _ _ rfl) (cons2 (hρ _ _ rfl) rfl))) rfl) (fun w hm => (run_ok ps a cap lost (List.replicate ps.length (⟨1, 0, 0, 0#32⟩ : Trk)) ar6 cr6 w (hv.keep hm.ext) hcap (hb.keep hm.ext) (SliceAt.own Trk.cells_len (hm.row 4 rfl) rfl rfl) (row_cap (hm.row 4 rfl)) (by rw [List.length_replicate]; omega) h0 hck).mono fun e w' ⟨⟨h, bs⟩, ov, hx, he, hb, r1, r2, r3, s1, s2, s3⟩ => ⟨(h, bs, ov), hx, he, hb, newOk3 951 952 953 r1 r2 r3 s1 s2 s3⟩) (fun (h10, bs10, ov10) => by kernel_rfl) ?_
          rintro ⟨h10, bs10, ov10⟩ hr10
          refine G_step [8, 9, 10, 11, 12] 14 [] (by kernel_rfl) (allM (all_cons (q_run (.tuple #[.agg #[.slice h10.n.a h10.n.l.length h10.n.cap, .int .u64 h10.lost], .slice h10.t.a h10.t.l.length h10.t.cap, .int .i64 ov10, .int .i64 0]) rfl rfl (wv_n rfl) rfl (fun _ _ hρ _ => r_move (hρ _ _ rfl))) (all_cons (q_run (.agg #[.slice h10.n.a h10.n.l.length h10.n.cap, .int .u64 h10.lost]) rfl rfl (wv_n rfl) rfl (fun _ _ hρ _ => r_extract (hρ _ _ rfl) rfl)) (all_cons (q_run (.slice h10.t.a h10.t.l.length h10.t.cap) rfl rfl (wv_n rfl) rfl (fun _ _ hρ _ => r_extract (hρ _ _ rfl) rfl)) (all_cons (q_run (.int .i64 ov10) rfl rfl (wv_n rfl) rfl (fun _ _ hρ _ => r_extract (hρ _ _ rfl) rfl)) (all_cons (q_run (.int .i64 0) rfl rfl (wv_n rfl) rfl (fun _ _ hρ _ => r_extract (hρ _ _ rfl) rfl)) all_nil)))))) (allM (all_cons ?_ all_nil))
          refine LOb_store 5 (.cells #[.slice h10.n.a h10.n.l.length h10.n.cap, .int .u64 h10.lost] 27) [(15, .slice h10.t.a h10.t.l.length h10.t.cap), (16, .int .i64 ov10), (17, .int .i64 0)] rfl (wv_n rfl) rfl rfl rfl (fun _ _ hρ hm => r_store sz27 (hρ _ _ rfl) (hρ _ _ rfl) (hm.at 5 rfl) rfl rfl rfl rfl) (by kernel_rfl) ?_
          exact G_lastQ [10, 11, 12, 15, 16, 17] [(2, .pointer (some ⟨B2, 0, none⟩)), (3, .slice none 0 0), (4, .int .i64 0), (5, .pointer (some ⟨B9, 0, none⟩)), (6, .slice h10.t.a h10.t.l.length h10.t.cap), (8, .int .i64 0)] (by kernel_rfl) (allM (all_cons (q_run (.slice h10.t.a h10.t.l.length h10.t.cap) rfl rfl (wv_n rfl) rfl (fun _ _ hρ _ => r_extract (hρ _ _ rfl) rfl)) (all_cons (q_run (.int .i64 ov10) rfl rfl (wv_n rfl) rfl (fun _ _ hρ _ => r_extract (hρ _ _ rfl) rfl)) (all_cons (q_run (.int .i64 0) rfl rfl (wv_n rfl) rfl (fun _ _ hρ _ => r_extract (hρ _ _ rfl) rfl)) (all_cons (q_run (.slice h10.t.a h10.t.l.length h10.t.cap) rfl rfl (wv_n rfl) rfl (fun _ _ hρ _ => r_assign (hρ _ _ rfl))) (all_cons (q_run (.int .i64 ov10) rfl rfl (wv_n rfl) rfl (fun _ _ hρ _ => r_assign (hρ _ _ rfl))) (all_cons (q_run (.int .i64 0) rfl rfl (wv_n rfl) rfl (fun _ _ hρ _ => r_assign (hρ _ _ rfl))) all_nil))))))) (end_old rfl rfl (end_old rfl rfl (end_old rfl rfl (end_new 13 rfl rfl (end_new 15 rfl rfl (end_new 17 rfl rfl end_nil)))))) (fun a w hf hm => At_intro (B5, ar6, cr6, h10, bs10, ov10, B9) ⟨hr10, trivial⟩ hf hm (sub_cons rfl (sub_cons rfl (sub_cons rfl (sub_cons rfl (sub_cons rfl (sub_cons rfl sub_nil)))))) (sub_cons rfl (sub_cons rfl (sub_cons rfl (sub_cons rfl (sub_cons rfl (sub_cons rfl (sub_cons rfl (sub_cons rfl sub_nil)))))))))
      · skip
        refine LOb_new 5 (.cells #[.slice none 0 0, .int .u64 0] 27) (fun B => .pointer (some ⟨B, 0, none⟩)) (fun B => []) rfl (wv_n rfl) rfl rfl (fun _ _ _ _ => r_alloc (v := .agg #[.slice none 0 0, .int .u64 0]) (by kernel_rfl) rfl) (fun B => by kernel_rfl) ?_
        intro B11
        refine G_step [0, 3, 4, 5] 6 [] (by kernel_rfl) (allM (all_cons (q_run (.agg #[.slice a ps.length cap, .int .u64 lost]) rfl rfl (wv_n rfl) rfl (fun _ _ hρ hm => r_loadA ag27 sz27 (hρ _ _ rfl) (hm.at 1 rfl) rfl rfl)) (all_cons (q_run (.pointer (some ⟨B1, 0, none⟩)) rfl rfl (wv_n rfl) rfl (fun _ _ hρ _ => r_fieldAddr fl27_0 sz22 (hρ _ _ rfl))) (all_cons (q_run (.slice a ps.length cap) rfl rfl (wv_n rfl) rfl (fun _ _ hρ hm => r_load ag22 (hρ _ _ rfl) (hm.at 1 rfl) rfl)) (all_cons (q_run (.int .i64 ((ps.length : Nat) : Int)) rfl rfl (wv_n rfl) rfl (fun _ _ hρ _ => r_len sl22 (hρ _ _ rfl))) all_nil))))) (allM (all_cons ?_ all_nil))
        refine LOb_callN (fun (_ : Option Addr × Nat) => True) (fun (ar12, cr12) => .slice ar12 ((List.replicate ps.length (⟨1, 0, 0, 0#32⟩ : Trk)).length) cr12) (fun (ar12, cr12) => [(4, .row (.slice ar12 ((List.replicate ps.length (⟨1, 0, 0, 0#32⟩ : Trk)).length) cr12) 48 4 ((List.replicate ps.length (⟨1, 0, 0, 0#32⟩ : Trk)).length) ((List.replicate ps.length (⟨1, 0, 0, 0#32⟩ : Trk)).flatMap Trk.cells))]) (fun (ar12, cr12) => []) rfl (wv_n rfl) rfl rfl (fun _ _ hρ _ => r_call (args := [.slice (some ⟨B5, 0, none⟩) 1 1, .int .i64 ((ps.length : Nat) : Int)]) (enters_of Try.func67 (by kernel_rfl) rfl) (hρ _ _ rfl) ((cons2 (hρ _ _ rfl) (cons2 (hρ _ _ rfl) rfl))) rfl) (fun w hm => (rep_any (⟨1, 0, 0, 0#32⟩ : Trk) ps.length B5 w (by omega) (hm.at 3 rfl)).mono fun e w' ⟨a', cap', he, hb, hr⟩ => ⟨(a', cap'), trivial, he, hb, newOk1 4 hr⟩) (fun (ar12, cr12) => by kernel_rfl) ?_
        rintro ⟨ar12, cr12⟩ -
        refine G_step [0] 7 [] (by kernel_rfl) (allM (all_cons (q_run (.agg #[.slice a ps.length cap, .int .u64 lost]) rfl rfl (wv_n rfl) rfl (fun _ _ hρ hm => r_loadA ag27 sz27 (hρ _ _ rfl) (hm.at 1 rfl) rfl rfl)) all_nil)) (allM (all_cons ?_ all_nil))
        refine LOb_callN (fun x : Hd × List (RowG By) × Int => RunIs (pvs ps, lost) (List.replicate ps.length (⟨1, 0, 0, 0#32⟩ : Trk)) (x.1, x.2.1) x.2.2) (fun (h13, bs13, ov13) => .tuple #[.agg #[.slice h13.n.a h13.n.l.length h13.n.cap, .int .u64 h13.lost], .slice h13.t.a h13.t.l.length h13.t.cap, .int .i64 ov13, .int .i64 0]) (fun (h13, bs13, ov13) => [(951, .row (.slice h13.n.a h13.n.l.length h13.n.cap) 36 3 h13.n.l.length (h13.n.l.flatMap Pcl.cells)), (952, .row (.slice h13.t.a h13.t.l.length h13.t.cap) 36 3 h13.t.l.length (h13.t.l.flatMap Pcl.cells)), (953, .pool 5 1 byc bs13)]) (fun (h13, bs13, ov13) => [(8, .tuple #[.agg #[.slice h13.n.a h13.n.l.length h13.n.cap, .int .u64 h13.lost], .slice h13.t.a h13.t.l.length h13.t.cap, .int .i64 ov13, .int .i64 0]), (9, .agg #[.slice h13.n.a h13.n.l.length h13.n.cap, .int .u64 h13.lost]), (10, .slice h13.t.a h13.t.l.length h13.t.cap), (11, .int .i64 ov13), (12, .int .i64 0)]) rfl (wv_n rfl) rfl rfl (fun _ _ hρ _ => r_call (args := [.agg #[.slice a ps.length cap, .int .u64 lost], .slice ar12 ((List.replicate ps.length (⟨1, 0, 0, 0#32⟩ : Trk)).length) cr12]) (enters_of Try.func28 (by kernel_rfl) rfl) (hρ _ _ rfl) ((cons2 (hρ _ _ rfl) (cons2 (hρ _ _ rfl) rfl))) rfl) (fun w hm => (run_ok ps a cap lost (List.replicate ps.length (⟨1, 0, 0, 0#32⟩ : Trk)) ar12 cr12 w (hv.keep hm.ext) hcap (hb.keep hm.ext) (SliceAt.own Trk.cells_len (hm.row 4 rfl) rfl rfl) (row_cap (hm.row 4 rfl)) (by rw [List.length_replicate]; omega) h0 hck).mono fun e w' ⟨⟨h, bs⟩, ov, hx, he, hb, r1, r2, r3, s1, s2, s3⟩ => ⟨(h, bs, ov), hx, he, hb, newOk3 951 952 953 r1 r2 r3 s1 s2 s3⟩) (fun (h13, bs13, ov13) => by kernel_rfl) ?_
        rintro ⟨h13, bs13, ov13⟩ hr13
        refine G_step [8, 9, 10, 11, 12] 14 [] (by kernel_rfl) (allM (all_cons (q_run (.tuple #[.agg #[.slice h13.n.a h13.n.l.length h13.n.cap, .int .u64 h13.lost], .slice h13.t.a h13.t.l.length h13.t.cap, .int .i64 ov13, .int .i64 0]) rfl rfl (wv_n rfl) rfl (fun _ _ hρ _ => r_move (hρ _ _ rfl))) (all_cons (q_run (.agg #[.slice h13.n.a h13.n.l.length h13.n.cap, .int .u64 h13.lost]) rfl rfl (wv_n rfl) rfl (fun _ _ hρ _ => r_extract (hρ _ _ rfl) rfl)) (all_cons (q_run (.slice h13.t.a h13.t.l.length h13.t.cap) rfl rfl (wv_n rfl) rfl (fun _ _ hρ _ => r_extract (hρ _ _ rfl) rfl)) (all_cons (q_run (.int .i64 ov13) rfl rfl (wv_n rfl) rfl (fun _ _ hρ _ => r_extract (hρ _ _ rfl) rfl)) (all_cons (q_run (.int .i64 0) rfl rfl (wv_n rfl) rfl (fun _ _ hρ _ => r_extract (hρ _ _ rfl) rfl)) all_nil)))))) (allM (all_cons ?_ all_nil))
        refine LOb_store 5 (.cells #[.slice h13.n.a h13.n.l.length h13.n.cap, .int .u64 h13.lost] 27) [(15, .slice h13.t.a h13.t.l.length h13.t.cap), (16, .int .i64 ov13), (17, .int .i64 0)] rfl (wv_n rfl) rfl rfl rfl (fun _ _ hρ hm => r_store sz27 (hρ _ _ rfl) (hρ _ _ rfl) (hm.at 5 rfl) rfl rfl rfl rfl) (by kernel_rfl) ?_
        exact G_lastQ [10, 11, 12, 15, 16, 17] [(2, .pointer (some ⟨B2, 0, none⟩)), (3, .slice none 0 0), (4, .int .i64 0), (5, .pointer (some ⟨B11, 0, none⟩)), (6, .slice h13.t.a h13.t.l.length h13.t.cap), (8, .int .i64 0)] (by kernel_rfl) (allM (all_cons (q_run (.slice h13.t.a h13.t.l.length h13.t.cap) rfl rfl (wv_n rfl) rfl (fun _ _ hρ _ => r_extract (hρ _ _ rfl) rfl)) (all_cons (q_run (.int .i64 ov13) rfl rfl (wv_n rfl) rfl (fun _ _ hρ _ => r_extract (hρ _ _ rfl) rfl)) (all_cons (q_run (.int .i64 0) rfl rfl (wv_n rfl) rfl (fun _ _ hρ _ => r_extract (hρ _ _ rfl) rfl)) (all_cons (q_run (.slice h13.t.a h13.t.l.length h13.t.cap) rfl rfl (wv_n rfl) rfl (fun _ _ hρ _ => r_assign (hρ _ _ rfl))) (all_cons (q_run (.int .i64 ov13) rfl rfl (wv_n rfl) rfl (fun _ _ hρ _ => r_assign (hρ _ _ rfl))) (all_cons (q_run (.int .i64 0) rfl rfl (wv_n rfl) rfl (fun _ _ hρ _ => r_assign (hρ _ _ rfl))) all_nil))))))) (end_old rfl rfl (end_old rfl rfl (end_old rfl rfl (end_new 13 rfl rfl (end_new 15 rfl rfl (end_new 17 rfl rfl end_nil)))))) (fun a w hf hm => At_intro (B5, ar12, cr12, h13, bs13, ov13, B11) ⟨hr13, trivial⟩ hf hm (sub_cons rfl (sub_cons rfl (sub_cons rfl (sub_cons rfl (sub_cons rfl (sub_cons rfl sub_nil)))))) (sub_cons rfl (sub_cons rfl (sub_cons rfl (sub_cons rfl (sub_cons rfl (sub_cons rfl (sub_cons rfl (sub_cons rfl sub_nil)))))))))
    · skip
      refine LOb_new 5 (.cells #[.slice none 0 0, .int .u64 0] 27) (fun B => .pointer (some ⟨B, 0, none⟩)) (fun B => []) rfl (wv_n rfl) rfl rfl (fun _ _ _ _ => r_alloc (v := .agg #[.slice none 0 0, .int .u64 0]) (by kernel_rfl) rfl) (fun B => by kernel_rfl) ?_
      intro B14
      refine G_step [0, 1, 3, 4, 5] 2 [] (by kernel_rfl) (allM (all_cons (q_run (.agg #[.slice a ps.length cap, .int .u64 lost]) rfl rfl (wv_n rfl) rfl (fun _ _ hρ hm => r_loadA ag27 sz27 (hρ _ _ rfl) (hm.at 1 rfl) rfl rfl)) (all_cons (q_run (.agg #[.int .i64 1, .int .i64 0, .int .i64 0, .int .u32 0]) rfl rfl (wv_n rfl) rfl (fun _ _ hρ _ => r_build (vs := [(0, .int .i64 1)]) (by kernel_rfl) (cons2 (pair2 (hρ _ _ rfl)) rfl))) (all_cons (q_run (.pointer (some ⟨B1, 0, none⟩)) rfl rfl (wv_n rfl) rfl (fun _ _ hρ _ => r_fieldAddr fl27_0 sz22 (hρ _ _ rfl))) (all_cons (q_run (.slice a ps.length cap) rfl rfl (wv_n rfl) rfl (fun _ _ hρ hm => r_load ag22 (hρ _ _ rfl) (hm.at 1 rfl) rfl)) (all_cons (q_run (.int .i64 ((ps.length : Nat) : Int)) rfl rfl (wv_n rfl) rfl (fun _ _ hρ _ => r_len sl22 (hρ _ _ rfl))) all_nil)))))) (allM (all_cons ?_ all_nil))
      refine LOb_new 3 (.cells #[.int .i64 1, .int .i64 0, .int .i64 0, .int .u32 0] 48) (fun B => .slice (some ⟨B, 0, none⟩) 1 1) (fun B => []) rfl (wv_n rfl) rfl rfl (fun _ _ hρ _ => r_buildSlice (vs := [(0, .agg #[.int .i64 1, .int .i64 0, .int .i64 0, .int .u32 0])]) (by kernel_rfl) (cons2 (pair2 (hρ _ _ rfl)) rfl)) (fun B => by kernel_rfl) ?_
      intro B15
      refine G_step [0, 3, 4, 5] 6 [] (by kernel_rfl) (allM (all_cons (q_run (.agg #[.slice a ps.length cap, .int .u64 lost]) rfl rfl (wv_n rfl) rfl (fun _ _ hρ hm => r_loadA ag27 sz27 (hρ _ _ rfl) (hm.at 1 rfl) rfl rfl)) (all_cons (q_run (.pointer (some ⟨B1, 0, none⟩)) rfl rfl (wv_n rfl) rfl (fun _ _ hρ _ => r_fieldAddr fl27_0 sz22 (hρ _ _ rfl))) (all_cons (q_run (.slice a ps.length cap) rfl rfl (wv_n rfl) rfl (fun _ _ hρ hm => r_load ag22 (hρ _ _ rfl) (hm.at 1 rfl) rfl)) (all_cons (q_run (.int .i64 ((ps.length : Nat) : Int)) rfl rfl (wv_n rfl) rfl (fun _ _ hρ _ => r_len sl22 (hρ _ _ rfl))) all_nil))))) (allM (all_cons ?_ all_nil))
      refine LOb_callN (fun (_ : Option Addr × Nat) => True) (fun (ar16, cr16) => .slice ar16 ((List.replicate ps.length (⟨1, 0, 0, 0#32⟩ : Trk)).length) cr16) (fun (ar16, cr16) => [(4, .row (.slice ar16 ((List.replicate ps.length (⟨1, 0, 0, 0#32⟩ : Trk)).length) cr16) 48 4 ((List.replicate ps.length (⟨1, 0, 0, 0#32⟩ : Trk)).length) ((List.replicate ps.length (⟨1, 0, 0, 0#32⟩ : Trk)).flatMap Trk.cells))]) (fun (ar16, cr16) => []) rfl (wv_n rfl) rfl rfl (fun _ _ hρ _ => r_call (args := [.slice (some ⟨B15, 0, none⟩) 1 1, .int .i64 ((ps.length : Nat) : Int)]) (enters_of Try.func67 (by kernel_rfl) rfl) (hρ _ _ rfl) ((cons2 (hρ _ _ rfl) (cons2 (hρ _ _ rfl) rfl))) rfl) (fun w hm => (rep_any (⟨1, 0, 0, 0#32⟩ : Trk) ps.length B15 w (by omega) (hm.at 3 rfl)).mono fun e w' ⟨a', cap', he, hb, hr⟩ => ⟨(a', cap'), trivial, he, hb, newOk1 4 hr⟩) (fun (ar16, cr16) => by kernel_rfl) ?_
      rintro ⟨ar16, cr16⟩ -
      refine G_step [0] 7 [] (by kernel_rfl) (allM (all_cons (q_run (.agg #[.slice a ps.length cap, .int .u64 lost]) rfl rfl (wv_n rfl) rfl (fun _ _ hρ hm => r_loadA ag27 sz27 (hρ _ _ rfl) (hm.at 1 rfl) rfl rfl)) all_nil)) (allM (all_cons ?_ all_nil))
      refine LOb_callN (fun x : Hd × List (RowG By) × Int => RunIs (pvs ps, lost) (List.replicate ps.length (⟨1, 0, 0, 0#32⟩ : Trk)) (x.1, x.2.1) x.2.2) (fun (h17, bs17, ov17) => .tuple #[.agg #[.slice h17.n.a h17.n.l.length h17.n.cap, .int .u64 h17.lost], .slice h17.t.a h17.t.l.length h17.t.cap, .int .i64 ov17, .int .i64 0]) (fun (h17, bs17, ov17) => [(951, .row (.slice h17.n.a h17.n.l.length h17.n.cap) 36 3 h17.n.l.length (h17.n.l.flatMap Pcl.cells)), (952, .row (.slice h17.t.a h17.t.l.length h17.t.cap) 36 3 h17.t.l.length (h17.t.l.flatMap Pcl.cells)), (953, .pool 5 1 byc bs17)]) (fun (h17, bs17, ov17) => [(8, .tuple #[.agg #[.slice h17.n.a h17.n.l.length h17.n.cap, .int .u64 h17.lost], .slice h17.t.a h17.t.l.length h17.t.cap, .int .i64 ov17, .int .i64 0]), (9, .agg #[.slice h17.n.a h17.n.l.length h17.n.cap, .int .u64 h17.lost]), (10, .slice h17.t.a h17.t.l.length h17.t.cap), (11, .int .i64 ov17), (12, .int .i64 0)]) rfl (wv_n rfl) rfl rfl (fun _ _ hρ _ => r_call (args := [.agg #[.slice a ps.length cap, .int .u64 lost], .slice ar16 ((List.replicate ps.length (⟨1, 0, 0, 0#32⟩ : Trk)).length) cr16]) (enters_of Try.func28 (by kernel_rfl) rfl) (hρ _ _ rfl) ((cons2 (hρ _ _ rfl) (cons2 (hρ _ _ rfl) rfl))) rfl) (fun w hm => (run_ok ps a cap lost (List.replicate ps.length (⟨1, 0, 0, 0#32⟩ : Trk)) ar16 cr16 w (hv.keep hm.ext) hcap (hb.keep hm.ext) (SliceAt.own Trk.cells_len (hm.row 4 rfl) rfl rfl) (row_cap (hm.row 4 rfl)) (by rw [List.length_replicate]; omega) h0 hck).mono fun e w' ⟨⟨h, bs⟩, ov, hx, he, hb, r1, r2, r3, s1, s2, s3⟩ => ⟨(h, bs, ov), hx, he, hb, newOk3 951 952 953 r1 r2 r3 s1 s2 s3⟩) (fun (h17, bs17, ov17) => by kernel_rfl) ?_
      rintro ⟨h17, bs17, ov17⟩ hr17
      refine G_step [8, 9, 10, 11, 12] 14 [] (by kernel_rfl) (allM (all_cons (q_run (.tuple #[.agg #[.slice h17.n.a h17.n.l.length h17.n.cap, .int .u64 h17.lost], .slice h17.t.a h17.t.l.length h17.t.cap, .int .i64 ov17, .int .i64 0]) rfl rfl (wv_n rfl) rfl (fun _ _ hρ _ => r_move (hρ _ _ rfl))) (all_cons (q_run (.agg #[.slice h17.n.a h17.n.l.length h17.n.cap, .int .u64 h17.lost]) rfl rfl (wv_n rfl) rfl (fun _ _ hρ _ => r_extract (hρ _ _ rfl) rfl)) (all_cons (q_run (.slice h17.t.a h17.t.l.length h17.t.cap) rfl rfl (wv_n rfl) rfl (fun _ _ hρ _ => r_extract (hρ _ _ rfl) rfl)) (all_cons (q_run (.int .i64 ov17) rfl rfl (wv_n rfl) rfl (fun _ _ hρ _ => r_extract (hρ _ _ rfl) rfl)) (all_cons (q_run (.int .i64 0) rfl rfl (wv_n rfl) rfl (fun _ _ hρ _ => r_extract (hρ _ _ rfl) rfl)) all_nil)))))) (allM (all_cons ?_ all_nil))
      refine LOb_store 5 (.cells #[.slice h17.n.a h17.n.l.length h17.n.cap, .int .u64 h17.lost] 27) [(15, .slice h17.t.a h17.t.l.length h17.t.cap), (16, .int .i64 ov17), (17, .int .i64 0)] rfl (wv_n rfl) rfl rfl rfl (fun _ _ hρ hm => r_store sz27 (hρ _ _ rfl) (hρ _ _ rfl) (hm.at 5 rfl) rfl rfl rfl rfl) (by kernel_rfl) ?_
      exact G_lastQ [10, 11, 12, 15, 16, 17] [(2, .pointer (some ⟨B2, 0, none⟩)), (3, .slice none 0 0), (4, .int .i64 0), (5, .pointer (some ⟨B14, 0, none⟩)), (6, .slice h17.t.a h17.t.l.length h17.t.cap), (8, .int .i64 0)] (by kernel_rfl) (allM (all_cons (q_run (.slice h17.t.a h17.t.l.length h17.t.cap) rfl rfl (wv_n rfl) rfl (fun _ _ hρ _ => r_extract (hρ _ _ rfl) rfl)) (all_cons (q_run (.int .i64 ov17) rfl rfl (wv_n rfl) rfl (fun _ _ hρ _ => r_extract (hρ _ _ rfl) rfl)) (all_cons (q_run (.int .i64 0) rfl rfl (wv_n rfl) rfl (fun _ _ hρ _ => r_extract (hρ _ _ rfl) rfl)) (all_cons (q_run (.slice h17.t.a h17.t.l.length h17.t.cap) rfl rfl (wv_n rfl) rfl (fun _ _ hρ _ => r_assign (hρ _ _ rfl))) (all_cons (q_run (.int .i64 ov17) rfl rfl (wv_n rfl) rfl (fun _ _ hρ _ => r_assign (hρ _ _ rfl))) (all_cons (q_run (.int .i64 0) rfl rfl (wv_n rfl) rfl (fun _ _ hρ _ => r_assign (hρ _ _ rfl))) all_nil))))))) (end_old rfl rfl (end_old rfl rfl (end_old rfl rfl (end_new 13 rfl rfl (end_new 15 rfl rfl (end_new 17 rfl rfl end_nil)))))) (fun a w hf hm => At_intro (B15, ar16, cr16, h17, bs17, ov17, B14) ⟨hr17, trivial⟩ hf hm (sub_cons rfl (sub_cons rfl (sub_cons rfl (sub_cons rfl (sub_cons rfl (sub_cons rfl sub_nil)))))) (sub_cons rfl (sub_cons rfl (sub_cons rfl (sub_cons rfl (sub_cons rfl (sub_cons rfl (sub_cons rfl (sub_cons rfl sub_nil)))))))))
  · skip
    obtain ⟨Bx2, ar3, cr3, h4, bs4, ov4, Bx13⟩ := z
    obtain ⟨hr4, _⟩ := hz
    show T _ _ _ [(2, .pointer (some ⟨B2, 0, none⟩)), (3, .slice none 0 0), (4, .int .i64 0), (5, .pointer (some ⟨Bx13, 0, none⟩)), (6, .slice h4.t.a h4.t.l.length h4.t.cap), (8, .int .i64 0)] [(1, .blk B1 (.cells #[.slice a ps.length cap, .int .u64 lost] 27)), (2, .blk B2 (.cells #[.slice none 0 0, .int .u64 0] 27)), (3, .blk Bx2 (.cells #[.int .i64 1, .int .i64 0, .int .i64 0, .int .u32 0] 48)), (4, .row (.slice ar3 ((List.replicate ps.length (⟨1, 0, 0, 0#32⟩ : Trk)).length) cr3) 48 4 ((List.replicate ps.length (⟨1, 0, 0, 0#32⟩ : Trk)).length) ((List.replicate ps.length (⟨1, 0, 0, 0#32⟩ : Trk)).flatMap Trk.cells)), (5, .blk Bx13 (.cells #[.slice h4.n.a h4.n.l.length h4.n.cap, .int .u64 h4.lost] 27)), (951, .row (.slice h4.n.a h4.n.l.length h4.n.cap) 36 3 h4.n.l.length (h4.n.l.flatMap Pcl.cells)), (952, .row (.slice h4.t.a h4.t.l.length h4.t.cap) 36 3 h4.t.l.length (h4.t.l.flatMap Pcl.cells)), (953, .pool 5 1 byc bs4)]
    refine T_seq (T_region ?_)
    refine TL_q (.agg #[.slice h4.n.a h4.n.l.length h4.n.cap, .int .u64 h4.lost]) (fun _ _ hρ hm => r_loadA ag27 sz27 (hρ _ _ rfl) (hm.at 5 rfl) rfl rfl) rfl rfl rfl (w_n rfl) ?_
    refine TL_q (.slice h4.t.a h4.t.l.length h4.t.cap) (fun _ _ hρ _ => r_move (hρ _ _ rfl)) rfl rfl rfl (w_n rfl) ?_
    refine TL_q (.int .i64 0) (fun _ _ hρ _ => r_move (hρ _ _ rfl)) rfl rfl rfl (w_n rfl) ?_
    refine TL_store 2 (.cells #[.slice h4.n.a h4.n.l.length h4.n.cap, .int .u64 h4.lost] 27) rfl (fun _ _ hρ hm => r_store sz27 (hρ _ _ rfl) (hρ _ _ rfl) (hm.at 2 rfl) rfl rfl rfl rfl) rfl rfl (w_n rfl) ?_
    refine TL_q (.slice h4.t.a h4.t.l.length h4.t.cap) (fun _ _ hρ _ => r_assign (hρ _ _ rfl)) rfl rfl rfl (w_n rfl) ?_
    refine TL_q (.int .i64 0) (fun _ _ hρ _ => r_assign (hρ _ _ rfl)) rfl rfl rfl (w_n rfl) ?_
    refine TL_seq ?_
    refine T_ret' ?_
    refine ret_of rfl (.tuple #[.agg #[.slice h4.n.a h4.n.l.length h4.n.cap, .int .u64 h4.lost], .slice h4.t.a h4.t.l.length h4.t.cap, .int .i64 0]) (fun tmps w hk hm => res3 rfl (res_cell (hk 2 _ rfl) (run_loadVar_agg ag27 sz27 (hm.at 2 rfl) (Nat.le_of_ble_eq_true rfl) rfl)) (res_tmp (hk 3 _ rfl)) (res_tmp (hk 4 _ rfl))) (fun w hm => ?_)
    have he9 := hr4.is
    rw [empty_run] at he9
    exact ⟨(h4, bs4), ⟨(congrArg (·.1) he9), (congrArg (·.2.1) he9), hr4.ok⟩, rfl, hm.ext, hm.own 951 _ rfl, hm.own 952 _ rfl, hm.own 953 _ rfl, hm.sep 951 952 _ _ rfl rfl (by decide), hm.sep 951 953 _ _ rfl rfl (by decide), hm.sep 952 953 _ _ rfl rfl (by decide)⟩
end Go.Proofs.Ytcidgbjgeegepaa
/- net and journal: few, own. Printed by a program of this seat's prover. -/
namespace Go.Proofs.Ytcidgbjgeegepaa
open Go Go.RowKit
set_option maxRecDepth 10000
/-- Parcels' bytes lie in memory. -/
def PcsIn (w : World) (l : List Pcl) : Prop := ∀ p ∈ l, SliceAt w p.r.a p.r.cap 1 byc p.r.l ∧ p.r.cap ≤ Go.maxLen
def few1 (p : PV) : PV := ⟨p.to, p.l.take 8193, p.sp⟩
/-- What can be gone through of parcels. -/
def fewV (l : List PV) : List PV := (l.take 66).map few1
theorem few_step {ls l1 : List Pcl} {k : Nat} {p q : Pcl} (h : pvs ls = (pvs (l1.take k)).map few1) (hp : l1[k]? = some p) (e : q.pv = few1 p.pv) : pvs (ls ++ [q]) = (pvs (l1.take (k + 1))).map few1 := by
  rw [pvs_snoc, List.take_add_one, hp, h, e]
  unfold pvs
  simp
theorem few_pv {p : Pcl} {l : List By} {a : Option Addr} {c : Nat} (h : l = p.r.l.take (min p.r.l.length 8193)) : (⟨p.to, ⟨a, c, l⟩, p.sp⟩ : Pcl).pv = few1 p.pv := by
  have e : p.r.l.take (min p.r.l.length 8193) = p.r.l.take 8193 := by
    rcases Nat.le_total p.r.l.length 8193 with e | e
    · rw [Nat.min_eq_left e, List.take_length, List.take_of_length_le e]
    · rw [Nat.min_eq_right e]
  unfold few1
  dsimp only
  rw [h, e]
theorem few_len {ls l1 : List Pcl} {k : Nat} (h : pvs ls = (pvs (l1.take k)).map few1) (hk : k ≤ l1.length) : ls.length = k := by
  have := congrArg List.length h
  rw [pvs_len, List.length_map, pvs_len, List.length_take] at this
  omega
theorem few_all {ls l1 xs : List Pcl} (h : pvs ls = (pvs l1).map few1) (hl : l1 = xs.take (min xs.length 66)) : pvs ls = fewV (pvs xs) := by
  rw [h, hl]
  unfold fewV pvs
  rw [List.map_take, List.map_take, List.map_take]
  rcases Nat.le_total xs.length 66 with e | e
  · rw [Nat.min_eq_left e, List.take_of_length_le (by simp), List.take_of_length_le (by simpa using e)]
  · rw [Nat.min_eq_right e]

theorem few_c (xs : List Pcl) (a : Option Addr) (cap : Nat) (w : World) (hv : SliceAt w a cap 3 Pcl.cells xs) (hcap : cap ≤ Go.maxLen) (hx : PcsIn w xs) : Calls Try.prog 12 #[.slice a xs.length cap] w fun e w' => ∃ (n : NetR) (bs : List (RowG By)), pvs n.l = fewV (pvs xs) ∧ InB bs n.l ∧ e = .returned (.slice n.a n.l.length n.cap) ∧ Below w.heap.size w w' ∧ (rowP n).ok w.heap.size w' ∧ (Res.pool 5 1 byc bs).ok w.heap.size w' ∧ ∀ b, (rowP n).foot b → ¬ (Res.pool 5 1 byc bs).foot b := by
  have hvl := hv.1
  unfold Go.maxLen at hcap
  refine calls_of_T (l := [.slice a xs.length cap]) 31 Try.func12 rfl rfl rfl ?_
  show T _ _ _ [(0, .slice a xs.length cap)] []
  refine T_seq (T_region ?_)
  refine TL_q (.slice none 0 0) (fun _ _ hρ _ => r_assign (hρ _ _ rfl)) rfl rfl rfl (w_n rfl) ?_
  refine TL_seq ?_
  refine T_seq (T_region ?_)
  refine TL_q (.slice none 0 0) (fun _ _ hρ _ => r_assign (hρ _ _ rfl)) rfl rfl rfl (w_n rfl) ?_
  refine TL_seq ?_
  refine T_seq ?_
  refine T_seq (T_region ?_)
  refine TL_q (.slice a xs.length cap) (fun _ _ hρ _ => r_move (hρ _ _ rfl)) rfl rfl rfl (w_n rfl) ?_
  refine TL_q (.slice a xs.length cap) (fun _ _ hρ _ => r_move (hρ _ _ rfl)) rfl rfl rfl (w_n rfl) ?_
  refine TL_q (.int .i64 ((xs.length : Nat) : Int)) (fun _ _ hρ _ => r_len sl22 (hρ _ _ rfl)) rfl rfl rfl (w_n rfl) ?_
  refine TL_q (.int .i64 ((min xs.length 66 : Nat) : Int)) (fun _ _ hρ _ => r_as (r_min (hρ _ _ rfl) (hρ _ _ rfl)) (int_as (minI _ 66))) rfl rfl rfl (w_n rfl) ?_
  obtain ⟨l1, hl1, hn1⟩ : ∃ lz, lz = xs.take (min xs.length 66) ∧ lz.length = min xs.length 66 := ⟨_, rfl, by rw [List.length_take]; omega⟩
  have hs1 := SliceAt.front hv (n := min xs.length 66) (m := cap) (by omega) (by omega) (by omega)
  rw [← hl1] at hs1
  refine TL_q (.slice a l1.length cap) (fun ρ _ hρ _ => r_as (r_sliceO sl22 sz36 (hρ _ _ rfl) (bd_none ρ _) (bd_some (n := min xs.length 66) (hρ _ _ rfl)) (bd_none ρ _) (by simp) (by omega) (by omega) (by omega)) (by rw [hn1]; exact slo_zero _ _ _ _)) rfl rfl rfl (w_n rfl) ?_
  refine TL_q (.int .i64 ((l1.length : Nat) : Int)) (fun _ _ hρ _ => r_len sl22 (hρ _ _ rfl)) rfl rfl rfl (w_n rfl) ?_
  refine TL_q (.int .i64 0) (fun _ _ hρ _ => r_move (hρ _ _ rfl)) rfl rfl rfl (w_n rfl) ?_
  refine TL_seq ?_
  refine T_block ?_
  refine T_mem (_ :: _ :: _) (fun _ hm => (hm.nilRow 901 36 3).pool0 903 5 1 byc) ?_
  refine T_loop (ι := Nat × List Pcl × Option Addr × Nat × List (RowG By)) (fun (z : Nat × List Pcl × Option Addr × Nat × List (RowG By)) => match z with | (k, ls, a2, cap2, bs) => k ≤ l1.length ∧ pvs ls = (pvs (l1.take k)).map few1 ∧ InB bs ls) (fun (z : Nat × List Pcl × Option Addr × Nat × List (RowG By)) => match z with | (k, ls, a2, cap2, bs) => [(2, .slice none 0 0), (10, .slice a l1.length cap), (11, .int .i64 ((l1.length : Nat) : Int)), (12, .int .i64 ((k : Nat) : Int)), (3, .slice a2 ls.length cap2)]) (fun (z : Nat × List Pcl × Option Addr × Nat × List (RowG By)) => match z with | (k, ls, a2, cap2, bs) => [(901, .row (.slice a2 ls.length cap2) 36 3 ls.length (ls.flatMap Pcl.cells)), (903, .pool 5 1 byc bs)]) (fun (z : Nat × List Pcl × Option Addr × Nat × List (RowG By)) => match z with | (k, ls, a2, cap2, bs) => l1.length - k) (0, [], none, 0, []) ⟨Nat.zero_le _, rfl, InB.nil _⟩ (sub_cons rfl (sub_cons rfl (sub_cons rfl (sub_cons rfl (sub_cons rfl sub_nil))))) (sub_cons rfl (sub_cons rfl sub_nil)) ?_
  rintro ⟨k, ls, a2, cap2, bs⟩ hp
  obtain ⟨hk, hl, hin⟩ := hp
  have hlk := few_len hl hk
  show T _ _ _ [(2, .slice none 0 0), (10, .slice a l1.length cap), (11, .int .i64 ((l1.length : Nat) : Int)), (12, .int .i64 ((k : Nat) : Int)), (3, .slice a2 ls.length cap2)] [(901, .row (.slice a2 ls.length cap2) 36 3 ls.length (ls.flatMap Pcl.cells)), (903, .pool 5 1 byc bs)]
  refine T_seq (T_region ?_)
  refine TL_q (.bool (decide (((k : Nat) : Int) < ((l1.length : Nat) : Int)))) (fun _ _ hρ _ => r_lss (hρ _ _ rfl) (hρ _ _ rfl)) rfl rfl rfl (w_n rfl) ?_
  refine TL_seq ?_
  refine T_seq ?_
  refine T_cond rfl (fun h1 => ?_) (fun h1 => ?_)
  · replace h1 := of_decide_eq_true h1
    refine T_skip' ?_
    refine p_seq ?_
    refine T_seq ?_
    refine T_block ?_
    obtain ⟨p, hp⟩ : ∃ x, l1[k]? = some x := ⟨_, List.getElem?_eq_getElem (by omega)⟩
    have hokp := hx p (by have h9 := List.mem_of_getElem? hp; rw [hl1] at h9; exact List.mem_of_mem_take h9)
    have hpl := hokp.1.1
    have hpc := hokp.2
    unfold Go.maxLen at hpc
    obtain ⟨b2, of2, cs2, T2, fz2, ha2, hq2, hr2⟩ := hs1.open (i := k) (by omega)
    subst ha2
    refine T_seq (T_region ?_)
    refine TL_q (.pointer (some ⟨b2, of2 + k * 3, none⟩)) (fun _ _ hρ _ => r_indexAddrS (i := k) sl22 sz36 (hρ _ _ rfl) (hρ _ _ rfl) (by omega)) rfl rfl rfl (w_n rfl) ?_
    refine TL_q (.agg #[.int .i64 p.to, .slice p.r.a p.r.l.length p.r.cap, .bool p.sp]) (fun _ _ hρ hm => r_loadRow (f := Pcl.cells) (u := p) ag36 sz36 (hρ _ _ rfl) (hm.old hq2) hr2 hp) rfl rfl rfl (w_n rfl) ?_
    refine TL_new 1 (.cells #[.int .i64 0, .slice none 0 0, .bool false] 36) (fun B => .pointer (some ⟨B, 0, none⟩)) (fun _ _ _ _ => r_alloc (v := .agg #[.int .i64 0, .slice none 0 0, .bool false]) (by kernel_rfl) rfl) rfl rfl rfl (w_n rfl) ?_
    intro B3
    refine TL_store 1 (.cells #[.int .i64 p.to, .slice p.r.a p.r.l.length p.r.cap, .bool p.sp] 36) rfl (fun _ _ hρ hm => r_store sz36 (hρ _ _ rfl) (hρ _ _ rfl) (hm.at 1 rfl) rfl rfl rfl rfl) rfl rfl (w_n rfl) ?_
    refine TL_seq ?_
    refine T_seq (T_region ?_)
    refine TL_q (.pointer (some ⟨B3, 1, none⟩)) (fun _ _ hρ _ => r_fieldAddr fl36_1 sz34 (hρ _ _ rfl)) rfl rfl rfl (w_n rfl) ?_
    refine TL_q (.slice p.r.a p.r.l.length p.r.cap) (fun _ _ hρ hm => r_load ag34 (hρ _ _ rfl) (hm.at 1 rfl) rfl) rfl rfl rfl (w_n rfl) ?_
    refine TL_q (.pointer (some ⟨B3, 1, none⟩)) (fun _ _ hρ _ => r_fieldAddr fl36_1 sz34 (hρ _ _ rfl)) rfl rfl rfl (w_n rfl) ?_
    refine TL_q (.slice p.r.a p.r.l.length p.r.cap) (fun _ _ hρ hm => r_load ag34 (hρ _ _ rfl) (hm.at 1 rfl) rfl) rfl rfl rfl (w_n rfl) ?_
    refine TL_q (.int .i64 ((p.r.l.length : Nat) : Int)) (fun _ _ hρ _ => r_len sl34 (hρ _ _ rfl)) rfl rfl rfl (w_n rfl) ?_
    refine TL_q (.int .i64 ((min p.r.l.length 8193 : Nat) : Int)) (fun _ _ hρ _ => r_as (r_min (hρ _ _ rfl) (hρ _ _ rfl)) (int_as (minI _ 8193))) rfl rfl rfl (w_n rfl) ?_
    obtain ⟨l4, hl4, hn4⟩ : ∃ lz, lz = p.r.l.take (min p.r.l.length 8193) ∧ lz.length = min p.r.l.length 8193 := ⟨_, rfl, by rw [List.length_take]; omega⟩
    have hs4 := SliceAt.front hokp.1 (n := min p.r.l.length 8193) (m := p.r.cap) (by omega) (by omega) (by omega)
    rw [← hl4] at hs4
    refine TL_q (.slice p.r.a l4.length p.r.cap) (fun ρ _ hρ _ => r_as (r_sliceO sl34 sz5 (hρ _ _ rfl) (bd_none ρ _) (bd_some (n := min p.r.l.length 8193) (hρ _ _ rfl)) (bd_none ρ _) (by simp) (by omega) (by omega) (by omega)) (by rw [hn4]; exact slo_zero _ _ _ _)) rfl rfl rfl (w_n rfl) ?_
    refine TL_callN (fun (_ : Option Addr × Nat) => True) (fun (ar5, cr5) => .slice ar5 ((l4).length) cr5) (fun (ar5, cr5) => [(2, .row (.slice ar5 ((l4).length) cr5) 5 1 ((l4).length) ((l4).flatMap byc))]) (fun _ _ hρ _ => r_call (args := [.slice p.r.a l4.length p.r.cap]) (enters_of Try.func37 (by kernel_rfl) rfl) (hρ _ _ rfl) ((cons2 (hρ _ _ rfl) rfl)) rfl) (fun w hm => (clone_b byc byc_len byc_one l4 p.r.a p.r.cap w (hs4.keep hm.ext) (by omega)).mono fun e w' ⟨a', cap', he, hb, hr⟩ => ⟨(a', cap'), trivial, he, hb, newOk1 2 hr⟩) rfl rfl rfl (w_n rfl) ?_
    rintro ⟨ar5, cr5⟩ -
    refine TL_q (.pointer (some ⟨B3, 1, none⟩)) (fun _ _ hρ _ => r_fieldAddr fl36_1 sz34 (hρ _ _ rfl)) rfl rfl rfl (w_n rfl) ?_
    refine TL_store 1 (.cells #[.int .i64 p.to, .slice ar5 ((l4).length) cr5, .bool p.sp] 36) rfl (fun _ _ hρ hm => r_store sz34 (hρ _ _ rfl) (hρ _ _ rfl) (hm.at 1 rfl) rfl rfl rfl rfl) rfl rfl (w_n rfl) ?_
    refine TL_seq ?_
    refine T_region ?_
    refine TL_q (.slice a2 ls.length cap2) (fun _ _ hρ _ => r_move (hρ _ _ rfl)) rfl rfl rfl (w_n rfl) ?_
    refine TL_q (.agg #[.int .i64 p.to, .slice ar5 ((l4).length) cr5, .bool p.sp]) (fun _ _ hρ hm => r_loadA ag36 sz36 (hρ _ _ rfl) (hm.at 1 rfl) rfl rfl) rfl rfl rfl (w_n rfl) ?_
    refine TL_new 3 (.cells #[.int .i64 p.to, .slice ar5 ((l4).length) cr5, .bool p.sp] 36) (fun B => .slice (some ⟨B, 0, none⟩) 1 1) (fun _ _ hρ _ => r_buildSlice (vs := [(0, .agg #[.int .i64 p.to, .slice ar5 ((l4).length) cr5, .bool p.sp])]) (by kernel_rfl) (cons2 (pair2 (hρ _ _ rfl)) rfl)) rfl rfl rfl (w_n rfl) ?_
    intro B6
    refine TL_append (n := ls.length) (m := 1) (xs := (ls.flatMap Pcl.cells)) (news := [.int .i64 p.to, .slice ar5 ((l4).length) cr5, .bool p.sp]) (z := .agg #[.int .i64 0, .slice none 0 0, .bool false]) 901 rfl rfl rfl sl22 sz36 by36 (by kernel_rfl) rfl rfl (.inl rfl) (fun _ hm => src_blk (news := [.int .i64 p.to, .slice ar5 ((l4).length) cr5, .bool p.sp]) (hm.at 3 rfl) rfl) (by simp [Value.oneCell']) (by omega) (by omega) rfl (w_n rfl) ?_
    intro a7 cap7
    refine TL_q (.slice a7 (ls.length + 1) cap7) (fun _ _ hρ _ => r_assign (hρ _ _ rfl)) rfl rfl rfl (w_n rfl) ?_
    refine TL_nil ?_
    refine p_blk_n ?_
    refine p_seq ?_
    refine T_region ?_
    refine TL_q (.int .i64 ((k + 1 : Nat) : Int)) (fun _ _ hρ _ => r_as (r_add (hρ _ _ rfl) (hρ _ _ rfl)) (int_as ((wrap64 (by omega) (by omega)).trans (by omega)))) rfl rfl rfl (w_n rfl) ?_
    refine TL_q (.int .i64 ((k + 1 : Nat) : Int)) (fun _ _ hρ _ => r_move (hρ _ _ rfl)) rfl rfl rfl (w_n rfl) ?_
    refine TL_nil ?_
    have hn8 : (ls.length + 1) = (ls ++ [(⟨p.to, ⟨ar5, cr5, l4⟩, p.sp⟩ : Pcl)]).length := by simp
    have hx8 : ((ls.flatMap Pcl.cells) ++ [.int .i64 p.to, .slice ar5 ((l4).length) cr5, .bool p.sp]) = (ls ++ [(⟨p.to, ⟨ar5, cr5, l4⟩, p.sp⟩ : Pcl)]).flatMap Pcl.cells := by simp [Pcl.cells]
    rw [hx8, hn8]
    refine p_mem (_ :: _ :: _) (fun _ hm => hm.poolPush 903 2 rfl rfl rfl rfl) ?_
    exact p_at (k + 1, ls ++ [(⟨p.to, ⟨ar5, cr5, l4⟩, p.sp⟩ : Pcl)], a7, cap7, bs ++ [⟨ar5, cr5, l4⟩]) ⟨⟨by omega, few_step hl hp (few_pv hl4), hin.push.snoc (mem_last _ _) (show l4.length ≤ 10000 by omega)⟩, by dsimp only; omega⟩ (sub_cons rfl (sub_cons rfl (sub_cons rfl (sub_cons rfl (sub_cons rfl sub_nil))))) (sub_cons rfl (sub_cons rfl sub_nil))
  · replace h1 := of_decide_eq_false h1
    refine T_exit' ?_
    refine p_then_x ?_
    refine p_then_x ?_
    refine p_blk_x ?_
    refine p_seq ?_
    refine T_seq (T_region ?_)
    refine TL_q (.slice a2 ls.length cap2) (fun _ _ hρ _ => r_move (hρ _ _ rfl)) rfl rfl rfl (w_n rfl) ?_
    refine TL_q (.slice a2 ls.length cap2) (fun _ _ hρ _ => r_assign (hρ _ _ rfl)) rfl rfl rfl (w_n rfl) ?_
    refine TL_seq ?_
    refine T_ret' ?_
    refine ret_of rfl (.slice a2 ls.length cap2) (fun tmps w hk hm => res1 rfl (res_tmp (hk 2 _ rfl))) (fun w hm => ?_)
    have hke : k = l1.length := by omega
    subst hke
    rw [List.take_length] at hl
    exact ⟨⟨a2, cap2, ls⟩, bs, few_all hl hl1, hin, rfl, hm.ext, hm.own 901 _ rfl, hm.own 903 _ rfl, hm.sep 901 903 _ _ rfl rfl (by decide)⟩
end Go.Proofs.Ytcidgbjgeegepaa
/- A range over a function whose rounds begin with new blocks. Over any program. -/
namespace Go.Proofs.Ytcidgbjgeegepaa
open Go Go.RowKit
theorem p_round_x {C : Cx} {K : List (Nat × Value)} {L : Heap} {idD idl D l id : Nat} {rec : Loop} {ι : Type} {p : ι → Prop} {LI : ι → Heap} {pX : Code → ι → Prop} {LX : ι → Heap} (i : ι) (hp : pX (.exit id) i)
    (hL : SubK L ((idD, .blk D (.deferred (some []))) :: (idl, .blk l (.loop { rec with state := .busy })) :: LX i)) : POk C (RoundQ C.w₀ idD idl D l rec p LI pX LX) (.exit id) K L := fun _ _ _ hm => ⟨i, hp, hm.sub hL⟩
end Go.Proofs.Ytcidgbjgeegepaa
/- net and journal: First. Printed by a program of this seat's prover. -/
namespace Go.Proofs.Ytcidgbjgeegepaa
open Go Go.RowKit
set_option maxRecDepth 10000
theorem lk_fresh2 {A : Heap} {j : Nat} {b c : Res} (hf : lk A j = none) : ∀ k q, lk A k = some q → lk ((j, b) :: (j, c) :: A) k = some q := fun k q hk => by
  have hne : j ≠ k := fun e => by subst e; rw [hf] at hk; cases hk
  rwa [lk_cons_other _ _ hne, lk_cons_other _ _ hne]
/-- How many of the first k. -/
def cntN (φ : Nat → Bool) (k : Nat) : Nat := ((List.range k).filter φ).length
theorem cnt_t {φ : Nat → Bool} {k : Nat} (h : φ k = true) : cntN φ (k + 1) = cntN φ k + 1 := by
  unfold cntN; rw [List.range_succ, List.filter_append, List.length_append]; simp [h]
theorem cnt_f {φ : Nat → Bool} {k : Nat} (h : φ k = false) : cntN φ (k + 1) = cntN φ k := by
  unfold cntN; rw [List.range_succ, List.filter_append, List.length_append]; simp [h]
theorem cnt_at {φ : Nat → Bool} {n k : Nat} (hk : k < n) (h : φ k = true) : ((List.range n).filter φ)[cntN φ k]? = some k := by
  obtain ⟨j, rfl⟩ : ∃ j, n = k + (j + 1) := ⟨n - k - 1, by omega⟩
  unfold cntN
  rw [List.range_add, List.filter_append, List.getElem?_append_right (Nat.le_refl _), Nat.sub_self, List.range_succ_eq_map]
  simp [h]
/-- Is the i-th parcel to there? -/
def phiT (ps : List Pcl) (to : Int) (i : Nat) : Bool := decide ((ps[i]?).map Pcl.to = some to)
theorem phi_t {ps : List Pcl} {to : Int} {k : Nat} {p : Pcl} (hp : ps[k]? = some p) (h : p.to = to) : phiT ps to k = true := decide_eq_true (by rw [hp, ← h]; rfl)
theorem phi_f {ps : List Pcl} {to : Int} {k : Nat} {p : Pcl} (hp : ps[k]? = some p) (h : ¬ p.to = to) : phiT ps to k = false := decide_eq_false (by rw [hp]; exact fun e => h (Option.some.inj e))
/-- The places of parcels to there. -/
def toV (ps : List Pcl) (to : Int) : List Nat := (List.range ps.length).filter (phiT ps to)
def encI (x : Nat) : List Value := [.int .i64 (x : Int)]

theorem to_iter {ι : Type} (w₀ : World) (p' : Nat → ι → Prop) (LJ : Nat → ι → Heap) (T1 T2 : Nat) (ps : List Pcl) (a : Option Addr) (cap : Nat) (lost to : Int) (hv : SliceAt w₀ a cap 3 Pcl.cells ps) (hcap : cap ≤ Go.maxLen) (hfr : ∀ k i, lk (LJ k i) 1700 = none)
    (hT1 : ∀ k i w, MemOk w₀ (LJ k i) w → hp w T1 = some (.cells #[.slice a ps.length cap, .int .u64 lost] 27)) (hT2 : ∀ k i w, MemOk w₀ (LJ k i) w → hp w T2 = some (.cells #[.int .i64 to] 3)) :
    IterAt Try.prog w₀ 103 #[.pointer (some ⟨T1, 0, none⟩), .pointer (some ⟨T2, 0, none⟩)] encI (toV ps to) p' LJ := by
  intro l κ pX LX hY i₀ W₁ hp0 hm0
  have hvl := hv.1
  unfold Go.maxLen at hcap
  show Calls _ _ #[.func (.yield l) #[] #[], .pointer (some ⟨T1, 0, none⟩), .pointer (some ⟨T2, 0, none⟩)] _ _
  refine ht_of_T (l := [.func (.yield l) #[] #[], .pointer (some ⟨T1, 0, none⟩), .pointer (some ⟨T2, 0, none⟩)]) (L := LJ 0 i₀) 25 Try.func103 rfl rfl rfl ?_ W₁ hm0
  show T _ _ _ [(0, .func (.yield l) #[] #[]), (1, .pointer (some ⟨T1, 0, none⟩)), (2, .pointer (some ⟨T2, 0, none⟩))] (LJ 0 i₀)
  refine T_seq (T_region ?_)
  refine TL_q (.pointer (some ⟨T1, 0, none⟩)) (fun _ _ hρ _ => r_fieldAddr fl27_0 sz22 (hρ _ _ rfl)) rfl rfl rfl (w_n rfl) ?_
  refine TL_q (.slice a ps.length cap) (fun _ _ hρ hm => r_load ag22 (hρ _ _ rfl) (hT1 _ _ _ hm) rfl) rfl rfl rfl (w_n rfl) ?_
  refine TL_q (.int .i64 ((ps.length : Nat) : Int)) (fun _ _ hρ _ => r_len sl22 (hρ _ _ rfl)) rfl rfl rfl (w_n rfl) ?_
  refine TL_q (.int .i64 0) (fun _ _ hρ _ => r_move (hρ _ _ rfl)) rfl rfl rfl (w_n rfl) ?_
  refine TL_seq ?_
  refine T_block ?_
  refine T_loopE (ι := Nat × ι) (fun (z : Nat × ι) => match z with | (k, i) => k ≤ ps.length ∧ p' (cntN (phiT ps to) k) i) (fun (z : Nat × ι) => match z with | (k, i) => [(0, .func (.yield l) #[] #[]), (2, .pointer (some ⟨T2, 0, none⟩)), (7, .slice a ps.length cap), (8, .int .i64 ((ps.length : Nat) : Int)), (9, .int .i64 ((k : Nat) : Int))]) (fun (z : Nat × ι) => match z with | (k, i) => (LJ (cntN (phiT ps to) k) i)) (fun (z : Nat × ι) => match z with | (k, i) => ps.length - k) (0, i₀) ⟨Nat.zero_le _, hp0⟩ (sub_cons rfl (sub_cons rfl (sub_cons rfl (sub_cons rfl (sub_cons rfl sub_nil))))) rfl ?_
  rintro ⟨k, i⟩ hp
  obtain ⟨hk, hpi⟩ := hp
  show T _ _ _ [(0, .func (.yield l) #[] #[]), (2, .pointer (some ⟨T2, 0, none⟩)), (7, .slice a ps.length cap), (8, .int .i64 ((ps.length : Nat) : Int)), (9, .int .i64 ((k : Nat) : Int))] (LJ (cntN (phiT ps to) k) i)
  refine T_seq (T_region ?_)
  refine TL_q (.bool (decide (((k : Nat) : Int) < ((ps.length : Nat) : Int)))) (fun _ _ hρ _ => r_lss (hρ _ _ rfl) (hρ _ _ rfl)) rfl rfl rfl (w_n rfl) ?_
  refine TL_seq ?_
  refine T_seq ?_
  refine T_cond rfl (fun h1 => ?_) (fun h1 => ?_)
  · replace h1 := of_decide_eq_true h1
    refine T_skip' ?_
    refine p_seq ?_
    refine T_seq ?_
    refine T_block ?_
    obtain ⟨p, hp⟩ : ∃ x, ps[k]? = some x := ⟨_, List.getElem?_eq_getElem (by omega)⟩
    obtain ⟨b1, of1, cs1, T1, fz1, ha1, hq1, hr1⟩ := hv.open (i := k) (by omega)
    subst ha1
    refine T_seq (T_region ?_)
    refine TL_q (.int .i64 ((k : Nat) : Int)) (fun _ _ hρ _ => r_move (hρ _ _ rfl)) rfl rfl rfl (w_n rfl) ?_
    refine TL_q (.pointer (some ⟨b1, of1 + k * 3, none⟩)) (fun _ _ hρ _ => r_indexAddrS (i := k) sl22 sz36 (hρ _ _ rfl) (hρ _ _ rfl) (by omega)) rfl rfl rfl (w_n rfl) ?_
    refine TL_q (.agg #[.int .i64 p.to, .slice p.r.a p.r.l.length p.r.cap, .bool p.sp]) (fun _ _ hρ hm => r_loadRow (f := Pcl.cells) (u := p) ag36 sz36 (hρ _ _ rfl) (hm.old hq1) hr1 hp) rfl rfl rfl (w_n rfl) ?_
    refine TL_new 1700 (.cells #[.int .i64 0, .slice none 0 0, .bool false] 36) (fun B => .pointer (some ⟨B, 0, none⟩)) (fun _ _ _ _ => r_alloc (v := .agg #[.int .i64 0, .slice none 0 0, .bool false]) (by kernel_rfl) rfl) rfl rfl rfl (w_n rfl) ?_
    intro B2
    refine TL_q (.int .i64 ((k : Nat) : Int)) (fun _ _ hρ _ => r_assign (hρ _ _ rfl)) rfl rfl rfl (w_n rfl) ?_
    refine TL_store 1700 (.cells #[.int .i64 p.to, .slice p.r.a p.r.l.length p.r.cap, .bool p.sp] 36) rfl (fun _ _ hρ hm => r_store sz36 (hρ _ _ rfl) (hρ _ _ rfl) (hm.at 1700 rfl) rfl rfl rfl rfl) rfl rfl (w_n rfl) ?_
    refine TL_seq ?_
    by_cases hz : p.to = to
    · skip
      refine T_seq (T_region ?_)
      refine TL_q (.pointer (some ⟨B2, 0, none⟩)) (fun _ _ hρ _ => r_fieldAddr fl36_0 sz3 (hρ _ _ rfl)) rfl rfl rfl (w_n rfl) ?_
      refine TL_q (.int .i64 p.to) (fun _ _ hρ hm => r_load ag3 (hρ _ _ rfl) (hm.at 1700 rfl) rfl) rfl rfl rfl (w_n rfl) ?_
      refine TL_q (.int .i64 to) (fun _ _ hρ hm => r_load ag3 (hρ _ _ rfl) (hT2 _ _ _ (hm.of (lk_fresh2 (hfr _ _)))) rfl) rfl rfl rfl (w_n rfl) ?_
      refine TL_q (.bool true) (fun _ _ hρ _ => r_as (r_eql (hρ _ _ rfl) (hρ _ _ rfl)) (bool_as (decide_eq_true hz))) rfl rfl rfl (w_n rfl) ?_
      refine TL_q (.bool true) (fun _ _ hρ _ => r_move (hρ _ _ rfl)) rfl rfl rfl (w_n rfl) ?_
      refine TL_q (.func (.yield l) #[] #[]) (fun _ _ hρ _ => r_move (hρ _ _ rfl)) rfl rfl rfl (want_y 18 rfl rfl rfl) ?_
      refine TL_q (.int .i64 ((k : Nat) : Int)) (fun _ _ hρ _ => r_move (hρ _ _ rfl)) rfl rfl rfl (want_y 18 rfl rfl rfl) ?_
      refine TL_yieldB (fun i => p' (cntN (phiT ps to) k + 1) i) (fun i => LJ (cntN (phiT ps to) k + 1) i) pX LX rfl (fun _ _ hρ _ => r_yield (hρ _ _ rfl) ((cons2 (hρ _ _ rfl) rfl))) (fun W hm => hY (cntN (phiT ps to) k) k i W (cnt_at (by omega) (phi_t hp hz)) hpi (hm.of (lk_fresh2 (hfr _ _)))) rfl rfl rfl (want_y 18 rfl rfl rfl) ?_
      intro yx3 hyx3
      refine TL_q (.bool (!yx3.isLeft)) (fun _ _ hρ _ => r_not (b := yx3.isLeft) (hρ _ _ rfl)) rfl rfl rfl (want_y 18 rfl rfl rfl) ?_
      refine TL_q (.bool (!yx3.isLeft)) (fun _ _ hρ _ => r_pick_t (hρ _ _ rfl) (hρ _ _ rfl)) rfl rfl rfl (w_n rfl) ?_
      refine TL_seq ?_
      refine T_cond rfl (fun h2 => ?_) (fun h2 => ?_)
      · replace h2 := bnot_t h2
        obtain ⟨j, rfl⟩ := isR (by simpa using h2)
        refine T_ret' ?_
        refine p_blk_r ?_
        refine p_then_r ?_
        refine p_then_r ?_
        refine p_blk_r ?_
        refine ret_of rfl (.tuple #[]) (fun tmps w hk hm => results_none rfl _ _ _) (fun w hm => ?_)
        first
          | exact ⟨⟨_, rfl⟩, .inr ⟨j, hyx3, hm⟩⟩
          | (have hk8 : k = ps.length := (by omega); subst hk8; exact ⟨⟨_, rfl⟩, .inl ⟨i, hpi, hm⟩⟩)
      · replace h2 := bnot_f h2
        obtain ⟨i1, rfl⟩ := isL (by simpa using h2)
        refine T_skip' ?_
        refine p_blk_n ?_
        refine p_seq ?_
        refine T_region ?_
        refine TL_q (.int .i64 ((k + 1 : Nat) : Int)) (fun _ _ hρ _ => r_as (r_add (hρ _ _ rfl) (hρ _ _ rfl)) (int_as ((wrap64 (by omega) (by omega)).trans (by omega)))) rfl rfl rfl (w_n rfl) ?_
        refine TL_q (.int .i64 ((k + 1 : Nat) : Int)) (fun _ _ hρ _ => r_move (hρ _ _ rfl)) rfl rfl rfl (w_n rfl) ?_
        refine TL_nil ?_
        exact p_atE (k + 1, i1) ⟨⟨by omega, (cnt_t (phi_t hp hz)).symm ▸ hyx3⟩, by dsimp only; omega⟩ (sub_cons rfl (sub_cons rfl (sub_cons rfl (sub_cons rfl (sub_cons rfl sub_nil))))) (congrArg (fun m => LJ m i1) (cnt_t (phi_t hp hz)).symm)
    · skip
      refine T_seq (T_region ?_)
      refine TL_q (.pointer (some ⟨B2, 0, none⟩)) (fun _ _ hρ _ => r_fieldAddr fl36_0 sz3 (hρ _ _ rfl)) rfl rfl rfl (w_n rfl) ?_
      refine TL_q (.int .i64 p.to) (fun _ _ hρ hm => r_load ag3 (hρ _ _ rfl) (hm.at 1700 rfl) rfl) rfl rfl rfl (w_n rfl) ?_
      refine TL_q (.int .i64 to) (fun _ _ hρ hm => r_load ag3 (hρ _ _ rfl) (hT2 _ _ _ (hm.of (lk_fresh2 (hfr _ _)))) rfl) rfl rfl rfl (w_n rfl) ?_
      refine TL_q (.bool false) (fun _ _ hρ _ => r_as (r_eql (hρ _ _ rfl) (hρ _ _ rfl)) (bool_as (decide_eq_false hz))) rfl rfl rfl (w_n rfl) ?_
      refine TL_q (.bool false) (fun _ _ hρ _ => r_move (hρ _ _ rfl)) rfl rfl rfl (w_n rfl) ?_
      refine TL_no rfl rfl (want_n 18 rfl rfl rfl) ?_
      refine TL_no rfl rfl (want_n 18 rfl rfl rfl) ?_
      refine TL_no rfl rfl (want_n 18 rfl rfl rfl) ?_
      refine TL_no rfl rfl (want_n 18 rfl rfl rfl) ?_
      refine TL_q (.bool false) (fun _ _ hρ _ => r_pick_f (hρ _ _ rfl) (hρ _ _ rfl)) rfl rfl rfl (w_n rfl) ?_
      refine TL_seq ?_
      refine T_cond_f rfl ?_
      refine T_skip' ?_
      refine p_blk_n ?_
      refine p_seq ?_
      refine T_region ?_
      refine TL_q (.int .i64 ((k + 1 : Nat) : Int)) (fun _ _ hρ _ => r_as (r_add (hρ _ _ rfl) (hρ _ _ rfl)) (int_as ((wrap64 (by omega) (by omega)).trans (by omega)))) rfl rfl rfl (w_n rfl) ?_
      refine TL_q (.int .i64 ((k + 1 : Nat) : Int)) (fun _ _ hρ _ => r_move (hρ _ _ rfl)) rfl rfl rfl (w_n rfl) ?_
      refine TL_nil ?_
      refine p_mem (LJ (cntN (phiT ps to) k) i) (fun _ hm => hm.of (lk_fresh2 (hfr _ _))) ?_
      exact p_atE (k + 1, i) ⟨⟨by omega, (cnt_f (phi_f hp hz)).symm ▸ hpi⟩, by dsimp only; omega⟩ (sub_cons rfl (sub_cons rfl (sub_cons rfl (sub_cons rfl (sub_cons rfl sub_nil))))) (congrArg (fun m => LJ m i) (cnt_f (phi_f hp hz)).symm)
  · replace h1 := of_decide_eq_false h1
    refine T_exit' ?_
    refine p_then_x ?_
    refine p_then_x ?_
    refine p_blk_x ?_
    refine p_end ?_
    refine ret_of rfl (.tuple #[]) (fun tmps w hk hm => results_none rfl _ _ _) (fun w hm => ?_)
    first
      | exact ⟨⟨_, rfl⟩, .inr ⟨j, hyx3, hm⟩⟩
      | (have hk8 : k = ps.length := (by omega); subst hk8; exact ⟨⟨_, rfl⟩, .inl ⟨i, hpi, hm⟩⟩)

theorem to_c (a : Option Addr) (n cap : Nat) (lost to : Int) (w : World) : Calls Try.prog 68 #[.agg #[.slice a n cap, .int .u64 lost], .int .i64 to] w fun e w' => ∃ q1 q2, e = .returned (.func (.func 103) #[] #[.pointer (some ⟨q1, 0, none⟩), .pointer (some ⟨q2, 0, none⟩)]) ∧ Below w.heap.size w w' ∧ (Res.blk q1 (.cells #[.slice a n cap, .int .u64 lost] 27)).ok w.heap.size w' ∧ (Res.blk q2 (.cells #[.int .i64 to] 3)).ok w.heap.size w' ∧ ∀ b, (Res.blk q1 (.cells #[.slice a n cap, .int .u64 lost] 27)).foot b → ¬ (Res.blk q2 (.cells #[.int .i64 to] 3)).foot b := by
  refine calls_of_T (l := [.agg #[.slice a n cap, .int .u64 lost], .int .i64 to]) 6 Try.func68 rfl rfl rfl ?_
  show T _ _ _ [(0, .agg #[.slice a n cap, .int .u64 lost]), (1, .int .i64 to)] []
  refine T_seq (T_region ?_)
  refine TL_new 1 (.cells #[.slice a n cap, .int .u64 lost] 27) (fun B => .pointer (some ⟨B, 0, none⟩)) (fun _ _ hρ _ => r_box (hρ _ _ rfl) rfl) rfl rfl rfl (w_n rfl) ?_
  intro B1
  refine TL_new 2 (.cells #[.int .i64 to] 3) (fun B => .pointer (some ⟨B, 0, none⟩)) (fun _ _ hρ _ => r_box (hρ _ _ rfl) rfl) rfl rfl rfl (w_n rfl) ?_
  intro B2
  refine TL_q (.nilFunc) (fun _ _ hρ _ => r_assign (hρ _ _ rfl)) rfl rfl rfl (w_n rfl) ?_
  refine TL_seq ?_
  refine T_seq (T_region ?_)
  refine TL_q (.func (.func 103) #[] #[.pointer (some ⟨B1, 0, none⟩), .pointer (some ⟨B2, 0, none⟩)]) (fun _ _ hρ _ => r_makeFunc (by simp) (map_arr (cons2 (hρ _ _ rfl) (cons2 (hρ _ _ rfl) rfl)))) rfl rfl rfl (w_n rfl) ?_
  refine TL_q (.func (.func 103) #[] #[.pointer (some ⟨B1, 0, none⟩), .pointer (some ⟨B2, 0, none⟩)]) (fun _ _ hρ _ => r_assign (hρ _ _ rfl)) rfl rfl rfl (w_n rfl) ?_
  refine TL_seq ?_
  refine T_ret' ?_
  refine ret_of rfl (.func (.func 103) #[] #[.pointer (some ⟨B1, 0, none⟩), .pointer (some ⟨B2, 0, none⟩)]) (fun tmps w hk hm => res1 rfl (res_tmp (hk 4 _ rfl))) (fun w hm => ?_)
  exact ⟨B1, B2, rfl, hm.ext, hm.own 1 _ rfl, hm.own 2 _ rfl, hm.sep 1 2 _ _ rfl rfl (by decide)⟩

theorem first_none {l : List Nat} (h : l.length = 0) : l[0]? = none := by rw [List.eq_nil_of_length_eq_zero h]; rfl

theorem first_ok (ps : List Pcl) (a : Option Addr) (cap : Nat) (lost to : Int) (w : World) (hv : SliceAt w a cap 3 Pcl.cells ps) (hcap : cap ≤ Go.maxLen) (hb : PcsAt w ps) (hck : checkV (pvs ps) lost = true) : Calls Try.prog 17 #[.agg #[.slice a ps.length cap, .int .u64 lost], .int .i64 to] w fun e w' => e = .returned (.tuple #[.int .i64 (((toV ps to)[0]?.getD 0 : Nat) : Int), .bool ((toV ps to)[0]?).isSome]) ∧ Below w.heap.size w w' := by
  have hvl := hv.1
  unfold Go.maxLen at hcap
  refine calls_of_T (l := [.agg #[.slice a ps.length cap, .int .u64 lost], .int .i64 to]) 19 Try.func17 rfl rfl rfl ?_
  show T _ _ _ [(0, .agg #[.slice a ps.length cap, .int .u64 lost]), (1, .int .i64 to)] []
  refine T_seq (T_region ?_)
  refine TL_new 904 (.cells #[.slice a ps.length cap, .int .u64 lost] 27) (fun B => .pointer (some ⟨B, 0, none⟩)) (fun _ _ hρ _ => r_box (hρ _ _ rfl) rfl) rfl rfl rfl (w_n rfl) ?_
  intro B1
  refine TL_q (.int .i64 0) (fun _ _ hρ _ => r_assign (hρ _ _ rfl)) rfl rfl rfl (w_n rfl) ?_
  refine TL_q (.bool false) (fun _ _ hρ _ => r_assign (hρ _ _ rfl)) rfl rfl rfl (w_n rfl) ?_
  refine TL_seq ?_
  refine T_scope ?_
  refine T_seq ?_
  refine T_seq (T_region ?_)
  refine TL_q (.agg #[.slice a ps.length cap, .int .u64 lost]) (fun _ _ hρ hm => r_loadA ag27 sz27 (hρ _ _ rfl) (hm.at 904 rfl) rfl rfl) rfl rfl rfl (w_n rfl) ?_
  refine TL_call (.int .i64 0) (fun _ _ hρ _ => r_call (args := [.agg #[.slice a ps.length cap, .int .u64 lost]]) (enters_of Try.func31 (by kernel_rfl) rfl) (hρ _ _ rfl) ((cons2 (hρ _ _ rfl) rfl)) rfl) (fun w hm => (ncheck_c ps a cap lost w (hv.keep hm.ext) hcap (hb.keep hm.ext)).mono fun _ _ h => ⟨h.1.trans (congrArg Ending.returned (int_as (if_pos hck))), h.2⟩) rfl rfl rfl (w_n rfl) ?_
  refine TL_q (.bool false) (fun _ _ hρ _ => r_as (r_neq (hρ _ _ rfl) (hρ _ _ rfl)) (by rfl)) rfl rfl rfl (w_n rfl) ?_
  refine TL_seq ?_
  refine T_cond_f rfl ?_
  refine T_skip' ?_
  refine p_seq ?_
  refine T_seq (T_region ?_)
  refine TL_new 905 (.cells #[.int .i64 0] 3) (fun B => .pointer (some ⟨B, 0, none⟩)) (fun _ _ _ _ => r_alloc (v := .int .i64 0) (by kernel_rfl) rfl) rfl rfl rfl (w_n rfl) ?_
  intro B2
  refine TL_new 906 (.cells #[.bool false] 4) (fun B => .pointer (some ⟨B, 0, none⟩)) (fun _ _ _ _ => r_alloc (v := .bool false) (by kernel_rfl) rfl) rfl rfl rfl (w_n rfl) ?_
  intro B3
  refine TL_store 905 (.cells #[.int .i64 0] 3) rfl (fun _ _ hρ hm => r_store sz3 (hρ _ _ rfl) (hρ _ _ rfl) (hm.at 905 rfl) rfl rfl rfl rfl) rfl rfl (w_n rfl) ?_
  refine TL_store 906 (.cells #[.bool false] 4) rfl (fun _ _ hρ hm => r_store sz4 (hρ _ _ rfl) (hρ _ _ rfl) (hm.at 906 rfl) rfl rfl rfl rfl) rfl rfl (w_n rfl) ?_
  refine TL_seq ?_
  refine T_label ?_
  refine T_seq ?_
  refine T_seq (T_region ?_)
  refine TL_q (.agg #[.slice a ps.length cap, .int .u64 lost]) (fun _ _ hρ hm => r_loadA ag27 sz27 (hρ _ _ rfl) (hm.at 904 rfl) rfl rfl) rfl rfl rfl (w_n rfl) ?_
  refine TL_q (.int .i64 to) (fun _ _ hρ _ => r_move (hρ _ _ rfl)) rfl rfl rfl (w_n rfl) ?_
  refine TL_callN (fun (_ : Nat × Nat) => True) (fun (qa4, qb4) => .func (.func 103) #[] #[.pointer (some ⟨qa4, 0, none⟩), .pointer (some ⟨qb4, 0, none⟩)]) (fun (qa4, qb4) => [(907, .blk qa4 (.cells #[.slice a ps.length cap, .int .u64 lost] 27)), (908, .blk qb4 (.cells #[.int .i64 to] 3))]) (fun _ _ hρ _ => r_call (args := [.agg #[.slice a ps.length cap, .int .u64 lost], .int .i64 to]) (enters_of Try.func68 (by kernel_rfl) rfl) (hρ _ _ rfl) ((cons2 (hρ _ _ rfl) (cons2 (hρ _ _ rfl) rfl))) rfl) (fun w _ => (to_c a ps.length cap lost to w).mono fun e w' ⟨q1, q2, he, hb, r1, r2, hs⟩ => ⟨(q1, q2), trivial, he, hb, newOk2 907 908 r1 r2 hs⟩) rfl rfl rfl (w_n rfl) ?_
  rintro ⟨qa4, qb4⟩ -
  refine TL_seq ?_
  refine T_block ?_
  refine T_sub [(4, .int .i64 0), (5, .bool false), (6, .pointer (some ⟨B2, 0, none⟩)), (7, .pointer (some ⟨B3, 0, none⟩)), (14, .func (.func 103) #[] #[.pointer (some ⟨qa4, 0, none⟩), .pointer (some ⟨qb4, 0, none⟩)])] [(907, .blk qa4 (.cells #[.slice a ps.length cap, .int .u64 lost] 27)), (908, .blk qb4 (.cells #[.int .i64 to] 3)), (904, .blk B1 (.cells #[.slice a ps.length cap, .int .u64 lost] 27)), (905, .blk B2 (.cells #[.int .i64 0] 3)), (906, .blk B3 (.cells #[.bool false] 4))] (sub_cons rfl (sub_cons rfl (sub_cons rfl (sub_cons rfl (sub_cons rfl sub_nil))))) (sub_cons rfl (sub_cons rfl (sub_cons rfl (sub_cons rfl (sub_cons rfl sub_nil))))) ?_
  refine T_range (ι := Nat) (encs := encI) (xs := toV ps to) rfl rfl (enters_of Try.func103 (by kernel_rfl) rfl) (fun _ => rfl) rfl 801 802 rfl (fun (k : Nat) (i : Nat) => k = 0) (fun (k : Nat) (i : Nat) => [(907, .blk qa4 (.cells #[.slice a ps.length cap, .int .u64 lost] 27)), (908, .blk qb4 (.cells #[.int .i64 to] 3)), (904, .blk B1 (.cells #[.slice a ps.length cap, .int .u64 lost] 27)), (905, .blk B2 (.cells #[.int .i64 0] 3)), (906, .blk B3 (.cells #[.bool false] 4))]) (fun c (i : Nat) => c = .exit 0 ∧ (toV ps to)[0]? = some i) (fun (i : Nat) => [(907, .blk qa4 (.cells #[.slice a ps.length cap, .int .u64 lost] 27)), (908, .blk qb4 (.cells #[.int .i64 to] 3)), (904, .blk B1 (.cells #[.slice a ps.length cap, .int .u64 lost] 27)), (905, .blk B2 (.cells #[.int .i64 ((i : Nat) : Int)] 3)), (906, .blk B3 (.cells #[.bool true] 4))]) (fun x => [(4, .int .i64 0), (5, .bool false), (6, .pointer (some ⟨B2, 0, none⟩)), (7, .pointer (some ⟨B3, 0, none⟩)), (14, .func (.func 103) #[] #[.pointer (some ⟨qa4, 0, none⟩), .pointer (some ⟨qb4, 0, none⟩)]), (8, .int .i64 ((x : Nat) : Int))]) (fun D l rec => to_iter w (fun k (_ : Nat) => k = 0) _ qa4 qb4 ps a cap lost to hv hcap (fun _ _ => rfl) (fun _ _ w hm => hm.at 907 rfl) (fun _ _ w hm => hm.at 908 rfl)) (fun _ _ => ⟨rfl, rfl⟩) (fun _ => ⟨rfl, rfl⟩) 0 rfl (sub_cons rfl (sub_cons rfl (sub_cons rfl (sub_cons rfl (sub_cons rfl sub_nil))))) ?_ ?_ ?_ ?_
  · intro D1 l1 rec1 k x i hx1 hp1
    refine T_sub [(4, .int .i64 0), (5, .bool false), (6, .pointer (some ⟨B2, 0, none⟩)), (7, .pointer (some ⟨B3, 0, none⟩)), (14, .func (.func 103) #[] #[.pointer (some ⟨qa4, 0, none⟩), .pointer (some ⟨qb4, 0, none⟩)]), (15, .int .i64 ((x : Nat) : Int))] [(801, .blk D1 (.deferred (some []))), (802, .blk l1 (.loop rec1)), (907, .blk qa4 (.cells #[.slice a ps.length cap, .int .u64 lost] 27)), (908, .blk qb4 (.cells #[.int .i64 to] 3)), (904, .blk B1 (.cells #[.slice a ps.length cap, .int .u64 lost] 27)), (905, .blk B2 (.cells #[.int .i64 0] 3)), (906, .blk B3 (.cells #[.bool false] 4))] (sub_cons rfl (sub_cons rfl (sub_cons rfl (sub_cons rfl (sub_cons rfl (sub_cons rfl sub_nil)))))) (sub_cons rfl (sub_cons rfl (sub_cons rfl (sub_cons rfl (sub_cons rfl (sub_cons rfl (sub_cons rfl sub_nil))))))) ?_
    refine T_region ?_
    refine TL_q (.int .i64 ((x : Nat) : Int)) (fun _ _ hρ _ => r_assign (hρ _ _ rfl)) rfl rfl rfl (w_n rfl) ?_
    refine TL_nil ?_
    exact p_at () trivial (sub_cons rfl (sub_cons rfl (sub_cons rfl (sub_cons rfl (sub_cons rfl (sub_cons rfl sub_nil)))))) (sub_cons rfl (sub_cons rfl (sub_cons rfl (sub_cons rfl (sub_cons rfl (sub_cons rfl (sub_cons rfl sub_nil)))))))
  · intro D1 l1 rec1 k x i hx1 hp1
    show T _ _ _ [(4, .int .i64 0), (5, .bool false), (6, .pointer (some ⟨B2, 0, none⟩)), (7, .pointer (some ⟨B3, 0, none⟩)), (14, .func (.func 103) #[] #[.pointer (some ⟨qa4, 0, none⟩), .pointer (some ⟨qb4, 0, none⟩)]), (8, .int .i64 ((x : Nat) : Int))] [(801, .blk D1 (.deferred (some []))), (802, .blk l1 (.loop { rec1 with state := .busy })), (907, .blk qa4 (.cells #[.slice a ps.length cap, .int .u64 lost] 27)), (908, .blk qb4 (.cells #[.int .i64 to] 3)), (904, .blk B1 (.cells #[.slice a ps.length cap, .int .u64 lost] 27)), (905, .blk B2 (.cells #[.int .i64 0] 3)), (906, .blk B3 (.cells #[.bool false] 4))]
    subst hp1
    refine T_block ?_
    refine T_seq (T_region ?_)
    refine TL_q (.int .i64 ((x : Nat) : Int)) (fun _ _ hρ _ => r_move (hρ _ _ rfl)) rfl rfl rfl (w_n rfl) ?_
    refine TL_store 905 (.cells #[.int .i64 ((x : Nat) : Int)] 3) rfl (fun _ _ hρ hm => r_store sz3 (hρ _ _ rfl) (hρ _ _ rfl) (hm.at 905 rfl) rfl rfl rfl rfl) rfl rfl (w_n rfl) ?_
    refine TL_store 906 (.cells #[.bool true] 4) rfl (fun _ _ hρ hm => r_store sz4 (hρ _ _ rfl) (hρ _ _ rfl) (hm.at 906 rfl) rfl rfl rfl rfl) rfl rfl (w_n rfl) ?_
    refine TL_seq ?_
    refine T_exit' ?_
    refine p_blk_o rfl ?_
    exact p_round_x x ⟨rfl, hx1⟩ (sub_cons rfl (sub_cons rfl (sub_cons rfl (sub_cons rfl (sub_cons rfl (sub_cons rfl (sub_cons rfl sub_nil)))))))
  · intro D1 i hp1
    refine p_sub [(4, .int .i64 0), (5, .bool false), (6, .pointer (some ⟨B2, 0, none⟩)), (7, .pointer (some ⟨B3, 0, none⟩)), (14, .func (.func 103) #[] #[.pointer (some ⟨qa4, 0, none⟩), .pointer (some ⟨qb4, 0, none⟩)])] [(801, .blk D1 (.deferred (some []))), (907, .blk qa4 (.cells #[.slice a ps.length cap, .int .u64 lost] 27)), (908, .blk qb4 (.cells #[.int .i64 to] 3)), (904, .blk B1 (.cells #[.slice a ps.length cap, .int .u64 lost] 27)), (905, .blk B2 (.cells #[.int .i64 0] 3)), (906, .blk B3 (.cells #[.bool false] 4))] (sub_cons rfl (sub_cons rfl (sub_cons rfl (sub_cons rfl (sub_cons rfl sub_nil))))) (sub_cons rfl (sub_cons rfl (sub_cons rfl (sub_cons rfl (sub_cons rfl (sub_cons rfl sub_nil)))))) ?_
    refine p_blk_n ?_
    refine p_seq ?_
    refine T_seq (T_draw (V := [(0, .int .i64 0), (1, .bool false), (2, .int .i64 0), (3, .bool false)]) [0, 0, 1, 7] [[(6, none)], [(7, none)], [(17, some 0)], [(18, some 1)]] 0 mixed (by kernel_rfl) ?_)
    refine G_last [0, 1, 2, 3] [(4, .int .i64 0), (5, .bool false)] (by kernel_rfl) (allM (all_cons (q_run (.int .i64 0) rfl rfl (wv_n rfl) rfl (fun _ _ hρ hm => r_load ag3 (hρ _ _ rfl) (hm.at 905 rfl) rfl)) (all_cons (q_run (.bool false) rfl rfl (wv_n rfl) rfl (fun _ _ hρ hm => r_load ag4 (hρ _ _ rfl) (hm.at 906 rfl) rfl)) (all_cons (q_run (.int .i64 0) rfl rfl (wv_n rfl) rfl (fun _ _ hρ _ => r_assign (hρ _ _ rfl))) (all_cons (q_run (.bool false) rfl rfl (wv_n rfl) rfl (fun _ _ hρ _ => r_assign (hρ _ _ rfl))) all_nil))))) (end_new 2 rfl rfl (end_new 3 rfl rfl end_nil)) ?_
    refine T_ret' ?_
    refine p_ng_r ?_
    refine ret_of1 801 D1 rfl rfl (.tuple #[.int .i64 0, .bool false]) (fun tmps w hk hm => res2 rfl (res_tmp (hk 4 _ rfl)) (res_tmp (hk 5 _ rfl))) (fun w hm => ?_)
    exact ⟨by rw [first_none hp1]; rfl, hm.ext⟩
  · intro D1 c i hc
    obtain ⟨rfl, hi⟩ := hc
    show T _ _ _ [(4, .int .i64 0), (5, .bool false), (6, .pointer (some ⟨B2, 0, none⟩)), (7, .pointer (some ⟨B3, 0, none⟩)), (14, .func (.func 103) #[] #[.pointer (some ⟨qa4, 0, none⟩), .pointer (some ⟨qb4, 0, none⟩)])] [(801, .blk D1 (.deferred (some []))), (907, .blk qa4 (.cells #[.slice a ps.length cap, .int .u64 lost] 27)), (908, .blk qb4 (.cells #[.int .i64 to] 3)), (904, .blk B1 (.cells #[.slice a ps.length cap, .int .u64 lost] 27)), (905, .blk B2 (.cells #[.int .i64 ((i : Nat) : Int)] 3)), (906, .blk B3 (.cells #[.bool true] 4))]
    refine T_exit' ?_
    refine p_blk_x ?_
    refine p_seq ?_
    refine T_seq (T_draw (V := [(0, .int .i64 ((i : Nat) : Int)), (1, .bool true), (2, .int .i64 ((i : Nat) : Int)), (3, .bool true)]) [0, 0, 1, 7] [[(6, none)], [(7, none)], [(17, some 0)], [(18, some 1)]] 0 mixed (by kernel_rfl) ?_)
    refine G_last [0, 1, 2, 3] [(4, .int .i64 ((i : Nat) : Int)), (5, .bool true)] (by kernel_rfl) (allM (all_cons (q_run (.int .i64 ((i : Nat) : Int)) rfl rfl (wv_n rfl) rfl (fun _ _ hρ hm => r_load ag3 (hρ _ _ rfl) (hm.at 905 rfl) rfl)) (all_cons (q_run (.bool true) rfl rfl (wv_n rfl) rfl (fun _ _ hρ hm => r_load ag4 (hρ _ _ rfl) (hm.at 906 rfl) rfl)) (all_cons (q_run (.int .i64 ((i : Nat) : Int)) rfl rfl (wv_n rfl) rfl (fun _ _ hρ _ => r_assign (hρ _ _ rfl))) (all_cons (q_run (.bool true) rfl rfl (wv_n rfl) rfl (fun _ _ hρ _ => r_assign (hρ _ _ rfl))) all_nil))))) (end_new 2 rfl rfl (end_new 3 rfl rfl end_nil)) ?_
    refine T_ret' ?_
    refine p_ng_r ?_
    refine ret_of1 801 D1 rfl rfl (.tuple #[.int .i64 ((i : Nat) : Int), .bool true]) (fun tmps w hk hm => res2 rfl (res_tmp (hk 4 _ rfl)) (res_tmp (hk 5 _ rfl))) (fun w hm => ?_)
    exact ⟨by rw [hi]; rfl, hm.ext⟩

end Go.Proofs.Ytcidgbjgeegepaa
