/- Texts of this seat, merged: part 4. -/
import Derived.Test.YtcidgbjgeegepaaMg3
/- net and journal: a trick, and its error. Printed by a program of this seat's prover. -/
namespace Go.Proofs.Ytcidgbjgeegepaa
open Go Go.RowKit
set_option maxRecDepth 10000
abbrev bxL (TT HB H : Nat) (tk i tb : Int) (tm : Wd) : Heap := [(910, .blk TT (.cells #[.int .i64 tk, .int .i64 i, .int .i64 tb, .int .u32 (tm.toNat : Int)] 48)), (911, .blk HB (.cells #[.pointer (some ⟨H, 0, none⟩)] 98))]

theorem does_ok {w₀ : World} {L : Heap} (H : Nat) (h : Hd) (bs : List (RowG By)) (tk i tb : Int) (tm : Wd) (hL : NoIds L 910 1950) (HC : ∀ (L : Heap) (TT HB : Nat), NoIds L 1000 1200 → ∀ w, MemOk w₀ (hdL H h bs ++ [(910, .blk TT (.cells #[.int .i64 tk, .int .i64 i, .int .i64 tb, .int .u32 (tm.toNat : Int)] 48)), (911, .blk HB (.cells #[.pointer (some ⟨H, 0, none⟩)] 98))] ++ L) w → Calls Try.prog 104 #[.pointer (some ⟨TT, 0, none⟩), .pointer (some ⟨HB, 0, none⟩)] w (HAns w₀ (Done h bs ⟨tk, i, tb, tm⟩) (fun _ => .tuple #[]) (fun x => hdL H x.1 x.2 ++ [(910, .blk TT (.cells #[.int .i64 tk, .int .i64 i, .int .i64 tb, .int .u32 (tm.toNat : Int)] 48)), (911, .blk HB (.cells #[.pointer (some ⟨H, 0, none⟩)] 98))] ++ L))) : ∀ w, MemOk w₀ (hdL H h bs ++ L) w → Calls Try.prog 70 #[.pointer (some ⟨H, 0, none⟩), .agg #[.int .i64 tk, .int .i64 i, .int .i64 tb, .int .u32 (tm.toNat : Int)]] w (HAns w₀ (Done h bs ⟨tk, i, tb, tm⟩) (fun _ => .int .i64 0) (fun x => hdL H x.1 x.2 ++ L)) := by
  refine ht_of_T (l := [.pointer (some ⟨H, 0, none⟩), .agg #[.int .i64 tk, .int .i64 i, .int .i64 tb, .int .u32 ((tm).toNat : Int)]]) (L := ((900, .blk H (.cells #[.slice h.n.a h.n.l.length h.n.cap, .int .u64 h.lost, .slice h.t.a h.t.l.length h.t.cap] 104)) :: (901, .row (.slice h.n.a h.n.l.length h.n.cap) 36 3 h.n.l.length (h.n.l.flatMap Pcl.cells)) :: (902, .row (.slice h.t.a h.t.l.length h.t.cap) 36 3 h.t.l.length (h.t.l.flatMap Pcl.cells)) :: (903, .pool 5 1 byc bs) :: L)) 7 Try.func70 rfl rfl rfl ?_
  show T _ _ _ [(0, .pointer (some ⟨H, 0, none⟩)), (1, .agg #[.int .i64 tk, .int .i64 i, .int .i64 tb, .int .u32 ((tm).toNat : Int)])] ((900, .blk H (.cells #[.slice h.n.a h.n.l.length h.n.cap, .int .u64 h.lost, .slice h.t.a h.t.l.length h.t.cap] 104)) :: (901, .row (.slice h.n.a h.n.l.length h.n.cap) 36 3 h.n.l.length (h.n.l.flatMap Pcl.cells)) :: (902, .row (.slice h.t.a h.t.l.length h.t.cap) 36 3 h.t.l.length (h.t.l.flatMap Pcl.cells)) :: (903, .pool 5 1 byc bs) :: L)
  refine T_seq (T_region ?_)
  refine TL_new 911 (.cells #[.pointer (some ⟨H, 0, none⟩)] 98) (fun B => .pointer (some ⟨B, 0, none⟩)) (fun _ _ hρ _ => r_box (hρ _ _ rfl) rfl) rfl rfl rfl (w_n rfl) ?_
  intro B1
  refine TL_new 910 (.cells #[.int .i64 tk, .int .i64 i, .int .i64 tb, .int .u32 ((tm).toNat : Int)] 48) (fun B => .pointer (some ⟨B, 0, none⟩)) (fun _ _ hρ _ => r_box (hρ _ _ rfl) rfl) rfl rfl rfl (w_n rfl) ?_
  intro B2
  refine TL_q (.int .i64 0) (fun _ _ hρ _ => r_assign (hρ _ _ rfl)) rfl rfl rfl (w_n rfl) ?_
  refine TL_seq ?_
  refine T_seq (T_region ?_)
  refine TL_q (.func (.func 104) #[] #[.pointer (some ⟨B2, 0, none⟩), .pointer (some ⟨B1, 0, none⟩)]) (fun _ _ hρ _ => r_makeFunc (by simp) (map_arr (cons2 (hρ _ _ rfl) (cons2 (hρ _ _ rfl) rfl)))) rfl rfl rfl (w_n rfl) ?_
  refine TL_callH _ _ _ (fun _ _ hρ _ => r_call (args := [.func (.func 104) #[] #[.pointer (some ⟨B2, 0, none⟩), .pointer (some ⟨B1, 0, none⟩)]]) (enters_of Try.func59 (by kernel_rfl) rfl) (hρ _ _ rfl) ((cons2 (hρ _ _ rfl) rfl)) rfl) (fun w hm => trN_ok 104 #[.pointer (some ⟨B2, 0, none⟩), .pointer (some ⟨B1, 0, none⟩)]  (Done h bs ⟨tk, i, tb, tm⟩) (fun x => hdL H x.1 x.2 ++ bxL B2 B1 H tk i tb tm) (enters_of Try.func104 (by kernel_rfl) rfl) (lk_ids (by repeat (first | exact hL.sub rfl rfl | refine noIds_cons rfl ?_))) (fun _ => rfl) (fun B w hm => HC _ B2 B1 (by repeat (first | exact hL.sub rfl rfl | refine noIds_cons rfl ?_)) w (hm.of (lk_dups (A := hdL H h bs ++ bxL B2 B1 H tk i tb tm) (sub_cons rfl (sub_cons rfl (sub_cons rfl (sub_cons rfl (sub_cons rfl (sub_cons rfl sub_nil))))))))) w hm) rfl rfl rfl (w_n rfl) ?_
  rintro ⟨h3, bs3⟩ hd
  refine TL_q (.int .i64 0) (fun _ _ hρ _ => r_assign (hρ _ _ rfl)) rfl rfl rfl (w_n rfl) ?_
  refine TL_seq ?_
  refine T_ret' ?_
  refine ret_of rfl (.int .i64 0) (fun tmps w hk hm => res1 rfl (res_tmp (hk 4 _ rfl))) (fun w hm => ?_)
  refine ⟨_, hd, rfl, ?_⟩
  first | exact hm.of (lk_fin (F := [_, _, _, _, _, _]) (T := hdL H _ _) (sub_cons rfl (sub_cons rfl (sub_cons rfl (sub_cons rfl sub_nil)))) rfl hL) | exact hm.of (lk_fin (F := [_, _, _, _, _, _, _]) (T := hdL H _ _) (sub_cons rfl (sub_cons rfl (sub_cons rfl (sub_cons rfl sub_nil)))) rfl hL) | exact hm.of (lk_fin (F := [_, _, _, _, _, _, _, _]) (T := hdL H _ _) (sub_cons rfl (sub_cons rfl (sub_cons rfl (sub_cons rfl sub_nil)))) rfl hL) | exact hm.of (lk_fin (F := [_, _, _, _, _, _, _, _, _]) (T := hdL H _ _) (sub_cons rfl (sub_cons rfl (sub_cons rfl (sub_cons rfl sub_nil)))) rfl hL) | exact hm.of (lk_fin (F := [_, _, _, _, _, _, _, _, _, _]) (T := hdL H _ _) (sub_cons rfl (sub_cons rfl (sub_cons rfl (sub_cons rfl sub_nil)))) rfl hL) | exact hm.of (lk_fin (F := [_, _, _, _, _, _, _, _, _, _, _]) (T := hdL H _ _) (sub_cons rfl (sub_cons rfl (sub_cons rfl (sub_cons rfl sub_nil)))) rfl hL) | exact hm.of (lk_fin (F := [_, _, _, _, _, _, _, _, _, _, _, _]) (T := hdL H _ _) (sub_cons rfl (sub_cons rfl (sub_cons rfl (sub_cons rfl sub_nil)))) rfl hL) | exact hm.of (lk_fin (F := [_, _, _, _, _, _, _, _, _, _, _, _, _]) (T := hdL H _ _) (sub_cons rfl (sub_cons rfl (sub_cons rfl (sub_cons rfl sub_nil)))) rfl hL) | exact hm.of (lk_fin (F := [_, _, _, _, _, _, _, _, _, _, _, _, _, _]) (T := hdL H _ _) (sub_cons rfl (sub_cons rfl (sub_cons rfl (sub_cons rfl sub_nil)))) rfl hL) | exact hm.of (lk_fin (F := [_, _, _, _, _, _, _, _, _, _, _, _, _, _, _]) (T := hdL H _ _) (sub_cons rfl (sub_cons rfl (sub_cons rfl (sub_cons rfl sub_nil)))) rfl hL)

theorem does_no {w₀ : World} {L : Heap} (H : Nat) (h : Hd) (bs : List (RowG By)) (tk i tb er : Int) (tm : Wd) (hL : NoIds L 910 1950) (HC : ∀ (L : Heap) (TT HB : Nat), NoIds L 1000 1200 → ∀ w, MemOk w₀ (hdL H h bs ++ [(910, .blk TT (.cells #[.int .i64 tk, .int .i64 i, .int .i64 tb, .int .u32 (tm.toNat : Int)] 48)), (911, .blk HB (.cells #[.pointer (some ⟨H, 0, none⟩)] 98))] ++ L) w → Calls Try.prog 104 #[.pointer (some ⟨TT, 0, none⟩), .pointer (some ⟨HB, 0, none⟩)] w (PAns w₀ (fun _ : Unit => True) (fun _ => .iface 28 (.int .i64 er)) (fun _ => hdL H h bs ++ [(910, .blk TT (.cells #[.int .i64 tk, .int .i64 i, .int .i64 tb, .int .u32 (tm.toNat : Int)] 48)), (911, .blk HB (.cells #[.pointer (some ⟨H, 0, none⟩)] 98))] ++ L))) : ∀ w, MemOk w₀ (hdL H h bs ++ L) w → Calls Try.prog 70 #[.pointer (some ⟨H, 0, none⟩), .agg #[.int .i64 tk, .int .i64 i, .int .i64 tb, .int .u32 (tm.toNat : Int)]] w (HAns w₀ (fun _ : Unit => True) (fun _ => .int .i64 er) (fun _ => hdL H h bs ++ L)) := by
  refine ht_of_T (l := [.pointer (some ⟨H, 0, none⟩), .agg #[.int .i64 tk, .int .i64 i, .int .i64 tb, .int .u32 ((tm).toNat : Int)]]) (L := ((900, .blk H (.cells #[.slice h.n.a h.n.l.length h.n.cap, .int .u64 h.lost, .slice h.t.a h.t.l.length h.t.cap] 104)) :: (901, .row (.slice h.n.a h.n.l.length h.n.cap) 36 3 h.n.l.length (h.n.l.flatMap Pcl.cells)) :: (902, .row (.slice h.t.a h.t.l.length h.t.cap) 36 3 h.t.l.length (h.t.l.flatMap Pcl.cells)) :: (903, .pool 5 1 byc bs) :: L)) 7 Try.func70 rfl rfl rfl ?_
  show T _ _ _ [(0, .pointer (some ⟨H, 0, none⟩)), (1, .agg #[.int .i64 tk, .int .i64 i, .int .i64 tb, .int .u32 ((tm).toNat : Int)])] ((900, .blk H (.cells #[.slice h.n.a h.n.l.length h.n.cap, .int .u64 h.lost, .slice h.t.a h.t.l.length h.t.cap] 104)) :: (901, .row (.slice h.n.a h.n.l.length h.n.cap) 36 3 h.n.l.length (h.n.l.flatMap Pcl.cells)) :: (902, .row (.slice h.t.a h.t.l.length h.t.cap) 36 3 h.t.l.length (h.t.l.flatMap Pcl.cells)) :: (903, .pool 5 1 byc bs) :: L)
  refine T_seq (T_region ?_)
  refine TL_new 911 (.cells #[.pointer (some ⟨H, 0, none⟩)] 98) (fun B => .pointer (some ⟨B, 0, none⟩)) (fun _ _ hρ _ => r_box (hρ _ _ rfl) rfl) rfl rfl rfl (w_n rfl) ?_
  intro B1
  refine TL_new 910 (.cells #[.int .i64 tk, .int .i64 i, .int .i64 tb, .int .u32 ((tm).toNat : Int)] 48) (fun B => .pointer (some ⟨B, 0, none⟩)) (fun _ _ hρ _ => r_box (hρ _ _ rfl) rfl) rfl rfl rfl (w_n rfl) ?_
  intro B2
  refine TL_q (.int .i64 0) (fun _ _ hρ _ => r_assign (hρ _ _ rfl)) rfl rfl rfl (w_n rfl) ?_
  refine TL_seq ?_
  refine T_seq (T_region ?_)
  refine TL_q (.func (.func 104) #[] #[.pointer (some ⟨B2, 0, none⟩), .pointer (some ⟨B1, 0, none⟩)]) (fun _ _ hρ _ => r_makeFunc (by simp) (map_arr (cons2 (hρ _ _ rfl) (cons2 (hρ _ _ rfl) rfl)))) rfl rfl rfl (w_n rfl) ?_
  refine TL_callH _ _ _ (fun _ _ hρ _ => r_call (args := [.func (.func 104) #[] #[.pointer (some ⟨B2, 0, none⟩), .pointer (some ⟨B1, 0, none⟩)]]) (enters_of Try.func59 (by kernel_rfl) rfl) (hρ _ _ rfl) ((cons2 (hρ _ _ rfl) rfl)) rfl) (fun w hm => trN_no 104 #[.pointer (some ⟨B2, 0, none⟩), .pointer (some ⟨B1, 0, none⟩)]  (fun _ : Unit => True) (fun _ => er) (fun _ => hdL H h bs ++ bxL B2 B1 H tk i tb tm) (enters_of Try.func104 (by kernel_rfl) rfl) (lk_ids (by repeat (first | exact hL.sub rfl rfl | refine noIds_cons rfl ?_))) (fun _ => rfl) (fun B w hm => HC _ B2 B1 (by repeat (first | exact hL.sub rfl rfl | refine noIds_cons rfl ?_)) w (hm.of (lk_dups (A := hdL H h bs ++ bxL B2 B1 H tk i tb tm) (sub_cons rfl (sub_cons rfl (sub_cons rfl (sub_cons rfl (sub_cons rfl (sub_cons rfl sub_nil))))))))) w hm) rfl rfl rfl (w_n rfl) ?_
  rintro ⟨⟩ -
  refine TL_q (.int .i64 er) (fun _ _ hρ _ => r_assign (hρ _ _ rfl)) rfl rfl rfl (w_n rfl) ?_
  refine TL_seq ?_
  refine T_ret' ?_
  refine ret_of rfl (.int .i64 er) (fun tmps w hk hm => res1 rfl (res_tmp (hk 4 _ rfl))) (fun w hm => ?_)
  refine ⟨(), trivial, rfl, ?_⟩
  first | exact hm.of (lk_fin (F := [_, _, _, _, _, _]) (T := hdL H _ bs) (sub_cons rfl (sub_cons rfl (sub_cons rfl (sub_cons rfl sub_nil)))) rfl hL) | exact hm.of (lk_fin (F := [_, _, _, _, _, _, _]) (T := hdL H _ bs) (sub_cons rfl (sub_cons rfl (sub_cons rfl (sub_cons rfl sub_nil)))) rfl hL) | exact hm.of (lk_fin (F := [_, _, _, _, _, _, _, _]) (T := hdL H _ bs) (sub_cons rfl (sub_cons rfl (sub_cons rfl (sub_cons rfl sub_nil)))) rfl hL) | exact hm.of (lk_fin (F := [_, _, _, _, _, _, _, _, _]) (T := hdL H _ bs) (sub_cons rfl (sub_cons rfl (sub_cons rfl (sub_cons rfl sub_nil)))) rfl hL) | exact hm.of (lk_fin (F := [_, _, _, _, _, _, _, _, _, _]) (T := hdL H _ bs) (sub_cons rfl (sub_cons rfl (sub_cons rfl (sub_cons rfl sub_nil)))) rfl hL) | exact hm.of (lk_fin (F := [_, _, _, _, _, _, _, _, _, _, _]) (T := hdL H _ bs) (sub_cons rfl (sub_cons rfl (sub_cons rfl (sub_cons rfl sub_nil)))) rfl hL) | exact hm.of (lk_fin (F := [_, _, _, _, _, _, _, _, _, _, _, _]) (T := hdL H _ bs) (sub_cons rfl (sub_cons rfl (sub_cons rfl (sub_cons rfl sub_nil)))) rfl hL) | exact hm.of (lk_fin (F := [_, _, _, _, _, _, _, _, _, _, _, _, _]) (T := hdL H _ bs) (sub_cons rfl (sub_cons rfl (sub_cons rfl (sub_cons rfl sub_nil)))) rfl hL) | exact hm.of (lk_fin (F := [_, _, _, _, _, _, _, _, _, _, _, _, _, _]) (T := hdL H _ bs) (sub_cons rfl (sub_cons rfl (sub_cons rfl (sub_cons rfl sub_nil)))) rfl hL) | exact hm.of (lk_fin (F := [_, _, _, _, _, _, _, _, _, _, _, _, _, _, _]) (T := hdL H _ bs) (sub_cons rfl (sub_cons rfl (sub_cons rfl (sub_cons rfl sub_nil)))) rfl hL)

/-- A trick, whatever it is: its error, and what it has done. -/
theorem does_any {w₀ : World} {L : Heap} (H : Nat) (h : Hd) (bs : List (RowG By)) (t : Trk) (hL : NoIds L 910 1950) (hh : HdOk h bs) (htl : h.t.l.length ≤ 1000) : ∀ w, MemOk w₀ (hdL H h bs ++ L) w → Calls Try.prog 70 #[.pointer (some ⟨H, 0, none⟩), t.v] w (HAns w₀ (Done h bs t) (fun _ => .int .i64 (doV h.nv t).1) (fun x => hdL H x.1 x.2 ++ L)) := by
  obtain ⟨tk, i, tb, tm⟩ := t
  have no : ∀ er : Int, doV h.nv ⟨tk, i, tb, tm⟩ = (er, h.nv, []) → (∀ (L : Heap) (TT HB : Nat), NoIds L 1000 1200 → ∀ w, MemOk w₀ (hdL H h bs ++ [(910, .blk TT (.cells #[.int .i64 tk, .int .i64 i, .int .i64 tb, .int .u32 (tm.toNat : Int)] 48)), (911, .blk HB (.cells #[.pointer (some ⟨H, 0, none⟩)] 98))] ++ L) w → Calls Try.prog 104 #[.pointer (some ⟨TT, 0, none⟩), .pointer (some ⟨HB, 0, none⟩)] w (PAns w₀ (fun _ : Unit => True) (fun _ => .iface 28 (.int .i64 er)) (fun _ => hdL H h bs ++ [(910, .blk TT (.cells #[.int .i64 tk, .int .i64 i, .int .i64 tb, .int .u32 (tm.toNat : Int)] 48)), (911, .blk HB (.cells #[.pointer (some ⟨H, 0, none⟩)] 98))] ++ L))) →
      ∀ w, MemOk w₀ (hdL H h bs ++ L) w → Calls Try.prog 70 #[.pointer (some ⟨H, 0, none⟩), Trk.v ⟨tk, i, tb, tm⟩] w (HAns w₀ (Done h bs ⟨tk, i, tb, tm⟩) (fun _ => .int .i64 (doV h.nv ⟨tk, i, tb, tm⟩).1) (fun x => hdL H x.1 x.2 ++ L)) := fun er e HC w hm =>
    (does_no H h bs tk i tb er tm hL HC w hm).mono fun en w' ⟨_, _, he, hm'⟩ => ⟨(h, bs), done_no hh e, by rw [e]; exact he, hm'⟩
  have ok : (doV h.nv ⟨tk, i, tb, tm⟩).1 = 0 → (∀ (L : Heap) (TT HB : Nat), NoIds L 1000 1200 → ∀ w, MemOk w₀ (hdL H h bs ++ [(910, .blk TT (.cells #[.int .i64 tk, .int .i64 i, .int .i64 tb, .int .u32 (tm.toNat : Int)] 48)), (911, .blk HB (.cells #[.pointer (some ⟨H, 0, none⟩)] 98))] ++ L) w → Calls Try.prog 104 #[.pointer (some ⟨TT, 0, none⟩), .pointer (some ⟨HB, 0, none⟩)] w (HAns w₀ (Done h bs ⟨tk, i, tb, tm⟩) (fun _ => .tuple #[]) (fun x => hdL H x.1 x.2 ++ [(910, .blk TT (.cells #[.int .i64 tk, .int .i64 i, .int .i64 tb, .int .u32 (tm.toNat : Int)] 48)), (911, .blk HB (.cells #[.pointer (some ⟨H, 0, none⟩)] 98))] ++ L))) →
      ∀ w, MemOk w₀ (hdL H h bs ++ L) w → Calls Try.prog 70 #[.pointer (some ⟨H, 0, none⟩), Trk.v ⟨tk, i, tb, tm⟩] w (HAns w₀ (Done h bs ⟨tk, i, tb, tm⟩) (fun _ => .int .i64 (doV h.nv ⟨tk, i, tb, tm⟩).1) (fun x => hdL H x.1 x.2 ++ L)) := fun e HC w hm => by
    rw [e]; exact does_ok H h bs tk i tb tm hL HC w hm
  by_cases k0 : tk < 1
  · exact no 2 (by unfold doV; rw [if_pos (fun e => by have := e.1; dsimp only at this; omega)]) fun L TT HB hL w hm => does1_kind0 H h bs TT HB tb tm tk i hL k0 w hm
  by_cases k5 : 5 ≤ tk
  · exact no 2 (by unfold doV; rw [if_pos (fun e => by have := e.2; dsimp only at this; omega)]) fun L TT HB hL w hm => does1_kind5 H h bs TT HB tb tm tk i hL k5 w hm
  have hk : 1 ≤ tk ∧ tk < 5 := ⟨by omega, by omega⟩
  have hk' : 1 ≤ tk ∧ tk ≤ 4 := ⟨by omega, by omega⟩
  by_cases i0 : i < 0
  · exact no 4 (by unfold doV; rw [if_neg (fun e => e hk'), if_neg (show ¬ 0 ≤ i by omega)]) fun L TT HB hL w hm => does1_at0 H h bs TT HB tb tm tk i hL hk i0 w hm
  obtain ⟨j, rfl⟩ : ∃ j : Nat, i = (j : Int) := ⟨i.toNat, by omega⟩
  by_cases i9 : h.n.l.length ≤ j
  · exact no 4 (by unfold doV; rw [if_neg (fun e => e hk'), if_pos (Int.natCast_nonneg j)]; have e : h.nv.1[(j : Int).toNat]? = none := List.getElem?_eq_none (by rw [pvs_len]; exact i9); dsimp only; rw [e]) fun L TT HB hL w hm => does1_at9 H h bs TT HB tb tm tk j hL hk (by omega) w hm
  have hat : j < h.n.l.length := by omega
  obtain ⟨p, hp⟩ : ∃ p, h.n.l[j]? = some p := ⟨_, List.getElem?_eq_getElem hat⟩
  have e := doV_get (tb := tb) (tm := tm) hk' hp
  rcases (by omega : tk = 1 ∨ tk = 2 ∨ tk = 3 ∨ tk = 4) with rfl | rfl | rfl | rfl
  · exact ok (by rw [e]; rfl) fun L TT HB hL w hm => does1_take H h bs TT HB tb tm j hL hh htl hat p hp w hm
  · exact ok (by rw [e]; rfl) fun L TT HB hL w hm => does1_drop H h bs TT HB tb tm j hL hh htl hat p hp w hm
  · exact ok (by rw [e]; rfl) fun L TT HB hL w hm => does1_twice H h bs TT HB tb tm j hL hh htl hat p hp w hm
  · rw [if_neg (by decide), if_neg (by decide), if_neg (by decide)] at e
    cases hs : p.sp with
    | true =>
      rw [if_pos hs] at e
      exact no 5 e fun L TT HB hL w hm => does1_there H h bs TT HB tb tm j hL hh htl hat p hp hs w hm
    | false =>
      rw [if_neg (by rw [hs]; decide)] at e
      cases hb : spoilI p.r.l tb tm with
      | none =>
        rw [hb] at e
        exact no 2 e fun L TT HB hL w hm => does1_void H h bs TT HB tb tm j hL hh htl hat p hp hs hb w hm
      | some b =>
        rw [hb] at e
        exact ok (by rw [e]) fun L TT HB hL w hm => does1_spoil H h bs TT HB tb tm j hL hh htl hat p hp hs hb w hm
end Go.Proofs.Ytcidgbjgeegepaa
/- net and journal: of, Send. Printed by a program of this seat's prover. -/
namespace Go.Proofs.Ytcidgbjgeegepaa
open Go Go.RowKit
set_option maxRecDepth 10000
/-- A hand that is new: of a net. -/
structure OfOk (ps : List Pcl) (lost : Int) (x : Nat × Hd × List (RowG By)) : Prop where
  nv : x.2.1.nv = (pvs ps, lost)
  ok : HdOk x.2.1 x.2.2
  t : x.2.1.t = ⟨none, 0, []⟩
theorem of_step {ls ps : List Pcl} {k : Nat} {p q : Pcl} (h : pvs ls = pvs (ps.take k)) (hp : ps[k]? = some p) (e : q.pv = p.pv) : pvs (ls ++ [q]) = pvs (ps.take (k + 1)) := by
  rw [pvs_snoc, List.take_add_one, hp, h, e]
  unfold pvs
  rw [List.map_append]; rfl
theorem pvs_front {ls ps : List Pcl} {k : Nat} (h : pvs ls = pvs (ps.take k)) (hk : k ≤ ps.length) : ls.length = k := by
  have := congrArg List.length h
  rw [pvs_len, pvs_len, List.length_take] at this
  omega
theorem MemOk.newOk {w w' : World} {L T : Heap} (hm : MemOk w L w') (h : ∀ k q, lk T k = some q → lk L k = some q) : NewOk w w' T := ⟨fun i r hi => hm.own i r (h i r hi), fun i j r s h1 h2 => hm.sep i j r s (h i r h1) (h j s h2)⟩
theorem of_ok (ps : List Pcl) (a : Option Addr) (cap : Nat) (lost : Int) (w : World) (hv : SliceAt w a cap 3 Pcl.cells ps) (hcap : cap ≤ Go.maxLen) (hb : PcsAt w ps) (h0 : 0 ≤ lost) (hck : checkV (pvs ps) lost = true) : Calls Try.prog 61 #[.agg #[.slice a ps.length cap, .int .u64 lost]] w fun e w' => ∃ x : Nat × Hd × List (RowG By), OfOk ps lost x ∧ e = .returned (.pointer (some ⟨x.1, 0, none⟩)) ∧ Below w.heap.size w w' ∧ NewOk w w' (hdL x.1 x.2.1 x.2.2) := by
  have hvl := hv.1
  unfold Go.maxLen at hcap
  have hc := checkV_len hck
  have hcl := hc.1
  rw [pvs_len] at hcl
  unfold MT at hc
  refine calls_of_T (l := [.agg #[.slice a ps.length cap, .int .u64 lost]]) 37 Try.func61 rfl rfl rfl ?_
  show T _ _ _ [(0, .agg #[.slice a ps.length cap, .int .u64 lost])] []
  refine T_seq (T_region ?_)
  refine TL_new 1 (.cells #[.slice a ps.length cap, .int .u64 lost] 27) (fun B => .pointer (some ⟨B, 0, none⟩)) (fun _ _ hρ _ => r_box (hρ _ _ rfl) rfl) rfl rfl rfl (w_n rfl) ?_
  intro B1
  refine TL_q (.pointer none) (fun _ _ hρ _ => r_assign (hρ _ _ rfl)) rfl rfl rfl (w_n rfl) ?_
  refine TL_seq ?_
  refine T_seq (T_region ?_)
  refine TL_q (.agg #[.slice a ps.length cap, .int .u64 lost]) (fun _ _ hρ hm => r_loadA ag27 sz27 (hρ _ _ rfl) (hm.at 1 rfl) rfl rfl) rfl rfl rfl (w_n rfl) ?_
  refine TL_call (.int .i64 0) (fun _ _ hρ _ => r_call (args := [.agg #[.slice a ps.length cap, .int .u64 lost]]) (enters_of Try.func31 (by kernel_rfl) rfl) (hρ _ _ rfl) ((cons2 (hρ _ _ rfl) rfl)) rfl) (fun w hm => (ncheck_c ps a cap lost w (hv.keep hm.ext) hcap (hb.keep hm.ext)).mono fun _ _ h => ⟨h.1.trans (congrArg Ending.returned (int_as (if_pos hck))), h.2⟩) rfl rfl rfl (w_n rfl) ?_
  refine TL_q (.bool true) (fun _ _ hρ _ => r_as (r_eql (hρ _ _ rfl) (hρ _ _ rfl)) (by rfl)) rfl rfl rfl (w_n rfl) ?_
  refine TL_call (.tuple #[]) (fun _ _ hρ _ => r_call (args := [.bool true, .int .i64 350]) (enters_of Try.func62 (by kernel_rfl) rfl) (hρ _ _ rfl) ((cons2 (hρ _ _ rfl) (cons2 (hρ _ _ rfl) rfl))) rfl) (fun w _ => need_ok_net 350 w) rfl rfl rfl (w_n rfl) ?_
  refine TL_seq ?_
  refine T_seq (T_region ?_)
  refine TL_q (.pointer (some ⟨B1, 1, none⟩)) (fun _ _ hρ _ => r_fieldAddr fl27_1 sz25 (hρ _ _ rfl)) rfl rfl rfl (w_n rfl) ?_
  refine TL_q (.int .u64 lost) (fun _ _ hρ hm => r_load ag25 (hρ _ _ rfl) (hm.at 1 rfl) rfl) rfl rfl rfl (w_n rfl) ?_
  refine TL_q (.agg #[.slice none 0 0, .int .u64 lost]) (fun _ _ hρ _ => r_build (vs := [(1, .int .u64 lost)]) (by kernel_rfl) (cons2 (pair2 (hρ _ _ rfl)) rfl)) rfl rfl rfl (w_n rfl) ?_
  refine TL_q (.agg #[.slice none 0 0, .int .u64 lost, .slice none 0 0]) (fun _ _ hρ _ => r_build (vs := [(0, .agg #[.slice none 0 0, .int .u64 lost])]) (by kernel_rfl) (cons2 (pair2 (hρ _ _ rfl)) rfl)) rfl rfl rfl (w_n rfl) ?_
  refine TL_new 900 (.cells #[.slice none 0 0, .int .u64 lost, .slice none 0 0] 104) (fun B => .pointer (some ⟨B, 0, none⟩)) (fun _ _ hρ _ => r_box (hρ _ _ rfl) rfl) rfl rfl rfl (w_n rfl) ?_
  intro B2
  refine TL_q (.pointer (some ⟨B2, 0, none⟩)) (fun _ _ hρ _ => r_assign (hρ _ _ rfl)) rfl rfl rfl (w_n rfl) ?_
  refine TL_seq ?_
  refine T_seq ?_
  refine T_seq (T_region ?_)
  refine TL_q (.pointer (some ⟨B1, 0, none⟩)) (fun _ _ hρ _ => r_fieldAddr fl27_0 sz22 (hρ _ _ rfl)) rfl rfl rfl (w_n rfl) ?_
  refine TL_q (.slice a ps.length cap) (fun _ _ hρ hm => r_load ag22 (hρ _ _ rfl) (hm.at 1 rfl) rfl) rfl rfl rfl (w_n rfl) ?_
  refine TL_q (.int .i64 ((ps.length : Nat) : Int)) (fun _ _ hρ _ => r_len sl22 (hρ _ _ rfl)) rfl rfl rfl (w_n rfl) ?_
  refine TL_q (.int .i64 0) (fun _ _ hρ _ => r_move (hρ _ _ rfl)) rfl rfl rfl (w_n rfl) ?_
  refine TL_seq ?_
  refine T_block ?_
  refine T_mem (_ :: _ :: _ :: _) (fun _ hm => ((hm.nilRow 901 36 3).nilRow 902 36 3).pool0 903 5 1 byc) ?_
  refine T_loop (ι := Nat × List Pcl × Option Addr × Nat × List (RowG By)) (fun (z : Nat × List Pcl × Option Addr × Nat × List (RowG By)) => match z with | (k, ls, a2, cap2, bs) => k ≤ ps.length ∧ pvs ls = pvs (ps.take k) ∧ InB bs ls) (fun (z : Nat × List Pcl × Option Addr × Nat × List (RowG By)) => match z with | (k, ls, a2, cap2, bs) => [(2, .pointer none), (3, .pointer (some ⟨B2, 0, none⟩)), (16, .slice a ps.length cap), (17, .int .i64 ((ps.length : Nat) : Int)), (18, .int .i64 ((k : Nat) : Int))]) (fun (z : Nat × List Pcl × Option Addr × Nat × List (RowG By)) => match z with | (k, ls, a2, cap2, bs) => [(1, .blk B1 (.cells #[.slice a ps.length cap, .int .u64 lost] 27)), (900, .blk B2 (.cells #[.slice a2 ls.length cap2, .int .u64 lost, .slice none 0 0] 104)), (901, .row (.slice a2 ls.length cap2) 36 3 ls.length (ls.flatMap Pcl.cells)), (902, .row (.slice none 0 0) 36 3 0 []), (903, .pool 5 1 byc bs)]) (fun (z : Nat × List Pcl × Option Addr × Nat × List (RowG By)) => match z with | (k, ls, a2, cap2, bs) => ps.length - k) (0, [], none, 0, []) ⟨Nat.zero_le _, rfl, InB.nil _⟩ (sub_cons rfl (sub_cons rfl (sub_cons rfl (sub_cons rfl (sub_cons rfl sub_nil))))) (sub_cons rfl (sub_cons rfl (sub_cons rfl (sub_cons rfl (sub_cons rfl sub_nil))))) ?_
  rintro ⟨k, ls, a2, cap2, bs⟩ hp
  obtain ⟨hk, hl, hin⟩ := hp
  have hlk := pvs_front hl hk
  show T _ _ _ [(2, .pointer none), (3, .pointer (some ⟨B2, 0, none⟩)), (16, .slice a ps.length cap), (17, .int .i64 ((ps.length : Nat) : Int)), (18, .int .i64 ((k : Nat) : Int))] [(1, .blk B1 (.cells #[.slice a ps.length cap, .int .u64 lost] 27)), (900, .blk B2 (.cells #[.slice a2 ls.length cap2, .int .u64 lost, .slice none 0 0] 104)), (901, .row (.slice a2 ls.length cap2) 36 3 ls.length (ls.flatMap Pcl.cells)), (902, .row (.slice none 0 0) 36 3 0 []), (903, .pool 5 1 byc bs)]
  refine T_seq (T_region ?_)
  refine TL_q (.bool (decide (((k : Nat) : Int) < ((ps.length : Nat) : Int)))) (fun _ _ hρ _ => r_lss (hρ _ _ rfl) (hρ _ _ rfl)) rfl rfl rfl (w_n rfl) ?_
  refine TL_seq ?_
  refine T_seq ?_
  refine T_cond rfl (fun h1 => ?_) (fun h1 => ?_)
  · replace h1 := of_decide_eq_true h1
    refine T_skip' ?_
    refine p_seq ?_
    refine T_seq ?_
    refine T_block ?_
    obtain ⟨p, hp⟩ : ∃ x, ps[k]? = some x := ⟨_, List.getElem?_eq_getElem (by omega)⟩
    have hokp := hb p (List.mem_of_getElem? hp)
    obtain ⟨b3, of3, cs3, T3, fz3, ha3, hq3, hr3⟩ := hv.open (i := k) (by omega)
    subst ha3
    refine T_seq (T_region ?_)
    refine TL_q (.pointer (some ⟨b3, of3 + k * 3, none⟩)) (fun _ _ hρ _ => r_indexAddrS (i := k) sl22 sz36 (hρ _ _ rfl) (hρ _ _ rfl) (by omega)) rfl rfl rfl (w_n rfl) ?_
    refine TL_q (.agg #[.int .i64 p.to, .slice p.r.a p.r.l.length p.r.cap, .bool p.sp]) (fun _ _ hρ hm => r_loadRow (f := Pcl.cells) (u := p) ag36 sz36 (hρ _ _ rfl) (hm.old hq3) hr3 hp) rfl rfl rfl (w_n rfl) ?_
    refine TL_new 2 (.cells #[.int .i64 0, .slice none 0 0, .bool false] 36) (fun B => .pointer (some ⟨B, 0, none⟩)) (fun _ _ _ _ => r_alloc (v := .agg #[.int .i64 0, .slice none 0 0, .bool false]) (by kernel_rfl) rfl) rfl rfl rfl (w_n rfl) ?_
    intro B4
    refine TL_store 2 (.cells #[.int .i64 p.to, .slice p.r.a p.r.l.length p.r.cap, .bool p.sp] 36) rfl (fun _ _ hρ hm => r_store sz36 (hρ _ _ rfl) (hρ _ _ rfl) (hm.at 2 rfl) rfl rfl rfl rfl) rfl rfl (w_n rfl) ?_
    refine TL_seq ?_
    refine T_draw (V := [(0, .pointer (some ⟨B2, 0, none⟩)), (1, .pointer (some ⟨B2, 0, none⟩)), (2, .pointer (some ⟨B2, 0, none⟩)), (3, .pointer (some ⟨B2, 0, none⟩)), (4, .pointer (some ⟨B2, 0, none⟩)), (5, .slice a2 ls.length cap2), (6, .agg #[.int .i64 p.to, .slice p.r.a p.r.l.length p.r.cap, .bool p.sp])]) [0, 0, 2, 6, 14, 30, 0, 64, 192, 510, 1023, 2047, 4095, 8191] [[(3, none)], [(3, none)], [(23, some 1)], [(24, some 2)], [(25, some 3)], [(26, some 4)], [(5, none)], [(28, some 6)], [(29, some 7)], [(27, some 5), (30, some 8)], [(22, some 0)], [(32, some 10)], [(33, some 11)], [(34, some 12), (31, some 9)]] 9088 mixed (by kernel_rfl) ?_
    refine G_step [0, 1, 2, 3, 4, 5, 6] 7 [] (by kernel_rfl) (allM (all_cons (q_run (.pointer (some ⟨B2, 0, none⟩)) rfl rfl (wv_n rfl) rfl (fun _ _ hρ _ => r_move (hρ _ _ rfl))) (all_cons (q_run (.pointer (some ⟨B2, 0, none⟩)) rfl rfl (wv_n rfl) rfl (fun _ _ hρ _ => r_move (hρ _ _ rfl))) (all_cons (q_run (.pointer (some ⟨B2, 0, none⟩)) rfl rfl (wv_n rfl) rfl (fun _ _ hρ _ => r_nilCheck (hρ _ _ rfl) rfl)) (all_cons (q_run (.pointer (some ⟨B2, 0, none⟩)) rfl rfl (wv_n rfl) rfl (fun _ _ hρ _ => r_fieldAddr fl104_0 sz27 (hρ _ _ rfl))) (all_cons (q_run (.pointer (some ⟨B2, 0, none⟩)) rfl rfl (wv_n rfl) rfl (fun _ _ hρ _ => r_fieldAddr fl27_0 sz22 (hρ _ _ rfl))) (all_cons (q_run (.slice a2 ls.length cap2) rfl rfl (wv_n rfl) rfl (fun _ _ hρ hm => r_load ag22 (hρ _ _ rfl) (hm.at 900 rfl) rfl)) (all_cons (q_run (.agg #[.int .i64 p.to, .slice p.r.a p.r.l.length p.r.cap, .bool p.sp]) rfl rfl (wv_n rfl) rfl (fun _ _ hρ hm => r_loadA ag36 sz36 (hρ _ _ rfl) (hm.at 2 rfl) rfl rfl)) all_nil)))))))) (allM (all_cons ?_ all_nil))
    refine LOb_callN (fun (_ : Option Addr × Nat) => True) (fun (ar6, cr6) => .agg #[.int .i64 p.to, .slice ar6 ((p.r.l).length) cr6, .bool p.sp]) (fun (ar6, cr6) => [(960, .row (.slice ar6 ((p.r.l).length) cr6) 5 1 ((p.r.l).length) ((p.r.l).flatMap byc))]) (fun (ar6, cr6) => []) rfl (wv_n rfl) rfl rfl (fun _ _ hρ _ => r_call (args := [.agg #[.int .i64 p.to, .slice p.r.a p.r.l.length p.r.cap, .bool p.sp]]) (enters_of Try.func99 (by kernel_rfl) rfl) (hρ _ _ rfl) ((cons2 (hρ _ _ rfl) rfl)) rfl) (fun w hm => (nown_c p w ⟨hokp.1.keep hm.ext, hokp.2⟩).mono fun e w' ⟨a', cap', he, hb, hr⟩ => ⟨(a', cap'), trivial, he, hb, newOk1 960 hr⟩) (fun (ar6, cr6) => by kernel_rfl) ?_
    rintro ⟨ar6, cr6⟩ -
    refine G_step [0, 1, 2, 3, 4, 5] 8 [] (by kernel_rfl) (allM (all_cons (q_run (.pointer (some ⟨B2, 0, none⟩)) rfl rfl (wv_n rfl) rfl (fun _ _ hρ _ => r_move (hρ _ _ rfl))) (all_cons (q_run (.pointer (some ⟨B2, 0, none⟩)) rfl rfl (wv_n rfl) rfl (fun _ _ hρ _ => r_move (hρ _ _ rfl))) (all_cons (q_run (.pointer (some ⟨B2, 0, none⟩)) rfl rfl (wv_n rfl) rfl (fun _ _ hρ _ => r_nilCheck (hρ _ _ rfl) rfl)) (all_cons (q_run (.pointer (some ⟨B2, 0, none⟩)) rfl rfl (wv_n rfl) rfl (fun _ _ hρ _ => r_fieldAddr fl104_0 sz27 (hρ _ _ rfl))) (all_cons (q_run (.pointer (some ⟨B2, 0, none⟩)) rfl rfl (wv_n rfl) rfl (fun _ _ hρ _ => r_fieldAddr fl27_0 sz22 (hρ _ _ rfl))) (all_cons (q_run (.slice a2 ls.length cap2) rfl rfl (wv_n rfl) rfl (fun _ _ hρ hm => r_load ag22 (hρ _ _ rfl) (hm.at 900 rfl) rfl)) all_nil))))))) (allM (all_cons ?_ all_nil))
    refine LOb_new 3 (.cells #[.int .i64 p.to, .slice ar6 ((p.r.l).length) cr6, .bool p.sp] 36) (fun B => .slice (some ⟨B, 0, none⟩) 1 1) (fun B => []) rfl (wv_n rfl) rfl rfl (fun _ _ hρ _ => r_buildSlice (vs := [(0, .agg #[.int .i64 p.to, .slice ar6 ((p.r.l).length) cr6, .bool p.sp])]) (by kernel_rfl) (cons2 (pair2 (hρ _ _ rfl)) rfl)) (fun B => by kernel_rfl) ?_
    intro B7
    refine G_step [0, 1, 2, 3, 4, 5] 9 [] (by kernel_rfl) (allM (all_cons (q_run (.pointer (some ⟨B2, 0, none⟩)) rfl rfl (wv_n rfl) rfl (fun _ _ hρ _ => r_move (hρ _ _ rfl))) (all_cons (q_run (.pointer (some ⟨B2, 0, none⟩)) rfl rfl (wv_n rfl) rfl (fun _ _ hρ _ => r_move (hρ _ _ rfl))) (all_cons (q_run (.pointer (some ⟨B2, 0, none⟩)) rfl rfl (wv_n rfl) rfl (fun _ _ hρ _ => r_nilCheck (hρ _ _ rfl) rfl)) (all_cons (q_run (.pointer (some ⟨B2, 0, none⟩)) rfl rfl (wv_n rfl) rfl (fun _ _ hρ _ => r_fieldAddr fl104_0 sz27 (hρ _ _ rfl))) (all_cons (q_run (.pointer (some ⟨B2, 0, none⟩)) rfl rfl (wv_n rfl) rfl (fun _ _ hρ _ => r_fieldAddr fl27_0 sz22 (hρ _ _ rfl))) (all_cons (q_run (.slice a2 ls.length cap2) rfl rfl (wv_n rfl) rfl (fun _ _ hρ hm => r_load ag22 (hρ _ _ rfl) (hm.at 900 rfl) rfl)) all_nil))))))) (allM (all_cons ?_ all_nil))
    refine LOb_append (n := ls.length) (m := 1) (xs := (ls.flatMap Pcl.cells)) (news := [.int .i64 p.to, .slice ar6 ((p.r.l).length) cr6, .bool p.sp]) (z := .agg #[.int .i64 0, .slice none 0 0, .bool false]) 901 (fun a cap => [(10, .pointer (some ⟨B2, 0, none⟩)), (11, .pointer (some ⟨B2, 0, none⟩)), (12, .pointer (some ⟨B2, 0, none⟩))]) rfl (wv_n rfl) rfl rfl rfl sl22 sz36 by36 (by kernel_rfl) rfl rfl (.inl rfl) (fun _ hm => src_blk (news := [.int .i64 p.to, .slice ar6 ((p.r.l).length) cr6, .bool p.sp]) (hm.at 3 rfl) rfl) (by simp [Value.oneCell']) (by omega) (by omega) (fun a cap => by kernel_rfl) ?_
    intro a8 cap8
    refine G_step [0, 10, 11, 12] 13 [] (by kernel_rfl) (allM (all_cons (q_run (.pointer (some ⟨B2, 0, none⟩)) rfl rfl (wv_n rfl) rfl (fun _ _ hρ _ => r_move (hρ _ _ rfl))) (all_cons (q_run (.pointer (some ⟨B2, 0, none⟩)) rfl rfl (wv_n rfl) rfl (fun _ _ hρ _ => r_nilCheck (hρ _ _ rfl) rfl)) (all_cons (q_run (.pointer (some ⟨B2, 0, none⟩)) rfl rfl (wv_n rfl) rfl (fun _ _ hρ _ => r_fieldAddr fl104_0 sz27 (hρ _ _ rfl))) (all_cons (q_run (.pointer (some ⟨B2, 0, none⟩)) rfl rfl (wv_n rfl) rfl (fun _ _ hρ _ => r_fieldAddr fl27_0 sz22 (hρ _ _ rfl))) all_nil))))) (allM (all_cons ?_ all_nil))
    refine LOb_store 900 (.cells #[.slice a8 (ls.length + 1) cap8, .int .u64 lost, .slice none 0 0] 104) [] rfl (wv_n rfl) rfl rfl rfl (fun _ _ hρ hm => r_store sz22 (hρ _ _ rfl) (hρ _ _ rfl) (hm.at 900 rfl) rfl rfl rfl rfl) (by kernel_rfl) ?_
    refine G_lastQ [] [(2, .pointer none), (3, .pointer (some ⟨B2, 0, none⟩)), (16, .slice (some ⟨b3, of3, none⟩) ps.length cap), (17, .int .i64 ((ps.length : Nat) : Int)), (18, .int .i64 ((k : Nat) : Int)), (19, .bool (decide (((k : Nat) : Int) < ((ps.length : Nat) : Int)))), (20, .pointer (some ⟨b3, of3 + k * 3, none⟩)), (21, .agg #[.int .i64 p.to, .slice p.r.a p.r.l.length p.r.cap, .bool p.sp]), (5, .pointer (some ⟨B4, 0, none⟩)), (22, .pointer (some ⟨B2, 0, none⟩)), (23, .pointer (some ⟨B2, 0, none⟩)), (24, .pointer (some ⟨B2, 0, none⟩)), (25, .pointer (some ⟨B2, 0, none⟩)), (26, .pointer (some ⟨B2, 0, none⟩)), (27, .slice a2 ls.length cap2), (28, .agg #[.int .i64 p.to, .slice p.r.a p.r.l.length p.r.cap, .bool p.sp]), (29, .agg #[.int .i64 p.to, .slice ar6 ((p.r.l).length) cr6, .bool p.sp]), (30, .slice (some ⟨B7, 0, none⟩) 1 1), (31, .slice a8 (ls.length + 1) cap8), (32, .pointer (some ⟨B2, 0, none⟩)), (33, .pointer (some ⟨B2, 0, none⟩)), (34, .pointer (some ⟨B2, 0, none⟩))] (by kernel_rfl) (allM all_nil) (end_old rfl rfl (end_old rfl rfl (end_old rfl rfl (end_old rfl rfl (end_old rfl rfl (end_old rfl rfl (end_old rfl rfl (end_old rfl rfl (end_old rfl rfl (end_new 0 rfl rfl (end_new 1 rfl rfl (end_new 2 rfl rfl (end_new 3 rfl rfl (end_new 4 rfl rfl (end_new 5 rfl rfl (end_new 6 rfl rfl (end_new 7 rfl rfl (end_new 8 rfl rfl (end_new 9 rfl rfl (end_new 10 rfl rfl (end_new 11 rfl rfl (end_new 12 rfl rfl end_nil)))))))))))))))))))))) ?_
    refine p_blk_n ?_
    refine p_seq ?_
    refine T_region ?_
    refine TL_q (.int .i64 ((k + 1 : Nat) : Int)) (fun _ _ hρ _ => r_as (r_add (hρ _ _ rfl) (hρ _ _ rfl)) (int_as ((wrap64 (by omega) (by omega)).trans (by omega)))) rfl rfl rfl (w_n rfl) ?_
    refine TL_q (.int .i64 ((k + 1 : Nat) : Int)) (fun _ _ hρ _ => r_move (hρ _ _ rfl)) rfl rfl rfl (w_n rfl) ?_
    refine TL_nil ?_
    have hn9 : (ls.length + 1) = (ls ++ [(⟨p.to, ⟨ar6, cr6, p.r.l⟩, p.sp⟩ : Pcl)]).length := by simp
    have hx9 : ((ls.flatMap Pcl.cells) ++ [.int .i64 p.to, .slice ar6 ((p.r.l).length) cr6, .bool p.sp]) = (ls ++ [(⟨p.to, ⟨ar6, cr6, p.r.l⟩, p.sp⟩ : Pcl)]).flatMap Pcl.cells := by simp [Pcl.cells]
    rw [hx9, hn9]
    refine p_mem (_ :: _ :: _) (fun _ hm => hm.poolPush 903 960 rfl rfl rfl rfl) ?_
    exact p_at (k + 1, ls ++ [(⟨p.to, ⟨ar6, cr6, p.r.l⟩, p.sp⟩ : Pcl)], a8, cap8, bs ++ [⟨ar6, cr6, p.r.l⟩]) ⟨⟨by omega, of_step hl hp rfl, hin.push.snoc (mem_last _ _) hokp.2.2⟩, by dsimp only; omega⟩ (sub_cons rfl (sub_cons rfl (sub_cons rfl (sub_cons rfl (sub_cons rfl sub_nil))))) (sub_cons rfl (sub_cons rfl (sub_cons rfl (sub_cons rfl (sub_cons rfl sub_nil)))))
  · replace h1 := of_decide_eq_false h1
    refine T_exit' ?_
    refine p_then_x ?_
    refine p_then_x ?_
    refine p_blk_x ?_
    refine p_seq ?_
    refine T_seq (T_region ?_)
    refine TL_q (.pointer (some ⟨B2, 0, none⟩)) (fun _ _ hρ _ => r_move (hρ _ _ rfl)) rfl rfl rfl (w_n rfl) ?_
    refine TL_q (.pointer (some ⟨B2, 0, none⟩)) (fun _ _ hρ _ => r_assign (hρ _ _ rfl)) rfl rfl rfl (w_n rfl) ?_
    refine TL_seq ?_
    refine T_ret' ?_
    refine ret_of rfl (.pointer (some ⟨B2, 0, none⟩)) (fun tmps w hk hm => res1 rfl (res_tmp (hk 2 _ rfl))) (fun w hm => ?_)
    have hke : k = ps.length := by omega
    subst hke
    rw [List.take_length] at hl
    exact ⟨(B2, ⟨⟨a2, cap2, ls⟩, lost, ⟨none, 0, []⟩⟩, bs), ⟨by unfold Hd.nv; rw [hl], ⟨(show ls.length ≤ 64 by omega), h0, hc.2.1, hin, InB.nil _⟩, rfl⟩, rfl, hm.ext, hm.newOk fun k q hk => (sub_cons rfl (sub_cons rfl (sub_cons rfl (sub_cons rfl sub_nil))) : SubK _ (hdL B2 ⟨⟨a2, cap2, ls⟩, lost, ⟨none, 0, []⟩⟩ bs)).get k q hk⟩

end Go.Proofs.Ytcidgbjgeegepaa
/- net and journal: Send. Printed by a program of this seat's prover. -/
namespace Go.Proofs.Ytcidgbjgeegepaa
open Go Go.RowKit
set_option maxRecDepth 10000
/-- A hand that has come to a net, with nothing told. -/
structure Sent (n : NV) (x : Nat × Hd × List (RowG By)) : Prop where
  nv : x.2.1.nv = n
  ok : HdOk x.2.1 x.2.2
  t : x.2.1.t = ⟨none, 0, []⟩

theorem sendf_c (p : Pcl) (w : World) : Calls Try.prog 64 #[p.v] w fun e w' => e = .returned (.bool (mayV p.pv && !p.sp)) ∧ Below w.heap.size w w' := by
  refine calls_of_T (l := [.agg #[.int .i64 p.to, .slice p.r.a p.r.l.length p.r.cap, .bool p.sp]]) 10 Try.func64 rfl rfl rfl ?_
  show T _ _ _ [(0, .agg #[.int .i64 p.to, .slice p.r.a p.r.l.length p.r.cap, .bool p.sp])] []
  refine T_seq (T_region ?_)
  refine TL_new 1 (.cells #[.int .i64 p.to, .slice p.r.a p.r.l.length p.r.cap, .bool p.sp] 36) (fun B => .pointer (some ⟨B, 0, none⟩)) (fun _ _ hρ _ => r_box (hρ _ _ rfl) rfl) rfl rfl rfl (w_n rfl) ?_
  intro B1
  refine TL_q (.bool false) (fun _ _ hρ _ => r_assign (hρ _ _ rfl)) rfl rfl rfl (w_n rfl) ?_
  refine TL_seq ?_
  by_cases c1 : mayV p.pv = true
  · skip
    by_cases c2 : p.sp = true
    · skip
      refine T_seq (T_region ?_)
      refine TL_q (.agg #[.int .i64 p.to, .slice p.r.a p.r.l.length p.r.cap, .bool p.sp]) (fun _ _ hρ hm => r_loadA ag36 sz36 (hρ _ _ rfl) (hm.at 1 rfl) rfl rfl) rfl rfl rfl (w_n rfl) ?_
      refine TL_call (.bool true) (fun _ _ hρ _ => r_call (args := [.agg #[.int .i64 p.to, .slice p.r.a p.r.l.length p.r.cap, .bool p.sp]]) (enters_of Try.func65 (by kernel_rfl) rfl) (hρ _ _ rfl) ((cons2 (hρ _ _ rfl) rfl)) rfl) (fun w _ => (may_c p w).mono fun _ _ h => ⟨h.1.trans (congrArg Ending.returned (bool_as c1)), h.2⟩) rfl rfl rfl (w_n rfl) ?_
      refine TL_q (.bool true) (fun _ _ hρ _ => r_move (hρ _ _ rfl)) rfl rfl rfl (w_n rfl) ?_
      refine TL_q (.pointer (some ⟨B1, 2, none⟩)) (fun _ _ hρ _ => r_fieldAddr fl36_2 sz4 (hρ _ _ rfl)) rfl rfl rfl (want_y 5 rfl rfl rfl) ?_
      refine TL_q (.bool p.sp) (fun _ _ hρ hm => r_load ag4 (hρ _ _ rfl) (hm.at 1 rfl) rfl) rfl rfl rfl (want_y 5 rfl rfl rfl) ?_
      refine TL_q (.bool (!p.sp)) (fun _ _ hρ _ => r_not (b := p.sp) (hρ _ _ rfl)) rfl rfl rfl (want_y 5 rfl rfl rfl) ?_
      refine TL_q (.bool (!p.sp)) (fun _ _ hρ _ => r_pick_t (hρ _ _ rfl) (hρ _ _ rfl)) rfl rfl rfl (w_n rfl) ?_
      refine TL_q (.bool (!p.sp)) (fun _ _ hρ _ => r_assign (hρ _ _ rfl)) rfl rfl rfl (w_n rfl) ?_
      refine TL_seq ?_
      refine T_ret' ?_
      refine ret_of rfl (.bool (!p.sp)) (fun tmps w hk hm => res1 rfl (res_tmp (hk 2 _ rfl))) (fun w hm => ?_)
      exact ⟨congrArg Ending.returned (bool_as (by simp [c1, c2])), hm.ext⟩
    · skip
      refine T_seq (T_region ?_)
      refine TL_q (.agg #[.int .i64 p.to, .slice p.r.a p.r.l.length p.r.cap, .bool p.sp]) (fun _ _ hρ hm => r_loadA ag36 sz36 (hρ _ _ rfl) (hm.at 1 rfl) rfl rfl) rfl rfl rfl (w_n rfl) ?_
      refine TL_call (.bool true) (fun _ _ hρ _ => r_call (args := [.agg #[.int .i64 p.to, .slice p.r.a p.r.l.length p.r.cap, .bool p.sp]]) (enters_of Try.func65 (by kernel_rfl) rfl) (hρ _ _ rfl) ((cons2 (hρ _ _ rfl) rfl)) rfl) (fun w _ => (may_c p w).mono fun _ _ h => ⟨h.1.trans (congrArg Ending.returned (bool_as c1)), h.2⟩) rfl rfl rfl (w_n rfl) ?_
      refine TL_q (.bool true) (fun _ _ hρ _ => r_move (hρ _ _ rfl)) rfl rfl rfl (w_n rfl) ?_
      refine TL_q (.pointer (some ⟨B1, 2, none⟩)) (fun _ _ hρ _ => r_fieldAddr fl36_2 sz4 (hρ _ _ rfl)) rfl rfl rfl (want_y 5 rfl rfl rfl) ?_
      refine TL_q (.bool p.sp) (fun _ _ hρ hm => r_load ag4 (hρ _ _ rfl) (hm.at 1 rfl) rfl) rfl rfl rfl (want_y 5 rfl rfl rfl) ?_
      refine TL_q (.bool (!p.sp)) (fun _ _ hρ _ => r_not (b := p.sp) (hρ _ _ rfl)) rfl rfl rfl (want_y 5 rfl rfl rfl) ?_
      refine TL_q (.bool (!p.sp)) (fun _ _ hρ _ => r_pick_t (hρ _ _ rfl) (hρ _ _ rfl)) rfl rfl rfl (w_n rfl) ?_
      refine TL_q (.bool (!p.sp)) (fun _ _ hρ _ => r_assign (hρ _ _ rfl)) rfl rfl rfl (w_n rfl) ?_
      refine TL_seq ?_
      refine T_ret' ?_
      refine ret_of rfl (.bool (!p.sp)) (fun tmps w hk hm => res1 rfl (res_tmp (hk 2 _ rfl))) (fun w hm => ?_)
      exact ⟨congrArg Ending.returned (bool_as (by simp [c1, c2])), hm.ext⟩
  · skip
    refine T_seq (T_region ?_)
    refine TL_q (.agg #[.int .i64 p.to, .slice p.r.a p.r.l.length p.r.cap, .bool p.sp]) (fun _ _ hρ hm => r_loadA ag36 sz36 (hρ _ _ rfl) (hm.at 1 rfl) rfl rfl) rfl rfl rfl (w_n rfl) ?_
    refine TL_call (.bool false) (fun _ _ hρ _ => r_call (args := [.agg #[.int .i64 p.to, .slice p.r.a p.r.l.length p.r.cap, .bool p.sp]]) (enters_of Try.func65 (by kernel_rfl) rfl) (hρ _ _ rfl) ((cons2 (hρ _ _ rfl) rfl)) rfl) (fun w _ => (may_c p w).mono fun _ _ h => ⟨h.1.trans (congrArg Ending.returned (bool_as (eq_false_of_ne_true c1))), h.2⟩) rfl rfl rfl (w_n rfl) ?_
    refine TL_q (.bool false) (fun _ _ hρ _ => r_move (hρ _ _ rfl)) rfl rfl rfl (w_n rfl) ?_
    refine TL_no rfl rfl (want_n 5 rfl rfl rfl) ?_
    refine TL_no rfl rfl (want_n 5 rfl rfl rfl) ?_
    refine TL_no rfl rfl (want_n 5 rfl rfl rfl) ?_
    refine TL_q (.bool false) (fun _ _ hρ _ => r_pick_f (hρ _ _ rfl) (hρ _ _ rfl)) rfl rfl rfl (w_n rfl) ?_
    refine TL_q (.bool false) (fun _ _ hρ _ => r_assign (hρ _ _ rfl)) rfl rfl rfl (w_n rfl) ?_
    refine TL_seq ?_
    refine T_ret' ?_
    refine ret_of rfl (.bool false) (fun tmps w hk hm => res1 rfl (res_tmp (hk 2 _ rfl))) (fun w hm => ?_)
    exact ⟨congrArg Ending.returned (bool_as (by simp [c1])), hm.ext⟩

theorem send1_ok {w₀ : World} {L : Heap} (T0 T1 T2 : Nat) (ps : List Pcl) (a : Option Addr) (cap : Nat) (lost : Int) (zs : List Pcl) (b : Option Addr) (capb : Nat) (hL : NoIds L 1000 1300) (hv : SliceAt w₀ a cap 3 Pcl.cells ps) (hcap : cap ≤ Go.maxLen) (hb : PcsAt w₀ ps) (hu : SliceAt w₀ b capb 3 Pcl.cells zs) (hcapb : capb ≤ Go.maxLen) (hbz : PcsAt w₀ zs) (h0 : 0 ≤ lost) (hck : checkV (pvs ps) lost = true) (hall : zs.all (fun p => mayV p.pv && !p.sp) = true) : ∀ w, MemOk w₀ ([(910, .blk T0 (.cells #[.slice a ps.length cap, .int .u64 lost] 27)), (911, .blk T1 (.cells #[.slice b zs.length capb] 22)), (912, .blk T2 (.cells #[.slice none 0 0, .int .u64 0] 27))] ++ L) w → Calls Try.prog 60 #[.pointer (some ⟨T0, 0, none⟩), .pointer (some ⟨T1, 0, none⟩), .pointer (some ⟨T2, 0, none⟩)] w (HAns w₀ (fun x : Nat × Hd × List (RowG By) => Sent (putsV (pvs ps, lost) (pvs zs)) x) (fun _ => .tuple #[]) (fun x => hdL x.1 x.2.1 x.2.2 ++ [(910, .blk T0 (.cells #[.slice a ps.length cap, .int .u64 lost] 27)), (911, .blk T1 (.cells #[.slice b zs.length capb] 22)), (912, .blk T2 (.cells #[.slice x.2.1.n.a x.2.1.n.l.length x.2.1.n.cap, .int .u64 x.2.1.lost] 27))] ++ L)) := by
  have hvl := hv.1
  have hul := hu.1
  unfold Go.maxLen at hcap hcapb
  refine ht_of_T (l := [.pointer (some ⟨T0, 0, none⟩), .pointer (some ⟨T1, 0, none⟩), .pointer (some ⟨T2, 0, none⟩)]) (L := ((910, .blk T0 (.cells #[.slice a ps.length cap, .int .u64 lost] 27)) :: (911, .blk T1 (.cells #[.slice b zs.length capb] 22)) :: (912, .blk T2 (.cells #[.slice none 0 0, .int .u64 0] 27)) :: L)) 25 Try.func60 rfl rfl rfl ?_
  show T _ _ _ [(0, .pointer (some ⟨T0, 0, none⟩)), (1, .pointer (some ⟨T1, 0, none⟩)), (2, .pointer (some ⟨T2, 0, none⟩))] ((910, .blk T0 (.cells #[.slice a ps.length cap, .int .u64 lost] 27)) :: (911, .blk T1 (.cells #[.slice b zs.length capb] 22)) :: (912, .blk T2 (.cells #[.slice none 0 0, .int .u64 0] 27)) :: L)
  refine T_seq (T_region ?_)
  refine TL_q (.agg #[.slice a ps.length cap, .int .u64 lost]) (fun _ _ hρ hm => r_loadA ag27 sz27 (hρ _ _ rfl) (hm.at 910 rfl) rfl rfl) rfl rfl rfl (w_n rfl) ?_
  refine TL_callN (fun x : Nat × Hd × List (RowG By) => OfOk ps lost x) (fun (H1, h1, bs1) => .pointer (some ⟨H1, 0, none⟩)) (fun (H1, h1, bs1) => [(900, .blk H1 (.cells #[.slice h1.n.a h1.n.l.length h1.n.cap, .int .u64 h1.lost, .slice h1.t.a h1.t.l.length h1.t.cap] 104)), (901, .row (.slice h1.n.a h1.n.l.length h1.n.cap) 36 3 h1.n.l.length (h1.n.l.flatMap Pcl.cells)), (902, .row (.slice h1.t.a h1.t.l.length h1.t.cap) 36 3 h1.t.l.length (h1.t.l.flatMap Pcl.cells)), (903, .pool 5 1 byc bs1)]) (fun _ _ hρ _ => r_call (args := [.agg #[.slice a ps.length cap, .int .u64 lost]]) (enters_of Try.func61 (by kernel_rfl) rfl) (hρ _ _ rfl) ((cons2 (hρ _ _ rfl) rfl)) rfl) (fun w hm => (of_ok ps a cap lost w (hv.keep hm.ext) hcap (hb.keep hm.ext) h0 hck).mono fun e w' ⟨⟨H, h, bs⟩, hx, he, hb, hn⟩ => ⟨(H, h, bs), hx, he, hb, hn⟩) rfl rfl rfl (w_n rfl) ?_
  rintro ⟨H1, h1, bs1⟩ ⟨hv1, hk1, ht1⟩
  refine TL_q (.pointer (some ⟨H1, 0, none⟩)) (fun _ _ hρ _ => r_assign (hρ _ _ rfl)) rfl rfl rfl (w_n rfl) ?_
  refine TL_seq ?_
  refine T_seq (T_region ?_)
  refine TL_q (.slice b zs.length capb) (fun _ _ hρ hm => r_load ag22 (hρ _ _ rfl) (hm.at 911 rfl) rfl) rfl rfl rfl (w_n rfl) ?_
  refine TL_call (.bool true) (fun _ _ hρ _ => r_call (args := [.slice b zs.length capb, .func (.func 64) #[] #[]]) (enters_of Try.func63 (by kernel_rfl) rfl) (hρ _ _ rfl) ((cons2 (hρ _ _ rfl) (cons2 (hρ _ _ rfl) rfl))) rfl) (fun w hm => (all_c zs b capb w (hu.keep hm.ext) hcapb (hbz.keep hm.ext) 64 #[] (enters_of Try.func64 (by kernel_rfl) rfl) (fun p => mayV p.pv && !p.sp) (fun w2 _ x _ => sendf_c x w2)).mono fun _ _ h => ⟨h.1.trans (congrArg Ending.returned (bool_as hall)), h.2⟩) rfl rfl rfl (w_n rfl) ?_
  refine TL_call (.tuple #[]) (fun _ _ hρ _ => r_call (args := [.bool true, .int .i64 2]) (enters_of Try.func62 (by kernel_rfl) rfl) (hρ _ _ rfl) ((cons2 (hρ _ _ rfl) (cons2 (hρ _ _ rfl) rfl))) rfl) (fun w _ => need_ok_net 2 w) rfl rfl rfl (w_n rfl) ?_
  refine TL_seq ?_
  refine T_seq ?_
  refine T_seq (T_region ?_)
  refine TL_q (.slice b zs.length capb) (fun _ _ hρ hm => r_load ag22 (hρ _ _ rfl) (hm.at 911 rfl) rfl) rfl rfl rfl (w_n rfl) ?_
  refine TL_q (.int .i64 ((zs.length : Nat) : Int)) (fun _ _ hρ _ => r_len sl22 (hρ _ _ rfl)) rfl rfl rfl (w_n rfl) ?_
  refine TL_q (.int .i64 0) (fun _ _ hρ _ => r_move (hρ _ _ rfl)) rfl rfl rfl (w_n rfl) ?_
  refine TL_seq ?_
  refine T_block ?_
  refine T_loopT (ι := Nat × Hd × List (RowG By)) (fun (z : Nat × Hd × List (RowG By)) => match z with | (k, h5, bs5) => k ≤ zs.length ∧ h5.nv = putsV (pvs ps, lost) ((pvs zs).take k) ∧ HdOk h5 bs5 ∧ h5.t = ⟨none, 0, []⟩) (fun (z : Nat × Hd × List (RowG By)) => match z with | (k, h5, bs5) => [(2, .pointer (some ⟨T2, 0, none⟩)), (3, .pointer (some ⟨H1, 0, none⟩)), (11, .slice b zs.length capb), (12, .int .i64 ((zs.length : Nat) : Int)), (13, .int .i64 ((k : Nat) : Int))]) (fun (z : Nat × Hd × List (RowG By)) => match z with | (k, h5, bs5) => ((910, .blk T0 (.cells #[.slice a ps.length cap, .int .u64 lost] 27)) :: (911, .blk T1 (.cells #[.slice b zs.length capb] 22)) :: (912, .blk T2 (.cells #[.slice none 0 0, .int .u64 0] 27)) :: (900, .blk H1 (.cells #[.slice h5.n.a h5.n.l.length h5.n.cap, .int .u64 h5.lost, .slice h5.t.a h5.t.l.length h5.t.cap] 104)) :: (901, .row (.slice h5.n.a h5.n.l.length h5.n.cap) 36 3 h5.n.l.length (h5.n.l.flatMap Pcl.cells)) :: (902, .row (.slice h5.t.a h5.t.l.length h5.t.cap) 36 3 h5.t.l.length (h5.t.l.flatMap Pcl.cells)) :: (903, .pool 5 1 byc bs5) :: L)) (fun (z : Nat × Hd × List (RowG By)) => match z with | (k, h5, bs5) => zs.length - k) (0, h1, bs1) ⟨Nat.zero_le _, hv1, hk1, ht1⟩ (sub_cons rfl (sub_cons rfl (sub_cons rfl (sub_cons rfl (sub_cons rfl sub_nil))))) (by first | exact lk_fin (F := [_, _, _, _, _, _, _]) (sub_cons rfl (sub_cons rfl (sub_cons rfl (sub_cons rfl (sub_cons rfl (sub_cons rfl (sub_cons rfl sub_nil))))))) rfl hL | exact lk_fin (F := [_, _, _, _, _, _, _, _]) (sub_cons rfl (sub_cons rfl (sub_cons rfl (sub_cons rfl (sub_cons rfl (sub_cons rfl (sub_cons rfl sub_nil))))))) rfl hL | exact lk_fin (F := [_, _, _, _, _, _, _, _, _]) (sub_cons rfl (sub_cons rfl (sub_cons rfl (sub_cons rfl (sub_cons rfl (sub_cons rfl (sub_cons rfl sub_nil))))))) rfl hL | exact lk_fin (F := [_, _, _, _, _, _, _, _, _, _]) (sub_cons rfl (sub_cons rfl (sub_cons rfl (sub_cons rfl (sub_cons rfl (sub_cons rfl (sub_cons rfl sub_nil))))))) rfl hL | exact lk_fin (F := [_, _, _, _, _, _, _, _, _, _, _]) (sub_cons rfl (sub_cons rfl (sub_cons rfl (sub_cons rfl (sub_cons rfl (sub_cons rfl (sub_cons rfl sub_nil))))))) rfl hL | exact lk_fin (F := [_, _, _, _, _, _, _, _, _, _, _, _]) (sub_cons rfl (sub_cons rfl (sub_cons rfl (sub_cons rfl (sub_cons rfl (sub_cons rfl (sub_cons rfl sub_nil))))))) rfl hL | exact lk_fin (F := [_, _, _, _, _, _, _, _, _, _, _, _, _]) (sub_cons rfl (sub_cons rfl (sub_cons rfl (sub_cons rfl (sub_cons rfl (sub_cons rfl (sub_cons rfl sub_nil))))))) rfl hL | exact lk_fin (F := [_, _, _, _, _, _, _, _, _, _, _, _, _, _]) (sub_cons rfl (sub_cons rfl (sub_cons rfl (sub_cons rfl (sub_cons rfl (sub_cons rfl (sub_cons rfl sub_nil))))))) rfl hL | exact lk_fin (F := [_, _, _, _, _, _, _, _, _, _, _, _, _, _, _]) (sub_cons rfl (sub_cons rfl (sub_cons rfl (sub_cons rfl (sub_cons rfl (sub_cons rfl (sub_cons rfl sub_nil))))))) rfl hL | exact lk_fin (F := [_, _, _, _, _, _, _, _, _, _, _, _, _, _, _, _]) (sub_cons rfl (sub_cons rfl (sub_cons rfl (sub_cons rfl (sub_cons rfl (sub_cons rfl (sub_cons rfl sub_nil))))))) rfl hL | exact lk_fin (F := [_, _, _, _, _, _, _, _, _, _, _, _, _, _, _, _, _]) (sub_cons rfl (sub_cons rfl (sub_cons rfl (sub_cons rfl (sub_cons rfl (sub_cons rfl (sub_cons rfl sub_nil))))))) rfl hL | exact lk_fin (F := [_, _, _, _, _, _, _, _, _, _, _, _, _, _, _, _, _, _]) (sub_cons rfl (sub_cons rfl (sub_cons rfl (sub_cons rfl (sub_cons rfl (sub_cons rfl (sub_cons rfl sub_nil))))))) rfl hL) ?_
  rintro ⟨k, h5, bs5⟩ hp
  obtain ⟨hk, hn5, hh5, ht5⟩ := hp
  show T _ _ _ [(2, .pointer (some ⟨T2, 0, none⟩)), (3, .pointer (some ⟨H1, 0, none⟩)), (11, .slice b zs.length capb), (12, .int .i64 ((zs.length : Nat) : Int)), (13, .int .i64 ((k : Nat) : Int))] ((910, .blk T0 (.cells #[.slice a ps.length cap, .int .u64 lost] 27)) :: (911, .blk T1 (.cells #[.slice b zs.length capb] 22)) :: (912, .blk T2 (.cells #[.slice none 0 0, .int .u64 0] 27)) :: (900, .blk H1 (.cells #[.slice h5.n.a h5.n.l.length h5.n.cap, .int .u64 h5.lost, .slice h5.t.a h5.t.l.length h5.t.cap] 104)) :: (901, .row (.slice h5.n.a h5.n.l.length h5.n.cap) 36 3 h5.n.l.length (h5.n.l.flatMap Pcl.cells)) :: (902, .row (.slice h5.t.a h5.t.l.length h5.t.cap) 36 3 h5.t.l.length (h5.t.l.flatMap Pcl.cells)) :: (903, .pool 5 1 byc bs5) :: L)
  refine T_seq (T_region ?_)
  refine TL_q (.bool (decide (((k : Nat) : Int) < ((zs.length : Nat) : Int)))) (fun _ _ hρ _ => r_lss (hρ _ _ rfl) (hρ _ _ rfl)) rfl rfl rfl (w_n rfl) ?_
  refine TL_seq ?_
  refine T_seq ?_
  refine T_cond rfl (fun h1 => ?_) (fun h1 => ?_)
  · replace h1 := of_decide_eq_true h1
    refine T_skip' ?_
    refine p_seq ?_
    refine T_seq ?_
    refine T_block ?_
    obtain ⟨p, hp⟩ : ∃ x, zs[k]? = some x := ⟨_, List.getElem?_eq_getElem (by omega)⟩
    have hokp := hbz p (List.mem_of_getElem? hp)
    obtain ⟨b2, of2, cs2, T2, fz2, ha2, hq2, hr2⟩ := hu.open (i := k) (by omega)
    subst ha2
    refine T_seq (T_region ?_)
    refine TL_q (.pointer (some ⟨b2, of2 + k * 3, none⟩)) (fun _ _ hρ _ => r_indexAddrS (i := k) sl22 sz36 (hρ _ _ rfl) (hρ _ _ rfl) (by omega)) rfl rfl rfl (w_n rfl) ?_
    refine TL_q (.agg #[.int .i64 p.to, .slice p.r.a p.r.l.length p.r.cap, .bool p.sp]) (fun _ _ hρ hm => r_loadRow (f := Pcl.cells) (u := p) ag36 sz36 (hρ _ _ rfl) (hm.old hq2) hr2 hp) rfl rfl rfl (w_n rfl) ?_
    refine TL_new 1251 (.cells #[.int .i64 0, .slice none 0 0, .bool false] 36) (fun B => .pointer (some ⟨B, 0, none⟩)) (fun _ _ _ _ => r_alloc (v := .agg #[.int .i64 0, .slice none 0 0, .bool false]) (by kernel_rfl) rfl) rfl rfl rfl (w_n rfl) ?_
    intro B3
    refine TL_store 1251 (.cells #[.int .i64 p.to, .slice p.r.a p.r.l.length p.r.cap, .bool p.sp] 36) rfl (fun _ _ hρ hm => r_store sz36 (hρ _ _ rfl) (hρ _ _ rfl) (hm.at 1251 rfl) rfl rfl rfl rfl) rfl rfl (w_n rfl) ?_
    refine TL_seq ?_
    refine T_region ?_
    refine TL_q (.pointer (some ⟨H1, 0, none⟩)) (fun _ _ hρ _ => r_move (hρ _ _ rfl)) rfl rfl rfl (w_n rfl) ?_
    refine TL_q (.agg #[.int .i64 p.to, .slice p.r.a p.r.l.length p.r.cap, .bool p.sp]) (fun _ _ hρ hm => r_loadA ag36 sz36 (hρ _ _ rfl) (hm.at 1251 rfl) rfl rfl) rfl rfl rfl (w_n rfl) ?_
    refine TL_callH _ _ _ (fun _ _ hρ _ => r_call (args := [.pointer (some ⟨H1, 0, none⟩), .agg #[.int .i64 p.to, .slice p.r.a p.r.l.length p.r.cap, .bool p.sp]]) (enters_of Try.func66 (by kernel_rfl) rfl) (hρ _ _ rfl) ((cons2 (hρ _ _ rfl) (cons2 (hρ _ _ rfl) rfl))) rfl) (fun w hm => send_ht H1 (⟨⟨h5.n.a, h5.n.cap, h5.n.l⟩, h5.lost, ⟨h5.t.a, h5.t.cap, h5.t.l⟩⟩ : Hd) bs5 p (by repeat (first | exact hL.sub rfl rfl | refine noIds_cons rfl ?_)) hh5 hokp.2.2 (.inl hokp) w (hm.of (lk_dups (A := hdL H1 (⟨⟨h5.n.a, h5.n.cap, h5.n.l⟩, h5.lost, ⟨h5.t.a, h5.t.cap, h5.t.l⟩⟩ : Hd) bs5) (sub_cons rfl (sub_cons rfl (sub_cons rfl (sub_cons rfl sub_nil))))))) rfl rfl rfl (w_n rfl) ?_
    rintro ⟨h4, bs4⟩ ⟨hv4, hk4, ht4, hs4⟩
    refine TL_nil ?_
    refine p_blk_n ?_
    refine p_seq ?_
    refine T_region ?_
    refine TL_q (.int .i64 ((k + 1 : Nat) : Int)) (fun _ _ hρ _ => r_as (r_add (hρ _ _ rfl) (hρ _ _ rfl)) (int_as ((wrap64 (by omega) (by omega)).trans (by omega)))) rfl rfl rfl (w_n rfl) ?_
    refine TL_q (.int .i64 ((k + 1 : Nat) : Int)) (fun _ _ hρ _ => r_move (hρ _ _ rfl)) rfl rfl rfl (w_n rfl) ?_
    refine TL_nil ?_
    exact p_atT (k + 1, h4, bs4) ⟨⟨by omega, (hv4.trans (congrArg (putV · p.pv) hn5)).trans (putsV_step (pvs_get hp)).symm, hk4, (ht4.trans ht5)⟩, by dsimp only; omega⟩ (sub_cons rfl (sub_cons rfl (sub_cons rfl (sub_cons rfl (sub_cons rfl sub_nil))))) (by first | exact lk_fin (F := [_, _, _, _, _, _, _, _]) (sub_cons rfl (sub_cons rfl (sub_cons rfl (sub_cons rfl (sub_cons rfl (sub_cons rfl (sub_cons rfl sub_nil))))))) rfl hL | exact lk_fin (F := [_, _, _, _, _, _, _, _, _]) (sub_cons rfl (sub_cons rfl (sub_cons rfl (sub_cons rfl (sub_cons rfl (sub_cons rfl (sub_cons rfl sub_nil))))))) rfl hL | exact lk_fin (F := [_, _, _, _, _, _, _, _, _, _]) (sub_cons rfl (sub_cons rfl (sub_cons rfl (sub_cons rfl (sub_cons rfl (sub_cons rfl (sub_cons rfl sub_nil))))))) rfl hL | exact lk_fin (F := [_, _, _, _, _, _, _, _, _, _, _]) (sub_cons rfl (sub_cons rfl (sub_cons rfl (sub_cons rfl (sub_cons rfl (sub_cons rfl (sub_cons rfl sub_nil))))))) rfl hL | exact lk_fin (F := [_, _, _, _, _, _, _, _, _, _, _, _]) (sub_cons rfl (sub_cons rfl (sub_cons rfl (sub_cons rfl (sub_cons rfl (sub_cons rfl (sub_cons rfl sub_nil))))))) rfl hL | exact lk_fin (F := [_, _, _, _, _, _, _, _, _, _, _, _, _]) (sub_cons rfl (sub_cons rfl (sub_cons rfl (sub_cons rfl (sub_cons rfl (sub_cons rfl (sub_cons rfl sub_nil))))))) rfl hL | exact lk_fin (F := [_, _, _, _, _, _, _, _, _, _, _, _, _, _]) (sub_cons rfl (sub_cons rfl (sub_cons rfl (sub_cons rfl (sub_cons rfl (sub_cons rfl (sub_cons rfl sub_nil))))))) rfl hL | exact lk_fin (F := [_, _, _, _, _, _, _, _, _, _, _, _, _, _, _]) (sub_cons rfl (sub_cons rfl (sub_cons rfl (sub_cons rfl (sub_cons rfl (sub_cons rfl (sub_cons rfl sub_nil))))))) rfl hL | exact lk_fin (F := [_, _, _, _, _, _, _, _, _, _, _, _, _, _, _, _]) (sub_cons rfl (sub_cons rfl (sub_cons rfl (sub_cons rfl (sub_cons rfl (sub_cons rfl (sub_cons rfl sub_nil))))))) rfl hL | exact lk_fin (F := [_, _, _, _, _, _, _, _, _, _, _, _, _, _, _, _, _]) (sub_cons rfl (sub_cons rfl (sub_cons rfl (sub_cons rfl (sub_cons rfl (sub_cons rfl (sub_cons rfl sub_nil))))))) rfl hL | exact lk_fin (F := [_, _, _, _, _, _, _, _, _, _, _, _, _, _, _, _, _, _]) (sub_cons rfl (sub_cons rfl (sub_cons rfl (sub_cons rfl (sub_cons rfl (sub_cons rfl (sub_cons rfl sub_nil))))))) rfl hL | exact lk_fin (F := [_, _, _, _, _, _, _, _, _, _, _, _, _, _, _, _, _, _, _]) (sub_cons rfl (sub_cons rfl (sub_cons rfl (sub_cons rfl (sub_cons rfl (sub_cons rfl (sub_cons rfl sub_nil))))))) rfl hL)
  · replace h1 := of_decide_eq_false h1
    refine T_exit' ?_
    refine p_then_x ?_
    refine p_then_x ?_
    refine p_blk_x ?_
    refine p_seq ?_
    refine T_region ?_
    refine TL_q (.pointer (some ⟨H1, 0, none⟩)) (fun _ _ hρ _ => r_move (hρ _ _ rfl)) rfl rfl rfl (w_n rfl) ?_
    refine TL_q (.pointer (some ⟨H1, 0, none⟩)) (fun _ _ hρ _ => r_nilCheck (hρ _ _ rfl) rfl) rfl rfl rfl (w_n rfl) ?_
    refine TL_q (.pointer (some ⟨H1, 0, none⟩)) (fun _ _ hρ _ => r_fieldAddr fl104_0 sz27 (hρ _ _ rfl)) rfl rfl rfl (w_n rfl) ?_
    refine TL_q (.agg #[.slice h5.n.a h5.n.l.length h5.n.cap, .int .u64 h5.lost]) (fun _ _ hρ hm => r_loadA ag27 sz27 (hρ _ _ rfl) (hm.at 900 rfl) rfl rfl) rfl rfl rfl (w_n rfl) ?_
    refine TL_store 912 (.cells #[.slice h5.n.a h5.n.l.length h5.n.cap, .int .u64 h5.lost] 27) rfl (fun _ _ hρ hm => r_store sz27 (hρ _ _ rfl) (hρ _ _ rfl) (hm.at 912 rfl) rfl rfl rfl rfl) rfl rfl (w_n rfl) ?_
    refine TL_nil ?_
    refine p_end ?_
    refine ret_of rfl (.tuple #[]) (fun tmps w hk hm => results_none rfl _ _ _) (fun w hm => ?_)
    have hke : k = zs.length := by omega
    subst hke
    rw [show (pvs zs).take zs.length = pvs zs from by rw [← pvs_len zs]; exact List.take_length] at hn5
    refine ⟨(H1, h5, bs5), ⟨hn5, hh5, ht5⟩, rfl, ?_⟩
    first | exact hm.of (lk_fin (F := [_, _, _, _, _, _, _]) (T := hdL H1 h5 bs5 ++ [(910, .blk T0 (.cells #[.slice a ps.length cap, .int .u64 lost] 27)), (911, .blk T1 (.cells #[.slice b zs.length capb] 22)), (912, .blk T2 (.cells #[.slice h5.n.a h5.n.l.length h5.n.cap, .int .u64 h5.lost] 27))]) (sub_cons rfl (sub_cons rfl (sub_cons rfl (sub_cons rfl (sub_cons rfl (sub_cons rfl (sub_cons rfl sub_nil))))))) rfl hL) | exact hm.of (lk_fin (F := [_, _, _, _, _, _, _, _]) (T := hdL H1 h5 bs5 ++ [(910, .blk T0 (.cells #[.slice a ps.length cap, .int .u64 lost] 27)), (911, .blk T1 (.cells #[.slice b zs.length capb] 22)), (912, .blk T2 (.cells #[.slice h5.n.a h5.n.l.length h5.n.cap, .int .u64 h5.lost] 27))]) (sub_cons rfl (sub_cons rfl (sub_cons rfl (sub_cons rfl (sub_cons rfl (sub_cons rfl (sub_cons rfl sub_nil))))))) rfl hL) | exact hm.of (lk_fin (F := [_, _, _, _, _, _, _, _, _]) (T := hdL H1 h5 bs5 ++ [(910, .blk T0 (.cells #[.slice a ps.length cap, .int .u64 lost] 27)), (911, .blk T1 (.cells #[.slice b zs.length capb] 22)), (912, .blk T2 (.cells #[.slice h5.n.a h5.n.l.length h5.n.cap, .int .u64 h5.lost] 27))]) (sub_cons rfl (sub_cons rfl (sub_cons rfl (sub_cons rfl (sub_cons rfl (sub_cons rfl (sub_cons rfl sub_nil))))))) rfl hL) | exact hm.of (lk_fin (F := [_, _, _, _, _, _, _, _, _, _]) (T := hdL H1 h5 bs5 ++ [(910, .blk T0 (.cells #[.slice a ps.length cap, .int .u64 lost] 27)), (911, .blk T1 (.cells #[.slice b zs.length capb] 22)), (912, .blk T2 (.cells #[.slice h5.n.a h5.n.l.length h5.n.cap, .int .u64 h5.lost] 27))]) (sub_cons rfl (sub_cons rfl (sub_cons rfl (sub_cons rfl (sub_cons rfl (sub_cons rfl (sub_cons rfl sub_nil))))))) rfl hL) | exact hm.of (lk_fin (F := [_, _, _, _, _, _, _, _, _, _, _]) (T := hdL H1 h5 bs5 ++ [(910, .blk T0 (.cells #[.slice a ps.length cap, .int .u64 lost] 27)), (911, .blk T1 (.cells #[.slice b zs.length capb] 22)), (912, .blk T2 (.cells #[.slice h5.n.a h5.n.l.length h5.n.cap, .int .u64 h5.lost] 27))]) (sub_cons rfl (sub_cons rfl (sub_cons rfl (sub_cons rfl (sub_cons rfl (sub_cons rfl (sub_cons rfl sub_nil))))))) rfl hL) | exact hm.of (lk_fin (F := [_, _, _, _, _, _, _, _, _, _, _, _]) (T := hdL H1 h5 bs5 ++ [(910, .blk T0 (.cells #[.slice a ps.length cap, .int .u64 lost] 27)), (911, .blk T1 (.cells #[.slice b zs.length capb] 22)), (912, .blk T2 (.cells #[.slice h5.n.a h5.n.l.length h5.n.cap, .int .u64 h5.lost] 27))]) (sub_cons rfl (sub_cons rfl (sub_cons rfl (sub_cons rfl (sub_cons rfl (sub_cons rfl (sub_cons rfl sub_nil))))))) rfl hL) | exact hm.of (lk_fin (F := [_, _, _, _, _, _, _, _, _, _, _, _, _]) (T := hdL H1 h5 bs5 ++ [(910, .blk T0 (.cells #[.slice a ps.length cap, .int .u64 lost] 27)), (911, .blk T1 (.cells #[.slice b zs.length capb] 22)), (912, .blk T2 (.cells #[.slice h5.n.a h5.n.l.length h5.n.cap, .int .u64 h5.lost] 27))]) (sub_cons rfl (sub_cons rfl (sub_cons rfl (sub_cons rfl (sub_cons rfl (sub_cons rfl (sub_cons rfl sub_nil))))))) rfl hL) | exact hm.of (lk_fin (F := [_, _, _, _, _, _, _, _, _, _, _, _, _, _]) (T := hdL H1 h5 bs5 ++ [(910, .blk T0 (.cells #[.slice a ps.length cap, .int .u64 lost] 27)), (911, .blk T1 (.cells #[.slice b zs.length capb] 22)), (912, .blk T2 (.cells #[.slice h5.n.a h5.n.l.length h5.n.cap, .int .u64 h5.lost] 27))]) (sub_cons rfl (sub_cons rfl (sub_cons rfl (sub_cons rfl (sub_cons rfl (sub_cons rfl (sub_cons rfl sub_nil))))))) rfl hL) | exact hm.of (lk_fin (F := [_, _, _, _, _, _, _, _, _, _, _, _, _, _, _]) (T := hdL H1 h5 bs5 ++ [(910, .blk T0 (.cells #[.slice a ps.length cap, .int .u64 lost] 27)), (911, .blk T1 (.cells #[.slice b zs.length capb] 22)), (912, .blk T2 (.cells #[.slice h5.n.a h5.n.l.length h5.n.cap, .int .u64 h5.lost] 27))]) (sub_cons rfl (sub_cons rfl (sub_cons rfl (sub_cons rfl (sub_cons rfl (sub_cons rfl (sub_cons rfl sub_nil))))))) rfl hL) | exact hm.of (lk_fin (F := [_, _, _, _, _, _, _, _, _, _, _, _, _, _, _, _]) (T := hdL H1 h5 bs5 ++ [(910, .blk T0 (.cells #[.slice a ps.length cap, .int .u64 lost] 27)), (911, .blk T1 (.cells #[.slice b zs.length capb] 22)), (912, .blk T2 (.cells #[.slice h5.n.a h5.n.l.length h5.n.cap, .int .u64 h5.lost] 27))]) (sub_cons rfl (sub_cons rfl (sub_cons rfl (sub_cons rfl (sub_cons rfl (sub_cons rfl (sub_cons rfl sub_nil))))))) rfl hL)

end Go.Proofs.Ytcidgbjgeegepaa
/- net and journal: Send. Printed by a program of this seat's prover. -/
namespace Go.Proofs.Ytcidgbjgeegepaa
open Go Go.RowKit
set_option maxRecDepth 10000
theorem trO_idle (w₀ : World) (L : Heap) (B : Nat) : ∀ w, MemOk w₀ L w → CallsD Try.prog 98 #[.pointer (some ⟨B, 0, none⟩)] .returning w fun e u' w' => u' = .returning ∧ (e = .returned (.tuple #[]) ∧ MemOk w₀ L w') := by
  refine dS_of_T (l := [.pointer (some ⟨B, 0, none⟩)]) (L := L) (v := .nilIface) 16 (.inl ⟨rfl, rfl, rfl⟩) Try.func98 rfl rfl rfl rfl rfl (fun _ _ => rfl) rfl rfl (fun _ _ => rfl) rfl rfl ?_
  show T _ _ _ [(1, .nilIface), (4, .nilIface), (0, .pointer (some ⟨B, 0, none⟩))] L
  refine T_seq (T_region ?_)
  refine TL_q (.nilIface) (fun _ _ hρ _ => r_move (hρ _ _ rfl)) rfl rfl rfl (w_n rfl) ?_
  refine TL_q (.bool false) (fun _ w hρ _ => r_eqI (by rfl) (hρ _ _ rfl) (hρ _ _ rfl) (run_neq_nil_nil w 20 (by kernel_rfl))) rfl rfl rfl (w_n rfl) ?_
  refine TL_seq ?_
  refine T_cond_f rfl ?_
  refine T_skip' ?_
  refine p_endP ?_
  refine ret_ofP rfl (.tuple #[]) (fun tmps w hk hm => results_none rfl _ _ _) (fun w hm => ?_)
  exact ⟨rfl, hm⟩

theorem trO_rec (w₀ : World) (L : Heap) (B : Nat) (x : Int) (hB : lk L 1951 = some (.blk B (.cells #[.int .i64 0] 28))) : ∀ w, MemOk w₀ L w → CallsD Try.prog 98 #[.pointer (some ⟨B, 0, none⟩)] (.panicking [{ v := .iface 28 (.int .i64 x), recovered := false }]) w fun e u' w' => u' = .panicking [{ v := .iface 28 (.int .i64 x), recovered := true }] ∧ (e = .returned (.tuple #[]) ∧ MemOk w₀ ([(1951, .blk B (.cells #[.int .i64 x] 28))] ++ L) w') := by
  refine dS_of_T (l := [.pointer (some ⟨B, 0, none⟩)]) (L := L) (v := .iface 28 (.int .i64 x)) 16 (.inr ⟨rfl, rfl⟩) Try.func98 rfl rfl rfl rfl rfl (fun _ _ => rfl) rfl rfl (fun _ _ => rfl) rfl rfl ?_
  refine T_mem ((1951, .blk B (.cells #[.int .i64 0] 28)) :: L) (fun _ hm => hm.of (lk_dup hB)) ?_
  show T _ _ _ [(1, .iface 28 (.int .i64 x)), (4, .iface 28 (.int .i64 x)), (0, .pointer (some ⟨B, 0, none⟩))] ((1951, .blk B (.cells #[.int .i64 0] 28)) :: L)
  refine T_seq (T_region ?_)
  refine TL_q (.iface 28 (.int .i64 x)) (fun _ _ hρ _ => r_move (hρ _ _ rfl)) rfl rfl rfl (w_n rfl) ?_
  refine TL_q (.bool true) (fun _ w hρ _ => r_eqI (by rfl) (hρ _ _ rfl) (hρ _ _ rfl) (run_neq_held_nil w 20 _ _ (by kernel_rfl))) rfl rfl rfl (w_n rfl) ?_
  refine TL_seq ?_
  refine T_cond_t rfl ?_
  refine T_seq (T_region ?_)
  refine TL_q (.iface 28 (.int .i64 x)) (fun _ _ hρ _ => r_move (hρ _ _ rfl)) rfl rfl rfl (w_n rfl) ?_
  refine TL_q (.tuple #[.int .i64 x, .bool true]) (fun _ _ hρ _ => r_typeAssert (hρ _ _ rfl) (by kernel_rfl)) rfl rfl rfl (w_n rfl) ?_
  refine TL_q (.tuple #[.int .i64 x, .bool true]) (fun _ _ hρ _ => r_move (hρ _ _ rfl)) rfl rfl rfl (w_n rfl) ?_
  refine TL_q (.int .i64 x) (fun _ _ hρ _ => r_extract (hρ _ _ rfl) rfl) rfl rfl rfl (w_n rfl) ?_
  refine TL_q (.bool true) (fun _ _ hρ _ => r_extract (hρ _ _ rfl) rfl) rfl rfl rfl (w_n rfl) ?_
  refine TL_q (.int .i64 x) (fun _ _ hρ _ => r_assign (hρ _ _ rfl)) rfl rfl rfl (w_n rfl) ?_
  refine TL_q (.bool true) (fun _ _ hρ _ => r_assign (hρ _ _ rfl)) rfl rfl rfl (w_n rfl) ?_
  refine TL_seq ?_
  refine T_seq ?_
  refine T_seq (T_region ?_)
  refine TL_q (.bool true) (fun _ _ hρ _ => r_move (hρ _ _ rfl)) rfl rfl rfl (w_n rfl) ?_
  refine TL_q (.bool false) (fun _ _ hρ _ => r_not (b := true) (hρ _ _ rfl)) rfl rfl rfl (w_n rfl) ?_
  refine TL_seq ?_
  refine T_cond_f rfl ?_
  refine T_skip' ?_
  refine p_seq ?_
  refine T_region ?_
  refine TL_q (.int .i64 x) (fun _ _ hρ _ => r_move (hρ _ _ rfl)) rfl rfl rfl (w_n rfl) ?_
  refine TL_store 1951 (.cells #[.int .i64 x] 28) rfl (fun _ _ hρ hm => r_store sz28 (hρ _ _ rfl) (hρ _ _ rfl) (hm.at 1951 rfl) rfl rfl rfl rfl) rfl rfl (w_n rfl) ?_
  refine TL_nil ?_
  refine p_endP ?_
  refine ret_ofP rfl (.tuple #[]) (fun tmps w hk hm => results_none rfl _ _ _) (fun w hm => ?_)
  exact ⟨rfl, hm.of (lk_mid (L := L) [(1951, .blk B (.cells #[.int .i64 x] 28))] [(1951, .blk B (.cells #[.int .i64 0] 28))] rfl)⟩

theorem trO_ok {w₀ : World} {L : Heap} (g : Nat) (cap : Array Value) {ι : Type} (p : ι → Prop)  (N : ι → Heap) (hE : Enters Try.prog g) (h1951 : lk L 1951 = none) (hN1951 : ∀ x, lk (N x) 1951 = none) (H : ∀ B w, MemOk w₀ ((1951, .blk B (.cells #[.int .i64 0] 28)) :: L) w → Calls Try.prog g cap w (HAns w₀ p (fun x => .tuple #[]) (fun x => N x ++ ((1951, .blk B (.cells #[.int .i64 0] 28)) :: L)))) : ∀ w, MemOk w₀ L w → Calls Try.prog 59 #[.func (.func g) #[] cap] w (HAns w₀ p (fun x => .int .i64 0) (fun x => N x ++ L)) := by
  refine ht_of_TD (l := [.func (.func g) #[] cap]) (L := L) 6 Try.func59 rfl rfl rfl ?_
  show T _ _ _ [(0, .func (.func g) #[] cap)] L
  refine T_seq (T_region ?_)
  refine TL_new 1951 (.cells #[.int .i64 0] 28) (fun B => .pointer (some ⟨B, 0, none⟩)) (fun _ _ _ _ => r_alloc (v := .int .i64 0) (by kernel_rfl) rfl) rfl rfl rfl (w_n rfl) ?_
  intro B1
  refine TL_seq ?_
  refine T_seq (T_region ?_)
  refine TL_q (.func (.func 98) #[] #[.pointer (some ⟨B1, 0, none⟩)]) (fun _ _ hρ _ => r_makeFunc (by simp) (map_arr (cons2 (hρ _ _ rfl) rfl))) rfl rfl rfl (w_n rfl) ?_
  refine TL_defer ({ target := .fn (.func 98) #[.pointer (some ⟨B1, 0, none⟩)], args := #[] }) rfl (fun _ _ hρ _ => r_defer (args := []) (hρ _ _ rfl) (by rfl) rfl) rfl (w_n rfl) ?_
  refine TL_seq ?_
  refine T_seq (T_region ?_)
  refine TL_q (.func (.func g) #[] cap) (fun _ _ hρ _ => r_move (hρ _ _ rfl)) rfl rfl rfl (w_n rfl) ?_
  refine TL_callH _ _ _ (fun _ _ hρ _ => r_call (args := []) hE (hρ _ _ rfl) (by rfl) (by simp)) (fun w hm => H B1 w hm) rfl rfl rfl (w_n rfl) ?_
  intro x hx
  refine TL_mem ([(1951, .blk B1 (.cells #[.int .i64 0] 28))] ++ (N x ++ L)) (fun _ hm => hm.of (lk_front (L := L) [(1951, .blk B1 (.cells #[.int .i64 0] 28))] (by simp [hN1951]))) ?_
  refine TL_seq ?_
  refine T_seq (T_region ?_)
  refine TL_store 1951 (.cells #[.int .i64 0] 28) rfl (fun _ _ hρ hm => r_store sz28 (hρ _ _ rfl) (hρ _ _ rfl) (hm.at 1951 rfl) rfl rfl rfl rfl) rfl rfl (w_n rfl) ?_
  refine TL_seq ?_
  refine T_ret' ?_
  refine ret_ofD [{ target := .fn (.func 98) #[.pointer (some ⟨B1, 0, none⟩)], args := #[] }] rfl (fun tmps hk => ?_)
  refine leavesH_cons (enters_of Try.func98 (by kernel_rfl) rfl) (fun w hm => trO_idle _ _ B1 w hm) ?_
  refine leavesH_nil (.int .i64 0) (fun _ hm => res1 rfl (res_cell (hk 2 _ rfl) (run_loadVar_one ag28 (hm.at 1951 rfl) rfl))) (fun w hm => ?_)
  have e1951 := lk_app_none (hN1951 x) h1951
  exact ⟨x, hx, rfl, hm.of (lk_drop (L := N x ++ L) [(1951, .blk B1 (.cells #[.int .i64 0] 28)), (1951, .blk B1 (.cells #[.int .i64 0] 28))] (by simp [e1951]))⟩

theorem trO_no {w₀ : World} {L : Heap} (g : Nat) (cap : Array Value) {ι : Type} (p : ι → Prop) (er : ι → Int) (N : ι → Heap) (hE : Enters Try.prog g) (h1951 : lk L 1951 = none) (hN1951 : ∀ x, lk (N x) 1951 = none) (H : ∀ B w, MemOk w₀ ((1951, .blk B (.cells #[.int .i64 0] 28)) :: L) w → Calls Try.prog g cap w (PAns w₀ p (fun x => .iface 28 (.int .i64 (er x))) (fun x => N x ++ ((1951, .blk B (.cells #[.int .i64 0] 28)) :: L)))) : ∀ w, MemOk w₀ L w → Calls Try.prog 59 #[.func (.func g) #[] cap] w (HAns w₀ p (fun x => .int .i64 (er x)) (fun x => N x ++ L)) := by
  refine ht_of_TD (l := [.func (.func g) #[] cap]) (L := L) 6 Try.func59 rfl rfl rfl ?_
  show T _ _ _ [(0, .func (.func g) #[] cap)] L
  refine T_seq (T_region ?_)
  refine TL_new 1951 (.cells #[.int .i64 0] 28) (fun B => .pointer (some ⟨B, 0, none⟩)) (fun _ _ _ _ => r_alloc (v := .int .i64 0) (by kernel_rfl) rfl) rfl rfl rfl (w_n rfl) ?_
  intro B1
  refine TL_seq ?_
  refine T_seq (T_region ?_)
  refine TL_q (.func (.func 98) #[] #[.pointer (some ⟨B1, 0, none⟩)]) (fun _ _ hρ _ => r_makeFunc (by simp) (map_arr (cons2 (hρ _ _ rfl) rfl))) rfl rfl rfl (w_n rfl) ?_
  refine TL_defer ({ target := .fn (.func 98) #[.pointer (some ⟨B1, 0, none⟩)], args := #[] }) rfl (fun _ _ hρ _ => r_defer (args := []) (hρ _ _ rfl) (by rfl) rfl) rfl (w_n rfl) ?_
  refine TL_seq ?_
  refine T_seq (T_region ?_)
  refine TL_q (.func (.func g) #[] cap) (fun _ _ hρ _ => r_move (hρ _ _ rfl)) rfl rfl rfl (w_n rfl) ?_
  refine TL_callP _ _ _ (fun _ _ hρ _ => r_call (args := []) hE (hρ _ _ rfl) (by rfl) (by simp)) (fun w hm => H B1 w hm) rfl (w_n rfl) ?_
  intro x hx
  refine p_mem ([(1951, .blk B1 (.cells #[.int .i64 0] 28))] ++ (N x ++ L)) (fun _ hm => hm.of (lk_front (L := L) [(1951, .blk B1 (.cells #[.int .i64 0] 28))] (by simp [hN1951]))) ?_
  refine p_then_p ?_
  refine p_panD [{ target := .fn (.func 98) #[.pointer (some ⟨B1, 0, none⟩)], args := #[] }] rfl (fun tmps hk => ?_)
  refine leavesP_cons (L' := [(1951, .blk B1 (.cells #[.int .i64 (er x)] 28))] ++ (N x ++ L)) (enters_of Try.func98 (by kernel_rfl) rfl) (fun w hm => ((trO_rec _ ([(1951, .blk B1 (.cells #[.int .i64 0] 28))] ++ (N x ++ L)) B1 _ rfl w hm).mono fun e u' w' h => ⟨h.1, h.2.1, h.2.2.of (lk_mid (L := N x ++ L) [(1951, .blk B1 (.cells #[.int .i64 (er x)] 28))] [(1951, .blk B1 (.cells #[.int .i64 0] 28))] rfl)⟩)) ?_
  refine leavesH_nil (.int .i64 (er x)) (fun _ hm => res1 rfl (res_cell (hk 2 _ rfl) (run_loadVar_one ag28 (hm.at 1951 rfl) rfl))) (fun w hm => ?_)
  have e1951 := lk_app_none (hN1951 x) h1951
  exact ⟨x, hx, rfl, hm.of (lk_drop (L := N x ++ L) [(1951, .blk B1 (.cells #[.int .i64 (er x)] 28))] (by simp [e1951]))⟩

abbrev sxL (T0 T1 T2 : Nat) (a : Option Addr) (n cap : Nat) (lost : Int) (b : Option Addr) (m capb : Nat) (c : Option Addr) (k d : Nat) (lo : Int) : Heap := [(910, .blk T0 (.cells #[.slice a n cap, .int .u64 lost] 27)), (911, .blk T1 (.cells #[.slice b m capb] 22)), (912, .blk T2 (.cells #[.slice c k d, .int .u64 lo] 27))]

/-- A net in new memory of its own. -/
structure NetNew (w w' : World) (x : Hd × List (RowG By)) : Prop where
  row : (rowP x.1.n).ok w.heap.size w'
  pool : (Res.pool 5 1 byc x.2).ok w.heap.size w'
  sep : ∀ b, (rowP x.1.n).foot b → ¬ (Res.pool 5 1 byc x.2).foot b
structure NetIs (n : NV) (x : Hd × List (RowG By)) : Prop where
  nv : x.1.nv = n
  ok : HdOk x.1 x.2

theorem send_ok (ps : List Pcl) (a : Option Addr) (cap : Nat) (lost : Int) (zs : List Pcl) (b : Option Addr) (capb : Nat) (w : World) (hv : SliceAt w a cap 3 Pcl.cells ps) (hcap : cap ≤ Go.maxLen) (hb : PcsAt w ps) (hu : SliceAt w b capb 3 Pcl.cells zs) (hcapb : capb ≤ Go.maxLen) (hbz : PcsAt w zs) (h0 : 0 ≤ lost) (hck : checkV (pvs ps) lost = true) (hall : zs.all (fun p => mayV p.pv && !p.sp) = true) : Calls Try.prog 13 #[.agg #[.slice a ps.length cap, .int .u64 lost], .slice b zs.length capb] w fun e w' => ∃ x : Hd × List (RowG By), NetIs (putsV (pvs ps, lost) (pvs zs)) x ∧ e = .returned (.tuple #[.agg #[.slice x.1.n.a x.1.n.l.length x.1.n.cap, .int .u64 x.1.lost], .int .i64 0]) ∧ Below w.heap.size w w' ∧ NetNew w w' x := by
  have hvl := hv.1
  unfold Go.maxLen at hcap
  have hul := hu.1
  unfold Go.maxLen at hcapb
  refine calls_of_T (l := [.agg #[.slice a ps.length cap, .int .u64 lost], .slice b zs.length capb]) 12 Try.func13 rfl rfl rfl ?_
  show T _ _ _ [(0, .agg #[.slice a ps.length cap, .int .u64 lost]), (1, .slice b zs.length capb)] []
  refine T_seq (T_region ?_)
  refine TL_new 910 (.cells #[.slice a ps.length cap, .int .u64 lost] 27) (fun B => .pointer (some ⟨B, 0, none⟩)) (fun _ _ hρ _ => r_box (hρ _ _ rfl) rfl) rfl rfl rfl (w_n rfl) ?_
  intro B1
  refine TL_new 911 (.cells #[.slice b zs.length capb] 22) (fun B => .pointer (some ⟨B, 0, none⟩)) (fun _ _ hρ _ => r_box (hρ _ _ rfl) rfl) rfl rfl rfl (w_n rfl) ?_
  intro B2
  refine TL_new 913 (.cells #[.slice none 0 0, .int .u64 0] 27) (fun B => .pointer (some ⟨B, 0, none⟩)) (fun _ _ _ _ => r_alloc (v := .agg #[.slice none 0 0, .int .u64 0]) (by kernel_rfl) rfl) rfl rfl rfl (w_n rfl) ?_
  intro B3
  refine TL_q (.int .i64 0) (fun _ _ hρ _ => r_assign (hρ _ _ rfl)) rfl rfl rfl (w_n rfl) ?_
  refine TL_seq ?_
  refine T_seq (T_region ?_)
  refine TL_new 912 (.cells #[.slice none 0 0, .int .u64 0] 27) (fun B => .pointer (some ⟨B, 0, none⟩)) (fun _ _ _ _ => r_alloc (v := .agg #[.slice none 0 0, .int .u64 0]) (by kernel_rfl) rfl) rfl rfl rfl (w_n rfl) ?_
  intro B4
  refine TL_seq ?_
  refine T_seq (T_region ?_)
  refine TL_q (.func (.func 60) #[] #[.pointer (some ⟨B1, 0, none⟩), .pointer (some ⟨B2, 0, none⟩), .pointer (some ⟨B4, 0, none⟩)]) (fun _ _ hρ _ => r_makeFunc (by simp) (map_arr (cons2 (hρ _ _ rfl) (cons2 (hρ _ _ rfl) (cons2 (hρ _ _ rfl) rfl))))) rfl rfl rfl (w_n rfl) ?_
  refine TL_callH _ _ _ (fun _ _ hρ _ => r_call (args := [.func (.func 60) #[] #[.pointer (some ⟨B1, 0, none⟩), .pointer (some ⟨B2, 0, none⟩), .pointer (some ⟨B4, 0, none⟩)]]) (enters_of Try.func59 (by kernel_rfl) rfl) (hρ _ _ rfl) ((cons2 (hρ _ _ rfl) rfl)) rfl) (fun w hm => trO_ok 60 #[.pointer (some ⟨B1, 0, none⟩), .pointer (some ⟨B2, 0, none⟩), .pointer (some ⟨B4, 0, none⟩)] (fun x : Nat × Hd × List (RowG By) => Sent (putsV (pvs ps, lost) (pvs zs)) x) (fun x => hdL x.1 x.2.1 x.2.2 ++ sxL B1 B2 B4 a ps.length cap lost b zs.length capb x.2.1.n.a x.2.1.n.l.length x.2.1.n.cap x.2.1.lost) (enters_of Try.func60 (by kernel_rfl) rfl) (lk_ids (by repeat (first | exact noIds_nil _ _ | refine noIds_cons rfl ?_))) (fun _ => rfl) (fun B w hm => send1_ok B1 B2 B4 ps a cap lost zs b capb (by repeat (first | exact noIds_nil _ _ | refine noIds_cons rfl ?_)) hv hcap hb hu hcapb hbz h0 hck hall w (hm.of (lk_dups (A := sxL B1 B2 B4 a ps.length cap lost b zs.length capb none 0 0 0) (sub_cons rfl (sub_cons rfl (sub_cons rfl sub_nil)))))) w hm) rfl rfl rfl (w_n rfl) ?_
  rintro ⟨H5, h5, bs5⟩ ⟨hv5, hk5, ht5⟩
  refine TL_q (.int .i64 0) (fun _ _ hρ _ => r_assign (hρ _ _ rfl)) rfl rfl rfl (w_n rfl) ?_
  refine TL_seq ?_
  refine T_seq (T_region ?_)
  refine TL_q (.agg #[.slice h5.n.a h5.n.l.length h5.n.cap, .int .u64 h5.lost]) (fun _ _ hρ hm => r_loadA ag27 sz27 (hρ _ _ rfl) (hm.at 912 rfl) rfl rfl) rfl rfl rfl (w_n rfl) ?_
  refine TL_q (.int .i64 0) (fun _ _ hρ _ => r_move (hρ _ _ rfl)) rfl rfl rfl (w_n rfl) ?_
  refine TL_store 913 (.cells #[.slice h5.n.a h5.n.l.length h5.n.cap, .int .u64 h5.lost] 27) rfl (fun _ _ hρ hm => r_store sz27 (hρ _ _ rfl) (hρ _ _ rfl) (hm.at 913 rfl) rfl rfl rfl rfl) rfl rfl (w_n rfl) ?_
  refine TL_q (.int .i64 0) (fun _ _ hρ _ => r_assign (hρ _ _ rfl)) rfl rfl rfl (w_n rfl) ?_
  refine TL_seq ?_
  refine T_ret' ?_
  refine ret_of rfl (.tuple #[.agg #[.slice h5.n.a h5.n.l.length h5.n.cap, .int .u64 h5.lost], .int .i64 0]) (fun tmps w hk hm => res2 rfl (res_cell (hk 4 _ rfl) (run_loadVar_agg ag27 sz27 (hm.at 913 rfl) (Nat.le_of_ble_eq_true rfl) rfl)) (res_tmp (hk 5 _ rfl))) (fun w hm => ?_)
  exact ⟨(h5, bs5), ⟨hv5, hk5⟩, rfl, hm.ext, hm.own 901 _ rfl, hm.own 903 _ rfl, hm.sep 901 903 _ _ rfl rfl (by decide)⟩

end Go.Proofs.Ytcidgbjgeegepaa
/- net and journal: Do. Printed by a program of this seat's prover. -/
namespace Go.Proofs.Ytcidgbjgeegepaa
open Go Go.RowKit
set_option maxRecDepth 10000
/-- The last of parcels (the zero parcel, if there is none). -/
def lastP (l : List Pcl) : Pcl := l.getLast?.getD ⟨0, ⟨none, 0, []⟩, false⟩
theorem lastP_step {l : List Pcl} {k : Nat} {p : Pcl} (h : l[k]? = some p) : lastP (l.take (k + 1)) = p := by
  unfold lastP
  rw [List.take_add_one, h]
  simp
def toldV (l : List PV) : PV := l.getLast?.getD zeroP
theorem lastP_pv (l : List Pcl) : (lastP l).pv = toldV (pvs l) := by
  unfold lastP toldV pvs
  rw [List.getLast?_map]
  cases l.getLast? <;> rfl
/-- What a trick on a net has come to. -/
structure Did (n : NV) (t : Trk) (x : Nat × Hd × List (RowG By)) : Prop where
  nv : x.2.1.nv = (doV n t).2.1
  told : (lastP x.2.1.t.l).pv = toldV (doV n t).2.2
  ok : HdOk x.2.1 x.2.2
theorem did_of {n : NV} {t : Trk} {H : Nat} {h h' : Hd} {bs bs' : List (RowG By)} (hv : h.nv = n) (ht : h.t = ⟨none, 0, []⟩) (hd : Done h bs t (h', bs')) : Did n t (H, h', bs') := by
  subst hv
  refine ⟨hd.nv, ?_, hd.ok⟩
  have := hd.told
  rw [ht] at this
  dsimp only at this ⊢
  rw [lastP_pv, this]; rfl

theorem do1_ok {w₀ : World} {L : Heap} (T0 T1 T2 T3 : Nat) (ps : List Pcl) (a : Option Addr) (cap : Nat) (lost tk i tb : Int) (tm : Wd) (hL : NoIds L 910 1950) (hv : SliceAt w₀ a cap 3 Pcl.cells ps) (hcap : cap ≤ Go.maxLen) (hb : PcsAt w₀ ps) (h0 : 0 ≤ lost) (hck : checkV (pvs ps) lost = true) (hdo : (doV (pvs ps, lost) ⟨tk, i, tb, tm⟩).1 = 0) : ∀ w, MemOk w₀ ([(904, .blk T0 (.cells #[.slice a ps.length cap, .int .u64 lost] 27)), (905, .blk T1 (.cells #[.int .i64 tk, .int .i64 i, .int .i64 tb, .int .u32 (tm.toNat : Int)] 48)), (906, .blk T2 (.cells #[.slice none 0 0, .int .u64 0] 27)), (907, .blk T3 (.cells #[.int .i64 0, .slice none 0 0, .bool false] 36))] ++ L) w → Calls Try.prog 69 #[.pointer (some ⟨T0, 0, none⟩), .pointer (some ⟨T1, 0, none⟩), .pointer (some ⟨T2, 0, none⟩), .pointer (some ⟨T3, 0, none⟩)] w (HAns w₀ (fun x : Nat × Hd × List (RowG By) => Did (pvs ps, lost) ⟨tk, i, tb, tm⟩ x) (fun _ => .tuple #[]) (fun x => hdL x.1 x.2.1 x.2.2 ++ [(904, .blk T0 (.cells #[.slice a ps.length cap, .int .u64 lost] 27)), (905, .blk T1 (.cells #[.int .i64 tk, .int .i64 i, .int .i64 tb, .int .u32 (tm.toNat : Int)] 48)), (906, .blk T2 (.cells #[.slice x.2.1.n.a x.2.1.n.l.length x.2.1.n.cap, .int .u64 x.2.1.lost] 27)), (907, .blk T3 (.cells #[.int .i64 (lastP x.2.1.t.l).to, .slice (lastP x.2.1.t.l).r.a (lastP x.2.1.t.l).r.l.length (lastP x.2.1.t.l).r.cap, .bool (lastP x.2.1.t.l).sp] 36))] ++ L)) := by
  have hvl := hv.1
  unfold Go.maxLen at hcap
  refine ht_of_T (l := [.pointer (some ⟨T0, 0, none⟩), .pointer (some ⟨T1, 0, none⟩), .pointer (some ⟨T2, 0, none⟩), .pointer (some ⟨T3, 0, none⟩)]) (L := ((904, .blk T0 (.cells #[.slice a ps.length cap, .int .u64 lost] 27)) :: (905, .blk T1 (.cells #[.int .i64 tk, .int .i64 i, .int .i64 tb, .int .u32 ((tm).toNat : Int)] 48)) :: (906, .blk T2 (.cells #[.slice none 0 0, .int .u64 0] 27)) :: (907, .blk T3 (.cells #[.int .i64 0, .slice none 0 0, .bool false] 36)) :: L)) 32 Try.func69 rfl rfl rfl ?_
  show T _ _ _ [(0, .pointer (some ⟨T0, 0, none⟩)), (1, .pointer (some ⟨T1, 0, none⟩)), (2, .pointer (some ⟨T2, 0, none⟩)), (3, .pointer (some ⟨T3, 0, none⟩))] ((904, .blk T0 (.cells #[.slice a ps.length cap, .int .u64 lost] 27)) :: (905, .blk T1 (.cells #[.int .i64 tk, .int .i64 i, .int .i64 tb, .int .u32 ((tm).toNat : Int)] 48)) :: (906, .blk T2 (.cells #[.slice none 0 0, .int .u64 0] 27)) :: (907, .blk T3 (.cells #[.int .i64 0, .slice none 0 0, .bool false] 36)) :: L)
  refine T_seq (T_region ?_)
  refine TL_q (.agg #[.slice a ps.length cap, .int .u64 lost]) (fun _ _ hρ hm => r_loadA ag27 sz27 (hρ _ _ rfl) (hm.at 904 rfl) rfl rfl) rfl rfl rfl (w_n rfl) ?_
  refine TL_callN (fun x : Nat × Hd × List (RowG By) => OfOk ps lost x) (fun (H1, h1, bs1) => .pointer (some ⟨H1, 0, none⟩)) (fun (H1, h1, bs1) => [(900, .blk H1 (.cells #[.slice h1.n.a h1.n.l.length h1.n.cap, .int .u64 h1.lost, .slice h1.t.a h1.t.l.length h1.t.cap] 104)), (901, .row (.slice h1.n.a h1.n.l.length h1.n.cap) 36 3 h1.n.l.length (h1.n.l.flatMap Pcl.cells)), (902, .row (.slice h1.t.a h1.t.l.length h1.t.cap) 36 3 h1.t.l.length (h1.t.l.flatMap Pcl.cells)), (903, .pool 5 1 byc bs1)]) (fun _ _ hρ _ => r_call (args := [.agg #[.slice a ps.length cap, .int .u64 lost]]) (enters_of Try.func61 (by kernel_rfl) rfl) (hρ _ _ rfl) ((cons2 (hρ _ _ rfl) rfl)) rfl) (fun w hm => (of_ok ps a cap lost w (hv.keep hm.ext) hcap (hb.keep hm.ext) h0 hck).mono fun e w' ⟨⟨H, h, bs⟩, hx, he, hb, hn⟩ => ⟨(H, h, bs), hx, he, hb, hn⟩) rfl rfl rfl (w_n rfl) ?_
  rintro ⟨H1, h1, bs1⟩ ⟨hv1, hk1, ht1⟩
  refine TL_q (.pointer (some ⟨H1, 0, none⟩)) (fun _ _ hρ _ => r_assign (hρ _ _ rfl)) rfl rfl rfl (w_n rfl) ?_
  refine TL_seq ?_
  refine T_seq (T_region ?_)
  refine TL_q (.pointer (some ⟨H1, 0, none⟩)) (fun _ _ hρ _ => r_move (hρ _ _ rfl)) rfl rfl rfl (w_n rfl) ?_
  refine TL_q (.agg #[.int .i64 tk, .int .i64 i, .int .i64 tb, .int .u32 ((tm).toNat : Int)]) (fun _ _ hρ hm => r_loadA ag48 sz48 (hρ _ _ rfl) (hm.at 905 rfl) rfl rfl) rfl rfl rfl (w_n rfl) ?_
  refine TL_callH _ _ _ (fun _ _ hρ _ => r_call (args := [.pointer (some ⟨H1, 0, none⟩), .agg #[.int .i64 tk, .int .i64 i, .int .i64 tb, .int .u32 ((tm).toNat : Int)]]) (enters_of Try.func70 (by kernel_rfl) rfl) (hρ _ _ rfl) ((cons2 (hρ _ _ rfl) (cons2 (hρ _ _ rfl) rfl))) rfl) (fun w hm => (does_any H1 (⟨⟨h1.n.a, h1.n.cap, h1.n.l⟩, h1.lost, ⟨h1.t.a, h1.t.cap, h1.t.l⟩⟩ : Hd) bs1 ⟨tk, i, tb, tm⟩ (by repeat (first | exact hL.sub rfl rfl | refine noIds_cons rfl ?_)) hk1 (by rw [show (_ : NetR) = _ from ht1]; exact Nat.zero_le _) w (hm.of (lk_dups (A := hdL H1 (⟨⟨h1.n.a, h1.n.cap, h1.n.l⟩, h1.lost, ⟨h1.t.a, h1.t.cap, h1.t.l⟩⟩ : Hd) bs1) (sub_cons rfl (sub_cons rfl (sub_cons rfl (sub_cons rfl sub_nil))))))).mono fun e w' ⟨x, hx, he, hm⟩ => ⟨x, hx, he.trans (congrArg Ending.returned (int_as ((congrArg (fun n => (doV n _).1) hv1).trans hdo))), hm⟩) rfl rfl rfl (w_n rfl) ?_
  rintro ⟨⟨⟨na2, nc2, nl2⟩, lo2, ⟨ta2, tc2, tl2⟩⟩, bs2⟩ hd2
  refine TL_q (.int .i64 0) (fun _ _ hρ _ => r_assign (hρ _ _ rfl)) rfl rfl rfl (w_n rfl) ?_
  refine TL_seq ?_
  refine T_seq (T_region ?_)
  refine TL_q (.int .i64 0) (fun _ _ hρ _ => r_move (hρ _ _ rfl)) rfl rfl rfl (w_n rfl) ?_
  refine TL_q (.bool true) (fun _ _ hρ _ => r_as (r_eql (hρ _ _ rfl) (hρ _ _ rfl)) (bool_as (decide_eq_true rfl))) rfl rfl rfl (w_n rfl) ?_
  refine TL_q (.int .i64 0) (fun _ _ hρ _ => r_move (hρ _ _ rfl)) rfl rfl rfl (w_n rfl) ?_
  refine TL_call (.tuple #[]) (fun _ _ hρ _ => r_call (args := [.bool true, .int .i64 0]) (enters_of Try.func62 (by kernel_rfl) rfl) (hρ _ _ rfl) ((cons2 (hρ _ _ rfl) (cons2 (hρ _ _ rfl) rfl))) rfl) (fun w _ => need_ok_net 0 w) rfl rfl rfl (w_n rfl) ?_
  refine TL_seq ?_
  refine T_seq (T_region ?_)
  refine TL_q (.pointer (some ⟨H1, 0, none⟩)) (fun _ _ hρ _ => r_move (hρ _ _ rfl)) rfl rfl rfl (w_n rfl) ?_
  refine TL_q (.pointer (some ⟨H1, 0, none⟩)) (fun _ _ hρ _ => r_nilCheck (hρ _ _ rfl) rfl) rfl rfl rfl (w_n rfl) ?_
  refine TL_q (.pointer (some ⟨H1, 0, none⟩)) (fun _ _ hρ _ => r_fieldAddr fl104_0 sz27 (hρ _ _ rfl)) rfl rfl rfl (w_n rfl) ?_
  refine TL_q (.agg #[.slice na2 nl2.length nc2, .int .u64 lo2]) (fun _ _ hρ hm => r_loadA ag27 sz27 (hρ _ _ rfl) (hm.at 900 rfl) rfl rfl) rfl rfl rfl (w_n rfl) ?_
  refine TL_store 906 (.cells #[.slice na2 nl2.length nc2, .int .u64 lo2] 27) rfl (fun _ _ hρ hm => r_store sz27 (hρ _ _ rfl) (hρ _ _ rfl) (hm.at 906 rfl) rfl rfl rfl rfl) rfl rfl (w_n rfl) ?_
  refine TL_seq ?_
  have h9 : tl2.length ≤ 1 := Nat.le_trans hd2.len (Nat.le_of_eq (congrArg (fun t : NetR => t.l.length + 1) ht1))
  refine T_seq (T_region ?_)
  refine TL_q (.pointer (some ⟨H1, 0, none⟩)) (fun _ _ hρ _ => r_move (hρ _ _ rfl)) rfl rfl rfl (w_n rfl) ?_
  refine TL_q (.pointer (some ⟨H1, 0, none⟩)) (fun _ _ hρ _ => r_nilCheck (hρ _ _ rfl) rfl) rfl rfl rfl (w_n rfl) ?_
  refine TL_q (.pointer (some ⟨H1, 2, none⟩)) (fun _ _ hρ _ => r_fieldAddr fl104_1 sz22 (hρ _ _ rfl)) rfl rfl rfl (w_n rfl) ?_
  refine TL_q (.slice ta2 tl2.length tc2) (fun _ _ hρ hm => r_load ag22 (hρ _ _ rfl) (hm.at 900 rfl) rfl) rfl rfl rfl (w_n rfl) ?_
  refine TL_q (.int .i64 ((tl2.length : Nat) : Int)) (fun _ _ hρ _ => r_len sl22 (hρ _ _ rfl)) rfl rfl rfl (w_n rfl) ?_
  refine TL_q (.int .i64 0) (fun _ _ hρ _ => r_move (hρ _ _ rfl)) rfl rfl rfl (w_n rfl) ?_
  refine TL_seq ?_
  refine T_block ?_
  refine T_loopT (ι := Nat × Pcl) (fun (z : Nat × Pcl) => match z with | (k, q) => k ≤ tl2.length ∧ q = lastP (tl2.take k)) (fun (z : Nat × Pcl) => match z with | (k, q) => [(3, .pointer (some ⟨T3, 0, none⟩)), (24, .slice ta2 tl2.length tc2), (25, .int .i64 ((tl2.length : Nat) : Int)), (26, .int .i64 ((k : Nat) : Int))]) (fun (z : Nat × Pcl) => match z with | (k, q) => ((900, .blk H1 (.cells #[.slice na2 nl2.length nc2, .int .u64 lo2, .slice ta2 tl2.length tc2] 104)) :: (901, .row (.slice na2 nl2.length nc2) 36 3 nl2.length (nl2.flatMap Pcl.cells)) :: (902, .row (.slice ta2 tl2.length tc2) 36 3 tl2.length (tl2.flatMap Pcl.cells)) :: (903, .pool 5 1 byc bs2) :: (904, .blk T0 (.cells #[.slice a ps.length cap, .int .u64 lost] 27)) :: (905, .blk T1 (.cells #[.int .i64 tk, .int .i64 i, .int .i64 tb, .int .u32 ((tm).toNat : Int)] 48)) :: (906, .blk T2 (.cells #[.slice na2 nl2.length nc2, .int .u64 lo2] 27)) :: (907, .blk T3 (.cells #[.int .i64 q.to, .slice q.r.a q.r.l.length q.r.cap, .bool q.sp] 36)) :: L)) (fun (z : Nat × Pcl) => match z with | (k, q) => tl2.length - k) (0, ⟨0, ⟨none, 0, []⟩, false⟩) ⟨Nat.zero_le _, rfl⟩ (sub_cons rfl (sub_cons rfl (sub_cons rfl (sub_cons rfl sub_nil)))) (by first | exact lk_fin (F := [_, _, _, _, _, _, _, _]) (sub_cons rfl (sub_cons rfl (sub_cons rfl (sub_cons rfl (sub_cons rfl (sub_cons rfl (sub_cons rfl (sub_cons rfl sub_nil)))))))) rfl hL | exact lk_fin (F := [_, _, _, _, _, _, _, _, _]) (sub_cons rfl (sub_cons rfl (sub_cons rfl (sub_cons rfl (sub_cons rfl (sub_cons rfl (sub_cons rfl (sub_cons rfl sub_nil)))))))) rfl hL | exact lk_fin (F := [_, _, _, _, _, _, _, _, _, _]) (sub_cons rfl (sub_cons rfl (sub_cons rfl (sub_cons rfl (sub_cons rfl (sub_cons rfl (sub_cons rfl (sub_cons rfl sub_nil)))))))) rfl hL | exact lk_fin (F := [_, _, _, _, _, _, _, _, _, _, _]) (sub_cons rfl (sub_cons rfl (sub_cons rfl (sub_cons rfl (sub_cons rfl (sub_cons rfl (sub_cons rfl (sub_cons rfl sub_nil)))))))) rfl hL | exact lk_fin (F := [_, _, _, _, _, _, _, _, _, _, _, _]) (sub_cons rfl (sub_cons rfl (sub_cons rfl (sub_cons rfl (sub_cons rfl (sub_cons rfl (sub_cons rfl (sub_cons rfl sub_nil)))))))) rfl hL | exact lk_fin (F := [_, _, _, _, _, _, _, _, _, _, _, _, _]) (sub_cons rfl (sub_cons rfl (sub_cons rfl (sub_cons rfl (sub_cons rfl (sub_cons rfl (sub_cons rfl (sub_cons rfl sub_nil)))))))) rfl hL | exact lk_fin (F := [_, _, _, _, _, _, _, _, _, _, _, _, _, _]) (sub_cons rfl (sub_cons rfl (sub_cons rfl (sub_cons rfl (sub_cons rfl (sub_cons rfl (sub_cons rfl (sub_cons rfl sub_nil)))))))) rfl hL | exact lk_fin (F := [_, _, _, _, _, _, _, _, _, _, _, _, _, _, _]) (sub_cons rfl (sub_cons rfl (sub_cons rfl (sub_cons rfl (sub_cons rfl (sub_cons rfl (sub_cons rfl (sub_cons rfl sub_nil)))))))) rfl hL | exact lk_fin (F := [_, _, _, _, _, _, _, _, _, _, _, _, _, _, _, _]) (sub_cons rfl (sub_cons rfl (sub_cons rfl (sub_cons rfl (sub_cons rfl (sub_cons rfl (sub_cons rfl (sub_cons rfl sub_nil)))))))) rfl hL | exact lk_fin (F := [_, _, _, _, _, _, _, _, _, _, _, _, _, _, _, _, _]) (sub_cons rfl (sub_cons rfl (sub_cons rfl (sub_cons rfl (sub_cons rfl (sub_cons rfl (sub_cons rfl (sub_cons rfl sub_nil)))))))) rfl hL | exact lk_fin (F := [_, _, _, _, _, _, _, _, _, _, _, _, _, _, _, _, _, _]) (sub_cons rfl (sub_cons rfl (sub_cons rfl (sub_cons rfl (sub_cons rfl (sub_cons rfl (sub_cons rfl (sub_cons rfl sub_nil)))))))) rfl hL | exact lk_fin (F := [_, _, _, _, _, _, _, _, _, _, _, _, _, _, _, _, _, _, _]) (sub_cons rfl (sub_cons rfl (sub_cons rfl (sub_cons rfl (sub_cons rfl (sub_cons rfl (sub_cons rfl (sub_cons rfl sub_nil)))))))) rfl hL) ?_
  rintro ⟨k, q⟩ hp
  obtain ⟨hk, hq⟩ := hp
  show T _ _ _ [(3, .pointer (some ⟨T3, 0, none⟩)), (24, .slice ta2 tl2.length tc2), (25, .int .i64 ((tl2.length : Nat) : Int)), (26, .int .i64 ((k : Nat) : Int))] ((900, .blk H1 (.cells #[.slice na2 nl2.length nc2, .int .u64 lo2, .slice ta2 tl2.length tc2] 104)) :: (901, .row (.slice na2 nl2.length nc2) 36 3 nl2.length (nl2.flatMap Pcl.cells)) :: (902, .row (.slice ta2 tl2.length tc2) 36 3 tl2.length (tl2.flatMap Pcl.cells)) :: (903, .pool 5 1 byc bs2) :: (904, .blk T0 (.cells #[.slice a ps.length cap, .int .u64 lost] 27)) :: (905, .blk T1 (.cells #[.int .i64 tk, .int .i64 i, .int .i64 tb, .int .u32 ((tm).toNat : Int)] 48)) :: (906, .blk T2 (.cells #[.slice na2 nl2.length nc2, .int .u64 lo2] 27)) :: (907, .blk T3 (.cells #[.int .i64 q.to, .slice q.r.a q.r.l.length q.r.cap, .bool q.sp] 36)) :: L)
  refine T_seq (T_region ?_)
  refine TL_q (.bool (decide (((k : Nat) : Int) < ((tl2.length : Nat) : Int)))) (fun _ _ hρ _ => r_lss (hρ _ _ rfl) (hρ _ _ rfl)) rfl rfl rfl (w_n rfl) ?_
  refine TL_seq ?_
  refine T_seq ?_
  refine T_cond rfl (fun h1 => ?_) (fun h1 => ?_)
  · replace h1 := of_decide_eq_true h1
    refine T_skip' ?_
    refine p_seq ?_
    refine T_seq ?_
    refine T_block ?_
    obtain ⟨p, hp⟩ : ∃ x, tl2[k]? = some x := ⟨_, List.getElem?_eq_getElem (by omega)⟩
    refine T_row 902 rfl (by omega) (fun g3 ha3 => ?_)
    subst ha3
    refine T_rowcap 902 rfl (fun hrc3 => ?_)
    refine T_seq (T_region ?_)
    refine TL_q (.pointer (some ⟨g3, 0 + k * 3, none⟩)) (fun _ _ hρ _ => r_indexAddrS (i := k) sl22 sz36 (hρ _ _ rfl) (hρ _ _ rfl) (by omega)) rfl rfl rfl (w_n rfl) ?_
    refine TL_q (.agg #[.int .i64 p.to, .slice p.r.a p.r.l.length p.r.cap, .bool p.sp]) (fun _ _ hρ hm => r_loadOwn (f := Pcl.cells) (u := p) (l := tl2) ag36 sz36 (hρ _ _ rfl) (hm.row 902 rfl) rfl rfl Pcl.cells_len hp) rfl rfl rfl (w_n rfl) ?_
    refine TL_new 1301 (.cells #[.int .i64 0, .slice none 0 0, .bool false] 36) (fun B => .pointer (some ⟨B, 0, none⟩)) (fun _ _ _ _ => r_alloc (v := .agg #[.int .i64 0, .slice none 0 0, .bool false]) (by kernel_rfl) rfl) rfl rfl rfl (w_n rfl) ?_
    intro B4
    refine TL_store 1301 (.cells #[.int .i64 p.to, .slice p.r.a p.r.l.length p.r.cap, .bool p.sp] 36) rfl (fun _ _ hρ hm => r_store sz36 (hρ _ _ rfl) (hρ _ _ rfl) (hm.at 1301 rfl) rfl rfl rfl rfl) rfl rfl (w_n rfl) ?_
    refine TL_seq ?_
    refine T_region ?_
    refine TL_q (.agg #[.int .i64 p.to, .slice p.r.a p.r.l.length p.r.cap, .bool p.sp]) (fun _ _ hρ hm => r_loadA ag36 sz36 (hρ _ _ rfl) (hm.at 1301 rfl) rfl rfl) rfl rfl rfl (w_n rfl) ?_
    refine TL_store 907 (.cells #[.int .i64 p.to, .slice p.r.a p.r.l.length p.r.cap, .bool p.sp] 36) rfl (fun _ _ hρ hm => r_store sz36 (hρ _ _ rfl) (hρ _ _ rfl) (hm.at 907 rfl) rfl rfl rfl rfl) rfl rfl (w_n rfl) ?_
    refine TL_nil ?_
    refine p_blk_n ?_
    refine p_seq ?_
    refine T_region ?_
    refine TL_q (.int .i64 ((k + 1 : Nat) : Int)) (fun _ _ hρ _ => r_as (r_add (hρ _ _ rfl) (hρ _ _ rfl)) (int_as ((wrap64 (by omega) (by omega)).trans (by omega)))) rfl rfl rfl (w_n rfl) ?_
    refine TL_q (.int .i64 ((k + 1 : Nat) : Int)) (fun _ _ hρ _ => r_move (hρ _ _ rfl)) rfl rfl rfl (w_n rfl) ?_
    refine TL_nil ?_
    exact p_atT (k + 1, p) ⟨⟨by omega, (lastP_step hp).symm⟩, by dsimp only; omega⟩ (sub_cons rfl (sub_cons rfl (sub_cons rfl (sub_cons rfl sub_nil)))) (by first | exact lk_fin (F := [_, _, _, _, _, _, _, _, _]) (sub_cons rfl (sub_cons rfl (sub_cons rfl (sub_cons rfl (sub_cons rfl (sub_cons rfl (sub_cons rfl (sub_cons rfl sub_nil)))))))) rfl hL | exact lk_fin (F := [_, _, _, _, _, _, _, _, _, _]) (sub_cons rfl (sub_cons rfl (sub_cons rfl (sub_cons rfl (sub_cons rfl (sub_cons rfl (sub_cons rfl (sub_cons rfl sub_nil)))))))) rfl hL | exact lk_fin (F := [_, _, _, _, _, _, _, _, _, _, _]) (sub_cons rfl (sub_cons rfl (sub_cons rfl (sub_cons rfl (sub_cons rfl (sub_cons rfl (sub_cons rfl (sub_cons rfl sub_nil)))))))) rfl hL | exact lk_fin (F := [_, _, _, _, _, _, _, _, _, _, _, _]) (sub_cons rfl (sub_cons rfl (sub_cons rfl (sub_cons rfl (sub_cons rfl (sub_cons rfl (sub_cons rfl (sub_cons rfl sub_nil)))))))) rfl hL | exact lk_fin (F := [_, _, _, _, _, _, _, _, _, _, _, _, _]) (sub_cons rfl (sub_cons rfl (sub_cons rfl (sub_cons rfl (sub_cons rfl (sub_cons rfl (sub_cons rfl (sub_cons rfl sub_nil)))))))) rfl hL | exact lk_fin (F := [_, _, _, _, _, _, _, _, _, _, _, _, _, _]) (sub_cons rfl (sub_cons rfl (sub_cons rfl (sub_cons rfl (sub_cons rfl (sub_cons rfl (sub_cons rfl (sub_cons rfl sub_nil)))))))) rfl hL | exact lk_fin (F := [_, _, _, _, _, _, _, _, _, _, _, _, _, _, _]) (sub_cons rfl (sub_cons rfl (sub_cons rfl (sub_cons rfl (sub_cons rfl (sub_cons rfl (sub_cons rfl (sub_cons rfl sub_nil)))))))) rfl hL | exact lk_fin (F := [_, _, _, _, _, _, _, _, _, _, _, _, _, _, _, _]) (sub_cons rfl (sub_cons rfl (sub_cons rfl (sub_cons rfl (sub_cons rfl (sub_cons rfl (sub_cons rfl (sub_cons rfl sub_nil)))))))) rfl hL | exact lk_fin (F := [_, _, _, _, _, _, _, _, _, _, _, _, _, _, _, _, _]) (sub_cons rfl (sub_cons rfl (sub_cons rfl (sub_cons rfl (sub_cons rfl (sub_cons rfl (sub_cons rfl (sub_cons rfl sub_nil)))))))) rfl hL | exact lk_fin (F := [_, _, _, _, _, _, _, _, _, _, _, _, _, _, _, _, _, _]) (sub_cons rfl (sub_cons rfl (sub_cons rfl (sub_cons rfl (sub_cons rfl (sub_cons rfl (sub_cons rfl (sub_cons rfl sub_nil)))))))) rfl hL | exact lk_fin (F := [_, _, _, _, _, _, _, _, _, _, _, _, _, _, _, _, _, _, _]) (sub_cons rfl (sub_cons rfl (sub_cons rfl (sub_cons rfl (sub_cons rfl (sub_cons rfl (sub_cons rfl (sub_cons rfl sub_nil)))))))) rfl hL | exact lk_fin (F := [_, _, _, _, _, _, _, _, _, _, _, _, _, _, _, _, _, _, _, _]) (sub_cons rfl (sub_cons rfl (sub_cons rfl (sub_cons rfl (sub_cons rfl (sub_cons rfl (sub_cons rfl (sub_cons rfl sub_nil)))))))) rfl hL)
  · replace h1 := of_decide_eq_false h1
    refine T_exit' ?_
    refine p_then_x ?_
    refine p_then_x ?_
    refine p_blk_x ?_
    refine p_end ?_
    refine ret_of rfl (.tuple #[]) (fun tmps w hk hm => results_none rfl _ _ _) (fun w hm => ?_)
    have hke : k = tl2.length := by omega
    subst hke
    rw [List.take_length] at hq
    subst hq
    refine ⟨(H1, (⟨⟨na2, nc2, nl2⟩, lo2, ⟨ta2, tc2, tl2⟩⟩ : Hd), bs2), did_of hv1 ht1 hd2, rfl, ?_⟩
    first | exact hm.of (lk_fin (F := [_, _, _, _, _, _, _, _]) (T := hdL H1 (⟨⟨na2, nc2, nl2⟩, lo2, ⟨ta2, tc2, tl2⟩⟩ : Hd) bs2 ++ [(904, .blk T0 (.cells #[.slice a ps.length cap, .int .u64 lost] 27)), (905, .blk T1 (.cells #[.int .i64 tk, .int .i64 i, .int .i64 tb, .int .u32 (tm.toNat : Int)] 48)), (906, .blk T2 (.cells #[.slice (⟨⟨na2, nc2, nl2⟩, lo2, ⟨ta2, tc2, tl2⟩⟩ : Hd).n.a (⟨⟨na2, nc2, nl2⟩, lo2, ⟨ta2, tc2, tl2⟩⟩ : Hd).n.l.length (⟨⟨na2, nc2, nl2⟩, lo2, ⟨ta2, tc2, tl2⟩⟩ : Hd).n.cap, .int .u64 (⟨⟨na2, nc2, nl2⟩, lo2, ⟨ta2, tc2, tl2⟩⟩ : Hd).lost] 27)), (907, .blk T3 (.cells #[.int .i64 (lastP tl2).to, .slice (lastP tl2).r.a (lastP tl2).r.l.length (lastP tl2).r.cap, .bool (lastP tl2).sp] 36))]) (sub_cons rfl (sub_cons rfl (sub_cons rfl (sub_cons rfl (sub_cons rfl (sub_cons rfl (sub_cons rfl (sub_cons rfl sub_nil)))))))) rfl hL) | exact hm.of (lk_fin (F := [_, _, _, _, _, _, _, _, _]) (T := hdL H1 (⟨⟨na2, nc2, nl2⟩, lo2, ⟨ta2, tc2, tl2⟩⟩ : Hd) bs2 ++ [(904, .blk T0 (.cells #[.slice a ps.length cap, .int .u64 lost] 27)), (905, .blk T1 (.cells #[.int .i64 tk, .int .i64 i, .int .i64 tb, .int .u32 (tm.toNat : Int)] 48)), (906, .blk T2 (.cells #[.slice (⟨⟨na2, nc2, nl2⟩, lo2, ⟨ta2, tc2, tl2⟩⟩ : Hd).n.a (⟨⟨na2, nc2, nl2⟩, lo2, ⟨ta2, tc2, tl2⟩⟩ : Hd).n.l.length (⟨⟨na2, nc2, nl2⟩, lo2, ⟨ta2, tc2, tl2⟩⟩ : Hd).n.cap, .int .u64 (⟨⟨na2, nc2, nl2⟩, lo2, ⟨ta2, tc2, tl2⟩⟩ : Hd).lost] 27)), (907, .blk T3 (.cells #[.int .i64 (lastP tl2).to, .slice (lastP tl2).r.a (lastP tl2).r.l.length (lastP tl2).r.cap, .bool (lastP tl2).sp] 36))]) (sub_cons rfl (sub_cons rfl (sub_cons rfl (sub_cons rfl (sub_cons rfl (sub_cons rfl (sub_cons rfl (sub_cons rfl sub_nil)))))))) rfl hL) | exact hm.of (lk_fin (F := [_, _, _, _, _, _, _, _, _, _]) (T := hdL H1 (⟨⟨na2, nc2, nl2⟩, lo2, ⟨ta2, tc2, tl2⟩⟩ : Hd) bs2 ++ [(904, .blk T0 (.cells #[.slice a ps.length cap, .int .u64 lost] 27)), (905, .blk T1 (.cells #[.int .i64 tk, .int .i64 i, .int .i64 tb, .int .u32 (tm.toNat : Int)] 48)), (906, .blk T2 (.cells #[.slice (⟨⟨na2, nc2, nl2⟩, lo2, ⟨ta2, tc2, tl2⟩⟩ : Hd).n.a (⟨⟨na2, nc2, nl2⟩, lo2, ⟨ta2, tc2, tl2⟩⟩ : Hd).n.l.length (⟨⟨na2, nc2, nl2⟩, lo2, ⟨ta2, tc2, tl2⟩⟩ : Hd).n.cap, .int .u64 (⟨⟨na2, nc2, nl2⟩, lo2, ⟨ta2, tc2, tl2⟩⟩ : Hd).lost] 27)), (907, .blk T3 (.cells #[.int .i64 (lastP tl2).to, .slice (lastP tl2).r.a (lastP tl2).r.l.length (lastP tl2).r.cap, .bool (lastP tl2).sp] 36))]) (sub_cons rfl (sub_cons rfl (sub_cons rfl (sub_cons rfl (sub_cons rfl (sub_cons rfl (sub_cons rfl (sub_cons rfl sub_nil)))))))) rfl hL) | exact hm.of (lk_fin (F := [_, _, _, _, _, _, _, _, _, _, _]) (T := hdL H1 (⟨⟨na2, nc2, nl2⟩, lo2, ⟨ta2, tc2, tl2⟩⟩ : Hd) bs2 ++ [(904, .blk T0 (.cells #[.slice a ps.length cap, .int .u64 lost] 27)), (905, .blk T1 (.cells #[.int .i64 tk, .int .i64 i, .int .i64 tb, .int .u32 (tm.toNat : Int)] 48)), (906, .blk T2 (.cells #[.slice (⟨⟨na2, nc2, nl2⟩, lo2, ⟨ta2, tc2, tl2⟩⟩ : Hd).n.a (⟨⟨na2, nc2, nl2⟩, lo2, ⟨ta2, tc2, tl2⟩⟩ : Hd).n.l.length (⟨⟨na2, nc2, nl2⟩, lo2, ⟨ta2, tc2, tl2⟩⟩ : Hd).n.cap, .int .u64 (⟨⟨na2, nc2, nl2⟩, lo2, ⟨ta2, tc2, tl2⟩⟩ : Hd).lost] 27)), (907, .blk T3 (.cells #[.int .i64 (lastP tl2).to, .slice (lastP tl2).r.a (lastP tl2).r.l.length (lastP tl2).r.cap, .bool (lastP tl2).sp] 36))]) (sub_cons rfl (sub_cons rfl (sub_cons rfl (sub_cons rfl (sub_cons rfl (sub_cons rfl (sub_cons rfl (sub_cons rfl sub_nil)))))))) rfl hL) | exact hm.of (lk_fin (F := [_, _, _, _, _, _, _, _, _, _, _, _]) (T := hdL H1 (⟨⟨na2, nc2, nl2⟩, lo2, ⟨ta2, tc2, tl2⟩⟩ : Hd) bs2 ++ [(904, .blk T0 (.cells #[.slice a ps.length cap, .int .u64 lost] 27)), (905, .blk T1 (.cells #[.int .i64 tk, .int .i64 i, .int .i64 tb, .int .u32 (tm.toNat : Int)] 48)), (906, .blk T2 (.cells #[.slice (⟨⟨na2, nc2, nl2⟩, lo2, ⟨ta2, tc2, tl2⟩⟩ : Hd).n.a (⟨⟨na2, nc2, nl2⟩, lo2, ⟨ta2, tc2, tl2⟩⟩ : Hd).n.l.length (⟨⟨na2, nc2, nl2⟩, lo2, ⟨ta2, tc2, tl2⟩⟩ : Hd).n.cap, .int .u64 (⟨⟨na2, nc2, nl2⟩, lo2, ⟨ta2, tc2, tl2⟩⟩ : Hd).lost] 27)), (907, .blk T3 (.cells #[.int .i64 (lastP tl2).to, .slice (lastP tl2).r.a (lastP tl2).r.l.length (lastP tl2).r.cap, .bool (lastP tl2).sp] 36))]) (sub_cons rfl (sub_cons rfl (sub_cons rfl (sub_cons rfl (sub_cons rfl (sub_cons rfl (sub_cons rfl (sub_cons rfl sub_nil)))))))) rfl hL) | exact hm.of (lk_fin (F := [_, _, _, _, _, _, _, _, _, _, _, _, _]) (T := hdL H1 (⟨⟨na2, nc2, nl2⟩, lo2, ⟨ta2, tc2, tl2⟩⟩ : Hd) bs2 ++ [(904, .blk T0 (.cells #[.slice a ps.length cap, .int .u64 lost] 27)), (905, .blk T1 (.cells #[.int .i64 tk, .int .i64 i, .int .i64 tb, .int .u32 (tm.toNat : Int)] 48)), (906, .blk T2 (.cells #[.slice (⟨⟨na2, nc2, nl2⟩, lo2, ⟨ta2, tc2, tl2⟩⟩ : Hd).n.a (⟨⟨na2, nc2, nl2⟩, lo2, ⟨ta2, tc2, tl2⟩⟩ : Hd).n.l.length (⟨⟨na2, nc2, nl2⟩, lo2, ⟨ta2, tc2, tl2⟩⟩ : Hd).n.cap, .int .u64 (⟨⟨na2, nc2, nl2⟩, lo2, ⟨ta2, tc2, tl2⟩⟩ : Hd).lost] 27)), (907, .blk T3 (.cells #[.int .i64 (lastP tl2).to, .slice (lastP tl2).r.a (lastP tl2).r.l.length (lastP tl2).r.cap, .bool (lastP tl2).sp] 36))]) (sub_cons rfl (sub_cons rfl (sub_cons rfl (sub_cons rfl (sub_cons rfl (sub_cons rfl (sub_cons rfl (sub_cons rfl sub_nil)))))))) rfl hL) | exact hm.of (lk_fin (F := [_, _, _, _, _, _, _, _, _, _, _, _, _, _]) (T := hdL H1 (⟨⟨na2, nc2, nl2⟩, lo2, ⟨ta2, tc2, tl2⟩⟩ : Hd) bs2 ++ [(904, .blk T0 (.cells #[.slice a ps.length cap, .int .u64 lost] 27)), (905, .blk T1 (.cells #[.int .i64 tk, .int .i64 i, .int .i64 tb, .int .u32 (tm.toNat : Int)] 48)), (906, .blk T2 (.cells #[.slice (⟨⟨na2, nc2, nl2⟩, lo2, ⟨ta2, tc2, tl2⟩⟩ : Hd).n.a (⟨⟨na2, nc2, nl2⟩, lo2, ⟨ta2, tc2, tl2⟩⟩ : Hd).n.l.length (⟨⟨na2, nc2, nl2⟩, lo2, ⟨ta2, tc2, tl2⟩⟩ : Hd).n.cap, .int .u64 (⟨⟨na2, nc2, nl2⟩, lo2, ⟨ta2, tc2, tl2⟩⟩ : Hd).lost] 27)), (907, .blk T3 (.cells #[.int .i64 (lastP tl2).to, .slice (lastP tl2).r.a (lastP tl2).r.l.length (lastP tl2).r.cap, .bool (lastP tl2).sp] 36))]) (sub_cons rfl (sub_cons rfl (sub_cons rfl (sub_cons rfl (sub_cons rfl (sub_cons rfl (sub_cons rfl (sub_cons rfl sub_nil)))))))) rfl hL) | exact hm.of (lk_fin (F := [_, _, _, _, _, _, _, _, _, _, _, _, _, _, _]) (T := hdL H1 (⟨⟨na2, nc2, nl2⟩, lo2, ⟨ta2, tc2, tl2⟩⟩ : Hd) bs2 ++ [(904, .blk T0 (.cells #[.slice a ps.length cap, .int .u64 lost] 27)), (905, .blk T1 (.cells #[.int .i64 tk, .int .i64 i, .int .i64 tb, .int .u32 (tm.toNat : Int)] 48)), (906, .blk T2 (.cells #[.slice (⟨⟨na2, nc2, nl2⟩, lo2, ⟨ta2, tc2, tl2⟩⟩ : Hd).n.a (⟨⟨na2, nc2, nl2⟩, lo2, ⟨ta2, tc2, tl2⟩⟩ : Hd).n.l.length (⟨⟨na2, nc2, nl2⟩, lo2, ⟨ta2, tc2, tl2⟩⟩ : Hd).n.cap, .int .u64 (⟨⟨na2, nc2, nl2⟩, lo2, ⟨ta2, tc2, tl2⟩⟩ : Hd).lost] 27)), (907, .blk T3 (.cells #[.int .i64 (lastP tl2).to, .slice (lastP tl2).r.a (lastP tl2).r.l.length (lastP tl2).r.cap, .bool (lastP tl2).sp] 36))]) (sub_cons rfl (sub_cons rfl (sub_cons rfl (sub_cons rfl (sub_cons rfl (sub_cons rfl (sub_cons rfl (sub_cons rfl sub_nil)))))))) rfl hL) | exact hm.of (lk_fin (F := [_, _, _, _, _, _, _, _, _, _, _, _, _, _, _, _]) (T := hdL H1 (⟨⟨na2, nc2, nl2⟩, lo2, ⟨ta2, tc2, tl2⟩⟩ : Hd) bs2 ++ [(904, .blk T0 (.cells #[.slice a ps.length cap, .int .u64 lost] 27)), (905, .blk T1 (.cells #[.int .i64 tk, .int .i64 i, .int .i64 tb, .int .u32 (tm.toNat : Int)] 48)), (906, .blk T2 (.cells #[.slice (⟨⟨na2, nc2, nl2⟩, lo2, ⟨ta2, tc2, tl2⟩⟩ : Hd).n.a (⟨⟨na2, nc2, nl2⟩, lo2, ⟨ta2, tc2, tl2⟩⟩ : Hd).n.l.length (⟨⟨na2, nc2, nl2⟩, lo2, ⟨ta2, tc2, tl2⟩⟩ : Hd).n.cap, .int .u64 (⟨⟨na2, nc2, nl2⟩, lo2, ⟨ta2, tc2, tl2⟩⟩ : Hd).lost] 27)), (907, .blk T3 (.cells #[.int .i64 (lastP tl2).to, .slice (lastP tl2).r.a (lastP tl2).r.l.length (lastP tl2).r.cap, .bool (lastP tl2).sp] 36))]) (sub_cons rfl (sub_cons rfl (sub_cons rfl (sub_cons rfl (sub_cons rfl (sub_cons rfl (sub_cons rfl (sub_cons rfl sub_nil)))))))) rfl hL) | exact hm.of (lk_fin (F := [_, _, _, _, _, _, _, _, _, _, _, _, _, _, _, _, _]) (T := hdL H1 (⟨⟨na2, nc2, nl2⟩, lo2, ⟨ta2, tc2, tl2⟩⟩ : Hd) bs2 ++ [(904, .blk T0 (.cells #[.slice a ps.length cap, .int .u64 lost] 27)), (905, .blk T1 (.cells #[.int .i64 tk, .int .i64 i, .int .i64 tb, .int .u32 (tm.toNat : Int)] 48)), (906, .blk T2 (.cells #[.slice (⟨⟨na2, nc2, nl2⟩, lo2, ⟨ta2, tc2, tl2⟩⟩ : Hd).n.a (⟨⟨na2, nc2, nl2⟩, lo2, ⟨ta2, tc2, tl2⟩⟩ : Hd).n.l.length (⟨⟨na2, nc2, nl2⟩, lo2, ⟨ta2, tc2, tl2⟩⟩ : Hd).n.cap, .int .u64 (⟨⟨na2, nc2, nl2⟩, lo2, ⟨ta2, tc2, tl2⟩⟩ : Hd).lost] 27)), (907, .blk T3 (.cells #[.int .i64 (lastP tl2).to, .slice (lastP tl2).r.a (lastP tl2).r.l.length (lastP tl2).r.cap, .bool (lastP tl2).sp] 36))]) (sub_cons rfl (sub_cons rfl (sub_cons rfl (sub_cons rfl (sub_cons rfl (sub_cons rfl (sub_cons rfl (sub_cons rfl sub_nil)))))))) rfl hL)

theorem do1_err {w₀ : World} {L : Heap} (T0 T1 T2 T3 : Nat) (ps : List Pcl) (a : Option Addr) (cap : Nat) (lost tk i tb : Int) (tm : Wd) (hL : NoIds L 910 1950) (hv : SliceAt w₀ a cap 3 Pcl.cells ps) (hcap : cap ≤ Go.maxLen) (hb : PcsAt w₀ ps) (er : Int) (h0 : 0 ≤ lost) (hck : checkV (pvs ps) lost = true) (hdo : (doV (pvs ps, lost) ⟨tk, i, tb, tm⟩).1 = er) (her : ¬ er = 0) : ∀ w, MemOk w₀ ([(904, .blk T0 (.cells #[.slice a ps.length cap, .int .u64 lost] 27)), (905, .blk T1 (.cells #[.int .i64 tk, .int .i64 i, .int .i64 tb, .int .u32 (tm.toNat : Int)] 48)), (906, .blk T2 (.cells #[.slice none 0 0, .int .u64 0] 27)), (907, .blk T3 (.cells #[.int .i64 0, .slice none 0 0, .bool false] 36))] ++ L) w → Calls Try.prog 69 #[.pointer (some ⟨T0, 0, none⟩), .pointer (some ⟨T1, 0, none⟩), .pointer (some ⟨T2, 0, none⟩), .pointer (some ⟨T3, 0, none⟩)] w (PAns w₀ (fun _ : Nat × Hd × List (RowG By) => True) (fun _ => .iface 28 (.int .i64 er)) (fun x => hdL x.1 x.2.1 x.2.2 ++ [(904, .blk T0 (.cells #[.slice a ps.length cap, .int .u64 lost] 27)), (905, .blk T1 (.cells #[.int .i64 tk, .int .i64 i, .int .i64 tb, .int .u32 (tm.toNat : Int)] 48)), (906, .blk T2 (.cells #[.slice none 0 0, .int .u64 0] 27)), (907, .blk T3 (.cells #[.int .i64 0, .slice none 0 0, .bool false] 36))] ++ L)) := by
  have hvl := hv.1
  unfold Go.maxLen at hcap
  refine ht_of_T (l := [.pointer (some ⟨T0, 0, none⟩), .pointer (some ⟨T1, 0, none⟩), .pointer (some ⟨T2, 0, none⟩), .pointer (some ⟨T3, 0, none⟩)]) (L := ((904, .blk T0 (.cells #[.slice a ps.length cap, .int .u64 lost] 27)) :: (905, .blk T1 (.cells #[.int .i64 tk, .int .i64 i, .int .i64 tb, .int .u32 ((tm).toNat : Int)] 48)) :: (906, .blk T2 (.cells #[.slice none 0 0, .int .u64 0] 27)) :: (907, .blk T3 (.cells #[.int .i64 0, .slice none 0 0, .bool false] 36)) :: L)) 32 Try.func69 rfl rfl rfl ?_
  show T _ _ _ [(0, .pointer (some ⟨T0, 0, none⟩)), (1, .pointer (some ⟨T1, 0, none⟩)), (2, .pointer (some ⟨T2, 0, none⟩)), (3, .pointer (some ⟨T3, 0, none⟩))] ((904, .blk T0 (.cells #[.slice a ps.length cap, .int .u64 lost] 27)) :: (905, .blk T1 (.cells #[.int .i64 tk, .int .i64 i, .int .i64 tb, .int .u32 ((tm).toNat : Int)] 48)) :: (906, .blk T2 (.cells #[.slice none 0 0, .int .u64 0] 27)) :: (907, .blk T3 (.cells #[.int .i64 0, .slice none 0 0, .bool false] 36)) :: L)
  refine T_seq (T_region ?_)
  refine TL_q (.agg #[.slice a ps.length cap, .int .u64 lost]) (fun _ _ hρ hm => r_loadA ag27 sz27 (hρ _ _ rfl) (hm.at 904 rfl) rfl rfl) rfl rfl rfl (w_n rfl) ?_
  refine TL_callN (fun x : Nat × Hd × List (RowG By) => OfOk ps lost x) (fun (H1, h1, bs1) => .pointer (some ⟨H1, 0, none⟩)) (fun (H1, h1, bs1) => [(900, .blk H1 (.cells #[.slice h1.n.a h1.n.l.length h1.n.cap, .int .u64 h1.lost, .slice h1.t.a h1.t.l.length h1.t.cap] 104)), (901, .row (.slice h1.n.a h1.n.l.length h1.n.cap) 36 3 h1.n.l.length (h1.n.l.flatMap Pcl.cells)), (902, .row (.slice h1.t.a h1.t.l.length h1.t.cap) 36 3 h1.t.l.length (h1.t.l.flatMap Pcl.cells)), (903, .pool 5 1 byc bs1)]) (fun _ _ hρ _ => r_call (args := [.agg #[.slice a ps.length cap, .int .u64 lost]]) (enters_of Try.func61 (by kernel_rfl) rfl) (hρ _ _ rfl) ((cons2 (hρ _ _ rfl) rfl)) rfl) (fun w hm => (of_ok ps a cap lost w (hv.keep hm.ext) hcap (hb.keep hm.ext) h0 hck).mono fun e w' ⟨⟨H, h, bs⟩, hx, he, hb, hn⟩ => ⟨(H, h, bs), hx, he, hb, hn⟩) rfl rfl rfl (w_n rfl) ?_
  rintro ⟨H1, h1, bs1⟩ ⟨hv1, hk1, ht1⟩
  refine TL_q (.pointer (some ⟨H1, 0, none⟩)) (fun _ _ hρ _ => r_assign (hρ _ _ rfl)) rfl rfl rfl (w_n rfl) ?_
  refine TL_seq ?_
  refine T_seq (T_region ?_)
  refine TL_q (.pointer (some ⟨H1, 0, none⟩)) (fun _ _ hρ _ => r_move (hρ _ _ rfl)) rfl rfl rfl (w_n rfl) ?_
  refine TL_q (.agg #[.int .i64 tk, .int .i64 i, .int .i64 tb, .int .u32 ((tm).toNat : Int)]) (fun _ _ hρ hm => r_loadA ag48 sz48 (hρ _ _ rfl) (hm.at 905 rfl) rfl rfl) rfl rfl rfl (w_n rfl) ?_
  refine TL_callH _ _ _ (fun _ _ hρ _ => r_call (args := [.pointer (some ⟨H1, 0, none⟩), .agg #[.int .i64 tk, .int .i64 i, .int .i64 tb, .int .u32 ((tm).toNat : Int)]]) (enters_of Try.func70 (by kernel_rfl) rfl) (hρ _ _ rfl) ((cons2 (hρ _ _ rfl) (cons2 (hρ _ _ rfl) rfl))) rfl) (fun w hm => (does_any H1 (⟨⟨h1.n.a, h1.n.cap, h1.n.l⟩, h1.lost, ⟨h1.t.a, h1.t.cap, h1.t.l⟩⟩ : Hd) bs1 ⟨tk, i, tb, tm⟩ (by repeat (first | exact hL.sub rfl rfl | refine noIds_cons rfl ?_)) hk1 (by rw [show (_ : NetR) = _ from ht1]; exact Nat.zero_le _) w (hm.of (lk_dups (A := hdL H1 (⟨⟨h1.n.a, h1.n.cap, h1.n.l⟩, h1.lost, ⟨h1.t.a, h1.t.cap, h1.t.l⟩⟩ : Hd) bs1) (sub_cons rfl (sub_cons rfl (sub_cons rfl (sub_cons rfl sub_nil))))))).mono fun e w' ⟨x, hx, he, hm⟩ => ⟨x, hx, he.trans (congrArg Ending.returned (int_as ((congrArg (fun n => (doV n _).1) hv1).trans hdo))), hm⟩) rfl rfl rfl (w_n rfl) ?_
  rintro ⟨⟨⟨na2, nc2, nl2⟩, lo2, ⟨ta2, tc2, tl2⟩⟩, bs2⟩ hd2
  refine TL_q (.int .i64 er) (fun _ _ hρ _ => r_assign (hρ _ _ rfl)) rfl rfl rfl (w_n rfl) ?_
  refine TL_seq ?_
  refine T_seq (T_region ?_)
  refine TL_q (.int .i64 er) (fun _ _ hρ _ => r_move (hρ _ _ rfl)) rfl rfl rfl (w_n rfl) ?_
  refine TL_q (.bool false) (fun _ _ hρ _ => r_as (r_eql (hρ _ _ rfl) (hρ _ _ rfl)) (bool_as (decide_eq_false her))) rfl rfl rfl (w_n rfl) ?_
  refine TL_q (.int .i64 er) (fun _ _ hρ _ => r_move (hρ _ _ rfl)) rfl rfl rfl (w_n rfl) ?_
  refine TL_callQ (v := .iface 28 (.int .i64 er)) (fun _ _ hρ _ => r_call (args := [.bool false, .int .i64 er]) (enters_of Try.func62 (by kernel_rfl) rfl) (hρ _ _ rfl) ((cons2 (hρ _ _ rfl) (cons2 (hρ _ _ rfl) rfl))) rfl) (fun w _ => need_no_net er w) rfl (w_n rfl) ?_
  refine p_then_p ?_
  refine p_pan rfl (fun w hm => ?_)
  refine ⟨(H1, ⟨⟨na2, nc2, nl2⟩, lo2, ⟨ta2, tc2, tl2⟩⟩, bs2), trivial, rfl, ?_⟩
  first | exact hm.of (lk_fin (F := [_, _, _, _, _, _, _, _]) (T := hdL _ _ _ ++ [(904, .blk T0 (.cells #[.slice a ps.length cap, .int .u64 lost] 27)), (905, .blk T1 (.cells #[.int .i64 tk, .int .i64 i, .int .i64 tb, .int .u32 (tm.toNat : Int)] 48)), (906, .blk T2 (.cells #[.slice none 0 0, .int .u64 0] 27)), (907, .blk T3 (.cells #[.int .i64 0, .slice none 0 0, .bool false] 36))]) (sub_cons rfl (sub_cons rfl (sub_cons rfl (sub_cons rfl (sub_cons rfl (sub_cons rfl (sub_cons rfl (sub_cons rfl sub_nil)))))))) rfl hL) | exact hm.of (lk_fin (F := [_, _, _, _, _, _, _, _, _]) (T := hdL _ _ _ ++ [(904, .blk T0 (.cells #[.slice a ps.length cap, .int .u64 lost] 27)), (905, .blk T1 (.cells #[.int .i64 tk, .int .i64 i, .int .i64 tb, .int .u32 (tm.toNat : Int)] 48)), (906, .blk T2 (.cells #[.slice none 0 0, .int .u64 0] 27)), (907, .blk T3 (.cells #[.int .i64 0, .slice none 0 0, .bool false] 36))]) (sub_cons rfl (sub_cons rfl (sub_cons rfl (sub_cons rfl (sub_cons rfl (sub_cons rfl (sub_cons rfl (sub_cons rfl sub_nil)))))))) rfl hL) | exact hm.of (lk_fin (F := [_, _, _, _, _, _, _, _, _, _]) (T := hdL _ _ _ ++ [(904, .blk T0 (.cells #[.slice a ps.length cap, .int .u64 lost] 27)), (905, .blk T1 (.cells #[.int .i64 tk, .int .i64 i, .int .i64 tb, .int .u32 (tm.toNat : Int)] 48)), (906, .blk T2 (.cells #[.slice none 0 0, .int .u64 0] 27)), (907, .blk T3 (.cells #[.int .i64 0, .slice none 0 0, .bool false] 36))]) (sub_cons rfl (sub_cons rfl (sub_cons rfl (sub_cons rfl (sub_cons rfl (sub_cons rfl (sub_cons rfl (sub_cons rfl sub_nil)))))))) rfl hL) | exact hm.of (lk_fin (F := [_, _, _, _, _, _, _, _, _, _, _]) (T := hdL _ _ _ ++ [(904, .blk T0 (.cells #[.slice a ps.length cap, .int .u64 lost] 27)), (905, .blk T1 (.cells #[.int .i64 tk, .int .i64 i, .int .i64 tb, .int .u32 (tm.toNat : Int)] 48)), (906, .blk T2 (.cells #[.slice none 0 0, .int .u64 0] 27)), (907, .blk T3 (.cells #[.int .i64 0, .slice none 0 0, .bool false] 36))]) (sub_cons rfl (sub_cons rfl (sub_cons rfl (sub_cons rfl (sub_cons rfl (sub_cons rfl (sub_cons rfl (sub_cons rfl sub_nil)))))))) rfl hL) | exact hm.of (lk_fin (F := [_, _, _, _, _, _, _, _, _, _, _, _]) (T := hdL _ _ _ ++ [(904, .blk T0 (.cells #[.slice a ps.length cap, .int .u64 lost] 27)), (905, .blk T1 (.cells #[.int .i64 tk, .int .i64 i, .int .i64 tb, .int .u32 (tm.toNat : Int)] 48)), (906, .blk T2 (.cells #[.slice none 0 0, .int .u64 0] 27)), (907, .blk T3 (.cells #[.int .i64 0, .slice none 0 0, .bool false] 36))]) (sub_cons rfl (sub_cons rfl (sub_cons rfl (sub_cons rfl (sub_cons rfl (sub_cons rfl (sub_cons rfl (sub_cons rfl sub_nil)))))))) rfl hL) | exact hm.of (lk_fin (F := [_, _, _, _, _, _, _, _, _, _, _, _, _]) (T := hdL _ _ _ ++ [(904, .blk T0 (.cells #[.slice a ps.length cap, .int .u64 lost] 27)), (905, .blk T1 (.cells #[.int .i64 tk, .int .i64 i, .int .i64 tb, .int .u32 (tm.toNat : Int)] 48)), (906, .blk T2 (.cells #[.slice none 0 0, .int .u64 0] 27)), (907, .blk T3 (.cells #[.int .i64 0, .slice none 0 0, .bool false] 36))]) (sub_cons rfl (sub_cons rfl (sub_cons rfl (sub_cons rfl (sub_cons rfl (sub_cons rfl (sub_cons rfl (sub_cons rfl sub_nil)))))))) rfl hL) | exact hm.of (lk_fin (F := [_, _, _, _, _, _, _, _, _, _, _, _, _, _]) (T := hdL _ _ _ ++ [(904, .blk T0 (.cells #[.slice a ps.length cap, .int .u64 lost] 27)), (905, .blk T1 (.cells #[.int .i64 tk, .int .i64 i, .int .i64 tb, .int .u32 (tm.toNat : Int)] 48)), (906, .blk T2 (.cells #[.slice none 0 0, .int .u64 0] 27)), (907, .blk T3 (.cells #[.int .i64 0, .slice none 0 0, .bool false] 36))]) (sub_cons rfl (sub_cons rfl (sub_cons rfl (sub_cons rfl (sub_cons rfl (sub_cons rfl (sub_cons rfl (sub_cons rfl sub_nil)))))))) rfl hL) | exact hm.of (lk_fin (F := [_, _, _, _, _, _, _, _, _, _, _, _, _, _, _]) (T := hdL _ _ _ ++ [(904, .blk T0 (.cells #[.slice a ps.length cap, .int .u64 lost] 27)), (905, .blk T1 (.cells #[.int .i64 tk, .int .i64 i, .int .i64 tb, .int .u32 (tm.toNat : Int)] 48)), (906, .blk T2 (.cells #[.slice none 0 0, .int .u64 0] 27)), (907, .blk T3 (.cells #[.int .i64 0, .slice none 0 0, .bool false] 36))]) (sub_cons rfl (sub_cons rfl (sub_cons rfl (sub_cons rfl (sub_cons rfl (sub_cons rfl (sub_cons rfl (sub_cons rfl sub_nil)))))))) rfl hL) | exact hm.of (lk_fin (F := [_, _, _, _, _, _, _, _, _, _, _, _, _, _, _, _]) (T := hdL _ _ _ ++ [(904, .blk T0 (.cells #[.slice a ps.length cap, .int .u64 lost] 27)), (905, .blk T1 (.cells #[.int .i64 tk, .int .i64 i, .int .i64 tb, .int .u32 (tm.toNat : Int)] 48)), (906, .blk T2 (.cells #[.slice none 0 0, .int .u64 0] 27)), (907, .blk T3 (.cells #[.int .i64 0, .slice none 0 0, .bool false] 36))]) (sub_cons rfl (sub_cons rfl (sub_cons rfl (sub_cons rfl (sub_cons rfl (sub_cons rfl (sub_cons rfl (sub_cons rfl sub_nil)))))))) rfl hL) | exact hm.of (lk_fin (F := [_, _, _, _, _, _, _, _, _, _, _, _, _, _, _, _, _]) (T := hdL _ _ _ ++ [(904, .blk T0 (.cells #[.slice a ps.length cap, .int .u64 lost] 27)), (905, .blk T1 (.cells #[.int .i64 tk, .int .i64 i, .int .i64 tb, .int .u32 (tm.toNat : Int)] 48)), (906, .blk T2 (.cells #[.slice none 0 0, .int .u64 0] 27)), (907, .blk T3 (.cells #[.int .i64 0, .slice none 0 0, .bool false] 36))]) (sub_cons rfl (sub_cons rfl (sub_cons rfl (sub_cons rfl (sub_cons rfl (sub_cons rfl (sub_cons rfl (sub_cons rfl sub_nil)))))))) rfl hL)
end Go.Proofs.Ytcidgbjgeegepaa
/- net and journal: Do. Printed by a program of this seat's prover. -/
namespace Go.Proofs.Ytcidgbjgeegepaa
open Go Go.RowKit
set_option maxRecDepth 10000
abbrev dxL (T0 T1 T2 T3 : Nat) (a : Option Addr) (n cap : Nat) (lost tk i tb : Int) (tm : Wd) (c : Option Addr) (k d : Nat) (lo : Int) (q : Pcl) : Heap := [(904, .blk T0 (.cells #[.slice a n cap, .int .u64 lost] 27)), (905, .blk T1 (.cells #[.int .i64 tk, .int .i64 i, .int .i64 tb, .int .u32 (tm.toNat : Int)] 48)), (906, .blk T2 (.cells #[.slice c k d, .int .u64 lo] 27)), (907, .blk T3 (.cells #[.int .i64 q.to, .slice q.r.a q.r.l.length q.r.cap, .bool q.sp] 36))]

theorem lastP_in {bs : List (RowG By)} {l : List Pcl} (h : InB bs l) : (lastP l).r ∈ bs ∧ (lastP l).r.l.length ≤ 10000 ∨ (lastP l).r = ⟨none, 0, []⟩ := by
  unfold lastP
  cases e : l.getLast? with
  | none => exact .inr rfl
  | some p => exact .inl (h p (List.mem_of_getLast? e))

theorem do_ok (ps : List Pcl) (a : Option Addr) (cap : Nat) (lost tk i tb : Int) (tm : Wd) (w : World) (hv : SliceAt w a cap 3 Pcl.cells ps) (hcap : cap ≤ Go.maxLen) (hb : PcsAt w ps) (h0 : 0 ≤ lost) (hck : checkV (pvs ps) lost = true) (hdo : (doV (pvs ps, lost) ⟨tk, i, tb, tm⟩).1 = 0) : Calls Try.prog 23 #[.agg #[.slice a ps.length cap, .int .u64 lost], .agg #[.int .i64 tk, .int .i64 i, .int .i64 tb, .int .u32 (tm.toNat : Int)]] w fun e w' => ∃ (x : Hd × List (RowG By)) (q : Pcl), NetIs (doV (pvs ps, lost) ⟨tk, i, tb, tm⟩).2.1 x ∧ q.pv = toldV (doV (pvs ps, lost) ⟨tk, i, tb, tm⟩).2.2 ∧ (q.r ∈ x.2 ∧ q.r.l.length ≤ 10000 ∨ q.r = ⟨none, 0, []⟩) ∧ e = .returned (.tuple #[.agg #[.slice x.1.n.a x.1.n.l.length x.1.n.cap, .int .u64 x.1.lost], .agg #[.int .i64 q.to, .slice q.r.a q.r.l.length q.r.cap, .bool q.sp], .int .i64 0]) ∧ Below w.heap.size w w' ∧ NetNew w w' x := by
  have hvl := hv.1
  unfold Go.maxLen at hcap
  refine calls_of_T (l := [.agg #[.slice a ps.length cap, .int .u64 lost], .agg #[.int .i64 tk, .int .i64 i, .int .i64 tb, .int .u32 ((tm).toNat : Int)]]) 15 Try.func23 rfl rfl rfl ?_
  show T _ _ _ [(0, .agg #[.slice a ps.length cap, .int .u64 lost]), (1, .agg #[.int .i64 tk, .int .i64 i, .int .i64 tb, .int .u32 ((tm).toNat : Int)])] []
  refine T_seq (T_region ?_)
  refine TL_new 904 (.cells #[.slice a ps.length cap, .int .u64 lost] 27) (fun B => .pointer (some ⟨B, 0, none⟩)) (fun _ _ hρ _ => r_box (hρ _ _ rfl) rfl) rfl rfl rfl (w_n rfl) ?_
  intro B1
  refine TL_new 905 (.cells #[.int .i64 tk, .int .i64 i, .int .i64 tb, .int .u32 ((tm).toNat : Int)] 48) (fun B => .pointer (some ⟨B, 0, none⟩)) (fun _ _ hρ _ => r_box (hρ _ _ rfl) rfl) rfl rfl rfl (w_n rfl) ?_
  intro B2
  refine TL_new 908 (.cells #[.slice none 0 0, .int .u64 0] 27) (fun B => .pointer (some ⟨B, 0, none⟩)) (fun _ _ _ _ => r_alloc (v := .agg #[.slice none 0 0, .int .u64 0]) (by kernel_rfl) rfl) rfl rfl rfl (w_n rfl) ?_
  intro B3
  refine TL_new 909 (.cells #[.int .i64 0, .slice none 0 0, .bool false] 36) (fun B => .pointer (some ⟨B, 0, none⟩)) (fun _ _ _ _ => r_alloc (v := .agg #[.int .i64 0, .slice none 0 0, .bool false]) (by kernel_rfl) rfl) rfl rfl rfl (w_n rfl) ?_
  intro B4
  refine TL_q (.int .i64 0) (fun _ _ hρ _ => r_assign (hρ _ _ rfl)) rfl rfl rfl (w_n rfl) ?_
  refine TL_seq ?_
  refine T_seq (T_region ?_)
  refine TL_new 906 (.cells #[.slice none 0 0, .int .u64 0] 27) (fun B => .pointer (some ⟨B, 0, none⟩)) (fun _ _ _ _ => r_alloc (v := .agg #[.slice none 0 0, .int .u64 0]) (by kernel_rfl) rfl) rfl rfl rfl (w_n rfl) ?_
  intro B5
  refine TL_seq ?_
  refine T_seq (T_region ?_)
  refine TL_new 907 (.cells #[.int .i64 0, .slice none 0 0, .bool false] 36) (fun B => .pointer (some ⟨B, 0, none⟩)) (fun _ _ _ _ => r_alloc (v := .agg #[.int .i64 0, .slice none 0 0, .bool false]) (by kernel_rfl) rfl) rfl rfl rfl (w_n rfl) ?_
  intro B6
  refine TL_seq ?_
  refine T_seq (T_region ?_)
  refine TL_q (.func (.func 69) #[] #[.pointer (some ⟨B1, 0, none⟩), .pointer (some ⟨B2, 0, none⟩), .pointer (some ⟨B5, 0, none⟩), .pointer (some ⟨B6, 0, none⟩)]) (fun _ _ hρ _ => r_makeFunc (by simp) (map_arr (cons2 (hρ _ _ rfl) (cons2 (hρ _ _ rfl) (cons2 (hρ _ _ rfl) (cons2 (hρ _ _ rfl) rfl)))))) rfl rfl rfl (w_n rfl) ?_
  refine TL_callH _ _ _ (fun _ _ hρ _ => r_call (args := [.func (.func 69) #[] #[.pointer (some ⟨B1, 0, none⟩), .pointer (some ⟨B2, 0, none⟩), .pointer (some ⟨B5, 0, none⟩), .pointer (some ⟨B6, 0, none⟩)]]) (enters_of Try.func59 (by kernel_rfl) rfl) (hρ _ _ rfl) ((cons2 (hρ _ _ rfl) rfl)) rfl) (fun w hm => trO_ok 69 #[.pointer (some ⟨B1, 0, none⟩), .pointer (some ⟨B2, 0, none⟩), .pointer (some ⟨B5, 0, none⟩), .pointer (some ⟨B6, 0, none⟩)] (fun x : Nat × Hd × List (RowG By) => Did (pvs ps, lost) ⟨tk, i, tb, tm⟩ x) (fun x => hdL x.1 x.2.1 x.2.2 ++ dxL B1 B2 B5 B6 a ps.length cap lost tk i tb tm x.2.1.n.a x.2.1.n.l.length x.2.1.n.cap x.2.1.lost (lastP x.2.1.t.l)) (enters_of Try.func69 (by kernel_rfl) rfl) (lk_ids (by repeat (first | exact noIds_nil _ _ | refine noIds_cons rfl ?_))) (fun _ => rfl) (fun B w hm => do1_ok B1 B2 B5 B6 ps a cap lost tk i tb tm (by repeat (first | exact noIds_nil _ _ | refine noIds_cons rfl ?_)) hv hcap hb h0 hck hdo w (hm.of (lk_dups (A := dxL B1 B2 B5 B6 a ps.length cap lost tk i tb tm none 0 0 0 ⟨0, ⟨none, 0, []⟩, false⟩) (sub_cons rfl (sub_cons rfl (sub_cons rfl (sub_cons rfl sub_nil))))))) w hm) rfl rfl rfl (w_n rfl) ?_
  rintro ⟨H7, h7, bs7⟩ hd7
  refine TL_q (.int .i64 0) (fun _ _ hρ _ => r_assign (hρ _ _ rfl)) rfl rfl rfl (w_n rfl) ?_
  refine TL_seq ?_
  refine T_seq (T_draw (V := [(0, .agg #[.slice h7.n.a h7.n.l.length h7.n.cap, .int .u64 h7.lost]), (1, .agg #[.int .i64 ((lastP h7.t.l).to), .slice ((lastP h7.t.l).r.a) ((lastP h7.t.l).r.l.length) ((lastP h7.t.l).r.cap), .bool ((lastP h7.t.l).sp)]), (2, .int .i64 0)]) [0, 0, 0, 1, 11, 31] [[(7, none)], [(8, none)], [(9, none)], [(4, none), (12, some 0)], [(5, none), (13, some 1)], [(14, some 2)]] 24 mixed (by kernel_rfl) ?_)
  refine G_step [0, 1, 2] 3 [] (by kernel_rfl) (allM (all_cons (q_run (.agg #[.slice h7.n.a h7.n.l.length h7.n.cap, .int .u64 h7.lost]) rfl rfl (wv_n rfl) rfl (fun _ _ hρ hm => r_loadA ag27 sz27 (hρ _ _ rfl) (hm.at 906 rfl) rfl rfl)) (all_cons (q_run (.agg #[.int .i64 ((lastP h7.t.l).to), .slice ((lastP h7.t.l).r.a) ((lastP h7.t.l).r.l.length) ((lastP h7.t.l).r.cap), .bool ((lastP h7.t.l).sp)]) rfl rfl (wv_n rfl) rfl (fun _ _ hρ hm => r_loadA ag36 sz36 (hρ _ _ rfl) (hm.at 907 rfl) rfl rfl)) (all_cons (q_run (.int .i64 0) rfl rfl (wv_n rfl) rfl (fun _ _ hρ _ => r_move (hρ _ _ rfl))) all_nil)))) (allM (all_cons ?_ all_nil))
  refine LOb_store 908 (.cells #[.slice h7.n.a h7.n.l.length h7.n.cap, .int .u64 h7.lost] 27) [] rfl (wv_n rfl) rfl rfl rfl (fun _ _ hρ hm => r_store sz27 (hρ _ _ rfl) (hρ _ _ rfl) (hm.at 908 rfl) rfl rfl rfl rfl) (by kernel_rfl) ?_
  refine G_step [1, 2] 4 [] (by kernel_rfl) (allM (all_cons (q_run (.agg #[.int .i64 ((lastP h7.t.l).to), .slice ((lastP h7.t.l).r.a) ((lastP h7.t.l).r.l.length) ((lastP h7.t.l).r.cap), .bool ((lastP h7.t.l).sp)]) rfl rfl (wv_n rfl) rfl (fun _ _ hρ hm => r_loadA ag36 sz36 (hρ _ _ rfl) (hm.at 907 rfl) rfl rfl)) (all_cons (q_run (.int .i64 0) rfl rfl (wv_n rfl) rfl (fun _ _ hρ _ => r_move (hρ _ _ rfl))) all_nil))) (allM (all_cons ?_ all_nil))
  refine LOb_store 909 (.cells #[.int .i64 ((lastP h7.t.l).to), .slice ((lastP h7.t.l).r.a) ((lastP h7.t.l).r.l.length) ((lastP h7.t.l).r.cap), .bool ((lastP h7.t.l).sp)] 36) [(5, .int .i64 0)] rfl (wv_n rfl) rfl rfl rfl (fun _ _ hρ hm => r_store sz36 (hρ _ _ rfl) (hρ _ _ rfl) (hm.at 909 rfl) rfl rfl rfl rfl) (by kernel_rfl) ?_
  refine G_last [2, 5] [(4, .pointer (some ⟨B3, 0, none⟩)), (5, .pointer (some ⟨B4, 0, none⟩)), (6, .int .i64 0)] (by kernel_rfl) (allM (all_cons (q_run (.int .i64 0) rfl rfl (wv_n rfl) rfl (fun _ _ hρ _ => r_move (hρ _ _ rfl))) (all_cons (q_run (.int .i64 0) rfl rfl (wv_n rfl) rfl (fun _ _ hρ _ => r_assign (hρ _ _ rfl))) all_nil))) (end_old rfl rfl (end_old rfl rfl (end_new 5 rfl rfl end_nil))) ?_
  refine T_ret' ?_
  refine ret_of rfl (.tuple #[.agg #[.slice h7.n.a h7.n.l.length h7.n.cap, .int .u64 h7.lost], .agg #[.int .i64 ((lastP h7.t.l).to), .slice ((lastP h7.t.l).r.a) ((lastP h7.t.l).r.l.length) ((lastP h7.t.l).r.cap), .bool ((lastP h7.t.l).sp)], .int .i64 0]) (fun tmps w hk hm => res3 rfl (res_cell (hk 4 _ rfl) (run_loadVar_agg ag27 sz27 (hm.at 908 rfl) (Nat.le_of_ble_eq_true rfl) rfl)) (res_cell (hk 5 _ rfl) (run_loadVar_agg ag36 sz36 (hm.at 909 rfl) (Nat.le_of_ble_eq_true rfl) rfl)) (res_tmp (hk 6 _ rfl))) (fun w hm => ?_)
  exact ⟨(h7, bs7), lastP h7.t.l, ⟨hd7.nv, hd7.ok⟩, hd7.told, lastP_in hd7.ok.inT, rfl, hm.ext, hm.own 901 _ rfl, hm.own 903 _ rfl, hm.sep 901 903 _ _ rfl rfl (by decide)⟩

theorem do_err (ps : List Pcl) (a : Option Addr) (cap : Nat) (lost tk i tb : Int) (tm : Wd) (w : World) (hv : SliceAt w a cap 3 Pcl.cells ps) (hcap : cap ≤ Go.maxLen) (hb : PcsAt w ps) (er : Int) (h0 : 0 ≤ lost) (hck : checkV (pvs ps) lost = true) (hdo : (doV (pvs ps, lost) ⟨tk, i, tb, tm⟩).1 = er) (her : ¬ er = 0) : Calls Try.prog 23 #[.agg #[.slice a ps.length cap, .int .u64 lost], .agg #[.int .i64 tk, .int .i64 i, .int .i64 tb, .int .u32 (tm.toNat : Int)]] w fun e w' => e = .returned (.tuple #[.agg #[.slice none 0 0, .int .u64 0], .agg #[.int .i64 0, .slice none 0 0, .bool false], .int .i64 er]) ∧ Below w.heap.size w w' := by
  have hvl := hv.1
  unfold Go.maxLen at hcap
  refine calls_of_T (l := [.agg #[.slice a ps.length cap, .int .u64 lost], .agg #[.int .i64 tk, .int .i64 i, .int .i64 tb, .int .u32 ((tm).toNat : Int)]]) 15 Try.func23 rfl rfl rfl ?_
  show T _ _ _ [(0, .agg #[.slice a ps.length cap, .int .u64 lost]), (1, .agg #[.int .i64 tk, .int .i64 i, .int .i64 tb, .int .u32 ((tm).toNat : Int)])] []
  refine T_seq (T_region ?_)
  refine TL_new 904 (.cells #[.slice a ps.length cap, .int .u64 lost] 27) (fun B => .pointer (some ⟨B, 0, none⟩)) (fun _ _ hρ _ => r_box (hρ _ _ rfl) rfl) rfl rfl rfl (w_n rfl) ?_
  intro B1
  refine TL_new 905 (.cells #[.int .i64 tk, .int .i64 i, .int .i64 tb, .int .u32 ((tm).toNat : Int)] 48) (fun B => .pointer (some ⟨B, 0, none⟩)) (fun _ _ hρ _ => r_box (hρ _ _ rfl) rfl) rfl rfl rfl (w_n rfl) ?_
  intro B2
  refine TL_new 908 (.cells #[.slice none 0 0, .int .u64 0] 27) (fun B => .pointer (some ⟨B, 0, none⟩)) (fun _ _ _ _ => r_alloc (v := .agg #[.slice none 0 0, .int .u64 0]) (by kernel_rfl) rfl) rfl rfl rfl (w_n rfl) ?_
  intro B3
  refine TL_new 909 (.cells #[.int .i64 0, .slice none 0 0, .bool false] 36) (fun B => .pointer (some ⟨B, 0, none⟩)) (fun _ _ _ _ => r_alloc (v := .agg #[.int .i64 0, .slice none 0 0, .bool false]) (by kernel_rfl) rfl) rfl rfl rfl (w_n rfl) ?_
  intro B4
  refine TL_q (.int .i64 0) (fun _ _ hρ _ => r_assign (hρ _ _ rfl)) rfl rfl rfl (w_n rfl) ?_
  refine TL_seq ?_
  refine T_seq (T_region ?_)
  refine TL_new 906 (.cells #[.slice none 0 0, .int .u64 0] 27) (fun B => .pointer (some ⟨B, 0, none⟩)) (fun _ _ _ _ => r_alloc (v := .agg #[.slice none 0 0, .int .u64 0]) (by kernel_rfl) rfl) rfl rfl rfl (w_n rfl) ?_
  intro B5
  refine TL_seq ?_
  refine T_seq (T_region ?_)
  refine TL_new 907 (.cells #[.int .i64 0, .slice none 0 0, .bool false] 36) (fun B => .pointer (some ⟨B, 0, none⟩)) (fun _ _ _ _ => r_alloc (v := .agg #[.int .i64 0, .slice none 0 0, .bool false]) (by kernel_rfl) rfl) rfl rfl rfl (w_n rfl) ?_
  intro B6
  refine TL_seq ?_
  refine T_seq (T_region ?_)
  refine TL_q (.func (.func 69) #[] #[.pointer (some ⟨B1, 0, none⟩), .pointer (some ⟨B2, 0, none⟩), .pointer (some ⟨B5, 0, none⟩), .pointer (some ⟨B6, 0, none⟩)]) (fun _ _ hρ _ => r_makeFunc (by simp) (map_arr (cons2 (hρ _ _ rfl) (cons2 (hρ _ _ rfl) (cons2 (hρ _ _ rfl) (cons2 (hρ _ _ rfl) rfl)))))) rfl rfl rfl (w_n rfl) ?_
  refine TL_callH _ _ _ (fun _ _ hρ _ => r_call (args := [.func (.func 69) #[] #[.pointer (some ⟨B1, 0, none⟩), .pointer (some ⟨B2, 0, none⟩), .pointer (some ⟨B5, 0, none⟩), .pointer (some ⟨B6, 0, none⟩)]]) (enters_of Try.func59 (by kernel_rfl) rfl) (hρ _ _ rfl) ((cons2 (hρ _ _ rfl) rfl)) rfl) (fun w hm => trO_no 69 #[.pointer (some ⟨B1, 0, none⟩), .pointer (some ⟨B2, 0, none⟩), .pointer (some ⟨B5, 0, none⟩), .pointer (some ⟨B6, 0, none⟩)] (fun _ : Nat × Hd × List (RowG By) => True) (fun _ => er) (fun x => hdL x.1 x.2.1 x.2.2 ++ dxL B1 B2 B5 B6 a ps.length cap lost tk i tb tm none 0 0 0 ⟨0, ⟨none, 0, []⟩, false⟩) (enters_of Try.func69 (by kernel_rfl) rfl) (lk_ids (by repeat (first | exact noIds_nil _ _ | refine noIds_cons rfl ?_))) (fun _ => rfl) (fun B w hm => do1_err B1 B2 B5 B6 ps a cap lost tk i tb tm (by repeat (first | exact noIds_nil _ _ | refine noIds_cons rfl ?_)) hv hcap hb er h0 hck hdo her w (hm.of (lk_dups (A := dxL B1 B2 B5 B6 a ps.length cap lost tk i tb tm none 0 0 0 ⟨0, ⟨none, 0, []⟩, false⟩) (sub_cons rfl (sub_cons rfl (sub_cons rfl (sub_cons rfl sub_nil))))))) w hm) rfl rfl rfl (w_n rfl) ?_
  rintro ⟨H7, h7, bs7⟩ -
  refine TL_q (.int .i64 er) (fun _ _ hρ _ => r_assign (hρ _ _ rfl)) rfl rfl rfl (w_n rfl) ?_
  refine TL_seq ?_
  refine T_seq (T_draw (V := [(0, .agg #[.slice none 0 0, .int .u64 0]), (1, .agg #[.int .i64 0, .slice none 0 0, .bool false]), (2, .int .i64 er)]) [0, 0, 0, 1, 11, 31] [[(7, none)], [(8, none)], [(9, none)], [(4, none), (12, some 0)], [(5, none), (13, some 1)], [(14, some 2)]] 24 mixed (by kernel_rfl) ?_)
  refine G_step [0, 1, 2] 3 [] (by kernel_rfl) (allM (all_cons (q_run (.agg #[.slice none 0 0, .int .u64 0]) rfl rfl (wv_n rfl) rfl (fun _ _ hρ hm => r_loadA ag27 sz27 (hρ _ _ rfl) (hm.at 906 rfl) rfl rfl)) (all_cons (q_run (.agg #[.int .i64 0, .slice none 0 0, .bool false]) rfl rfl (wv_n rfl) rfl (fun _ _ hρ hm => r_loadA ag36 sz36 (hρ _ _ rfl) (hm.at 907 rfl) rfl rfl)) (all_cons (q_run (.int .i64 er) rfl rfl (wv_n rfl) rfl (fun _ _ hρ _ => r_move (hρ _ _ rfl))) all_nil)))) (allM (all_cons ?_ all_nil))
  refine LOb_store 908 (.cells #[.slice none 0 0, .int .u64 0] 27) [] rfl (wv_n rfl) rfl rfl rfl (fun _ _ hρ hm => r_store sz27 (hρ _ _ rfl) (hρ _ _ rfl) (hm.at 908 rfl) rfl rfl rfl rfl) (by kernel_rfl) ?_
  refine G_step [1, 2] 4 [] (by kernel_rfl) (allM (all_cons (q_run (.agg #[.int .i64 0, .slice none 0 0, .bool false]) rfl rfl (wv_n rfl) rfl (fun _ _ hρ hm => r_loadA ag36 sz36 (hρ _ _ rfl) (hm.at 907 rfl) rfl rfl)) (all_cons (q_run (.int .i64 er) rfl rfl (wv_n rfl) rfl (fun _ _ hρ _ => r_move (hρ _ _ rfl))) all_nil))) (allM (all_cons ?_ all_nil))
  refine LOb_store 909 (.cells #[.int .i64 0, .slice none 0 0, .bool false] 36) [(5, .int .i64 er)] rfl (wv_n rfl) rfl rfl rfl (fun _ _ hρ hm => r_store sz36 (hρ _ _ rfl) (hρ _ _ rfl) (hm.at 909 rfl) rfl rfl rfl rfl) (by kernel_rfl) ?_
  refine G_last [2, 5] [(4, .pointer (some ⟨B3, 0, none⟩)), (5, .pointer (some ⟨B4, 0, none⟩)), (6, .int .i64 er)] (by kernel_rfl) (allM (all_cons (q_run (.int .i64 er) rfl rfl (wv_n rfl) rfl (fun _ _ hρ _ => r_move (hρ _ _ rfl))) (all_cons (q_run (.int .i64 er) rfl rfl (wv_n rfl) rfl (fun _ _ hρ _ => r_assign (hρ _ _ rfl))) all_nil))) (end_old rfl rfl (end_old rfl rfl (end_new 5 rfl rfl end_nil))) ?_
  refine T_ret' ?_
  refine ret_of rfl (.tuple #[.agg #[.slice none 0 0, .int .u64 0], .agg #[.int .i64 0, .slice none 0 0, .bool false], .int .i64 er]) (fun tmps w hk hm => res3 rfl (res_cell (hk 4 _ rfl) (run_loadVar_agg ag27 sz27 (hm.at 908 rfl) (Nat.le_of_ble_eq_true rfl) rfl)) (res_cell (hk 5 _ rfl) (run_loadVar_agg ag36 sz36 (hm.at 909 rfl) (Nat.le_of_ble_eq_true rfl) rfl)) (res_tmp (hk 6 _ rfl))) (fun w hm => ?_)
  exact ⟨rfl, hm.ext⟩
end Go.Proofs.Ytcidgbjgeegepaa
/- net and journal: Run. Printed by a program of this seat's prover. -/
namespace Go.Proofs.Ytcidgbjgeegepaa
open Go Go.RowKit
set_option maxRecDepth 10000
abbrev rxL (T0 T1 : Nat) (a : Option Addr) (n cap : Nat) (lost : Int) (p : Option Addr) : Heap := [(904, .blk T0 (.cells #[.slice a n cap, .int .u64 lost] 27)), (905, .blk T1 (.cells #[.pointer p] 98))]

/-- What tricks come to, one behind the other: the net, what is told, how many are passed over. -/
def runV (n : NV) (l : List Trk) : NV × List PV × Int := l.foldl (fun s t => ((doV s.1 t).2.1, s.2.1 ++ (doV s.1 t).2.2, if (doV s.1 t).1 = 0 then s.2.2 else s.2.2 + 1)) (n, [], 0)
structure RunIs (n : NV) (l : List Trk) (x : Hd × List (RowG By)) (ov : Int) : Prop where
  is : (x.1.nv, pvs x.1.t.l, ov) = runV n l
  ok : HdOk x.1 x.2
  over : 0 ≤ ov ∧ ov ≤ l.length
  len : x.1.t.l.length ≤ l.length
theorem runs_zero {ps : List Pcl} {lost : Int} {H : Nat} {h : Hd} {bs : List (RowG By)} (ho : OfOk ps lost (H, h, bs)) : RunIs (pvs ps, lost) [] (h, bs) 0 := by
  have e := ho.nv
  have e2 := ho.t
  dsimp only at e e2
  exact ⟨by dsimp only; rw [e, e2]; rfl, ho.ok, ⟨Int.le_refl _, Int.le_refl _⟩, by dsimp only; rw [e2]; exact Nat.zero_le _⟩
theorem runs_step {n : NV} {l : List Trk} {k : Nat} {t : Trk} {h h' : Hd} {bs bs' : List (RowG By)} {ov ov' : Int} (hr : RunIs n (l.take k) (h, bs) ov) (ht : l[k]? = some t) (hd : Done h bs t (h', bs')) (ho : (if (doV h.nv t).1 = 0 then ov else ov + 1) = ov') : RunIs n (l.take (k + 1)) (h', bs') ov' := by
  have e : l.take (k + 1) = l.take k ++ [t] := by rw [List.take_add_one, ht]; rfl
  have e1 := hr.is
  refine ⟨?_, hd.ok, ?_, ?_⟩
  · rw [e]
    unfold runV at e1 ⊢
    rw [List.foldl_append, ← e1]
    have h1 := hd.nv
    have h2 := hd.told
    dsimp only [List.foldl_cons, List.foldl_nil] at h1 h2 ⊢
    rw [h1, h2, ho]
  · have := hr.over
    rw [e, List.length_append, List.length_singleton, ← ho]
    split <;> constructor <;> omega
  · have := hr.len
    have h3 := hd.len
    rw [e, List.length_append, List.length_singleton]
    dsimp only at this h3 ⊢
    omega

theorem run1_ok {w₀ : World} {L : Heap} (T0 T1 : Nat) (ps : List Pcl) (a : Option Addr) (cap : Nat) (lost : Int) (hL : NoIds L 910 1950) (hv : SliceAt w₀ a cap 3 Pcl.cells ps) (hcap : cap ≤ Go.maxLen) (hb : PcsAt w₀ ps) (h0 : 0 ≤ lost) (hck : checkV (pvs ps) lost = true) : ∀ w, MemOk w₀ ([(904, .blk T0 (.cells #[.slice a ps.length cap, .int .u64 lost] 27)), (905, .blk T1 (.cells #[.pointer none] 98))] ++ L) w → Calls Try.prog 74 #[.pointer (some ⟨T0, 0, none⟩), .pointer (some ⟨T1, 0, none⟩)] w (HAns w₀ (fun x : Nat × Hd × List (RowG By) => OfOk ps lost x) (fun _ => .tuple #[]) (fun x => hdL x.1 x.2.1 x.2.2 ++ [(904, .blk T0 (.cells #[.slice a ps.length cap, .int .u64 lost] 27)), (905, .blk T1 (.cells #[.pointer (some ⟨x.1, 0, none⟩)] 98))] ++ L)) := by
  have hvl := hv.1
  unfold Go.maxLen at hcap
  refine ht_of_T (l := [.pointer (some ⟨T0, 0, none⟩), .pointer (some ⟨T1, 0, none⟩)]) (L := ((904, .blk T0 (.cells #[.slice a ps.length cap, .int .u64 lost] 27)) :: (905, .blk T1 (.cells #[.pointer none] 98)) :: L)) 4 Try.func74 rfl rfl rfl ?_
  show T _ _ _ [(0, .pointer (some ⟨T0, 0, none⟩)), (1, .pointer (some ⟨T1, 0, none⟩))] ((904, .blk T0 (.cells #[.slice a ps.length cap, .int .u64 lost] 27)) :: (905, .blk T1 (.cells #[.pointer none] 98)) :: L)
  refine T_region ?_
  refine TL_q (.agg #[.slice a ps.length cap, .int .u64 lost]) (fun _ _ hρ hm => r_loadA ag27 sz27 (hρ _ _ rfl) (hm.at 904 rfl) rfl rfl) rfl rfl rfl (w_n rfl) ?_
  refine TL_callN (fun x : Nat × Hd × List (RowG By) => OfOk ps lost x) (fun (H1, h1, bs1) => .pointer (some ⟨H1, 0, none⟩)) (fun (H1, h1, bs1) => [(900, .blk H1 (.cells #[.slice h1.n.a h1.n.l.length h1.n.cap, .int .u64 h1.lost, .slice h1.t.a h1.t.l.length h1.t.cap] 104)), (901, .row (.slice h1.n.a h1.n.l.length h1.n.cap) 36 3 h1.n.l.length (h1.n.l.flatMap Pcl.cells)), (902, .row (.slice h1.t.a h1.t.l.length h1.t.cap) 36 3 h1.t.l.length (h1.t.l.flatMap Pcl.cells)), (903, .pool 5 1 byc bs1)]) (fun _ _ hρ _ => r_call (args := [.agg #[.slice a ps.length cap, .int .u64 lost]]) (enters_of Try.func61 (by kernel_rfl) rfl) (hρ _ _ rfl) ((cons2 (hρ _ _ rfl) rfl)) rfl) (fun w hm => (of_ok ps a cap lost w (hv.keep hm.ext) hcap (hb.keep hm.ext) h0 hck).mono fun e w' ⟨⟨H, h, bs⟩, hx, he, hb, hn⟩ => ⟨(H, h, bs), hx, he, hb, hn⟩) rfl rfl rfl (w_n rfl) ?_
  rintro ⟨H1, h1, bs1⟩ ⟨hv1, hk1, ht1⟩
  refine TL_store 905 (.cells #[.pointer (some ⟨H1, 0, none⟩)] 98) rfl (fun _ _ hρ hm => r_store sz98 (hρ _ _ rfl) (hρ _ _ rfl) (hm.at 905 rfl) rfl rfl rfl rfl) rfl rfl (w_n rfl) ?_
  refine TL_nil ?_
  refine p_end ?_
  refine ret_of rfl (.tuple #[]) (fun tmps w hk hm => results_none rfl _ _ _) (fun w hm => ?_)
  refine ⟨(H1, h1, bs1), ⟨hv1, hk1, ht1⟩, rfl, ?_⟩
  first | exact hm.of (lk_fin (F := [_, _, _, _, _, _]) (T := hdL H1 h1 bs1 ++ [(904, .blk T0 (.cells #[.slice a ps.length cap, .int .u64 lost] 27)), (905, .blk T1 (.cells #[.pointer (some ⟨H1, 0, none⟩)] 98))]) (sub_cons rfl (sub_cons rfl (sub_cons rfl (sub_cons rfl (sub_cons rfl (sub_cons rfl sub_nil)))))) rfl hL) | exact hm.of (lk_fin (F := [_, _, _, _, _, _, _]) (T := hdL H1 h1 bs1 ++ [(904, .blk T0 (.cells #[.slice a ps.length cap, .int .u64 lost] 27)), (905, .blk T1 (.cells #[.pointer (some ⟨H1, 0, none⟩)] 98))]) (sub_cons rfl (sub_cons rfl (sub_cons rfl (sub_cons rfl (sub_cons rfl (sub_cons rfl sub_nil)))))) rfl hL) | exact hm.of (lk_fin (F := [_, _, _, _, _, _, _, _]) (T := hdL H1 h1 bs1 ++ [(904, .blk T0 (.cells #[.slice a ps.length cap, .int .u64 lost] 27)), (905, .blk T1 (.cells #[.pointer (some ⟨H1, 0, none⟩)] 98))]) (sub_cons rfl (sub_cons rfl (sub_cons rfl (sub_cons rfl (sub_cons rfl (sub_cons rfl sub_nil)))))) rfl hL) | exact hm.of (lk_fin (F := [_, _, _, _, _, _, _, _, _]) (T := hdL H1 h1 bs1 ++ [(904, .blk T0 (.cells #[.slice a ps.length cap, .int .u64 lost] 27)), (905, .blk T1 (.cells #[.pointer (some ⟨H1, 0, none⟩)] 98))]) (sub_cons rfl (sub_cons rfl (sub_cons rfl (sub_cons rfl (sub_cons rfl (sub_cons rfl sub_nil)))))) rfl hL) | exact hm.of (lk_fin (F := [_, _, _, _, _, _, _, _, _, _]) (T := hdL H1 h1 bs1 ++ [(904, .blk T0 (.cells #[.slice a ps.length cap, .int .u64 lost] 27)), (905, .blk T1 (.cells #[.pointer (some ⟨H1, 0, none⟩)] 98))]) (sub_cons rfl (sub_cons rfl (sub_cons rfl (sub_cons rfl (sub_cons rfl (sub_cons rfl sub_nil)))))) rfl hL) | exact hm.of (lk_fin (F := [_, _, _, _, _, _, _, _, _, _, _]) (T := hdL H1 h1 bs1 ++ [(904, .blk T0 (.cells #[.slice a ps.length cap, .int .u64 lost] 27)), (905, .blk T1 (.cells #[.pointer (some ⟨H1, 0, none⟩)] 98))]) (sub_cons rfl (sub_cons rfl (sub_cons rfl (sub_cons rfl (sub_cons rfl (sub_cons rfl sub_nil)))))) rfl hL) | exact hm.of (lk_fin (F := [_, _, _, _, _, _, _, _, _, _, _, _]) (T := hdL H1 h1 bs1 ++ [(904, .blk T0 (.cells #[.slice a ps.length cap, .int .u64 lost] 27)), (905, .blk T1 (.cells #[.pointer (some ⟨H1, 0, none⟩)] 98))]) (sub_cons rfl (sub_cons rfl (sub_cons rfl (sub_cons rfl (sub_cons rfl (sub_cons rfl sub_nil)))))) rfl hL) | exact hm.of (lk_fin (F := [_, _, _, _, _, _, _, _, _, _, _, _, _]) (T := hdL H1 h1 bs1 ++ [(904, .blk T0 (.cells #[.slice a ps.length cap, .int .u64 lost] 27)), (905, .blk T1 (.cells #[.pointer (some ⟨H1, 0, none⟩)] 98))]) (sub_cons rfl (sub_cons rfl (sub_cons rfl (sub_cons rfl (sub_cons rfl (sub_cons rfl sub_nil)))))) rfl hL) | exact hm.of (lk_fin (F := [_, _, _, _, _, _, _, _, _, _, _, _, _, _]) (T := hdL H1 h1 bs1 ++ [(904, .blk T0 (.cells #[.slice a ps.length cap, .int .u64 lost] 27)), (905, .blk T1 (.cells #[.pointer (some ⟨H1, 0, none⟩)] 98))]) (sub_cons rfl (sub_cons rfl (sub_cons rfl (sub_cons rfl (sub_cons rfl (sub_cons rfl sub_nil)))))) rfl hL) | exact hm.of (lk_fin (F := [_, _, _, _, _, _, _, _, _, _, _, _, _, _, _]) (T := hdL H1 h1 bs1 ++ [(904, .blk T0 (.cells #[.slice a ps.length cap, .int .u64 lost] 27)), (905, .blk T1 (.cells #[.pointer (some ⟨H1, 0, none⟩)] 98))]) (sub_cons rfl (sub_cons rfl (sub_cons rfl (sub_cons rfl (sub_cons rfl (sub_cons rfl sub_nil)))))) rfl hL)

theorem run_ok (ps : List Pcl) (a : Option Addr) (cap : Nat) (lost : Int) (ts : List Trk) (b : Option Addr) (capb : Nat) (w : World) (hv : SliceAt w a cap 3 Pcl.cells ps) (hcap : cap ≤ Go.maxLen) (hb : PcsAt w ps) (hu : SliceAt w b capb 4 Trk.cells ts) (hcapb : capb ≤ Go.maxLen) (ht9 : ts.length ≤ 100) (h0 : 0 ≤ lost) (hck : checkV (pvs ps) lost = true) : Calls Try.prog 28 #[.agg #[.slice a ps.length cap, .int .u64 lost], .slice b ts.length capb] w fun e w' => ∃ (x : Hd × List (RowG By)) (ov : Int), RunIs (pvs ps, lost) ts x ov ∧ e = .returned (.tuple #[.agg #[.slice x.1.n.a x.1.n.l.length x.1.n.cap, .int .u64 x.1.lost], .slice x.1.t.a x.1.t.l.length x.1.t.cap, .int .i64 ov, .int .i64 0]) ∧ Below w.heap.size w w' ∧ (rowP x.1.n).ok w.heap.size w' ∧ (rowP x.1.t).ok w.heap.size w' ∧ (Res.pool 5 1 byc x.2).ok w.heap.size w' ∧ (∀ b, (rowP x.1.n).foot b → ¬ (rowP x.1.t).foot b) ∧ (∀ b, (rowP x.1.n).foot b → ¬ (Res.pool 5 1 byc x.2).foot b) ∧ (∀ b, (rowP x.1.t).foot b → ¬ (Res.pool 5 1 byc x.2).foot b) := by
  have hvl := hv.1
  unfold Go.maxLen at hcap
  have hul := hu.1
  unfold Go.maxLen at hcapb
  refine calls_of_T (l := [.agg #[.slice a ps.length cap, .int .u64 lost], .slice b ts.length capb]) 41 Try.func28 rfl rfl rfl ?_
  show T _ _ _ [(0, .agg #[.slice a ps.length cap, .int .u64 lost]), (1, .slice b ts.length capb)] []
  refine T_seq (T_region ?_)
  refine TL_new 904 (.cells #[.slice a ps.length cap, .int .u64 lost] 27) (fun B => .pointer (some ⟨B, 0, none⟩)) (fun _ _ hρ _ => r_box (hρ _ _ rfl) rfl) rfl rfl rfl (w_n rfl) ?_
  intro B1
  refine TL_new 908 (.cells #[.slice none 0 0, .int .u64 0] 27) (fun B => .pointer (some ⟨B, 0, none⟩)) (fun _ _ _ _ => r_alloc (v := .agg #[.slice none 0 0, .int .u64 0]) (by kernel_rfl) rfl) rfl rfl rfl (w_n rfl) ?_
  intro B2
  refine TL_q (.slice none 0 0) (fun _ _ hρ _ => r_assign (hρ _ _ rfl)) rfl rfl rfl (w_n rfl) ?_
  refine TL_q (.int .i64 0) (fun _ _ hρ _ => r_assign (hρ _ _ rfl)) rfl rfl rfl (w_n rfl) ?_
  refine TL_q (.int .i64 0) (fun _ _ hρ _ => r_assign (hρ _ _ rfl)) rfl rfl rfl (w_n rfl) ?_
  refine TL_seq ?_
  refine T_seq (T_region ?_)
  refine TL_new 905 (.cells #[.pointer none] 98) (fun B => .pointer (some ⟨B, 0, none⟩)) (fun _ _ _ _ => r_alloc (v := .pointer none) (by kernel_rfl) rfl) rfl rfl rfl (w_n rfl) ?_
  intro B3
  refine TL_seq ?_
  refine T_seq ?_
  refine T_seq (T_region ?_)
  refine TL_q (.func (.func 74) #[] #[.pointer (some ⟨B1, 0, none⟩), .pointer (some ⟨B3, 0, none⟩)]) (fun _ _ hρ _ => r_makeFunc (by simp) (map_arr (cons2 (hρ _ _ rfl) (cons2 (hρ _ _ rfl) rfl)))) rfl rfl rfl (w_n rfl) ?_
  refine TL_callH _ _ _ (fun _ _ hρ _ => r_call (args := [.func (.func 74) #[] #[.pointer (some ⟨B1, 0, none⟩), .pointer (some ⟨B3, 0, none⟩)]]) (enters_of Try.func59 (by kernel_rfl) rfl) (hρ _ _ rfl) ((cons2 (hρ _ _ rfl) rfl)) rfl) (fun w hm => trO_ok 74 #[.pointer (some ⟨B1, 0, none⟩), .pointer (some ⟨B3, 0, none⟩)] (fun x : Nat × Hd × List (RowG By) => OfOk ps lost x) (fun x => hdL x.1 x.2.1 x.2.2 ++ rxL B1 B3 a ps.length cap lost (some ⟨x.1, 0, none⟩)) (enters_of Try.func74 (by kernel_rfl) rfl) (lk_ids (by repeat (first | exact noIds_nil _ _ | refine noIds_cons rfl ?_))) (fun _ => rfl) (fun B w hm => run1_ok B1 B3 ps a cap lost (by repeat (first | exact noIds_nil _ _ | refine noIds_cons rfl ?_)) hv hcap hb h0 hck w (hm.of (lk_dups (A := rxL B1 B3 a ps.length cap lost none) (sub_cons rfl (sub_cons rfl sub_nil))))) w hm) rfl rfl rfl (w_n rfl) ?_
  rintro ⟨H4, ⟨⟨na4, nc4, nl4⟩, lo4, ⟨ta4, tc4, tl4⟩⟩, bs4⟩ ho4
  refine TL_q (.int .i64 0) (fun _ _ hρ _ => r_assign (hρ _ _ rfl)) rfl rfl rfl (w_n rfl) ?_
  refine TL_seq ?_
  refine T_seq (T_region ?_)
  refine TL_q (.int .i64 0) (fun _ _ hρ _ => r_move (hρ _ _ rfl)) rfl rfl rfl (w_n rfl) ?_
  refine TL_q (.bool false) (fun _ _ hρ _ => r_as (r_neq (hρ _ _ rfl) (hρ _ _ rfl)) (by rfl)) rfl rfl rfl (w_n rfl) ?_
  refine TL_seq ?_
  refine T_cond_f rfl ?_
  refine T_skip' ?_
  refine p_seq ?_
  refine T_seq (T_region ?_)
  refine TL_q (.int .i64 0) (fun _ _ hρ _ => r_assign (hρ _ _ rfl)) rfl rfl rfl (w_n rfl) ?_
  refine TL_seq ?_
  refine T_seq ?_
  refine T_seq (T_region ?_)
  refine TL_q (.slice b ts.length capb) (fun _ _ hρ _ => r_move (hρ _ _ rfl)) rfl rfl rfl (w_n rfl) ?_
  refine TL_q (.int .i64 ((ts.length : Nat) : Int)) (fun _ _ hρ _ => r_len sl43 (hρ _ _ rfl)) rfl rfl rfl (w_n rfl) ?_
  refine TL_q (.int .i64 0) (fun _ _ hρ _ => r_move (hρ _ _ rfl)) rfl rfl rfl (w_n rfl) ?_
  refine TL_seq ?_
  refine T_block ?_
  refine T_loop (ι := Nat × Option Addr × Nat × List Pcl × Int × Option Addr × Nat × List Pcl × List (RowG By) × Int) (fun (z : Nat × Option Addr × Nat × List Pcl × Int × Option Addr × Nat × List Pcl × List (RowG By) × Int) => match z with | (k, na9, nc9, nl9, lo9, ta9, tc9, tl9, bs9, ov) => k ≤ ts.length ∧ RunIs (pvs ps, lost) (ts.take k) ((⟨⟨na9, nc9, nl9⟩, lo9, ⟨ta9, tc9, tl9⟩⟩ : Hd), bs9) ov) (fun (z : Nat × Option Addr × Nat × List Pcl × Int × Option Addr × Nat × List Pcl × List (RowG By) × Int) => match z with | (k, na9, nc9, nl9, lo9, ta9, tc9, tl9, bs9, ov) => [(4, .pointer (some ⟨B2, 0, none⟩)), (5, .slice none 0 0), (6, .int .i64 0), (7, .int .i64 0), (8, .pointer (some ⟨B3, 0, none⟩)), (19, .slice b ts.length capb), (20, .int .i64 ((ts.length : Nat) : Int)), (21, .int .i64 ((k : Nat) : Int)), (10, .int .i64 ov)]) (fun (z : Nat × Option Addr × Nat × List Pcl × Int × Option Addr × Nat × List Pcl × List (RowG By) × Int) => match z with | (k, na9, nc9, nl9, lo9, ta9, tc9, tl9, bs9, ov) => [(905, .blk B3 (.cells #[.pointer (some ⟨H4, 0, none⟩)] 98)), (904, .blk B1 (.cells #[.slice a ps.length cap, .int .u64 lost] 27)), (908, .blk B2 (.cells #[.slice none 0 0, .int .u64 0] 27)), (900, .blk H4 (.cells #[.slice na9 nl9.length nc9, .int .u64 lo9, .slice ta9 tl9.length tc9] 104)), (901, .row (.slice na9 nl9.length nc9) 36 3 nl9.length (nl9.flatMap Pcl.cells)), (902, .row (.slice ta9 tl9.length tc9) 36 3 tl9.length (tl9.flatMap Pcl.cells)), (903, .pool 5 1 byc bs9)]) (fun (z : Nat × Option Addr × Nat × List Pcl × Int × Option Addr × Nat × List Pcl × List (RowG By) × Int) => match z with | (k, na9, nc9, nl9, lo9, ta9, tc9, tl9, bs9, ov) => ts.length - k) (0, na4, nc4, nl4, lo4, ta4, tc4, tl4, bs4, 0) ⟨Nat.zero_le _, runs_zero ho4⟩ (sub_cons rfl (sub_cons rfl (sub_cons rfl (sub_cons rfl (sub_cons rfl (sub_cons rfl (sub_cons rfl (sub_cons rfl (sub_cons rfl sub_nil))))))))) (sub_cons rfl (sub_cons rfl (sub_cons rfl (sub_cons rfl (sub_cons rfl (sub_cons rfl (sub_cons rfl sub_nil))))))) ?_
  rintro ⟨k, na9, nc9, nl9, lo9, ta9, tc9, tl9, bs9, ov⟩ hp
  obtain ⟨hk, hr9⟩ := hp
  have hob := hr9.over
  rw [List.length_take] at hob
  show T _ _ _ [(4, .pointer (some ⟨B2, 0, none⟩)), (5, .slice none 0 0), (6, .int .i64 0), (7, .int .i64 0), (8, .pointer (some ⟨B3, 0, none⟩)), (19, .slice b ts.length capb), (20, .int .i64 ((ts.length : Nat) : Int)), (21, .int .i64 ((k : Nat) : Int)), (10, .int .i64 ov)] [(905, .blk B3 (.cells #[.pointer (some ⟨H4, 0, none⟩)] 98)), (904, .blk B1 (.cells #[.slice a ps.length cap, .int .u64 lost] 27)), (908, .blk B2 (.cells #[.slice none 0 0, .int .u64 0] 27)), (900, .blk H4 (.cells #[.slice na9 nl9.length nc9, .int .u64 lo9, .slice ta9 tl9.length tc9] 104)), (901, .row (.slice na9 nl9.length nc9) 36 3 nl9.length (nl9.flatMap Pcl.cells)), (902, .row (.slice ta9 tl9.length tc9) 36 3 tl9.length (tl9.flatMap Pcl.cells)), (903, .pool 5 1 byc bs9)]
  refine T_seq (T_region ?_)
  refine TL_q (.bool (decide (((k : Nat) : Int) < ((ts.length : Nat) : Int)))) (fun _ _ hρ _ => r_lss (hρ _ _ rfl) (hρ _ _ rfl)) rfl rfl rfl (w_n rfl) ?_
  refine TL_seq ?_
  refine T_seq ?_
  refine T_cond rfl (fun h1 => ?_) (fun h1 => ?_)
  · replace h1 := of_decide_eq_true h1
    refine T_skip' ?_
    refine p_seq ?_
    refine T_seq ?_
    refine T_block ?_
    obtain ⟨t, ht⟩ : ∃ x, ts[k]? = some x := ⟨_, List.getElem?_eq_getElem (by omega)⟩
    obtain ⟨b5, of5, cs5, T5, fz5, ha5, hq5, hr5⟩ := hu.open (i := k) (by omega)
    subst ha5
    refine T_seq (T_region ?_)
    refine TL_q (.pointer (some ⟨b5, of5 + k * 4, none⟩)) (fun _ _ hρ _ => r_indexAddrS (i := k) sl43 sz48 (hρ _ _ rfl) (hρ _ _ rfl) (by omega)) rfl rfl rfl (w_n rfl) ?_
    refine TL_q (.agg #[.int .i64 t.kind, .int .i64 t.at', .int .i64 t.bit, .int .u32 ((t.mask).toNat : Int)]) (fun _ _ hρ hm => r_loadRow (f := Trk.cells) (u := t) ag48 sz48 (hρ _ _ rfl) (hm.old hq5) hr5 ht) rfl rfl rfl (w_n rfl) ?_
    refine TL_new 909 (.cells #[.int .i64 0, .int .i64 0, .int .i64 0, .int .u32 0] 48) (fun B => .pointer (some ⟨B, 0, none⟩)) (fun _ _ _ _ => r_alloc (v := .agg #[.int .i64 0, .int .i64 0, .int .i64 0, .int .u32 0]) (by kernel_rfl) rfl) rfl rfl rfl (w_n rfl) ?_
    intro B6
    refine TL_store 909 (.cells #[.int .i64 t.kind, .int .i64 t.at', .int .i64 t.bit, .int .u32 ((t.mask).toNat : Int)] 48) rfl (fun _ _ hρ hm => r_store sz48 (hρ _ _ rfl) (hρ _ _ rfl) (hm.at 909 rfl) rfl rfl rfl rfl) rfl rfl (w_n rfl) ?_
    refine TL_seq ?_
    refine T_seq (T_region ?_)
    refine TL_q (.pointer (some ⟨H4, 0, none⟩)) (fun _ _ hρ hm => r_load ag98 (hρ _ _ rfl) (hm.at 905 rfl) rfl) rfl rfl rfl (w_n rfl) ?_
    refine TL_q (.agg #[.int .i64 t.kind, .int .i64 t.at', .int .i64 t.bit, .int .u32 ((t.mask).toNat : Int)]) (fun _ _ hρ hm => r_loadA ag48 sz48 (hρ _ _ rfl) (hm.at 909 rfl) rfl rfl) rfl rfl rfl (w_n rfl) ?_
    refine TL_callH _ _ _ (fun _ _ hρ _ => r_call (args := [.pointer (some ⟨H4, 0, none⟩), .agg #[.int .i64 t.kind, .int .i64 t.at', .int .i64 t.bit, .int .u32 ((t.mask).toNat : Int)]]) (enters_of Try.func70 (by kernel_rfl) rfl) (hρ _ _ rfl) ((cons2 (hρ _ _ rfl) (cons2 (hρ _ _ rfl) rfl))) rfl) (fun w hm => (does_any H4 (⟨⟨na9, nc9, nl9⟩, lo9, ⟨ta9, tc9, tl9⟩⟩ : Hd) bs9 ⟨t.kind, t.at', t.bit, t.mask⟩ (by repeat (first | exact noIds_nil _ _ | refine noIds_cons rfl ?_)) hr9.ok (by have := hr9.len; rw [List.length_take] at this; dsimp only at this ⊢; omega) w (hm.of (lk_dups (A := hdL H4 (⟨⟨na9, nc9, nl9⟩, lo9, ⟨ta9, tc9, tl9⟩⟩ : Hd) bs9) (sub_cons rfl (sub_cons rfl (sub_cons rfl (sub_cons rfl sub_nil))))))).mono fun e w' ⟨x, hx, he, hm⟩ => ⟨x, hx, he.trans (congrArg Ending.returned (int_as (rfl))), hm⟩) rfl rfl rfl (w_n rfl) ?_
    rintro ⟨⟨⟨na7, nc7, nl7⟩, lo7, ⟨ta7, tc7, tl7⟩⟩, bs7⟩ hd7
    refine TL_q (.bool (!decide ((doV (⟨⟨na9, nc9, nl9⟩, lo9, ⟨ta9, tc9, tl9⟩⟩ : Hd).nv ⟨t.kind, t.at', t.bit, t.mask⟩).1 = 0))) (fun _ _ hρ _ => r_neq (hρ _ _ rfl) (hρ _ _ rfl)) rfl rfl rfl (w_n rfl) ?_
    refine TL_seq ?_
    refine T_cond rfl (fun h2 => ?_) (fun h2 => ?_)
    · replace h2 := of_decide_eq_false (bnot_t h2)
      have hz : ¬ (doV (⟨⟨na9, nc9, nl9⟩, lo9, ⟨ta9, tc9, tl9⟩⟩ : Hd).nv ⟨t.kind, t.at', t.bit, t.mask⟩).1 = 0 := h2
      refine T_region ?_
      refine TL_q (.int .i64 ov) (fun _ _ hρ _ => r_move (hρ _ _ rfl)) rfl rfl rfl (w_n rfl) ?_
      refine TL_q (.int .i64 (ov + 1)) (fun _ _ hρ _ => r_as (r_add (hρ _ _ rfl) (hρ _ _ rfl)) (int_as (wrap64 (by omega) (by omega)))) rfl rfl rfl (w_n rfl) ?_
      refine TL_q (.int .i64 (ov + 1)) (fun _ _ hρ _ => r_assign (hρ _ _ rfl)) rfl rfl rfl (w_n rfl) ?_
      refine TL_nil ?_
      refine p_blk_n ?_
      refine p_seq ?_
      refine T_region ?_
      refine TL_q (.int .i64 ((k + 1 : Nat) : Int)) (fun _ _ hρ _ => r_as (r_add (hρ _ _ rfl) (hρ _ _ rfl)) (int_as ((wrap64 (by omega) (by omega)).trans (by omega)))) rfl rfl rfl (w_n rfl) ?_
      refine TL_q (.int .i64 ((k + 1 : Nat) : Int)) (fun _ _ hρ _ => r_move (hρ _ _ rfl)) rfl rfl rfl (w_n rfl) ?_
      refine TL_nil ?_
      exact p_at (k + 1, na7, nc7, nl7, lo7, ta7, tc7, tl7, bs7, ov + 1) ⟨⟨by omega, runs_step hr9 ht hd7 (if_neg hz)⟩, by dsimp only; omega⟩ (sub_cons rfl (sub_cons rfl (sub_cons rfl (sub_cons rfl (sub_cons rfl (sub_cons rfl (sub_cons rfl (sub_cons rfl (sub_cons rfl sub_nil))))))))) (sub_cons rfl (sub_cons rfl (sub_cons rfl (sub_cons rfl (sub_cons rfl (sub_cons rfl (sub_cons rfl sub_nil)))))))
    · replace h2 := of_decide_eq_true (bnot_f h2)
      have hz : (doV (⟨⟨na9, nc9, nl9⟩, lo9, ⟨ta9, tc9, tl9⟩⟩ : Hd).nv ⟨t.kind, t.at', t.bit, t.mask⟩).1 = 0 := h2
      refine T_skip' ?_
      refine p_blk_n ?_
      refine p_seq ?_
      refine T_region ?_
      refine TL_q (.int .i64 ((k + 1 : Nat) : Int)) (fun _ _ hρ _ => r_as (r_add (hρ _ _ rfl) (hρ _ _ rfl)) (int_as ((wrap64 (by omega) (by omega)).trans (by omega)))) rfl rfl rfl (w_n rfl) ?_
      refine TL_q (.int .i64 ((k + 1 : Nat) : Int)) (fun _ _ hρ _ => r_move (hρ _ _ rfl)) rfl rfl rfl (w_n rfl) ?_
      refine TL_nil ?_
      exact p_at (k + 1, na7, nc7, nl7, lo7, ta7, tc7, tl7, bs7, ov) ⟨⟨by omega, runs_step hr9 ht hd7 (if_pos hz)⟩, by dsimp only; omega⟩ (sub_cons rfl (sub_cons rfl (sub_cons rfl (sub_cons rfl (sub_cons rfl (sub_cons rfl (sub_cons rfl (sub_cons rfl (sub_cons rfl sub_nil))))))))) (sub_cons rfl (sub_cons rfl (sub_cons rfl (sub_cons rfl (sub_cons rfl (sub_cons rfl (sub_cons rfl sub_nil)))))))
  · replace h1 := of_decide_eq_false h1
    refine T_exit' ?_
    refine p_then_x ?_
    refine p_then_x ?_
    refine p_blk_x ?_
    refine p_seq ?_
    refine T_seq (T_draw (V := [(0, .pointer (some ⟨H4, 0, none⟩)), (1, .pointer (some ⟨H4, 0, none⟩)), (2, .pointer (some ⟨H4, 0, none⟩)), (3, .agg #[.slice na9 nl9.length nc9, .int .u64 lo9]), (4, .pointer (some ⟨H4, 0, none⟩)), (5, .pointer (some ⟨H4, 0, none⟩)), (6, .pointer (some ⟨H4, 2, none⟩)), (7, .slice ta9 tl9.length tc9), (8, .int .i64 ov)]) [0, 1, 3, 7, 0, 16, 48, 112, 0, 15, 767, 2047, 4095] [[(8, none)], [(32, some 0)], [(33, some 1)], [(34, some 2)], [(8, none)], [(36, some 4)], [(37, some 5)], [(38, some 6)], [(10, none)], [(4, none), (35, some 3)], [(39, some 7)], [(40, some 8)], []] 512 mixed (by kernel_rfl) ?_)
    refine G_step [0, 1, 2, 3, 4, 5, 6, 7, 8] 9 [] (by kernel_rfl) (allM (all_cons (q_run (.pointer (some ⟨H4, 0, none⟩)) rfl rfl (wv_n rfl) rfl (fun _ _ hρ hm => r_load ag98 (hρ _ _ rfl) (hm.at 905 rfl) rfl)) (all_cons (q_run (.pointer (some ⟨H4, 0, none⟩)) rfl rfl (wv_n rfl) rfl (fun _ _ hρ _ => r_nilCheck (hρ _ _ rfl) rfl)) (all_cons (q_run (.pointer (some ⟨H4, 0, none⟩)) rfl rfl (wv_n rfl) rfl (fun _ _ hρ _ => r_fieldAddr fl104_0 sz27 (hρ _ _ rfl))) (all_cons (q_run (.agg #[.slice na9 nl9.length nc9, .int .u64 lo9]) rfl rfl (wv_n rfl) rfl (fun _ _ hρ hm => r_loadA ag27 sz27 (hρ _ _ rfl) (hm.at 900 rfl) rfl rfl)) (all_cons (q_run (.pointer (some ⟨H4, 0, none⟩)) rfl rfl (wv_n rfl) rfl (fun _ _ hρ hm => r_load ag98 (hρ _ _ rfl) (hm.at 905 rfl) rfl)) (all_cons (q_run (.pointer (some ⟨H4, 0, none⟩)) rfl rfl (wv_n rfl) rfl (fun _ _ hρ _ => r_nilCheck (hρ _ _ rfl) rfl)) (all_cons (q_run (.pointer (some ⟨H4, 2, none⟩)) rfl rfl (wv_n rfl) rfl (fun _ _ hρ _ => r_fieldAddr fl104_1 sz22 (hρ _ _ rfl))) (all_cons (q_run (.slice ta9 tl9.length tc9) rfl rfl (wv_n rfl) rfl (fun _ _ hρ hm => r_load ag22 (hρ _ _ rfl) (hm.at 900 rfl) rfl)) (all_cons (q_run (.int .i64 ov) rfl rfl (wv_n rfl) rfl (fun _ _ hρ _ => r_move (hρ _ _ rfl))) all_nil)))))))))) (allM (all_cons ?_ all_nil))
    refine LOb_store 908 (.cells #[.slice na9 nl9.length nc9, .int .u64 lo9] 27) [(10, .slice ta9 tl9.length tc9), (11, .int .i64 ov), (12, .int .i64 0)] rfl (wv_n rfl) rfl rfl rfl (fun _ _ hρ hm => r_store sz27 (hρ _ _ rfl) (hρ _ _ rfl) (hm.at 908 rfl) rfl rfl rfl rfl) (by kernel_rfl) ?_
    refine G_last [4, 5, 6, 7, 8, 10, 11, 12] [(4, .pointer (some ⟨B2, 0, none⟩)), (5, .slice ta9 tl9.length tc9), (6, .int .i64 ov), (7, .int .i64 0)] (by kernel_rfl) (allM (all_cons (q_run (.pointer (some ⟨H4, 0, none⟩)) rfl rfl (wv_n rfl) rfl (fun _ _ hρ hm => r_load ag98 (hρ _ _ rfl) (hm.at 905 rfl) rfl)) (all_cons (q_run (.pointer (some ⟨H4, 0, none⟩)) rfl rfl (wv_n rfl) rfl (fun _ _ hρ _ => r_nilCheck (hρ _ _ rfl) rfl)) (all_cons (q_run (.pointer (some ⟨H4, 2, none⟩)) rfl rfl (wv_n rfl) rfl (fun _ _ hρ _ => r_fieldAddr fl104_1 sz22 (hρ _ _ rfl))) (all_cons (q_run (.slice ta9 tl9.length tc9) rfl rfl (wv_n rfl) rfl (fun _ _ hρ hm => r_load ag22 (hρ _ _ rfl) (hm.at 900 rfl) rfl)) (all_cons (q_run (.int .i64 ov) rfl rfl (wv_n rfl) rfl (fun _ _ hρ _ => r_move (hρ _ _ rfl))) (all_cons (q_run (.slice ta9 tl9.length tc9) rfl rfl (wv_n rfl) rfl (fun _ _ hρ _ => r_assign (hρ _ _ rfl))) (all_cons (q_run (.int .i64 ov) rfl rfl (wv_n rfl) rfl (fun _ _ hρ _ => r_assign (hρ _ _ rfl))) (all_cons (q_run (.int .i64 0) rfl rfl (wv_n rfl) rfl (fun _ _ hρ _ => r_assign (hρ _ _ rfl))) all_nil))))))))) (end_old rfl rfl (end_new 10 rfl rfl (end_new 11 rfl rfl (end_new 12 rfl rfl end_nil)))) ?_
    refine T_ret' ?_
    refine ret_of rfl (.tuple #[.agg #[.slice na9 nl9.length nc9, .int .u64 lo9], .slice ta9 tl9.length tc9, .int .i64 ov, .int .i64 0]) (fun tmps w hk hm => res4 rfl (res_cell (hk 4 _ rfl) (run_loadVar_agg ag27 sz27 (hm.at 908 rfl) (Nat.le_of_ble_eq_true rfl) rfl)) (res_tmp (hk 5 _ rfl)) (res_tmp (hk 6 _ rfl)) (res_tmp (hk 7 _ rfl))) (fun w hm => ?_)
    have hke : k = ts.length := by omega
    subst hke
    rw [List.take_length] at hr9
    exact ⟨((⟨⟨na9, nc9, nl9⟩, lo9, ⟨ta9, tc9, tl9⟩⟩ : Hd), bs9), ov, hr9, rfl, hm.ext, hm.own 901 _ rfl, hm.own 902 _ rfl, hm.own 903 _ rfl, hm.sep 901 902 _ _ rfl rfl (by decide), hm.sep 901 903 _ _ rfl rfl (by decide), hm.sep 902 903 _ _ rfl rfl (by decide)⟩

end Go.Proofs.Ytcidgbjgeegepaa
/- A copy into a part of a row of one's own, out of cells anywhere. Over any program. -/
namespace Go.Proofs.Ytcidgbjgeegepaa
open Go Go.RowKit
section
variable {P : Program} {w w₀ : World} {ρ : Operand → Value} {d : Option Tmp} {ty : TypeId} {ps : String} {af : Array Edge} {g : Option (Nat × Bool)} {L : Heap}
theorem o_copyG {x y : Operand} {t t2 e : TypeId} {ats : Array TypeId} {n cap B s lo dn dc k m c b off : Nat} {xs news xs' : List Value} (i : Nat) (hi : lk L i = some (.row (.slice (some ⟨B, 0, none⟩) n cap) e s n xs)) (hx : ρ x = .slice (some ⟨B, lo, none⟩) dn dc) (hlo : lo + k * s ≤ n * s) (hy : ρ y = .slice (some ⟨b, off, none⟩) m c) (hat : ats = #[t, t2])
    (ht : sliOf P t = some e) (hs : szOf P e = some s) (hk : min m dn = k) (hlen : news.length = k * s) (hcell : ∀ j u, news[j]? = some u → w.cell? ⟨b, off + j, none⟩ = some u) (hone : ∀ u ∈ news, u.oneCell' = true) (hxs : xs.take lo ++ news ++ xs.drop (lo + news.length) = xs') (hm : MemOk w₀ L w) :
    ∃ w', (execOp ρ (mk d (.call { callee := .builtin .copy, args := #[x, y], argTypes := ats }) ty ps af g)).run P w = .ok (.value (.int .i64 (k : Nat))) w' ∧ MemOk w₀ ((i, .row (.slice (some ⟨B, 0, none⟩) n cap) e s n xs') :: L) w' := by
  subst hat hxs
  have hrow := hm.row i hi
  obtain ⟨ti, hti, hsz⟩ := Option.map_eq_some_iff.1 hs
  suffices hg : ∃ w', (Builtin.copy_ #[t, t2] ty #[.slice (some ⟨B, lo, none⟩) dn dc, .slice (some ⟨b, off, none⟩) m c]).run P w = .ok (.int .i64 (k : Nat)) w' ∧ MemOk w₀ ((i, .row (.slice (some ⟨B, 0, none⟩) n cap) e s n (xs.take lo ++ news ++ xs.drop (lo + news.length))) :: L) w' by
    obtain ⟨w', h1, h2⟩ := hg
    refine ⟨w', ?_, h2⟩
    rw [run_builtin]
    simp only [List.map_toArray, List.map_cons, List.map_nil, hx, hy]
    exact run_v h1
  rcases hrow.2 with ⟨h1, _⟩ | ⟨g, cap', cur, h1, hbg, hg, hnc, hcm, hcs, htk⟩
  · cases h1
  · cases h1
    have hle := Nat.mul_le_mul_right s hnc
    have hld := run_loadCells_list (P := P) w ⟨b, off, none⟩ news (fun j u hu => by rw [addr_add]; exact hcell j u hu)
    have hst := run_storeCells_at P B lo e news 0 cur w hg (by omega) hone
    have hr : (Builtin.copy_ #[t, t2] ty #[.slice (some ⟨B, lo, none⟩) dn dc, .slice (some ⟨b, off, none⟩) m c]).run P w = .ok (.int .i64 (k : Nat)) (w.setRow B (cur.toList.take lo ++ news ++ cur.toList.drop (lo + news.length)).toArray) := by
      simp only [Nat.add_zero] at hst
      have hk' : Nat.min m dn = k := hk
      simp [Builtin.copy_, run_underlying (und_sli ht), Builtin.lenOf, Builtin.firstCells, sizeOf, typeInfo, hti, hsz, goInt, hk', ← hlen, hld]
      simp at hst
      rw [hst]
      rfl
    have hcl : cur.toList.length = cap * s := by rw [Array.length_toList]; exact hcs
    have hxl : xs = cur.toList.take (n * s) := htk.symm
    refine ⟨_, hr, ?_⟩
    refine hm.grow (.inl hi) ⟨rfl, rfl, rfl, by simp, fun k _ hk => setRow_other w B k _ (fun e => hk (by simp [Value.ownBlock, e]))⟩ ⟨?_, .inr ⟨B, cap, _, rfl, hbg, setRow_heap w B cur _ e _ hg, hnc, hcm, ?_, ?_⟩⟩ (.inl rfl)
    · rw [List.length_append, List.length_append, List.length_take, List.length_drop, hrow.1]; omega
    · simp only [List.size_toArray, List.length_append, List.length_take, List.length_drop, hcl]
      omega
    · have hA : (cur.toList.take lo ++ news).length = lo + news.length := by rw [List.length_append, List.length_take]; omega
      show ((cur.toList.take lo ++ news) ++ cur.toList.drop (lo + news.length)).take (n * s) = _
      rw [hxl, List.take_take, Nat.min_eq_left (show lo ≤ n * s by omega), List.drop_take, List.take_append, hA, List.take_of_length_le (by rw [hA]; omega)]
end
end Go.Proofs.Ytcidgbjgeegepaa
/- slices.Repeat: what it has made so far. Over any program. -/
namespace Go.Proofs.Ytcidgbjgeegepaa
open Go Go.RowKit
/-- k elements u, of n; the others z. -/
def repG {α : Type} (z u : α) (k n : Nat) : List α := List.replicate k u ++ List.replicate (n - k) z
section
variable {α : Type} {f : α → List Value} {s : Nat}
theorem repG_zero (z u : α) (n : Nat) : repG z u 0 n = List.replicate n z := by simp [repG]
theorem repG_all (z u : α) (n : Nat) : repG z u n n = List.replicate n u := by simp [repG]
theorem rep_len (hf : ∀ x, (f x).length = s) (u : α) (m : Nat) : ((List.replicate m u).flatMap f).length = m * s := by rw [flat_length hf, List.length_replicate]
theorem rep_copy (hf : ∀ x, (f x).length = s) (z u : α) {k m n : Nat} (h : k + m ≤ n) : ((repG z u k n).flatMap f).take (k * s) ++ (List.replicate m u).flatMap f ++ ((repG z u k n).flatMap f).drop (k * s + ((List.replicate m u).flatMap f).length) = (repG z u (k + m) n).flatMap f := by
  have e : List.replicate (n - k) z = List.replicate m z ++ List.replicate (n - (k + m)) z := by rw [List.replicate_append_replicate]; congr 1; omega
  unfold repG
  rw [e, List.flatMap_append, List.flatMap_append, List.take_left' (rep_len hf u k), rep_len hf, ← List.append_assoc, List.drop_left' (by rw [List.length_append, rep_len hf, rep_len hf])]
  rw [List.flatMap_append, ← List.flatMap_append (xs := List.replicate k u), List.replicate_append_replicate]
theorem rep_cell {w : World} {base n cap B : Nat} {e : TypeId} {xs : List Value} (h : w.ownsRow base e s (.slice (some ⟨B, 0, none⟩) n cap) n xs) {j : Nat} {u : Value} (hj : xs[j]? = some u) : w.cell? ⟨B, 0 + j, none⟩ = some u := by
  rcases h.2 with ⟨h1, _⟩ | ⟨g, cap', cur, h1, _, hg, _, _, _, htk⟩
  · cases h1
  · cases h1
    refine cell_of hg ?_
    rw [Nat.zero_add, ← Array.getElem?_toList]
    rw [← htk, List.getElem?_take] at hj
    split at hj
    · exact hj
    · cases hj
theorem rep_pre (z u : α) {k m n : Nat} (h : m ≤ k) {j : Nat} {v : Value} (hj : ((List.replicate m u).flatMap f)[j]? = some v) : ((repG z u k n).flatMap f)[j]? = some v := by
  have e : List.replicate k u = List.replicate m u ++ List.replicate (k - m) u := by rw [List.replicate_append_replicate]; congr 1; omega
  unfold repG
  rw [e, List.append_assoc, List.flatMap_append, List.getElem?_append_left (List.getElem?_eq_some_iff.1 hj).1]
  exact hj
theorem rep_ones (ho : ∀ x, ∀ v ∈ f x, v.oneCell' = true) (u : α) (m : Nat) : ∀ v ∈ (List.replicate m u).flatMap f, v.oneCell' = true := fun v hv => by
  obtain ⟨x, _, hx⟩ := List.mem_flatMap.1 hv
  exact ho x v hx
theorem rep_one {u : α} {j : Nat} {v : Value} (hj : ((List.replicate 1 u).flatMap f)[j]? = some v) : (f u).toArray[0 + j]? = some v := by
  have e : (List.replicate 1 u).flatMap f = f u := by simp
  rw [e] at hj
  rw [Nat.zero_add, List.getElem?_toArray]; exact hj
theorem rep_first (hf : ∀ x, (f x).length = s) (z u : α) {n : Nat} (hn : 1 ≤ n) : ((List.replicate n z).flatMap f).take 0 ++ (List.replicate 1 u).flatMap f ++ ((List.replicate n z).flatMap f).drop (0 + ((List.replicate 1 u).flatMap f).length) = (repG z u 1 n).flatMap f := by
  have := rep_copy hf z u (k := 0) (m := 1) (n := n) (by omega)
  rw [repG_zero] at this
  simpa using this
end
end Go.Proofs.Ytcidgbjgeegepaa
/- net and journal: slices.Repeat; Empty. Printed by a program of this seat's prover. -/
namespace Go.Proofs.Ytcidgbjgeegepaa
open Go Go.RowKit
set_option maxRecDepth 10000
abbrev trk0 : Trk := ⟨0, 0, 0, 0⟩

theorem mul64_b (n : Nat) (hn : n ≤ 70) (w : World) : Calls Try.prog 120 #[.int .u64 1, .int .u64 ((BitVec.ofNat 64 n).toNat : Int)] w fun e w' => e = .returned (.tuple #[.int .u64 0, .int .u64 (n : Int)]) ∧ Below w.heap.size w w' := by
  refine calls_of_T (l := [.int .u64 1, .int .u64 ((BitVec.ofNat 64 n).toNat : Int)]) 51 Try.func120 rfl rfl rfl ?_
  show T _ _ _ [(0, .int .u64 1), (1, .int .u64 ((BitVec.ofNat 64 n).toNat : Int))] []
  refine T_seq (T_region ?_)
  refine TL_q (.int .u64 0) (fun _ _ hρ _ => r_assign (hρ _ _ rfl)) rfl rfl rfl (w_n rfl) ?_
  refine TL_q (.int .u64 0) (fun _ _ hρ _ => r_assign (hρ _ _ rfl)) rfl rfl rfl (w_n rfl) ?_
  refine TL_seq ?_
  refine T_seq (T_region ?_)
  refine TL_q (.int .u64 1) (fun _ _ hρ _ => r_move (hρ _ _ rfl)) rfl rfl rfl (w_n rfl) ?_
  refine TL_q (.int .u64 1) (fun _ _ hρ _ => r_as (r_andB (k := .u64) (a := (1#64)) (b := (4294967295#64)) rfl (hρ _ _ rfl) (hρ _ _ rfl)) (by rfl)) rfl rfl rfl (w_n rfl) ?_
  refine TL_q (.int .u64 1) (fun _ _ hρ _ => r_assign (hρ _ _ rfl)) rfl rfl rfl (w_n rfl) ?_
  refine TL_seq ?_
  refine T_seq (T_region ?_)
  refine TL_q (.int .u64 1) (fun _ _ hρ _ => r_move (hρ _ _ rfl)) rfl rfl rfl (w_n rfl) ?_
  refine TL_q (.int .u64 0) (fun _ _ hρ _ => r_as (r_shrB (k := .u64) (a := (1#64)) (n := 32) (by decide) (hρ _ _ rfl) (hρ _ _ rfl)) (by rfl)) rfl rfl rfl (w_n rfl) ?_
  refine TL_q (.int .u64 0) (fun _ _ hρ _ => r_assign (hρ _ _ rfl)) rfl rfl rfl (w_n rfl) ?_
  refine TL_seq ?_
  refine T_seq (T_region ?_)
  refine TL_q (.int .u64 ((BitVec.ofNat 64 n).toNat : Int)) (fun _ _ hρ _ => r_move (hρ _ _ rfl)) rfl rfl rfl (w_n rfl) ?_
  refine TL_q (.int .u64 (((BitVec.ofNat 64 n) &&& (4294967295#64)).toNat : Int)) (fun _ _ hρ _ => r_andB (k := .u64) (a := (BitVec.ofNat 64 n)) (b := (4294967295#64)) rfl (hρ _ _ rfl) (hρ _ _ rfl)) rfl rfl rfl (w_n rfl) ?_
  refine TL_q (.int .u64 (((BitVec.ofNat 64 n) &&& (4294967295#64)).toNat : Int)) (fun _ _ hρ _ => r_assign (hρ _ _ rfl)) rfl rfl rfl (w_n rfl) ?_
  refine TL_seq ?_
  refine T_seq (T_region ?_)
  refine TL_q (.int .u64 ((BitVec.ofNat 64 n).toNat : Int)) (fun _ _ hρ _ => r_move (hρ _ _ rfl)) rfl rfl rfl (w_n rfl) ?_
  refine TL_q (.int .u64 (((BitVec.ofNat 64 n) >>> 32).toNat : Int)) (fun _ _ hρ _ => r_shrB (k := .u64) (a := (BitVec.ofNat 64 n)) (n := 32) (by decide) (hρ _ _ rfl) (hρ _ _ rfl)) rfl rfl rfl (w_n rfl) ?_
  refine TL_q (.int .u64 (((BitVec.ofNat 64 n) >>> 32).toNat : Int)) (fun _ _ hρ _ => r_assign (hρ _ _ rfl)) rfl rfl rfl (w_n rfl) ?_
  refine TL_seq ?_
  refine T_seq (T_region ?_)
  refine TL_q (.int .u64 1) (fun _ _ hρ _ => r_move (hρ _ _ rfl)) rfl rfl rfl (w_n rfl) ?_
  refine TL_q (.int .u64 (((BitVec.ofNat 64 n) &&& (4294967295#64)).toNat : Int)) (fun _ _ hρ _ => r_move (hρ _ _ rfl)) rfl rfl rfl (w_n rfl) ?_
  refine TL_q (.int .u64 (((1#64) * ((BitVec.ofNat 64 n) &&& (4294967295#64))).toNat : Int)) (fun _ _ hρ _ => r_mulB (k := .u64) (a := (1#64)) (b := ((BitVec.ofNat 64 n) &&& (4294967295#64))) rfl (hρ _ _ rfl) (hρ _ _ rfl)) rfl rfl rfl (w_n rfl) ?_
  refine TL_q (.int .u64 (((1#64) * ((BitVec.ofNat 64 n) &&& (4294967295#64))).toNat : Int)) (fun _ _ hρ _ => r_assign (hρ _ _ rfl)) rfl rfl rfl (w_n rfl) ?_
  refine TL_seq ?_
  refine T_seq (T_region ?_)
  refine TL_q (.int .u64 0) (fun _ _ hρ _ => r_move (hρ _ _ rfl)) rfl rfl rfl (w_n rfl) ?_
  refine TL_q (.int .u64 (((BitVec.ofNat 64 n) &&& (4294967295#64)).toNat : Int)) (fun _ _ hρ _ => r_move (hρ _ _ rfl)) rfl rfl rfl (w_n rfl) ?_
  refine TL_q (.int .u64 (((0#64) * ((BitVec.ofNat 64 n) &&& (4294967295#64))).toNat : Int)) (fun _ _ hρ _ => r_mulB (k := .u64) (a := (0#64)) (b := ((BitVec.ofNat 64 n) &&& (4294967295#64))) rfl (hρ _ _ rfl) (hρ _ _ rfl)) rfl rfl rfl (w_n rfl) ?_
  refine TL_q (.int .u64 (((1#64) * ((BitVec.ofNat 64 n) &&& (4294967295#64))).toNat : Int)) (fun _ _ hρ _ => r_move (hρ _ _ rfl)) rfl rfl rfl (w_n rfl) ?_
  refine TL_q (.int .u64 ((((1#64) * ((BitVec.ofNat 64 n) &&& (4294967295#64))) >>> 32).toNat : Int)) (fun _ _ hρ _ => r_shrB (k := .u64) (a := ((1#64) * ((BitVec.ofNat 64 n) &&& (4294967295#64)))) (n := 32) (by decide) (hρ _ _ rfl) (hρ _ _ rfl)) rfl rfl rfl (w_n rfl) ?_
  refine TL_q (.int .u64 ((((0#64) * ((BitVec.ofNat 64 n) &&& (4294967295#64))) + (((1#64) * ((BitVec.ofNat 64 n) &&& (4294967295#64))) >>> 32)).toNat : Int)) (fun _ _ hρ _ => r_addB (k := .u64) (a := ((0#64) * ((BitVec.ofNat 64 n) &&& (4294967295#64)))) (b := (((1#64) * ((BitVec.ofNat 64 n) &&& (4294967295#64))) >>> 32)) rfl (hρ _ _ rfl) (hρ _ _ rfl)) rfl rfl rfl (w_n rfl) ?_
  refine TL_q (.int .u64 ((((0#64) * ((BitVec.ofNat 64 n) &&& (4294967295#64))) + (((1#64) * ((BitVec.ofNat 64 n) &&& (4294967295#64))) >>> 32)).toNat : Int)) (fun _ _ hρ _ => r_assign (hρ _ _ rfl)) rfl rfl rfl (w_n rfl) ?_
  refine TL_seq ?_
  refine T_seq (T_region ?_)
  refine TL_q (.int .u64 ((((0#64) * ((BitVec.ofNat 64 n) &&& (4294967295#64))) + (((1#64) * ((BitVec.ofNat 64 n) &&& (4294967295#64))) >>> 32)).toNat : Int)) (fun _ _ hρ _ => r_move (hρ _ _ rfl)) rfl rfl rfl (w_n rfl) ?_
  refine TL_q (.int .u64 (((((0#64) * ((BitVec.ofNat 64 n) &&& (4294967295#64))) + (((1#64) * ((BitVec.ofNat 64 n) &&& (4294967295#64))) >>> 32)) &&& (4294967295#64)).toNat : Int)) (fun _ _ hρ _ => r_andB (k := .u64) (a := (((0#64) * ((BitVec.ofNat 64 n) &&& (4294967295#64))) + (((1#64) * ((BitVec.ofNat 64 n) &&& (4294967295#64))) >>> 32))) (b := (4294967295#64)) rfl (hρ _ _ rfl) (hρ _ _ rfl)) rfl rfl rfl (w_n rfl) ?_
  refine TL_q (.int .u64 (((((0#64) * ((BitVec.ofNat 64 n) &&& (4294967295#64))) + (((1#64) * ((BitVec.ofNat 64 n) &&& (4294967295#64))) >>> 32)) &&& (4294967295#64)).toNat : Int)) (fun _ _ hρ _ => r_assign (hρ _ _ rfl)) rfl rfl rfl (w_n rfl) ?_
  refine TL_seq ?_
  refine T_seq (T_region ?_)
  refine TL_q (.int .u64 ((((0#64) * ((BitVec.ofNat 64 n) &&& (4294967295#64))) + (((1#64) * ((BitVec.ofNat 64 n) &&& (4294967295#64))) >>> 32)).toNat : Int)) (fun _ _ hρ _ => r_move (hρ _ _ rfl)) rfl rfl rfl (w_n rfl) ?_
  refine TL_q (.int .u64 (((((0#64) * ((BitVec.ofNat 64 n) &&& (4294967295#64))) + (((1#64) * ((BitVec.ofNat 64 n) &&& (4294967295#64))) >>> 32)) >>> 32).toNat : Int)) (fun _ _ hρ _ => r_shrB (k := .u64) (a := (((0#64) * ((BitVec.ofNat 64 n) &&& (4294967295#64))) + (((1#64) * ((BitVec.ofNat 64 n) &&& (4294967295#64))) >>> 32))) (n := 32) (by decide) (hρ _ _ rfl) (hρ _ _ rfl)) rfl rfl rfl (w_n rfl) ?_
  refine TL_q (.int .u64 (((((0#64) * ((BitVec.ofNat 64 n) &&& (4294967295#64))) + (((1#64) * ((BitVec.ofNat 64 n) &&& (4294967295#64))) >>> 32)) >>> 32).toNat : Int)) (fun _ _ hρ _ => r_assign (hρ _ _ rfl)) rfl rfl rfl (w_n rfl) ?_
  refine TL_seq ?_
  refine T_sub [(0, .int .u64 1), (1, .int .u64 ((BitVec.ofNat 64 n).toNat : Int)), (4, .int .u64 0), (5, .int .u64 0), (6, .int .u64 1), (7, .int .u64 0), (9, .int .u64 (((BitVec.ofNat 64 n) >>> 32).toNat : Int)), (12, .int .u64 (((((0#64) * ((BitVec.ofNat 64 n) &&& (4294967295#64))) + (((1#64) * ((BitVec.ofNat 64 n) &&& (4294967295#64))) >>> 32)) &&& (4294967295#64)).toNat : Int)), (13, .int .u64 (((((0#64) * ((BitVec.ofNat 64 n) &&& (4294967295#64))) + (((1#64) * ((BitVec.ofNat 64 n) &&& (4294967295#64))) >>> 32)) >>> 32).toNat : Int))] [] (sub_cons rfl (sub_cons rfl (sub_cons rfl (sub_cons rfl (sub_cons rfl (sub_cons rfl (sub_cons rfl (sub_cons rfl (sub_cons rfl sub_nil))))))))) sub_nil ?_
  refine T_seq (T_region ?_)
  refine TL_q (.int .u64 (((((0#64) * ((BitVec.ofNat 64 n) &&& (4294967295#64))) + (((1#64) * ((BitVec.ofNat 64 n) &&& (4294967295#64))) >>> 32)) &&& (4294967295#64)).toNat : Int)) (fun _ _ hρ _ => r_move (hρ _ _ rfl)) rfl rfl rfl (w_n rfl) ?_
  refine TL_q (.int .u64 1) (fun _ _ hρ _ => r_move (hρ _ _ rfl)) rfl rfl rfl (w_n rfl) ?_
  refine TL_q (.int .u64 (((BitVec.ofNat 64 n) >>> 32).toNat : Int)) (fun _ _ hρ _ => r_move (hρ _ _ rfl)) rfl rfl rfl (w_n rfl) ?_
  refine TL_q (.int .u64 (((1#64) * ((BitVec.ofNat 64 n) >>> 32)).toNat : Int)) (fun _ _ hρ _ => r_mulB (k := .u64) (a := (1#64)) (b := ((BitVec.ofNat 64 n) >>> 32)) rfl (hρ _ _ rfl) (hρ _ _ rfl)) rfl rfl rfl (w_n rfl) ?_
  refine TL_q (.int .u64 ((((((0#64) * ((BitVec.ofNat 64 n) &&& (4294967295#64))) + (((1#64) * ((BitVec.ofNat 64 n) &&& (4294967295#64))) >>> 32)) &&& (4294967295#64)) + ((1#64) * ((BitVec.ofNat 64 n) >>> 32))).toNat : Int)) (fun _ _ hρ _ => r_addB (k := .u64) (a := ((((0#64) * ((BitVec.ofNat 64 n) &&& (4294967295#64))) + (((1#64) * ((BitVec.ofNat 64 n) &&& (4294967295#64))) >>> 32)) &&& (4294967295#64))) (b := ((1#64) * ((BitVec.ofNat 64 n) >>> 32))) rfl (hρ _ _ rfl) (hρ _ _ rfl)) rfl rfl rfl (w_n rfl) ?_
  refine TL_q (.int .u64 ((((((0#64) * ((BitVec.ofNat 64 n) &&& (4294967295#64))) + (((1#64) * ((BitVec.ofNat 64 n) &&& (4294967295#64))) >>> 32)) &&& (4294967295#64)) + ((1#64) * ((BitVec.ofNat 64 n) >>> 32))).toNat : Int)) (fun _ _ hρ _ => r_assign (hρ _ _ rfl)) rfl rfl rfl (w_n rfl) ?_
  refine TL_seq ?_
  refine T_seq (T_region ?_)
  refine TL_q (.int .u64 0) (fun _ _ hρ _ => r_move (hρ _ _ rfl)) rfl rfl rfl (w_n rfl) ?_
  refine TL_q (.int .u64 (((BitVec.ofNat 64 n) >>> 32).toNat : Int)) (fun _ _ hρ _ => r_move (hρ _ _ rfl)) rfl rfl rfl (w_n rfl) ?_
  refine TL_q (.int .u64 (((0#64) * ((BitVec.ofNat 64 n) >>> 32)).toNat : Int)) (fun _ _ hρ _ => r_mulB (k := .u64) (a := (0#64)) (b := ((BitVec.ofNat 64 n) >>> 32)) rfl (hρ _ _ rfl) (hρ _ _ rfl)) rfl rfl rfl (w_n rfl) ?_
  refine TL_q (.int .u64 (((((0#64) * ((BitVec.ofNat 64 n) &&& (4294967295#64))) + (((1#64) * ((BitVec.ofNat 64 n) &&& (4294967295#64))) >>> 32)) >>> 32).toNat : Int)) (fun _ _ hρ _ => r_move (hρ _ _ rfl)) rfl rfl rfl (w_n rfl) ?_
  refine TL_q (.int .u64 ((((0#64) * ((BitVec.ofNat 64 n) >>> 32)) + ((((0#64) * ((BitVec.ofNat 64 n) &&& (4294967295#64))) + (((1#64) * ((BitVec.ofNat 64 n) &&& (4294967295#64))) >>> 32)) >>> 32)).toNat : Int)) (fun _ _ hρ _ => r_addB (k := .u64) (a := ((0#64) * ((BitVec.ofNat 64 n) >>> 32))) (b := ((((0#64) * ((BitVec.ofNat 64 n) &&& (4294967295#64))) + (((1#64) * ((BitVec.ofNat 64 n) &&& (4294967295#64))) >>> 32)) >>> 32)) rfl (hρ _ _ rfl) (hρ _ _ rfl)) rfl rfl rfl (w_n rfl) ?_
  refine TL_q (.int .u64 ((((((0#64) * ((BitVec.ofNat 64 n) &&& (4294967295#64))) + (((1#64) * ((BitVec.ofNat 64 n) &&& (4294967295#64))) >>> 32)) &&& (4294967295#64)) + ((1#64) * ((BitVec.ofNat 64 n) >>> 32))).toNat : Int)) (fun _ _ hρ _ => r_move (hρ _ _ rfl)) rfl rfl rfl (w_n rfl) ?_
  refine TL_q (.int .u64 (((((((0#64) * ((BitVec.ofNat 64 n) &&& (4294967295#64))) + (((1#64) * ((BitVec.ofNat 64 n) &&& (4294967295#64))) >>> 32)) &&& (4294967295#64)) + ((1#64) * ((BitVec.ofNat 64 n) >>> 32))) >>> 32).toNat : Int)) (fun _ _ hρ _ => r_shrB (k := .u64) (a := (((((0#64) * ((BitVec.ofNat 64 n) &&& (4294967295#64))) + (((1#64) * ((BitVec.ofNat 64 n) &&& (4294967295#64))) >>> 32)) &&& (4294967295#64)) + ((1#64) * ((BitVec.ofNat 64 n) >>> 32)))) (n := 32) (by decide) (hρ _ _ rfl) (hρ _ _ rfl)) rfl rfl rfl (w_n rfl) ?_
  refine TL_q (.int .u64 (((((0#64) * ((BitVec.ofNat 64 n) >>> 32)) + ((((0#64) * ((BitVec.ofNat 64 n) &&& (4294967295#64))) + (((1#64) * ((BitVec.ofNat 64 n) &&& (4294967295#64))) >>> 32)) >>> 32)) + ((((((0#64) * ((BitVec.ofNat 64 n) &&& (4294967295#64))) + (((1#64) * ((BitVec.ofNat 64 n) &&& (4294967295#64))) >>> 32)) &&& (4294967295#64)) + ((1#64) * ((BitVec.ofNat 64 n) >>> 32))) >>> 32)).toNat : Int)) (fun _ _ hρ _ => r_addB (k := .u64) (a := (((0#64) * ((BitVec.ofNat 64 n) >>> 32)) + ((((0#64) * ((BitVec.ofNat 64 n) &&& (4294967295#64))) + (((1#64) * ((BitVec.ofNat 64 n) &&& (4294967295#64))) >>> 32)) >>> 32))) (b := ((((((0#64) * ((BitVec.ofNat 64 n) &&& (4294967295#64))) + (((1#64) * ((BitVec.ofNat 64 n) &&& (4294967295#64))) >>> 32)) &&& (4294967295#64)) + ((1#64) * ((BitVec.ofNat 64 n) >>> 32))) >>> 32)) rfl (hρ _ _ rfl) (hρ _ _ rfl)) rfl rfl rfl (w_n rfl) ?_
  refine TL_q (.int .u64 (((((0#64) * ((BitVec.ofNat 64 n) >>> 32)) + ((((0#64) * ((BitVec.ofNat 64 n) &&& (4294967295#64))) + (((1#64) * ((BitVec.ofNat 64 n) &&& (4294967295#64))) >>> 32)) >>> 32)) + ((((((0#64) * ((BitVec.ofNat 64 n) &&& (4294967295#64))) + (((1#64) * ((BitVec.ofNat 64 n) &&& (4294967295#64))) >>> 32)) &&& (4294967295#64)) + ((1#64) * ((BitVec.ofNat 64 n) >>> 32))) >>> 32)).toNat : Int)) (fun _ _ hρ _ => r_assign (hρ _ _ rfl)) rfl rfl rfl (w_n rfl) ?_
  refine TL_seq ?_
  refine T_seq (T_region ?_)
  refine TL_q (.int .u64 1) (fun _ _ hρ _ => r_move (hρ _ _ rfl)) rfl rfl rfl (w_n rfl) ?_
  refine TL_q (.int .u64 ((BitVec.ofNat 64 n).toNat : Int)) (fun _ _ hρ _ => r_move (hρ _ _ rfl)) rfl rfl rfl (w_n rfl) ?_
  refine TL_q (.int .u64 (((1#64) * (BitVec.ofNat 64 n)).toNat : Int)) (fun _ _ hρ _ => r_mulB (k := .u64) (a := (1#64)) (b := (BitVec.ofNat 64 n)) rfl (hρ _ _ rfl) (hρ _ _ rfl)) rfl rfl rfl (w_n rfl) ?_
  refine TL_q (.int .u64 (((1#64) * (BitVec.ofNat 64 n)).toNat : Int)) (fun _ _ hρ _ => r_assign (hρ _ _ rfl)) rfl rfl rfl (w_n rfl) ?_
  refine TL_seq ?_
  refine T_ret' ?_
  refine ret_of rfl (.tuple #[.int .u64 (((((0#64) * ((BitVec.ofNat 64 n) >>> 32)) + ((((0#64) * ((BitVec.ofNat 64 n) &&& (4294967295#64))) + (((1#64) * ((BitVec.ofNat 64 n) &&& (4294967295#64))) >>> 32)) >>> 32)) + ((((((0#64) * ((BitVec.ofNat 64 n) &&& (4294967295#64))) + (((1#64) * ((BitVec.ofNat 64 n) &&& (4294967295#64))) >>> 32)) &&& (4294967295#64)) + ((1#64) * ((BitVec.ofNat 64 n) >>> 32))) >>> 32)).toNat : Int), .int .u64 (((1#64) * (BitVec.ofNat 64 n)).toNat : Int)]) (fun tmps w hk hm => res2 rfl (res_tmp (hk 4 _ rfl)) (res_tmp (hk 5 _ rfl))) (fun w hm => ?_)
  have key : ∀ m : Fin 71, ((((((0#64) * ((BitVec.ofNat 64 m.val) >>> 32)) + ((((0#64) * ((BitVec.ofNat 64 m.val) &&& (4294967295#64))) + (((1#64) * ((BitVec.ofNat 64 m.val) &&& (4294967295#64))) >>> 32)) >>> 32)) + ((((((0#64) * ((BitVec.ofNat 64 m.val) &&& (4294967295#64))) + (((1#64) * ((BitVec.ofNat 64 m.val) &&& (4294967295#64))) >>> 32)) &&& (4294967295#64)) + ((1#64) * ((BitVec.ofNat 64 m.val) >>> 32))) >>> 32)).toNat : Int) : Int) = 0 ∧ ((((1#64) * (BitVec.ofNat 64 m.val)).toNat : Int) : Int) = ((m.val : Nat) : Int) := by decide +kernel
  have k1 : ((((((0#64) * ((BitVec.ofNat 64 n) >>> 32)) + ((((0#64) * ((BitVec.ofNat 64 n) &&& (4294967295#64))) + (((1#64) * ((BitVec.ofNat 64 n) &&& (4294967295#64))) >>> 32)) >>> 32)) + ((((((0#64) * ((BitVec.ofNat 64 n) &&& (4294967295#64))) + (((1#64) * ((BitVec.ofNat 64 n) &&& (4294967295#64))) >>> 32)) &&& (4294967295#64)) + ((1#64) * ((BitVec.ofNat 64 n) >>> 32))) >>> 32)).toNat : Int) : Int) = 0 := (key ⟨n, by omega⟩).1
  have k2 : ((((1#64) * (BitVec.ofNat 64 n)).toNat : Int) : Int) = ((n : Nat) : Int) := (key ⟨n, by omega⟩).2
  exact ⟨by rw [k1, k2], hm.ext⟩

theorem mul64_c (n : Nat) (hn : n ≤ 70) (w : World) : Calls Try.prog 120 #[.int .u64 1, .int .u64 (n : Int)] w fun e w' => e = .returned (.tuple #[.int .u64 0, .int .u64 (n : Int)]) ∧ Below w.heap.size w w' := by
  have h := mul64_b n hn w
  rwa [show ((BitVec.ofNat 64 n).toNat : Int) = n from by rw [BitVec.toNat_ofNat, Nat.mod_eq_of_lt (by omega)]] at h

theorem mul_c (n : Nat) (hn : n ≤ 70) (w : World) : Calls Try.prog 102 #[.int .u64 1, .int .u64 (n : Int)] w fun e w' => e = .returned (.tuple #[.int .u64 0, .int .u64 (n : Int)]) ∧ Below w.heap.size w w' := by
  refine calls_of_T (l := [.int .u64 1, .int .u64 ((n : Nat) : Int)]) 30 Try.func102 rfl rfl rfl ?_
  show T _ _ _ [(0, .int .u64 1), (1, .int .u64 ((n : Nat) : Int))] []
  refine T_seq (T_region ?_)
  refine TL_q (.int .u64 0) (fun _ _ hρ _ => r_assign (hρ _ _ rfl)) rfl rfl rfl (w_n rfl) ?_
  refine TL_q (.int .u64 0) (fun _ _ hρ _ => r_assign (hρ _ _ rfl)) rfl rfl rfl (w_n rfl) ?_
  refine TL_seq ?_
  refine T_seq ?_
  refine T_cond_f rfl ?_
  refine T_skip' ?_
  refine p_seq ?_
  refine T_seq (T_region ?_)
  refine TL_q (.int .u64 1) (fun _ _ hρ _ => r_move (hρ _ _ rfl)) rfl rfl rfl (w_n rfl) ?_
  refine TL_q (.int .u64 ((n : Nat) : Int)) (fun _ _ hρ _ => r_move (hρ _ _ rfl)) rfl rfl rfl (w_n rfl) ?_
  refine TL_call (.tuple #[.int .u64 0, .int .u64 ((n : Nat) : Int)]) (fun _ _ hρ _ => r_call (args := [.int .u64 1, .int .u64 ((n : Nat) : Int)]) (enters_of Try.func120 (by kernel_rfl) rfl) (hρ _ _ rfl) ((cons2 (hρ _ _ rfl) (cons2 (hρ _ _ rfl) rfl))) rfl) (fun w _ => mul64_c n (by omega) w) rfl rfl rfl (w_n rfl) ?_
  refine TL_q (.tuple #[.int .u64 0, .int .u64 ((n : Nat) : Int)]) (fun _ _ hρ _ => r_move (hρ _ _ rfl)) rfl rfl rfl (w_n rfl) ?_
  refine TL_q (.int .u64 0) (fun _ _ hρ _ => r_extract (hρ _ _ rfl) rfl) rfl rfl rfl (w_n rfl) ?_
  refine TL_q (.int .u64 ((n : Nat) : Int)) (fun _ _ hρ _ => r_extract (hρ _ _ rfl) rfl) rfl rfl rfl (w_n rfl) ?_
  refine TL_q (.int .u64 0) (fun _ _ hρ _ => r_assign (hρ _ _ rfl)) rfl rfl rfl (w_n rfl) ?_
  refine TL_q (.int .u64 ((n : Nat) : Int)) (fun _ _ hρ _ => r_assign (hρ _ _ rfl)) rfl rfl rfl (w_n rfl) ?_
  refine TL_seq ?_
  refine T_seq (T_region ?_)
  refine TL_q (.int .u64 0) (fun _ _ hρ _ => r_move (hρ _ _ rfl)) rfl rfl rfl (w_n rfl) ?_
  refine TL_q (.int .u64 ((n : Nat) : Int)) (fun _ _ hρ _ => r_move (hρ _ _ rfl)) rfl rfl rfl (w_n rfl) ?_
  refine TL_q (.int .u64 0) (fun _ _ hρ _ => r_assign (hρ _ _ rfl)) rfl rfl rfl (w_n rfl) ?_
  refine TL_q (.int .u64 ((n : Nat) : Int)) (fun _ _ hρ _ => r_assign (hρ _ _ rfl)) rfl rfl rfl (w_n rfl) ?_
  refine TL_seq ?_
  refine T_ret' ?_
  refine ret_of rfl (.tuple #[.int .u64 0, .int .u64 ((n : Nat) : Int)]) (fun tmps w hk hm => res2 rfl (res_tmp (hk 4 _ rfl)) (res_tmp (hk 5 _ rfl))) (fun w hm => ?_)
  exact ⟨rfl, hm.ext⟩

theorem rep_t (c : Trk) (n bx : Nat) (w : World) (hn1 : 1 ≤ n) (hn : n ≤ 70) (hb : hp w bx = some (.cells (Trk.cells c).toArray 48)) : Calls Try.prog 67 #[.slice (some ⟨bx, 0, none⟩) 1 1, .int .i64 (n : Int)] w fun e w' => ∃ a' cap', e = .returned (.slice a' (List.replicate n c).length cap') ∧ Below w.heap.size w w' ∧ w'.ownsRow w.heap.size 48 4 (.slice a' (List.replicate n c).length cap') (List.replicate n c).length ((List.replicate n c).flatMap Trk.cells) := by
  refine calls_of_T (l := [.slice (some ⟨bx, 0, none⟩) 1 1, .int .i64 ((n : Nat) : Int)]) 48 Try.func67 rfl rfl rfl ?_
  show T _ _ _ [(0, .slice (some ⟨bx, 0, none⟩) 1 1), (1, .int .i64 ((n : Nat) : Int))] []
  refine T_seq (T_region ?_)
  refine TL_q (.slice none 0 0) (fun _ _ hρ _ => r_assign (hρ _ _ rfl)) rfl rfl rfl (w_n rfl) ?_
  refine TL_seq ?_
  refine T_seq ?_
  refine T_seq (T_region ?_)
  refine TL_q (.int .i64 ((n : Nat) : Int)) (fun _ _ hρ _ => r_move (hρ _ _ rfl)) rfl rfl rfl (w_n rfl) ?_
  refine TL_q (.bool false) (fun _ _ hρ _ => r_as (r_lss (hρ _ _ rfl) (hρ _ _ rfl)) (bool_as (decide_eq_false (by omega)))) rfl rfl rfl (w_n rfl) ?_
  refine TL_seq ?_
  refine T_cond_f rfl ?_
  refine T_skip' ?_
  refine p_seq ?_
  refine T_seq (T_region ?_)
  refine TL_q (.slice (some ⟨bx, 0, none⟩) 1 1) (fun _ _ hρ _ => r_move (hρ _ _ rfl)) rfl rfl rfl (w_n rfl) ?_
  refine TL_q (.int .i64 1) (fun _ _ hρ _ => r_len sl43 (hρ _ _ rfl)) rfl rfl rfl (w_n rfl) ?_
  refine TL_q (.int .u64 1) (fun _ _ hρ _ => r_as (r_conv un3 io80 (hρ _ _ rfl)) (by rfl)) rfl rfl rfl (w_n rfl) ?_
  refine TL_q (.int .i64 ((n : Nat) : Int)) (fun _ _ hρ _ => r_move (hρ _ _ rfl)) rfl rfl rfl (w_n rfl) ?_
  refine TL_q (.int .u64 ((n : Nat) : Int)) (fun _ _ hρ _ => r_as (r_conv un3 io80 (hρ _ _ rfl)) (int_as (wrap_u64 (by omega) (by omega)))) rfl rfl rfl (w_n rfl) ?_
  refine TL_call (.tuple #[.int .u64 0, .int .u64 ((n : Nat) : Int)]) (fun _ _ hρ _ => r_call (args := [.int .u64 1, .int .u64 ((n : Nat) : Int)]) (enters_of Try.func102 (by kernel_rfl) rfl) (hρ _ _ rfl) ((cons2 (hρ _ _ rfl) (cons2 (hρ _ _ rfl) rfl))) rfl) (fun w _ => mul_c n (by omega) w) rfl rfl rfl (w_n rfl) ?_
  refine TL_q (.tuple #[.int .u64 0, .int .u64 ((n : Nat) : Int)]) (fun _ _ hρ _ => r_move (hρ _ _ rfl)) rfl rfl rfl (w_n rfl) ?_
  refine TL_q (.int .u64 0) (fun _ _ hρ _ => r_extract (hρ _ _ rfl) rfl) rfl rfl rfl (w_n rfl) ?_
  refine TL_q (.int .u64 ((n : Nat) : Int)) (fun _ _ hρ _ => r_extract (hρ _ _ rfl) rfl) rfl rfl rfl (w_n rfl) ?_
  refine TL_q (.int .u64 0) (fun _ _ hρ _ => r_assign (hρ _ _ rfl)) rfl rfl rfl (w_n rfl) ?_
  refine TL_q (.int .u64 ((n : Nat) : Int)) (fun _ _ hρ _ => r_assign (hρ _ _ rfl)) rfl rfl rfl (w_n rfl) ?_
  refine TL_seq ?_
  refine T_seq ?_
  refine T_seq (T_region ?_)
  refine TL_q (.int .u64 0) (fun _ _ hρ _ => r_move (hρ _ _ rfl)) rfl rfl rfl (w_n rfl) ?_
  refine TL_q (.bool false) (fun _ _ hρ _ => r_as (r_gtr (hρ _ _ rfl) (hρ _ _ rfl)) (by rfl)) rfl rfl rfl (w_n rfl) ?_
  refine TL_q (.bool false) (fun _ _ hρ _ => r_move (hρ _ _ rfl)) rfl rfl rfl (w_n rfl) ?_
  refine TL_q (.int .u64 ((n : Nat) : Int)) (fun _ _ hρ _ => r_move (hρ _ _ rfl)) rfl rfl rfl (want_y 23 rfl rfl rfl) ?_
  refine TL_q (.bool false) (fun _ _ hρ _ => r_as (r_gtr (hρ _ _ rfl) (hρ _ _ rfl)) (bool_as (decide_eq_false (by omega)))) rfl rfl rfl (want_y 23 rfl rfl rfl) ?_
  refine TL_q (.bool false) (fun _ _ hρ _ => r_pick_f (hρ _ _ rfl) (hρ _ _ rfl)) rfl rfl rfl (w_n rfl) ?_
  refine TL_seq ?_
  refine T_cond_f rfl ?_
  refine T_skip' ?_
  refine p_seq ?_
  refine T_seq (T_region ?_)
  refine TL_q (.int .u64 ((n : Nat) : Int)) (fun _ _ hρ _ => r_move (hρ _ _ rfl)) rfl rfl rfl (w_n rfl) ?_
  refine TL_q (.int .i64 ((n : Nat) : Int)) (fun _ _ hρ _ => r_as (r_conv un80 io3 (hρ _ _ rfl)) (int_as (wrap64 (by omega) (by omega)))) rfl rfl rfl (w_n rfl) ?_
  refine TL_op (ι := Nat) (fun B => .slice (some ⟨B, 0, none⟩) n n) _ (fun _ _ hρ hm => o_make (n := n) (cap := n) (z := .agg #[.int .i64 0, .int .i64 0, .int .i64 0, .int .u32 0]) (f := Trk.cells) (u := trk0) 940 rfl (hρ _ _ rfl) (hρ _ _ rfl) sl43 by48 sz48 rfl (by kernel_rfl) rfl Trk.cells_len (by omega) (by omega) (by omega) hm) rfl rfl rfl (w_n rfl) ?_
  intro B1
  refine TL_q (.slice (some ⟨B1, 0, none⟩) n n) (fun _ _ hρ _ => r_assign (hρ _ _ rfl)) rfl rfl rfl (w_n rfl) ?_
  refine TL_seq ?_
  refine T_seq (T_region ?_)
  refine TL_q (.slice (some ⟨B1, 0, none⟩) n n) (fun _ _ hρ _ => r_move (hρ _ _ rfl)) rfl rfl rfl (w_n rfl) ?_
  refine TL_q (.slice (some ⟨bx, 0, none⟩) 1 1) (fun _ _ hρ _ => r_move (hρ _ _ rfl)) rfl rfl rfl (w_n rfl) ?_
  refine TL_op1 (.int .i64 ((1 : Nat) : Int)) _ (fun _ _ hρ hm => o_copyG (k := 1) (lo := 0) (s := 4) (news := ((List.replicate 1 c).flatMap Trk.cells)) 940 rfl (hρ _ _ rfl) (by omega) (hρ _ _ rfl) rfl sl43 sz48 (by omega) (rep_len Trk.cells_len c 1) (fun j u hj => cell_of (hm.old hb) (rep_one hj)) (rep_ones Trk.cells_one c 1) (rep_first Trk.cells_len trk0 c hn1) hm) rfl rfl rfl (w_n rfl) ?_
  refine TL_q (.int .i64 ((1 : Nat) : Int)) (fun _ _ hρ _ => r_assign (hρ _ _ rfl)) rfl rfl rfl (w_n rfl) ?_
  refine TL_seq ?_
  refine T_seq ?_
  refine T_block ?_
  refine T_loop (ι := Nat) (fun (k : Nat) => 1 ≤ k ∧ k ≤ n) (fun (k : Nat) => [(4, .slice none 0 0), (7, .slice (some ⟨B1, 0, none⟩) n n), (8, .int .i64 ((k : Nat) : Int))]) (fun (k : Nat) => [(940, .row (.slice (some ⟨B1, 0, none⟩) n n) 48 4 n ((repG trk0 c k n).flatMap Trk.cells))]) (fun (k : Nat) => n - k) 1 ⟨Nat.le_refl _, hn1⟩ (sub_cons rfl (sub_cons rfl (sub_cons rfl sub_nil))) (sub_cons rfl sub_nil) ?_
  rintro k hp
  obtain ⟨hk1, hk2⟩ := hp
  show T _ _ _ [(4, .slice none 0 0), (7, .slice (some ⟨B1, 0, none⟩) n n), (8, .int .i64 ((k : Nat) : Int))] [(940, .row (.slice (some ⟨B1, 0, none⟩) n n) 48 4 n ((repG trk0 c k n).flatMap Trk.cells))]
  refine T_seq ?_
  refine T_seq (T_region ?_)
  refine TL_q (.int .i64 ((k : Nat) : Int)) (fun _ _ hρ _ => r_move (hρ _ _ rfl)) rfl rfl rfl (w_n rfl) ?_
  refine TL_q (.slice (some ⟨B1, 0, none⟩) n n) (fun _ _ hρ _ => r_move (hρ _ _ rfl)) rfl rfl rfl (w_n rfl) ?_
  refine TL_q (.int .i64 ((n : Nat) : Int)) (fun _ _ hρ _ => r_len sl43 (hρ _ _ rfl)) rfl rfl rfl (w_n rfl) ?_
  refine TL_q (.bool (decide (((k : Nat) : Int) < ((n : Nat) : Int)))) (fun _ _ hρ _ => r_lss (hρ _ _ rfl) (hρ _ _ rfl)) rfl rfl rfl (w_n rfl) ?_
  refine TL_seq ?_
  refine T_cond rfl (fun h1 => ?_) (fun h1 => ?_)
  · replace h1 := of_decide_eq_true h1
    refine T_skip' ?_
    refine p_seq ?_
    refine T_block ?_
    refine T_draw (V := [(0, .int .i64 ((k : Nat) : Int)), (1, .slice (some ⟨B1, 0, none⟩) n n), (2, .int .i64 ((k : Nat) : Int)), (3, .slice (some ⟨B1, k * 4, none⟩) (n - k) (n - k)), (4, .slice (some ⟨B1, 0, none⟩) n n), (5, .int .i64 ((k : Nat) : Int)), (6, .slice (some ⟨B1, 0, none⟩) k n)]) [0, 0, 0, 6, 0, 0, 48, 126, 255, 511] [[(8, none)], [(7, none)], [(8, none)], [(39, some 1), (40, some 2)], [(7, none)], [(8, none)], [(42, some 4), (43, some 5)], [(41, some 3), (44, some 6)], [(38, some 0), (45, some 7)], [(46, some 8)]] 128 mixed (by kernel_rfl) ?_
    refine G_step [0, 1, 2, 3, 4, 5, 6] 7 [] (by kernel_rfl) (allM (all_cons (q_run (.int .i64 ((k : Nat) : Int)) rfl rfl (wv_n rfl) rfl (fun _ _ hρ _ => r_move (hρ _ _ rfl))) (all_cons (q_run (.slice (some ⟨B1, 0, none⟩) n n) rfl rfl (wv_n rfl) rfl (fun _ _ hρ _ => r_move (hρ _ _ rfl))) (all_cons (q_run (.int .i64 ((k : Nat) : Int)) rfl rfl (wv_n rfl) rfl (fun _ _ hρ _ => r_move (hρ _ _ rfl))) (all_cons (q_run (.slice (some ⟨B1, k * 4, none⟩) (n - k) (n - k)) rfl rfl (wv_n rfl) rfl (fun ρ _ hρ _ => r_as (r_sliceS sl43 sz48 (hρ _ _ rfl) (bd_none ρ _) (bd_none ρ _) (bd_some (n := k) (hρ _ _ rfl)) (by simp) (by omega) (by omega) (by omega)) (by rw [if_neg (by omega), Nat.zero_add]))) (all_cons (q_run (.slice (some ⟨B1, 0, none⟩) n n) rfl rfl (wv_n rfl) rfl (fun _ _ hρ _ => r_move (hρ _ _ rfl))) (all_cons (q_run (.int .i64 ((k : Nat) : Int)) rfl rfl (wv_n rfl) rfl (fun _ _ hρ _ => r_move (hρ _ _ rfl))) (all_cons (q_run (.slice (some ⟨B1, 0, none⟩) k n) rfl rfl (wv_n rfl) rfl (fun ρ _ hρ _ => r_as (r_sliceS sl43 sz48 (hρ _ _ rfl) (bd_none ρ _) (bd_some (n := k) (hρ _ _ rfl)) (bd_none ρ _) (by simp) (by omega) (by omega) (by omega)) (by simp))) all_nil)))))))) (allM (all_cons ?_ all_nil))
    refine LOb_op1 (.int .i64 ((min k (n - k) : Nat) : Int)) _ [(8, .int .i64 ((k + (min k (n - k)) : Nat) : Int)), (9, .int .i64 ((k + (min k (n - k)) : Nat) : Int))] rfl (wv_n rfl) rfl rfl (fun _ _ hρ hm => o_copyG (k := min k (n - k)) (lo := k * 4) (s := 4) (news := ((List.replicate (min k (n - k)) c).flatMap Trk.cells)) 940 rfl (hρ _ _ rfl) (by omega) (hρ _ _ rfl) rfl sl43 sz48 rfl (rep_len Trk.cells_len c _) (fun j u hj => rep_cell (hm.row 940 rfl) (rep_pre trk0 c (by omega) hj)) (rep_ones Trk.cells_one c _) (rep_copy Trk.cells_len trk0 c (by omega)) hm) (by kernel_rfl) ?_
    refine G_lastQ [0, 8, 9] [(4, .slice none 0 0), (7, .slice (some ⟨B1, 0, none⟩) n n), (34, .int .i64 ((k : Nat) : Int)), (35, .slice (some ⟨B1, 0, none⟩) n n), (36, .int .i64 ((n : Nat) : Int)), (37, .bool (decide (((k : Nat) : Int) < ((n : Nat) : Int)))), (38, .int .i64 ((k : Nat) : Int)), (39, .slice (some ⟨B1, 0, none⟩) n n), (40, .int .i64 ((k : Nat) : Int)), (41, .slice (some ⟨B1, k * 4, none⟩) (n - k) (n - k)), (42, .slice (some ⟨B1, 0, none⟩) n n), (43, .int .i64 ((k : Nat) : Int)), (44, .slice (some ⟨B1, 0, none⟩) k n), (45, .int .i64 ((min k (n - k) : Nat) : Int)), (46, .int .i64 ((k + (min k (n - k)) : Nat) : Int)), (8, .int .i64 ((k + (min k (n - k)) : Nat) : Int))] (by kernel_rfl) (allM (all_cons (q_run (.int .i64 ((k : Nat) : Int)) rfl rfl (wv_n rfl) rfl (fun _ _ hρ _ => r_move (hρ _ _ rfl))) (all_cons (q_run (.int .i64 ((k + (min k (n - k)) : Nat) : Int)) rfl rfl (wv_n rfl) rfl (fun _ _ hρ _ => r_as (r_add (hρ _ _ rfl) (hρ _ _ rfl)) (int_as ((wrap64 (by omega) (by omega)).trans (by omega))))) (all_cons (q_run (.int .i64 ((k + (min k (n - k)) : Nat) : Int)) rfl rfl (wv_n rfl) rfl (fun _ _ hρ _ => r_assign (hρ _ _ rfl))) all_nil)))) (end_old rfl rfl (end_old rfl rfl (end_old rfl rfl (end_old rfl rfl (end_old rfl rfl (end_old rfl rfl (end_new 0 rfl rfl (end_new 1 rfl rfl (end_new 2 rfl rfl (end_new 3 rfl rfl (end_new 4 rfl rfl (end_new 5 rfl rfl (end_new 6 rfl rfl (end_new 7 rfl rfl (end_new 8 rfl rfl (end_new 9 rfl rfl end_nil)))))))))))))))) ?_
    refine p_blk_n ?_
    exact p_at (k + min k (n - k)) ⟨by omega, by omega⟩ (sub_cons rfl (sub_cons rfl (sub_cons rfl sub_nil))) (sub_cons rfl sub_nil)
  · replace h1 := of_decide_eq_false h1
    refine T_exit' ?_
    refine p_then_x ?_
    refine p_then_x ?_
    refine p_blk_x ?_
    refine p_seq ?_
    refine T_seq (T_region ?_)
    refine TL_q (.slice (some ⟨B1, 0, none⟩) n n) (fun _ _ hρ _ => r_move (hρ _ _ rfl)) rfl rfl rfl (w_n rfl) ?_
    refine TL_q (.slice (some ⟨B1, 0, none⟩) n n) (fun _ _ hρ _ => r_assign (hρ _ _ rfl)) rfl rfl rfl (w_n rfl) ?_
    refine TL_seq ?_
    refine T_ret' ?_
    refine ret_of rfl (.slice (some ⟨B1, 0, none⟩) n n) (fun tmps w hk hm => res1 rfl (res_tmp (hk 4 _ rfl))) (fun w hm => ?_)
    have hk : k = n := by omega
    subst hk
    have hrow := hm.row 940 rfl
    rw [repG_all] at hrow
    exact ⟨some ⟨B1, 0, none⟩, k, by rw [List.length_replicate], hm.ext, by rw [List.length_replicate]; exact hrow⟩

theorem rep_t0 (c : Trk) (n bx : Nat) (w : World) (hn0 : n = 0) (hb : hp w bx = some (.cells (Trk.cells c).toArray 48)) : Calls Try.prog 67 #[.slice (some ⟨bx, 0, none⟩) 1 1, .int .i64 (n : Int)] w fun e w' => ∃ a' cap', e = .returned (.slice a' (List.replicate n c).length cap') ∧ Below w.heap.size w w' ∧ w'.ownsRow w.heap.size 48 4 (.slice a' (List.replicate n c).length cap') (List.replicate n c).length ((List.replicate n c).flatMap Trk.cells) := by
  refine calls_of_T (l := [.slice (some ⟨bx, 0, none⟩) 1 1, .int .i64 ((n : Nat) : Int)]) 48 Try.func67 rfl rfl rfl ?_
  show T _ _ _ [(0, .slice (some ⟨bx, 0, none⟩) 1 1), (1, .int .i64 ((n : Nat) : Int))] []
  refine T_seq (T_region ?_)
  refine TL_q (.slice none 0 0) (fun _ _ hρ _ => r_assign (hρ _ _ rfl)) rfl rfl rfl (w_n rfl) ?_
  refine TL_seq ?_
  refine T_seq ?_
  refine T_seq (T_region ?_)
  refine TL_q (.int .i64 ((n : Nat) : Int)) (fun _ _ hρ _ => r_move (hρ _ _ rfl)) rfl rfl rfl (w_n rfl) ?_
  refine TL_q (.bool false) (fun _ _ hρ _ => r_as (r_lss (hρ _ _ rfl) (hρ _ _ rfl)) (bool_as (decide_eq_false (by omega)))) rfl rfl rfl (w_n rfl) ?_
  refine TL_seq ?_
  refine T_cond_f rfl ?_
  refine T_skip' ?_
  refine p_seq ?_
  refine T_seq (T_region ?_)
  refine TL_q (.slice (some ⟨bx, 0, none⟩) 1 1) (fun _ _ hρ _ => r_move (hρ _ _ rfl)) rfl rfl rfl (w_n rfl) ?_
  refine TL_q (.int .i64 1) (fun _ _ hρ _ => r_len sl43 (hρ _ _ rfl)) rfl rfl rfl (w_n rfl) ?_
  refine TL_q (.int .u64 1) (fun _ _ hρ _ => r_as (r_conv un3 io80 (hρ _ _ rfl)) (by rfl)) rfl rfl rfl (w_n rfl) ?_
  refine TL_q (.int .i64 ((n : Nat) : Int)) (fun _ _ hρ _ => r_move (hρ _ _ rfl)) rfl rfl rfl (w_n rfl) ?_
  refine TL_q (.int .u64 ((n : Nat) : Int)) (fun _ _ hρ _ => r_as (r_conv un3 io80 (hρ _ _ rfl)) (int_as (wrap_u64 (by omega) (by omega)))) rfl rfl rfl (w_n rfl) ?_
  refine TL_call (.tuple #[.int .u64 0, .int .u64 ((n : Nat) : Int)]) (fun _ _ hρ _ => r_call (args := [.int .u64 1, .int .u64 ((n : Nat) : Int)]) (enters_of Try.func102 (by kernel_rfl) rfl) (hρ _ _ rfl) ((cons2 (hρ _ _ rfl) (cons2 (hρ _ _ rfl) rfl))) rfl) (fun w _ => mul_c n (by omega) w) rfl rfl rfl (w_n rfl) ?_
  refine TL_q (.tuple #[.int .u64 0, .int .u64 ((n : Nat) : Int)]) (fun _ _ hρ _ => r_move (hρ _ _ rfl)) rfl rfl rfl (w_n rfl) ?_
  refine TL_q (.int .u64 0) (fun _ _ hρ _ => r_extract (hρ _ _ rfl) rfl) rfl rfl rfl (w_n rfl) ?_
  refine TL_q (.int .u64 ((n : Nat) : Int)) (fun _ _ hρ _ => r_extract (hρ _ _ rfl) rfl) rfl rfl rfl (w_n rfl) ?_
  refine TL_q (.int .u64 0) (fun _ _ hρ _ => r_assign (hρ _ _ rfl)) rfl rfl rfl (w_n rfl) ?_
  refine TL_q (.int .u64 ((n : Nat) : Int)) (fun _ _ hρ _ => r_assign (hρ _ _ rfl)) rfl rfl rfl (w_n rfl) ?_
  refine TL_seq ?_
  refine T_seq ?_
  refine T_seq (T_region ?_)
  refine TL_q (.int .u64 0) (fun _ _ hρ _ => r_move (hρ _ _ rfl)) rfl rfl rfl (w_n rfl) ?_
  refine TL_q (.bool false) (fun _ _ hρ _ => r_as (r_gtr (hρ _ _ rfl) (hρ _ _ rfl)) (by rfl)) rfl rfl rfl (w_n rfl) ?_
  refine TL_q (.bool false) (fun _ _ hρ _ => r_move (hρ _ _ rfl)) rfl rfl rfl (w_n rfl) ?_
  refine TL_q (.int .u64 ((n : Nat) : Int)) (fun _ _ hρ _ => r_move (hρ _ _ rfl)) rfl rfl rfl (want_y 23 rfl rfl rfl) ?_
  refine TL_q (.bool false) (fun _ _ hρ _ => r_as (r_gtr (hρ _ _ rfl) (hρ _ _ rfl)) (bool_as (decide_eq_false (by omega)))) rfl rfl rfl (want_y 23 rfl rfl rfl) ?_
  refine TL_q (.bool false) (fun _ _ hρ _ => r_pick_f (hρ _ _ rfl) (hρ _ _ rfl)) rfl rfl rfl (w_n rfl) ?_
  refine TL_seq ?_
  refine T_cond_f rfl ?_
  refine T_skip' ?_
  refine p_seq ?_
  refine T_seq (T_region ?_)
  refine TL_q (.int .u64 ((n : Nat) : Int)) (fun _ _ hρ _ => r_move (hρ _ _ rfl)) rfl rfl rfl (w_n rfl) ?_
  refine TL_q (.int .i64 ((n : Nat) : Int)) (fun _ _ hρ _ => r_as (r_conv un80 io3 (hρ _ _ rfl)) (int_as (wrap64 (by omega) (by omega)))) rfl rfl rfl (w_n rfl) ?_
  refine TL_op (ι := Nat) (fun B => .slice (some ⟨B, 0, none⟩) n n) _ (fun _ _ hρ hm => o_make (n := n) (cap := n) (z := .agg #[.int .i64 0, .int .i64 0, .int .i64 0, .int .u32 0]) (f := Trk.cells) (u := trk0) 940 rfl (hρ _ _ rfl) (hρ _ _ rfl) sl43 by48 sz48 rfl (by kernel_rfl) rfl Trk.cells_len (by omega) (by omega) (by omega) hm) rfl rfl rfl (w_n rfl) ?_
  intro B1
  refine TL_q (.slice (some ⟨B1, 0, none⟩) n n) (fun _ _ hρ _ => r_assign (hρ _ _ rfl)) rfl rfl rfl (w_n rfl) ?_
  refine TL_seq ?_
  refine T_seq (T_region ?_)
  refine TL_q (.slice (some ⟨B1, 0, none⟩) n n) (fun _ _ hρ _ => r_move (hρ _ _ rfl)) rfl rfl rfl (w_n rfl) ?_
  refine TL_q (.slice (some ⟨bx, 0, none⟩) 1 1) (fun _ _ hρ _ => r_move (hρ _ _ rfl)) rfl rfl rfl (w_n rfl) ?_
  refine TL_op1 (.int .i64 0) _ (fun _ _ hρ hm => o_copyG (k := 0) (lo := 0) (s := 4) (news := []) 940 rfl (hρ _ _ rfl) (by omega) (hρ _ _ rfl) rfl sl43 sz48 (by omega) rfl (fun j u hj => nomatch hj) (fun u hu => nomatch hu) (show _ = (List.replicate n trk0).flatMap Trk.cells from by simp) hm) rfl rfl rfl (w_n rfl) ?_
  refine TL_q (.int .i64 0) (fun _ _ hρ _ => r_assign (hρ _ _ rfl)) rfl rfl rfl (w_n rfl) ?_
  refine TL_seq ?_
  refine T_seq ?_
  refine T_block ?_
  refine T_rounds 1 ?_
  refine TR_succ ?_
  refine T_seq ?_
  refine T_seq (T_region ?_)
  refine TL_q (.int .i64 0) (fun _ _ hρ _ => r_move (hρ _ _ rfl)) rfl rfl rfl (w_n rfl) ?_
  refine TL_q (.slice (some ⟨B1, 0, none⟩) n n) (fun _ _ hρ _ => r_move (hρ _ _ rfl)) rfl rfl rfl (w_n rfl) ?_
  refine TL_q (.int .i64 ((n : Nat) : Int)) (fun _ _ hρ _ => r_len sl43 (hρ _ _ rfl)) rfl rfl rfl (w_n rfl) ?_
  refine TL_q (.bool false) (fun _ _ hρ _ => r_as (r_lss (hρ _ _ rfl) (hρ _ _ rfl)) (bool_as (decide_eq_false (by omega)))) rfl rfl rfl (w_n rfl) ?_
  refine TL_seq ?_
  refine T_sub [(4, .slice none 0 0), (7, .slice (some ⟨B1, 0, none⟩) n n), (8, .int .i64 0), (34, .int .i64 0), (35, .slice (some ⟨B1, 0, none⟩) n n), (36, .int .i64 ((n : Nat) : Int)), (37, .bool false)] [(940, .row (.slice (some ⟨B1, 0, none⟩) n n) 48 4 n ((List.replicate n trk0).flatMap Trk.cells))] (sub_cons rfl (sub_cons rfl (sub_cons rfl (sub_cons rfl (sub_cons rfl (sub_cons rfl (sub_cons rfl sub_nil))))))) (sub_cons rfl sub_nil) ?_
  refine T_cond_f rfl ?_
  refine T_exit' ?_
  refine p_then_x ?_
  refine p_then_x ?_
  refine p_blk_x ?_
  refine p_seq ?_
  refine T_seq (T_region ?_)
  refine TL_q (.slice (some ⟨B1, 0, none⟩) n n) (fun _ _ hρ _ => r_move (hρ _ _ rfl)) rfl rfl rfl (w_n rfl) ?_
  refine TL_q (.slice (some ⟨B1, 0, none⟩) n n) (fun _ _ hρ _ => r_assign (hρ _ _ rfl)) rfl rfl rfl (w_n rfl) ?_
  refine TL_seq ?_
  refine T_ret' ?_
  refine ret_of rfl (.slice (some ⟨B1, 0, none⟩) n n) (fun tmps w hk hm => res1 rfl (res_tmp (hk 4 _ rfl))) (fun w hm => ?_)
  subst hn0
  exact ⟨some ⟨B1, 0, none⟩, 0, rfl, hm.ext, hm.row 940 rfl⟩

theorem rep_any (c : Trk) (n bx : Nat) (w : World) (hn : n ≤ 70) (hb : hp w bx = some (.cells (Trk.cells c).toArray 48)) : Calls Try.prog 67 #[.slice (some ⟨bx, 0, none⟩) 1 1, .int .i64 (n : Int)] w fun e w' => ∃ a' cap', e = .returned (.slice a' (List.replicate n c).length cap') ∧ Below w.heap.size w w' ∧ w'.ownsRow w.heap.size 48 4 (.slice a' (List.replicate n c).length cap') (List.replicate n c).length ((List.replicate n c).flatMap Trk.cells) := by
  by_cases h : n = 0
  · exact rep_t0 c n bx w h hb
  · exact rep_t c n bx w (by omega) hn hb
end Go.Proofs.Ytcidgbjgeegepaa
/- net and journal: Empty. Printed by a program of this seat's prover. -/
namespace Go.Proofs.Ytcidgbjgeegepaa
open Go Go.RowKit
set_option maxRecDepth 10000
theorem newOk3 {w w' : World} {r s t : Res} (i j k : Nat) (h : r.ok w.heap.size w') (h2 : s.ok w.heap.size w') (h3 : t.ok w.heap.size w') (s1 : ∀ b, r.foot b → ¬ s.foot b) (s2 : ∀ b, r.foot b → ¬ t.foot b) (s3 : ∀ b, s.foot b → ¬ t.foot b) : NewOk w w' [(i, r), (j, s), (k, t)] := by
  have key : ∀ x q, lk [(i, r), (j, s), (k, t)] x = some q → (x = i ∧ q = r) ∨ (x ≠ i ∧ x = j ∧ q = s) ∨ (x ≠ i ∧ x ≠ j ∧ x = k ∧ q = t) := fun x q hx => by
    by_cases e1 : i = x
    · subst e1; rw [lk_cons_same] at hx; cases hx; exact .inl ⟨rfl, rfl⟩
    · rw [lk_cons_other _ _ e1] at hx
      by_cases e2 : j = x
      · subst e2; rw [lk_cons_same] at hx; cases hx; exact .inr (.inl ⟨Ne.symm e1, rfl, rfl⟩)
      · rw [lk_cons_other _ _ e2] at hx
        by_cases e3 : k = x
        · subst e3; rw [lk_cons_same] at hx; cases hx; exact .inr (.inr ⟨Ne.symm e1, Ne.symm e2, rfl, rfl⟩)
        · rw [lk_cons_other _ _ e3] at hx; cases hx
  refine ⟨fun x q hx => ?_, fun x y q q2 hx hy hne b hb hb2 => ?_⟩
  · rcases key x q hx with ⟨_, rfl⟩ | ⟨_, _, rfl⟩ | ⟨_, _, _, rfl⟩
    · exact h
    · exact h2
    · exact h3
  · rcases key x q hx with ⟨rfl, rfl⟩ | ⟨_, rfl, rfl⟩ | ⟨_, _, rfl, rfl⟩ <;> rcases key y q2 hy with ⟨rfl, rfl⟩ | ⟨_, rfl, rfl⟩ | ⟨_, _, rfl, rfl⟩
    · exact hne rfl
    · exact s1 b hb hb2
    · exact s2 b hb hb2
    · exact s1 b hb2 hb
    · exact hne rfl
    · exact s3 b hb hb2
    · exact s2 b hb2 hb
    · exact s3 b hb2 hb
    · exact hne rfl
theorem doV_first (p : PV) (l : List PV) (lost : Int) : doV (p :: l, lost) ⟨1, 0, 0, 0#32⟩ = (0, (l, lost), [p]) := rfl
theorem empty_acc (l : List PV) (lost : Int) : ∀ acc : List PV, (List.replicate l.length (⟨1, 0, 0, 0#32⟩ : Trk)).foldl (fun (s : NV × List PV × Int) t => ((doV s.1 t).2.1, s.2.1 ++ (doV s.1 t).2.2, if (doV s.1 t).1 = 0 then s.2.2 else s.2.2 + 1)) ((l, lost), acc, 0) = (([], lost), acc ++ l, 0) := by
  induction l with
  | nil => intro acc; simp
  | cons p l ih =>
    intro acc
    rw [List.length_cons, List.replicate_succ, List.foldl_cons]
    dsimp only
    rw [doV_first]
    dsimp only
    rw [if_pos rfl, ih, List.append_assoc]; rfl
theorem empty_run (ps : List Pcl) (lost : Int) : runV (pvs ps, lost) (List.replicate ps.length (⟨1, 0, 0, 0#32⟩ : Trk)) = (([], lost), pvs ps, 0) := by
  have := empty_acc (pvs ps) lost []
  rw [pvs_len] at this
  exact this
/-- What an emptied net has come to. -/
structure Emptied (ps : List Pcl) (lost : Int) (x : Hd × List (RowG By)) : Prop where
  nv : x.1.nv = ([], lost)
  told : pvs x.1.t.l = pvs ps
  ok : HdOk x.1 x.2

theorem empty_ok (ps : List Pcl) (a : Option Addr) (cap : Nat) (lost : Int) (w : World) (hv : SliceAt w a cap 3 Pcl.cells ps) (hcap : cap ≤ Go.maxLen) (hb : PcsAt w ps) (h0 : 0 ≤ lost) (hck : checkV (pvs ps) lost = true) : Calls Try.prog 15 #[.agg #[.slice a ps.length cap, .int .u64 lost]] w fun e w' => ∃ x : Hd × List (RowG By), Emptied ps lost x ∧ e = .returned (.tuple #[.agg #[.slice x.1.n.a x.1.n.l.length x.1.n.cap, .int .u64 x.1.lost], .slice x.1.t.a x.1.t.l.length x.1.t.cap, .int .i64 0]) ∧ Below w.heap.size w w' ∧ (rowP x.1.n).ok w.heap.size w' ∧ (rowP x.1.t).ok w.heap.size w' ∧ (Res.pool 5 1 byc x.2).ok w.heap.size w' ∧ (∀ b, (rowP x.1.n).foot b → ¬ (rowP x.1.t).foot b) ∧ (∀ b, (rowP x.1.n).foot b → ¬ (Res.pool 5 1 byc x.2).foot b) ∧ (∀ b, (rowP x.1.t).foot b → ¬ (Res.pool 5 1 byc x.2).foot b) := by
  have hvl := hv.1
  unfold Go.maxLen at hcap
  have hc := checkV_len hck
  have hcl := hc.1
  rw [pvs_len] at hcl
  refine calls_of_T (l := [.agg #[.slice a ps.length cap, .int .u64 lost]]) 25 Try.func15 rfl rfl rfl ?_
  show T _ _ _ [(0, .agg #[.slice a ps.length cap, .int .u64 lost])] []
  refine T_seq (T_region ?_)
  refine TL_new 1 (.cells #[.slice a ps.length cap, .int .u64 lost] 27) (fun B => .pointer (some ⟨B, 0, none⟩)) (fun _ _ hρ _ => r_box (hρ _ _ rfl) rfl) rfl rfl rfl (w_n rfl) ?_
  intro B1
  refine TL_new 2 (.cells #[.slice none 0 0, .int .u64 0] 27) (fun B => .pointer (some ⟨B, 0, none⟩)) (fun _ _ _ _ => r_alloc (v := .agg #[.slice none 0 0, .int .u64 0]) (by kernel_rfl) rfl) rfl rfl rfl (w_n rfl) ?_
  intro B2
  refine TL_q (.slice none 0 0) (fun _ _ hρ _ => r_assign (hρ _ _ rfl)) rfl rfl rfl (w_n rfl) ?_
  refine TL_q (.int .i64 0) (fun _ _ hρ _ => r_assign (hρ _ _ rfl)) rfl rfl rfl (w_n rfl) ?_
  refine TL_seq ?_
  refine T_join (ι := Nat × (Option Addr) × Nat × Hd × (List (RowG By)) × Int × Nat) (fun (z : Nat × (Option Addr) × Nat × Hd × (List (RowG By)) × Int × Nat) => match z with | (Bx2, ar3, cr3, h4, bs4, ov4, Bx13) => (RunIs (pvs ps, lost) (List.replicate ps.length (⟨1, 0, 0, 0#32⟩ : Trk)) (h4, bs4) ov4) ∧ True) (fun (z : Nat × (Option Addr) × Nat × Hd × (List (RowG By)) × Int × Nat) => match z with | (Bx2, ar3, cr3, h4, bs4, ov4, Bx13) => [(2, .pointer (some ⟨B2, 0, none⟩)), (3, .slice none 0 0), (4, .int .i64 0), (5, .pointer (some ⟨Bx13, 0, none⟩)), (6, .slice h4.t.a h4.t.l.length h4.t.cap), (8, .int .i64 0)]) (fun (z : Nat × (Option Addr) × Nat × Hd × (List (RowG By)) × Int × Nat) => match z with | (Bx2, ar3, cr3, h4, bs4, ov4, Bx13) => [(1, .blk B1 (.cells #[.slice a ps.length cap, .int .u64 lost] 27)), (2, .blk B2 (.cells #[.slice none 0 0, .int .u64 0] 27)), (3, .blk Bx2 (.cells #[.int .i64 1, .int .i64 0, .int .i64 0, .int .u32 0] 48)), (4, .row (.slice ar3 ((List.replicate ps.length (⟨1, 0, 0, 0#32⟩ : Trk)).length) cr3) 48 4 ((List.replicate ps.length (⟨1, 0, 0, 0#32⟩ : Trk)).length) ((List.replicate ps.length (⟨1, 0, 0, 0#32⟩ : Trk)).flatMap Trk.cells)), (5, .blk Bx13 (.cells #[.slice h4.n.a h4.n.l.length h4.n.cap, .int .u64 h4.lost] 27)), (951, .row (.slice h4.n.a h4.n.l.length h4.n.cap) 36 3 h4.n.l.length (h4.n.l.flatMap Pcl.cells)), (952, .row (.slice h4.t.a h4.t.l.length h4.t.cap) 36 3 h4.t.l.length (h4.t.l.flatMap Pcl.cells)), (953, .pool 5 1 byc bs4)]) (T_draw (V := [(0, .agg #[.slice a ps.length cap, .int .u64 lost]), (1, .agg #[.int .i64 1, .int .i64 0, .int .i64 0, .int .u32 0]), (3, .pointer (some ⟨B1, 0, none⟩)), (4, .slice a ps.length cap), (5, .int .i64 ((ps.length : Nat) : Int))]) [0, 0, 2, 0, 8, 24, 62, 127, 255, 511, 511, 511, 511, 0, 9215, 26623, 61439, 131071] [[(1, none)], [], [(11, some 1)], [(1, none)], [(13, some 3)], [(14, some 4)], [(12, some 2), (15, some 5)], [(10, some 0), (16, some 6)], [(17, some 7)], [(9, some 8)], [(9, some 8)], [(9, some 8)], [(9, some 8)], [], [(5, some 13), (18, some 9)], [(19, some 10)], [(20, some 11)], [(21, some 12)]] 24772 mixed (by kernel_rfl) ?_) (fun z hz => ?_)
  · skip
    refine G_step [0, 1, 3, 4, 5] 2 [13] (by kernel_rfl) (allM (all_cons (q_run (.agg #[.slice a ps.length cap, .int .u64 lost]) rfl rfl (wv_n rfl) rfl (fun _ _ hρ hm => r_loadA ag27 sz27 (hρ _ _ rfl) (hm.at 1 rfl) rfl rfl)) (all_cons (q_run (.agg #[.int .i64 1, .int .i64 0, .int .i64 0, .int .u32 0]) rfl rfl (wv_n rfl) rfl (fun _ _ hρ _ => r_build (vs := [(0, .int .i64 1)]) (by kernel_rfl) (cons2 (pair2 (hρ _ _ rfl)) rfl))) (all_cons (q_run (.pointer (some ⟨B1, 0, none⟩)) rfl rfl (wv_n rfl) rfl (fun _ _ hρ _ => r_fieldAddr fl27_0 sz22 (hρ _ _ rfl))) (all_cons (q_run (.slice a ps.length cap) rfl rfl (wv_n rfl) rfl (fun _ _ hρ hm => r_load ag22 (hρ _ _ rfl) (hm.at 1 rfl) rfl)) (all_cons (q_run (.int .i64 ((ps.length : Nat) : Int)) rfl rfl (wv_n rfl) rfl (fun _ _ hρ _ => r_len sl22 (hρ _ _ rfl))) all_nil)))))) (allM (all_cons ?_ (all_cons ?_ all_nil)))
    · skip
      refine LOb_new 3 (.cells #[.int .i64 1, .int .i64 0, .int .i64 0, .int .u32 0] 48) (fun B => .slice (some ⟨B, 0, none⟩) 1 1) (fun B => []) rfl (wv_n rfl) rfl rfl (fun _ _ hρ _ => r_buildSlice (vs := [(0, .agg #[.int .i64 1, .int .i64 0, .int .i64 0, .int .u32 0])]) (by kernel_rfl) (cons2 (pair2 (hρ _ _ rfl)) rfl)) (fun B => by kernel_rfl) ?_
      intro B5
      refine G_step [0, 3, 4, 5] 6 [13] (by kernel_rfl) (allM (all_cons (q_run (.agg #[.slice a ps.length cap, .int .u64 lost]) rfl rfl (wv_n rfl) rfl (fun _ _ hρ hm => r_loadA ag27 sz27 (hρ _ _ rfl) (hm.at 1 rfl) rfl rfl)) (all_cons (q_run (.pointer (some ⟨B1, 0, none⟩)) rfl rfl (wv_n rfl) rfl (fun _ _ hρ _ => r_fieldAddr fl27_0 sz22 (hρ _ _ rfl))) (all_cons (q_run (.slice a ps.length cap) rfl rfl (wv_n rfl) rfl (fun _ _ hρ hm => r_load ag22 (hρ _ _ rfl) (hm.at 1 rfl) rfl)) (all_cons (q_run (.int .i64 ((ps.length : Nat) : Int)) rfl rfl (wv_n rfl) rfl (fun _ _ hρ _ => r_len sl22 (hρ _ _ rfl))) all_nil))))) (allM (all_cons ?_ (all_cons ?_ all_nil)))
      · skip
        refine LOb_callN (fun (_ : Option Addr × Nat) => True) (fun (ar6, cr6) => .slice ar6 ((List.replicate ps.length (⟨1, 0, 0, 0#32⟩ : Trk)).length) cr6) (fun (ar6, cr6) => [(4, .row (.slice ar6 ((List.replicate ps.length (⟨1, 0, 0, 0#32⟩ : Trk)).length) cr6) 48 4 ((List.replicate ps.length (⟨1, 0, 0, 0#32⟩ : Trk)).length) ((List.replicate ps.length (⟨1, 0, 0, 0#32⟩ : Trk)).flatMap Trk.cells))]) (fun (ar6, cr6) => []) rfl (wv_n rfl) rfl rfl (fun _ _ hρ _ => r_call (args := [.slice (some ⟨B5, 0, none⟩) 1 1, .int .i64 ((ps.length : Nat) : Int)]) (enters_of Try.func67 (by kernel_rfl) rfl) (hρ _ _ rfl) ((cons2 (hρ _ _ rfl) (cons2 (hρ _ _ rfl) rfl))) rfl) (fun w hm => (rep_any (⟨1, 0, 0, 0#32⟩ : Trk) ps.length B5 w (by omega) (hm.at 3 rfl)).mono fun e w' ⟨a', cap', he, hb, hr⟩ => ⟨(a', cap'), trivial, he, hb, newOk1 4 hr⟩) (fun (ar6, cr6) => by kernel_rfl) ?_
        rintro ⟨ar6, cr6⟩ -
        refine G_step [0] 7 [13] (by kernel_rfl) (allM (all_cons (q_run (.agg #[.slice a ps.length cap, .int .u64 lost]) rfl rfl (wv_n rfl) rfl (fun _ _ hρ hm => r_loadA ag27 sz27 (hρ _ _ rfl) (hm.at 1 rfl) rfl rfl)) all_nil)) (allM (all_cons ?_ (all_cons ?_ all_nil)))
        · skip
          refine LOb_callN (fun x : Hd × List (RowG By) × Int => RunIs (pvs ps, lost) (List.replicate ps.length (⟨1, 0, 0, 0#32⟩ : Trk)) (x.1, x.2.1) x.2.2) (fun (h7, bs7, ov7) => .tuple #[.agg #[.slice h7.n.a h7.n.l.length h7.n.cap, .int .u64 h7.lost], .slice h7.t.a h7.t.l.length h7.t.cap, .int .i64 ov7, .int .i64 0]) (fun (h7, bs7, ov7) => [(951, .row (.slice h7.n.a h7.n.l.length h7.n.cap) 36 3 h7.n.l.length (h7.n.l.flatMap Pcl.cells)), (952, .row (.slice h7.t.a h7.t.l.length h7.t.cap) 36 3 h7.t.l.length (h7.t.l.flatMap Pcl.cells)), (953, .pool 5 1 byc bs7)]) (fun (h7, bs7, ov7) => [(8, .tuple #[.agg #[.slice h7.n.a h7.n.l.length h7.n.cap, .int .u64 h7.lost], .slice h7.t.a h7.t.l.length h7.t.cap, .int .i64 ov7, .int .i64 0]), (9, .agg #[.slice h7.n.a h7.n.l.length h7.n.cap, .int .u64 h7.lost]), (10, .slice h7.t.a h7.t.l.length h7.t.cap), (11, .int .i64 ov7), (12, .int .i64 0)]) rfl (wv_n rfl) rfl rfl (fun _ _ hρ _ => r_call (args := [.agg #[.slice a ps.length cap, .int .u64 lost], .slice ar6 ((List.replicate ps.length (⟨1, 0, 0, 0#32⟩ : Trk)).length) cr6]) (enters_of Try.func28 (by kernel_rfl) rfl) (hρ _ _ rfl) ((cons2 (hρ _ _ rfl) (cons2 (hρ _ _ rfl) rfl))) rfl) (fun w hm => (run_ok ps a cap lost (List.replicate ps.length (⟨1, 0, 0, 0#32⟩ : Trk)) ar6 cr6 w (hv.keep hm.ext) hcap (hb.keep hm.ext) (SliceAt.own Trk.cells_len (hm.row 4 rfl) rfl rfl) (row_cap (hm.row 4 rfl)) (by rw [List.length_replicate]; omega) h0 hck).mono fun e w' ⟨⟨h, bs⟩, ov, hx, he, hb, r1, r2, r3, s1, s2, s3⟩ => ⟨(h, bs, ov), hx, he, hb, newOk3 951 952 953 r1 r2 r3 s1 s2 s3⟩) (fun (h7, bs7, ov7) => by kernel_rfl) ?_
          rintro ⟨h7, bs7, ov7⟩ hr7
          refine G_step [8, 9, 10, 11, 12] 13 [] (by kernel_rfl) (allM (all_cons (q_run (.tuple #[.agg #[.slice h7.n.a h7.n.l.length h7.n.cap, .int .u64 h7.lost], .slice h7.t.a h7.t.l.length h7.t.cap, .int .i64 ov7, .int .i64 0]) rfl rfl (wv_n rfl) rfl (fun _ _ hρ _ => r_move (hρ _ _ rfl))) (all_cons (q_run (.agg #[.slice h7.n.a h7.n.l.length h7.n.cap, .int .u64 h7.lost]) rfl rfl (wv_n rfl) rfl (fun _ _ hρ _ => r_extract (hρ _ _ rfl) rfl)) (all_cons (q_run (.slice h7.t.a h7.t.l.length h7.t.cap) rfl rfl (wv_n rfl) rfl (fun _ _ hρ _ => r_extract (hρ _ _ rfl) rfl)) (all_cons (q_run (.int .i64 ov7) rfl rfl (wv_n rfl) rfl (fun _ _ hρ _ => r_extract (hρ _ _ rfl) rfl)) (all_cons (q_run (.int .i64 0) rfl rfl (wv_n rfl) rfl (fun _ _ hρ _ => r_extract (hρ _ _ rfl) rfl)) all_nil)))))) (allM (all_cons ?_ all_nil))
          refine LOb_new 5 (.cells #[.slice none 0 0, .int .u64 0] 27) (fun B => .pointer (some ⟨B, 0, none⟩)) (fun B => []) rfl (wv_n rfl) rfl rfl (fun _ _ _ _ => r_alloc (v := .agg #[.slice none 0 0, .int .u64 0]) (by kernel_rfl) rfl) (fun B => by kernel_rfl) ?_
          intro B8
          refine G_step [8, 9, 10, 11, 12] 14 [] (by kernel_rfl) (allM (all_cons (q_run (.tuple #[.agg #[.slice h7.n.a h7.n.l.length h7.n.cap, .int .u64 h7.lost], .slice h7.t.a h7.t.l.length h7.t.cap, .int .i64 ov7, .int .i64 0]) rfl rfl (wv_n rfl) rfl (fun _ _ hρ _ => r_move (hρ _ _ rfl))) (all_cons (q_run (.agg #[.slice h7.n.a h7.n.l.length h7.n.cap, .int .u64 h7.lost]) rfl rfl (wv_n rfl) rfl (fun _ _ hρ _ => r_extract (hρ _ _ rfl) rfl)) (all_cons (q_run (.slice h7.t.a h7.t.l.length h7.t.cap) rfl rfl (wv_n rfl) rfl (fun _ _ hρ _ => r_extract (hρ _ _ rfl) rfl)) (all_cons (q_run (.int .i64 ov7) rfl rfl (wv_n rfl) rfl (fun _ _ hρ _ => r_extract (hρ _ _ rfl) rfl)) (all_cons (q_run (.int .i64 0) rfl rfl (wv_n rfl) rfl (fun _ _ hρ _ => r_extract (hρ _ _ rfl) rfl)) all_nil)))))) (allM (all_cons ?_ all_nil))
          refine LOb_store 5 (.cells #[.slice h7.n.a h7.n.l.length h7.n.cap, .int .u64 h7.lost] 27) [(15, .slice h7.t.a h7.t.l.length h7.t.cap), (16, .int .i64 ov7), (17, .int .i64 0)] rfl (wv_n rfl) rfl rfl rfl (fun _ _ hρ hm => r_store sz27 (hρ _ _ rfl) (hρ _ _ rfl) (hm.at 5 rfl) rfl rfl rfl rfl) (by kernel_rfl) ?_
          exact G_lastQ [10, 11, 12, 15, 16, 17] [(2, .pointer (some ⟨B2, 0, none⟩)), (3, .slice none 0 0), (4, .int .i64 0), (5, .pointer (some ⟨B8, 0, none⟩)), (6, .slice h7.t.a h7.t.l.length h7.t.cap), (8, .int .i64 0)] (by kernel_rfl) (allM (all_cons (q_run (.slice h7.t.a h7.t.l.length h7.t.cap) rfl rfl (wv_n rfl) rfl (fun _ _ hρ _ => r_extract (hρ _ _ rfl) rfl)) (all_cons (q_run (.int .i64 ov7) rfl rfl (wv_n rfl) rfl (fun _ _ hρ _ => r_extract (hρ _ _ rfl) rfl)) (all_cons (q_run (.int .i64 0) rfl rfl (wv_n rfl) rfl (fun _ _ hρ _ => r_extract (hρ _ _ rfl) rfl)) (all_cons (q_run (.slice h7.t.a h7.t.l.length h7.t.cap) rfl rfl (wv_n rfl) rfl (fun _ _ hρ _ => r_assign (hρ _ _ rfl))) (all_cons (q_run (.int .i64 ov7) rfl rfl (wv_n rfl) rfl (fun _ _ hρ _ => r_assign (hρ _ _ rfl))) (all_cons (q_run (.int .i64 0) rfl rfl (wv_n rfl) rfl (fun _ _ hρ _ => r_assign (hρ _ _ rfl))) all_nil))))))) (end_old rfl rfl (end_old rfl rfl (end_old rfl rfl (end_new 13 rfl rfl (end_new 15 rfl rfl (end_new 17 rfl rfl end_nil)))))) (fun a w hf hm => At_intro (B5, ar6, cr6, h7, bs7, ov7, B8) ⟨hr7, trivial⟩ hf hm (sub_cons rfl (sub_cons rfl (sub_cons rfl (sub_cons rfl (sub_cons rfl (sub_cons rfl sub_nil)))))) (sub_cons rfl (sub_cons rfl (sub_cons rfl (sub_cons rfl (sub_cons rfl (sub_cons rfl (sub_cons rfl (sub_cons rfl sub_nil)))))))))
        · skip
          refine LOb_new 5 (.cells #[.slice none 0 0, .int .u64 0] 27) (fun B => .pointer (some ⟨B, 0, none⟩)) (fun B => []) rfl (wv_n rfl) rfl rfl (fun _ _ _ _ => r_alloc (v := .agg #[.slice none 0 0, .int .u64 0]) (by kernel_rfl) rfl) (fun B => by kernel_rfl) ?_
          intro B9
          refine G_step [0] 7 [] (by kernel_rfl) (allM (all_cons (q_run (.agg #[.slice a ps.length cap, .int .u64 lost]) rfl rfl (wv_n rfl) rfl (fun _ _ hρ hm => r_loadA ag27 sz27 (hρ _ _ rfl) (hm.at 1 rfl) rfl rfl)) all_nil)) (allM (all_cons ?_ all_nil))
          refine LOb_callN (fun x : Hd × List (RowG By) × Int => RunIs (pvs ps, lost) (List.replicate ps.length (⟨1, 0, 0, 0#32⟩ : Trk)) (x.1, x.2.1) x.2.2) (fun (h10, bs10, ov10) => .tuple #[.agg #[.slice h10.n.a h10.n.l.length h10.n.cap, .int .u64 h10.lost], .slice h10.t.a h10.t.l.length h10.t.cap, .int .i64 ov10, .int .i64 0]) (fun (h10, bs10, ov10) => [(951, .row (.slice h10.n.a h10.n.l.length h10.n.cap) 36 3 h10.n.l.length (h10.n.l.flatMap Pcl.cells)), (952, .row (.slice h10.t.a h10.t.l.length h10.t.cap) 36 3 h10.t.l.length (h10.t.l.flatMap Pcl.cells)), (953, .pool 5 1 byc bs10)]) (fun (h10, bs10, ov10) => [(8, .tuple #[.agg #[.slice h10.n.a h10.n.l.length h10.n.cap, .int .u64 h10.lost], .slice h10.t.a h10.t.l.length h10.t.cap, .int .i64 ov10, .int .i64 0]), (9, .agg #[.slice h10.n.a h10.n.l.length h10.n.cap, .int .u64 h10.lost]), (10, .slice h10.t.a h10.t.l.length h10.t.cap), (11, .int .i64 ov10), (12, .int .i64 0)]) rfl (wv_n rfl) rfl rfl (fun _ _ hρ _ => r_call (args := [.agg #[.slice a ps.length cap, .int .u64 lost], .slice ar6 ((List.replicate ps.length (⟨1, 0, 0, 0#32⟩ : Trk)).length) cr6]) (enters_of Try.func28 (by kernel_rfl) rfl) (hρ _ _ rfl) ((cons2 (hρ _ _ rfl) (cons2 (hρ _ _ rfl) rfl))) rfl) (fun w hm => (run_ok ps a cap lost (List.replicate ps.length (⟨1, 0, 0, 0#32⟩ : Trk)) ar6 cr6 w (hv.keep hm.ext) hcap (hb.keep hm.ext) (SliceAt.own Trk.cells_len (hm.row 4 rfl) rfl rfl) (row_cap (hm.row 4 rfl)) (by rw [List.length_replicate]; omega) h0 hck).mono fun e w' ⟨⟨h, bs⟩, ov, hx, he, hb, r1, r2, r3, s1, s2, s3⟩ => ⟨(h, bs, ov), hx, he, hb, newOk3 951 952 953 r1 r2 r3 s1 s2 s3⟩) (fun (h10, bs10, ov10) => by kernel_rfl) ?_
          rintro ⟨h10, bs10, ov10⟩ hr10
          refine G_step [8, 9, 10, 11, 12] 14 [] (by kernel_rfl) (allM (all_cons (q_run (.tuple #[.agg #[.slice h10.n.a h10.n.l.length h10.n.cap, .int .u64 h10.lost], .slice h10.t.a h10.t.l.length h10.t.cap, .int .i64 ov10, .int .i64 0]) rfl rfl (wv_n rfl) rfl (fun _ _ hρ _ => r_move (hρ _ _ rfl))) (all_cons (q_run (.agg #[.slice h10.n.a h10.n.l.length h10.n.cap, .int .u64 h10.lost]) rfl rfl (wv_n rfl) rfl (fun _ _ hρ _ => r_extract (hρ _ _ rfl) rfl)) (all_cons (q_run (.slice h10.t.a h10.t.l.length h10.t.cap) rfl rfl (wv_n rfl) rfl (fun _ _ hρ _ => r_extract (hρ _ _ rfl) rfl)) (all_cons (q_run (.int .i64 ov10) rfl rfl (wv_n rfl) rfl (fun _ _ hρ _ => r_extract (hρ _ _ rfl) rfl)) (all_cons (q_run (.int .i64 0) rfl rfl (wv_n rfl) rfl (fun _ _ hρ _ => r_extract (hρ _ _ rfl) rfl)) all_nil)))))) (allM (all_cons ?_ all_nil))
          refine LOb_store 5 (.cells #[.slice h10.n.a h10.n.l.length h10.n.cap, .int .u64 h10.lost] 27) [(15, .slice h10.t.a h10.t.l.length h10.t.cap), (16, .int .i64 ov10), (17, .int .i64 0)] rfl (wv_n rfl) rfl rfl rfl (fun _ _ hρ hm => r_store sz27 (hρ _ _ rfl) (hρ _ _ rfl) (hm.at 5 rfl) rfl rfl rfl rfl) (by kernel_rfl) ?_
          exact G_lastQ [10, 11, 12, 15, 16, 17] [(2, .pointer (some ⟨B2, 0, none⟩)), (3, .slice none 0 0), (4, .int .i64 0), (5, .pointer (some ⟨B9, 0, none⟩)), (6, .slice h10.t.a h10.t.l.length h10.t.cap), (8, .int .i64 0)] (by kernel_rfl) (allM (all_cons (q_run (.slice h10.t.a h10.t.l.length h10.t.cap) rfl rfl (wv_n rfl) rfl (fun _ _ hρ _ => r_extract (hρ _ _ rfl) rfl)) (all_cons (q_run (.int .i64 ov10) rfl rfl (wv_n rfl) rfl (fun _ _ hρ _ => r_extract (hρ _ _ rfl) rfl)) (all_cons (q_run (.int .i64 0) rfl rfl (wv_n rfl) rfl (fun _ _ hρ _ => r_extract (hρ _ _ rfl) rfl)) (all_cons (q_run (.slice h10.t.a h10.t.l.length h10.t.cap) rfl rfl (wv_n rfl) rfl (fun _ _ hρ _ => r_assign (hρ _ _ rfl))) (all_cons (q_run (.int .i64 ov10) rfl rfl (wv_n rfl) rfl (fun _ _ hρ _ => r_assign (hρ _ _ rfl))) (all_cons (q_run (.int .i64 0) rfl rfl (wv_n rfl) rfl (fun _ _ hρ _ => r_assign (hρ _ _ rfl))) all_nil))))))) (end_old rfl rfl (end_old rfl rfl (end_old rfl rfl (end_new 13 rfl rfl (end_new 15 rfl rfl (end_new 17 rfl rfl end_nil)))))) (fun a w hf hm => At_intro (B5, ar6, cr6, h10, bs10, ov10, B9) ⟨hr10, trivial⟩ hf hm (sub_cons rfl (sub_cons rfl (sub_cons rfl (sub_cons rfl (sub_cons rfl (sub_cons rfl sub_nil)))))) (sub_cons rfl (sub_cons rfl (sub_cons rfl (sub_cons rfl (sub_cons rfl (sub_cons rfl (sub_cons rfl (sub_cons rfl sub_nil)))))))))
      · skip
        refine LOb_new 5 (.cells #[.slice none 0 0, .int .u64 0] 27) (fun B => .pointer (some ⟨B, 0, none⟩)) (fun B => []) rfl (wv_n rfl) rfl rfl (fun _ _ _ _ => r_alloc (v := .agg #[.slice none 0 0, .int .u64 0]) (by kernel_rfl) rfl) (fun B => by kernel_rfl) ?_
        intro B11
        refine G_step [0, 3, 4, 5] 6 [] (by kernel_rfl) (allM (all_cons (q_run (.agg #[.slice a ps.length cap, .int .u64 lost]) rfl rfl (wv_n rfl) rfl (fun _ _ hρ hm => r_loadA ag27 sz27 (hρ _ _ rfl) (hm.at 1 rfl) rfl rfl)) (all_cons (q_run (.pointer (some ⟨B1, 0, none⟩)) rfl rfl (wv_n rfl) rfl (fun _ _ hρ _ => r_fieldAddr fl27_0 sz22 (hρ _ _ rfl))) (all_cons (q_run (.slice a ps.length cap) rfl rfl (wv_n rfl) rfl (fun _ _ hρ hm => r_load ag22 (hρ _ _ rfl) (hm.at 1 rfl) rfl)) (all_cons (q_run (.int .i64 ((ps.length : Nat) : Int)) rfl rfl (wv_n rfl) rfl (fun _ _ hρ _ => r_len sl22 (hρ _ _ rfl))) all_nil))))) (allM (all_cons ?_ all_nil))
        refine LOb_callN (fun (_ : Option Addr × Nat) => True) (fun (ar12, cr12) => .slice ar12 ((List.replicate ps.length (⟨1, 0, 0, 0#32⟩ : Trk)).length) cr12) (fun (ar12, cr12) => [(4, .row (.slice ar12 ((List.replicate ps.length (⟨1, 0, 0, 0#32⟩ : Trk)).length) cr12) 48 4 ((List.replicate ps.length (⟨1, 0, 0, 0#32⟩ : Trk)).length) ((List.replicate ps.length (⟨1, 0, 0, 0#32⟩ : Trk)).flatMap Trk.cells))]) (fun (ar12, cr12) => []) rfl (wv_n rfl) rfl rfl (fun _ _ hρ _ => r_call (args := [.slice (some ⟨B5, 0, none⟩) 1 1, .int .i64 ((ps.length : Nat) : Int)]) (enters_of Try.func67 (by kernel_rfl) rfl) (hρ _ _ rfl) ((cons2 (hρ _ _ rfl) (cons2 (hρ _ _ rfl) rfl))) rfl) (fun w hm => (rep_any (⟨1, 0, 0, 0#32⟩ : Trk) ps.length B5 w (by omega) (hm.at 3 rfl)).mono fun e w' ⟨a', cap', he, hb, hr⟩ => ⟨(a', cap'), trivial, he, hb, newOk1 4 hr⟩) (fun (ar12, cr12) => by kernel_rfl) ?_
        rintro ⟨ar12, cr12⟩ -
        refine G_step [0] 7 [] (by kernel_rfl) (allM (all_cons (q_run (.agg #[.slice a ps.length cap, .int .u64 lost]) rfl rfl (wv_n rfl) rfl (fun _ _ hρ hm => r_loadA ag27 sz27 (hρ _ _ rfl) (hm.at 1 rfl) rfl rfl)) all_nil)) (allM (all_cons ?_ all_nil))
        refine LOb_callN (fun x : Hd × List (RowG By) × Int => RunIs (pvs ps, lost) (List.replicate ps.length (⟨1, 0, 0, 0#32⟩ : Trk)) (x.1, x.2.1) x.2.2) (fun (h13, bs13, ov13) => .tuple #[.agg #[.slice h13.n.a h13.n.l.length h13.n.cap, .int .u64 h13.lost], .slice h13.t.a h13.t.l.length h13.t.cap, .int .i64 ov13, .int .i64 0]) (fun (h13, bs13, ov13) => [(951, .row (.slice h13.n.a h13.n.l.length h13.n.cap) 36 3 h13.n.l.length (h13.n.l.flatMap Pcl.cells)), (952, .row (.slice h13.t.a h13.t.l.length h13.t.cap) 36 3 h13.t.l.length (h13.t.l.flatMap Pcl.cells)), (953, .pool 5 1 byc bs13)]) (fun (h13, bs13, ov13) => [(8, .tuple #[.agg #[.slice h13.n.a h13.n.l.length h13.n.cap, .int .u64 h13.lost], .slice h13.t.a h13.t.l.length h13.t.cap, .int .i64 ov13, .int .i64 0]), (9, .agg #[.slice h13.n.a h13.n.l.length h13.n.cap, .int .u64 h13.lost]), (10, .slice h13.t.a h13.t.l.length h13.t.cap), (11, .int .i64 ov13), (12, .int .i64 0)]) rfl (wv_n rfl) rfl rfl (fun _ _ hρ _ => r_call (args := [.agg #[.slice a ps.length cap, .int .u64 lost], .slice ar12 ((List.replicate ps.length (⟨1, 0, 0, 0#32⟩ : Trk)).length) cr12]) (enters_of Try.func28 (by kernel_rfl) rfl) (hρ _ _ rfl) ((cons2 (hρ _ _ rfl) (cons2 (hρ _ _ rfl) rfl))) rfl) (fun w hm => (run_ok ps a cap lost (List.replicate ps.length (⟨1, 0, 0, 0#32⟩ : Trk)) ar12 cr12 w (hv.keep hm.ext) hcap (hb.keep hm.ext) (SliceAt.own Trk.cells_len (hm.row 4 rfl) rfl rfl) (row_cap (hm.row 4 rfl)) (by rw [List.length_replicate]; omega) h0 hck).mono fun e w' ⟨⟨h, bs⟩, ov, hx, he, hb, r1, r2, r3, s1, s2, s3⟩ => ⟨(h, bs, ov), hx, he, hb, newOk3 951 952 953 r1 r2 r3 s1 s2 s3⟩) (fun (h13, bs13, ov13) => by kernel_rfl) ?_
        rintro ⟨h13, bs13, ov13⟩ hr13
        refine G_step [8, 9, 10, 11, 12] 14 [] (by kernel_rfl) (allM (all_cons (q_run (.tuple #[.agg #[.slice h13.n.a h13.n.l.length h13.n.cap, .int .u64 h13.lost], .slice h13.t.a h13.t.l.length h13.t.cap, .int .i64 ov13, .int .i64 0]) rfl rfl (wv_n rfl) rfl (fun _ _ hρ _ => r_move (hρ _ _ rfl))) (all_cons (q_run (.agg #[.slice h13.n.a h13.n.l.length h13.n.cap, .int .u64 h13.lost]) rfl rfl (wv_n rfl) rfl (fun _ _ hρ _ => r_extract (hρ _ _ rfl) rfl)) (all_cons (q_run (.slice h13.t.a h13.t.l.length h13.t.cap) rfl rfl (wv_n rfl) rfl (fun _ _ hρ _ => r_extract (hρ _ _ rfl) rfl)) (all_cons (q_run (.int .i64 ov13) rfl rfl (wv_n rfl) rfl (fun _ _ hρ _ => r_extract (hρ _ _ rfl) rfl)) (all_cons (q_run (.int .i64 0) rfl rfl (wv_n rfl) rfl (fun _ _ hρ _ => r_extract (hρ _ _ rfl) rfl)) all_nil)))))) (allM (all_cons ?_ all_nil))
        refine LOb_store 5 (.cells #[.slice h13.n.a h13.n.l.length h13.n.cap, .int .u64 h13.lost] 27) [(15, .slice h13.t.a h13.t.l.length h13.t.cap), (16, .int .i64 ov13), (17, .int .i64 0)] rfl (wv_n rfl) rfl rfl rfl (fun _ _ hρ hm => r_store sz27 (hρ _ _ rfl) (hρ _ _ rfl) (hm.at 5 rfl) rfl rfl rfl rfl) (by kernel_rfl) ?_
        exact G_lastQ [10, 11, 12, 15, 16, 17] [(2, .pointer (some ⟨B2, 0, none⟩)), (3, .slice none 0 0), (4, .int .i64 0), (5, .pointer (some ⟨B11, 0, none⟩)), (6, .slice h13.t.a h13.t.l.length h13.t.cap), (8, .int .i64 0)] (by kernel_rfl) (allM (all_cons (q_run (.slice h13.t.a h13.t.l.length h13.t.cap) rfl rfl (wv_n rfl) rfl (fun _ _ hρ _ => r_extract (hρ _ _ rfl) rfl)) (all_cons (q_run (.int .i64 ov13) rfl rfl (wv_n rfl) rfl (fun _ _ hρ _ => r_extract (hρ _ _ rfl) rfl)) (all_cons (q_run (.int .i64 0) rfl rfl (wv_n rfl) rfl (fun _ _ hρ _ => r_extract (hρ _ _ rfl) rfl)) (all_cons (q_run (.slice h13.t.a h13.t.l.length h13.t.cap) rfl rfl (wv_n rfl) rfl (fun _ _ hρ _ => r_assign (hρ _ _ rfl))) (all_cons (q_run (.int .i64 ov13) rfl rfl (wv_n rfl) rfl (fun _ _ hρ _ => r_assign (hρ _ _ rfl))) (all_cons (q_run (.int .i64 0) rfl rfl (wv_n rfl) rfl (fun _ _ hρ _ => r_assign (hρ _ _ rfl))) all_nil))))))) (end_old rfl rfl (end_old rfl rfl (end_old rfl rfl (end_new 13 rfl rfl (end_new 15 rfl rfl (end_new 17 rfl rfl end_nil)))))) (fun a w hf hm => At_intro (B5, ar12, cr12, h13, bs13, ov13, B11) ⟨hr13, trivial⟩ hf hm (sub_cons rfl (sub_cons rfl (sub_cons rfl (sub_cons rfl (sub_cons rfl (sub_cons rfl sub_nil)))))) (sub_cons rfl (sub_cons rfl (sub_cons rfl (sub_cons rfl (sub_cons rfl (sub_cons rfl (sub_cons rfl (sub_cons rfl sub_nil)))))))))
    · skip
      refine LOb_new 5 (.cells #[.slice none 0 0, .int .u64 0] 27) (fun B => .pointer (some ⟨B, 0, none⟩)) (fun B => []) rfl (wv_n rfl) rfl rfl (fun _ _ _ _ => r_alloc (v := .agg #[.slice none 0 0, .int .u64 0]) (by kernel_rfl) rfl) (fun B => by kernel_rfl) ?_
      intro B14
      refine G_step [0, 1, 3, 4, 5] 2 [] (by kernel_rfl) (allM (all_cons (q_run (.agg #[.slice a ps.length cap, .int .u64 lost]) rfl rfl (wv_n rfl) rfl (fun _ _ hρ hm => r_loadA ag27 sz27 (hρ _ _ rfl) (hm.at 1 rfl) rfl rfl)) (all_cons (q_run (.agg #[.int .i64 1, .int .i64 0, .int .i64 0, .int .u32 0]) rfl rfl (wv_n rfl) rfl (fun _ _ hρ _ => r_build (vs := [(0, .int .i64 1)]) (by kernel_rfl) (cons2 (pair2 (hρ _ _ rfl)) rfl))) (all_cons (q_run (.pointer (some ⟨B1, 0, none⟩)) rfl rfl (wv_n rfl) rfl (fun _ _ hρ _ => r_fieldAddr fl27_0 sz22 (hρ _ _ rfl))) (all_cons (q_run (.slice a ps.length cap) rfl rfl (wv_n rfl) rfl (fun _ _ hρ hm => r_load ag22 (hρ _ _ rfl) (hm.at 1 rfl) rfl)) (all_cons (q_run (.int .i64 ((ps.length : Nat) : Int)) rfl rfl (wv_n rfl) rfl (fun _ _ hρ _ => r_len sl22 (hρ _ _ rfl))) all_nil)))))) (allM (all_cons ?_ all_nil))
      refine LOb_new 3 (.cells #[.int .i64 1, .int .i64 0, .int .i64 0, .int .u32 0] 48) (fun B => .slice (some ⟨B, 0, none⟩) 1 1) (fun B => []) rfl (wv_n rfl) rfl rfl (fun _ _ hρ _ => r_buildSlice (vs := [(0, .agg #[.int .i64 1, .int .i64 0, .int .i64 0, .int .u32 0])]) (by kernel_rfl) (cons2 (pair2 (hρ _ _ rfl)) rfl)) (fun B => by kernel_rfl) ?_
      intro B15
      refine G_step [0, 3, 4, 5] 6 [] (by kernel_rfl) (allM (all_cons (q_run (.agg #[.slice a ps.length cap, .int .u64 lost]) rfl rfl (wv_n rfl) rfl (fun _ _ hρ hm => r_loadA ag27 sz27 (hρ _ _ rfl) (hm.at 1 rfl) rfl rfl)) (all_cons (q_run (.pointer (some ⟨B1, 0, none⟩)) rfl rfl (wv_n rfl) rfl (fun _ _ hρ _ => r_fieldAddr fl27_0 sz22 (hρ _ _ rfl))) (all_cons (q_run (.slice a ps.length cap) rfl rfl (wv_n rfl) rfl (fun _ _ hρ hm => r_load ag22 (hρ _ _ rfl) (hm.at 1 rfl) rfl)) (all_cons (q_run (.int .i64 ((ps.length : Nat) : Int)) rfl rfl (wv_n rfl) rfl (fun _ _ hρ _ => r_len sl22 (hρ _ _ rfl))) all_nil))))) (allM (all_cons ?_ all_nil))
      refine LOb_callN (fun (_ : Option Addr × Nat) => True) (fun (ar16, cr16) => .slice ar16 ((List.replicate ps.length (⟨1, 0, 0, 0#32⟩ : Trk)).length) cr16) (fun (ar16, cr16) => [(4, .row (.slice ar16 ((List.replicate ps.length (⟨1, 0, 0, 0#32⟩ : Trk)).length) cr16) 48 4 ((List.replicate ps.length (⟨1, 0, 0, 0#32⟩ : Trk)).length) ((List.replicate ps.length (⟨1, 0, 0, 0#32⟩ : Trk)).flatMap Trk.cells))]) (fun (ar16, cr16) => []) rfl (wv_n rfl) rfl rfl (fun _ _ hρ _ => r_call (args := [.slice (some ⟨B15, 0, none⟩) 1 1, .int .i64 ((ps.length : Nat) : Int)]) (enters_of Try.func67 (by kernel_rfl) rfl) (hρ _ _ rfl) ((cons2 (hρ _ _ rfl) (cons2 (hρ _ _ rfl) rfl))) rfl) (fun w hm => (rep_any (⟨1, 0, 0, 0#32⟩ : Trk) ps.length B15 w (by omega) (hm.at 3 rfl)).mono fun e w' ⟨a', cap', he, hb, hr⟩ => ⟨(a', cap'), trivial, he, hb, newOk1 4 hr⟩) (fun (ar16, cr16) => by kernel_rfl) ?_
      rintro ⟨ar16, cr16⟩ -
      refine G_step [0] 7 [] (by kernel_rfl) (allM (all_cons (q_run (.agg #[.slice a ps.length cap, .int .u64 lost]) rfl rfl (wv_n rfl) rfl (fun _ _ hρ hm => r_loadA ag27 sz27 (hρ _ _ rfl) (hm.at 1 rfl) rfl rfl)) all_nil)) (allM (all_cons ?_ all_nil))
      refine LOb_callN (fun x : Hd × List (RowG By) × Int => RunIs (pvs ps, lost) (List.replicate ps.length (⟨1, 0, 0, 0#32⟩ : Trk)) (x.1, x.2.1) x.2.2) (fun (h17, bs17, ov17) => .tuple #[.agg #[.slice h17.n.a h17.n.l.length h17.n.cap, .int .u64 h17.lost], .slice h17.t.a h17.t.l.length h17.t.cap, .int .i64 ov17, .int .i64 0]) (fun (h17, bs17, ov17) => [(951, .row (.slice h17.n.a h17.n.l.length h17.n.cap) 36 3 h17.n.l.length (h17.n.l.flatMap Pcl.cells)), (952, .row (.slice h17.t.a h17.t.l.length h17.t.cap) 36 3 h17.t.l.length (h17.t.l.flatMap Pcl.cells)), (953, .pool 5 1 byc bs17)]) (fun (h17, bs17, ov17) => [(8, .tuple #[.agg #[.slice h17.n.a h17.n.l.length h17.n.cap, .int .u64 h17.lost], .slice h17.t.a h17.t.l.length h17.t.cap, .int .i64 ov17, .int .i64 0]), (9, .agg #[.slice h17.n.a h17.n.l.length h17.n.cap, .int .u64 h17.lost]), (10, .slice h17.t.a h17.t.l.length h17.t.cap), (11, .int .i64 ov17), (12, .int .i64 0)]) rfl (wv_n rfl) rfl rfl (fun _ _ hρ _ => r_call (args := [.agg #[.slice a ps.length cap, .int .u64 lost], .slice ar16 ((List.replicate ps.length (⟨1, 0, 0, 0#32⟩ : Trk)).length) cr16]) (enters_of Try.func28 (by kernel_rfl) rfl) (hρ _ _ rfl) ((cons2 (hρ _ _ rfl) (cons2 (hρ _ _ rfl) rfl))) rfl) (fun w hm => (run_ok ps a cap lost (List.replicate ps.length (⟨1, 0, 0, 0#32⟩ : Trk)) ar16 cr16 w (hv.keep hm.ext) hcap (hb.keep hm.ext) (SliceAt.own Trk.cells_len (hm.row 4 rfl) rfl rfl) (row_cap (hm.row 4 rfl)) (by rw [List.length_replicate]; omega) h0 hck).mono fun e w' ⟨⟨h, bs⟩, ov, hx, he, hb, r1, r2, r3, s1, s2, s3⟩ => ⟨(h, bs, ov), hx, he, hb, newOk3 951 952 953 r1 r2 r3 s1 s2 s3⟩) (fun (h17, bs17, ov17) => by kernel_rfl) ?_
      rintro ⟨h17, bs17, ov17⟩ hr17
      refine G_step [8, 9, 10, 11, 12] 14 [] (by kernel_rfl) (allM (all_cons (q_run (.tuple #[.agg #[.slice h17.n.a h17.n.l.length h17.n.cap, .int .u64 h17.lost], .slice h17.t.a h17.t.l.length h17.t.cap, .int .i64 ov17, .int .i64 0]) rfl rfl (wv_n rfl) rfl (fun _ _ hρ _ => r_move (hρ _ _ rfl))) (all_cons (q_run (.agg #[.slice h17.n.a h17.n.l.length h17.n.cap, .int .u64 h17.lost]) rfl rfl (wv_n rfl) rfl (fun _ _ hρ _ => r_extract (hρ _ _ rfl) rfl)) (all_cons (q_run (.slice h17.t.a h17.t.l.length h17.t.cap) rfl rfl (wv_n rfl) rfl (fun _ _ hρ _ => r_extract (hρ _ _ rfl) rfl)) (all_cons (q_run (.int .i64 ov17) rfl rfl (wv_n rfl) rfl (fun _ _ hρ _ => r_extract (hρ _ _ rfl) rfl)) (all_cons (q_run (.int .i64 0) rfl rfl (wv_n rfl) rfl (fun _ _ hρ _ => r_extract (hρ _ _ rfl) rfl)) all_nil)))))) (allM (all_cons ?_ all_nil))
      refine LOb_store 5 (.cells #[.slice h17.n.a h17.n.l.length h17.n.cap, .int .u64 h17.lost] 27) [(15, .slice h17.t.a h17.t.l.length h17.t.cap), (16, .int .i64 ov17), (17, .int .i64 0)] rfl (wv_n rfl) rfl rfl rfl (fun _ _ hρ hm => r_store sz27 (hρ _ _ rfl) (hρ _ _ rfl) (hm.at 5 rfl) rfl rfl rfl rfl) (by kernel_rfl) ?_
      exact G_lastQ [10, 11, 12, 15, 16, 17] [(2, .pointer (some ⟨B2, 0, none⟩)), (3, .slice none 0 0), (4, .int .i64 0), (5, .pointer (some ⟨B14, 0, none⟩)), (6, .slice h17.t.a h17.t.l.length h17.t.cap), (8, .int .i64 0)] (by kernel_rfl) (allM (all_cons (q_run (.slice h17.t.a h17.t.l.length h17.t.cap) rfl rfl (wv_n rfl) rfl (fun _ _ hρ _ => r_extract (hρ _ _ rfl) rfl)) (all_cons (q_run (.int .i64 ov17) rfl rfl (wv_n rfl) rfl (fun _ _ hρ _ => r_extract (hρ _ _ rfl) rfl)) (all_cons (q_run (.int .i64 0) rfl rfl (wv_n rfl) rfl (fun _ _ hρ _ => r_extract (hρ _ _ rfl) rfl)) (all_cons (q_run (.slice h17.t.a h17.t.l.length h17.t.cap) rfl rfl (wv_n rfl) rfl (fun _ _ hρ _ => r_assign (hρ _ _ rfl))) (all_cons (q_run (.int .i64 ov17) rfl rfl (wv_n rfl) rfl (fun _ _ hρ _ => r_assign (hρ _ _ rfl))) (all_cons (q_run (.int .i64 0) rfl rfl (wv_n rfl) rfl (fun _ _ hρ _ => r_assign (hρ _ _ rfl))) all_nil))))))) (end_old rfl rfl (end_old rfl rfl (end_old rfl rfl (end_new 13 rfl rfl (end_new 15 rfl rfl (end_new 17 rfl rfl end_nil)))))) (fun a w hf hm => At_intro (B15, ar16, cr16, h17, bs17, ov17, B14) ⟨hr17, trivial⟩ hf hm (sub_cons rfl (sub_cons rfl (sub_cons rfl (sub_cons rfl (sub_cons rfl (sub_cons rfl sub_nil)))))) (sub_cons rfl (sub_cons rfl (sub_cons rfl (sub_cons rfl (sub_cons rfl (sub_cons rfl (sub_cons rfl (sub_cons rfl sub_nil)))))))))
  · skip
    obtain ⟨Bx2, ar3, cr3, h4, bs4, ov4, Bx13⟩ := z
    obtain ⟨hr4, _⟩ := hz
    show T _ _ _ [(2, .pointer (some ⟨B2, 0, none⟩)), (3, .slice none 0 0), (4, .int .i64 0), (5, .pointer (some ⟨Bx13, 0, none⟩)), (6, .slice h4.t.a h4.t.l.length h4.t.cap), (8, .int .i64 0)] [(1, .blk B1 (.cells #[.slice a ps.length cap, .int .u64 lost] 27)), (2, .blk B2 (.cells #[.slice none 0 0, .int .u64 0] 27)), (3, .blk Bx2 (.cells #[.int .i64 1, .int .i64 0, .int .i64 0, .int .u32 0] 48)), (4, .row (.slice ar3 ((List.replicate ps.length (⟨1, 0, 0, 0#32⟩ : Trk)).length) cr3) 48 4 ((List.replicate ps.length (⟨1, 0, 0, 0#32⟩ : Trk)).length) ((List.replicate ps.length (⟨1, 0, 0, 0#32⟩ : Trk)).flatMap Trk.cells)), (5, .blk Bx13 (.cells #[.slice h4.n.a h4.n.l.length h4.n.cap, .int .u64 h4.lost] 27)), (951, .row (.slice h4.n.a h4.n.l.length h4.n.cap) 36 3 h4.n.l.length (h4.n.l.flatMap Pcl.cells)), (952, .row (.slice h4.t.a h4.t.l.length h4.t.cap) 36 3 h4.t.l.length (h4.t.l.flatMap Pcl.cells)), (953, .pool 5 1 byc bs4)]
    refine T_seq (T_region ?_)
    refine TL_q (.agg #[.slice h4.n.a h4.n.l.length h4.n.cap, .int .u64 h4.lost]) (fun _ _ hρ hm => r_loadA ag27 sz27 (hρ _ _ rfl) (hm.at 5 rfl) rfl rfl) rfl rfl rfl (w_n rfl) ?_
    refine TL_q (.slice h4.t.a h4.t.l.length h4.t.cap) (fun _ _ hρ _ => r_move (hρ _ _ rfl)) rfl rfl rfl (w_n rfl) ?_
    refine TL_q (.int .i64 0) (fun _ _ hρ _ => r_move (hρ _ _ rfl)) rfl rfl rfl (w_n rfl) ?_
    refine TL_store 2 (.cells #[.slice h4.n.a h4.n.l.length h4.n.cap, .int .u64 h4.lost] 27) rfl (fun _ _ hρ hm => r_store sz27 (hρ _ _ rfl) (hρ _ _ rfl) (hm.at 2 rfl) rfl rfl rfl rfl) rfl rfl (w_n rfl) ?_
    refine TL_q (.slice h4.t.a h4.t.l.length h4.t.cap) (fun _ _ hρ _ => r_assign (hρ _ _ rfl)) rfl rfl rfl (w_n rfl) ?_
    refine TL_q (.int .i64 0) (fun _ _ hρ _ => r_assign (hρ _ _ rfl)) rfl rfl rfl (w_n rfl) ?_
    refine TL_seq ?_
    refine T_ret' ?_
    refine ret_of rfl (.tuple #[.agg #[.slice h4.n.a h4.n.l.length h4.n.cap, .int .u64 h4.lost], .slice h4.t.a h4.t.l.length h4.t.cap, .int .i64 0]) (fun tmps w hk hm => res3 rfl (res_cell (hk 2 _ rfl) (run_loadVar_agg ag27 sz27 (hm.at 2 rfl) (Nat.le_of_ble_eq_true rfl) rfl)) (res_tmp (hk 3 _ rfl)) (res_tmp (hk 4 _ rfl))) (fun w hm => ?_)
    have he9 := hr4.is
    rw [empty_run] at he9
    exact ⟨(h4, bs4), ⟨(congrArg (·.1) he9), (congrArg (·.2.1) he9), hr4.ok⟩, rfl, hm.ext, hm.own 951 _ rfl, hm.own 952 _ rfl, hm.own 953 _ rfl, hm.sep 951 952 _ _ rfl rfl (by decide), hm.sep 951 953 _ _ rfl rfl (by decide), hm.sep 952 953 _ _ rfl rfl (by decide)⟩
end Go.Proofs.Ytcidgbjgeegepaa
/- A range over a function whose rounds begin with new blocks. Over any program. -/
namespace Go.Proofs.Ytcidgbjgeegepaa
open Go Go.RowKit
theorem p_round_x {C : Cx} {K : List (Nat × Value)} {L : Heap} {idD idl D l id : Nat} {rec : Loop} {ι : Type} {p : ι → Prop} {LI : ι → Heap} {pX : Code → ι → Prop} {LX : ι → Heap} (i : ι) (hp : pX (.exit id) i)
    (hL : SubK L ((idD, .blk D (.deferred (some []))) :: (idl, .blk l (.loop { rec with state := .busy })) :: LX i)) : POk C (RoundQ C.w₀ idD idl D l rec p LI pX LX) (.exit id) K L := fun _ _ _ hm => ⟨i, hp, hm.sub hL⟩
end Go.Proofs.Ytcidgbjgeegepaa
