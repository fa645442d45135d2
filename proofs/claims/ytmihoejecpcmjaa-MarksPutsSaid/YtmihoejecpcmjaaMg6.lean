/- Texts of this seat, merged: part 6. -/
import Derived.Test.YtmihoejecpcmjaaMg5
/- MarksPuts: what the law counts (plainly); Put, whatever is put. -/
namespace Go.Proofs.Ytmihoejecpcmjaa
open Go Go.RowKit
/-- What is told: 0, or that these are no marks. -/
def noI (b : Bool) : Int := if b then 0 else 260
theorem noI_z {b : Bool} (h : noI b = 0) : b = true := by
  cases b
  · exact absurd h (by decide)
  · rfl
theorem tagB_fst {α : Type} (b : Nat) (l : List α) : (tagB b l).map Prod.fst = rangeF b l.length := by
  refine List.ext_getElem? (fun k => ?_)
  rw [List.getElem?_map, tagB_at]
  unfold rangeF
  rw [List.getElem?_map]
  by_cases h : k < l.length
  · rw [List.getElem?_eq_getElem h, List.getElem?_range h]; rfl
  · rw [List.getElem?_eq_none (by omega), List.getElem?_eq_none (by rw [List.length_range]; omega)]; rfl
theorem kept_mem {S : List NI} {d : Tid} {p : NI} (h : p ∈ keptP (S.map Prod.snd) d) : p = (-1, d) ∨ ∃ (j : Nat) (s : NI), S[j]? = some s ∧ p = ((j : Int), s.2) := by
  rcases putG_mem h with h1 | h1
  · obtain ⟨j, hj⟩ := List.getElem?_of_mem h1
    rw [tag_at, List.getElem?_map] at hj
    cases e : S[j]? with
    | none => rw [e] at hj; cases hj
    | some s => rw [e] at hj; cases hj; exact .inr ⟨j, s, e, rfl⟩
  · exact .inl h1
theorem kept_old {S : List NI} {d : Tid} {p : NI} (h : p ∈ keptP (S.map Prod.snd) d) (hn : ¬ p.1 < 0) : ∃ (j : Nat) (s : NI), S[j]? = some s ∧ p.1 = (j : Int) := by
  rcases kept_mem h with h1 | ⟨j, s, h1, h2⟩
  · rw [h1] at hn; exact absurd (show (-1 : Int) < 0 by decide) hn
  · exact ⟨j, s, h1, by rw [h2]⟩
theorem ren_neg {S : List NI} {x : Int} {p : NI} (h : p.1 < 0) : (renum S x p).1 = x := by unfold renum; rw [if_pos h]
theorem ren_old {S : List NI} {x : Int} {p s : NI} {j : Nat} (hj : S[j]? = some s) (hp : p.1 = (j : Int)) : (renum S x p).1 = s.1 := by
  unfold renum
  rw [if_neg (by omega)]
  show ((S[p.1.toNat]?).map Prod.fst).getD 0 = s.1
  rw [hp, Int.toNat_natCast, hj]; rfl
theorem ren_snd (S : List NI) (x : Int) (p : NI) : (renum S x p).2 = p.2 := by unfold renum; split <;> rfl
/-- The numbers of the first t of what is kept. -/
def asL (S : List NI) (x : Int) (K : List NI) (t : Nat) : List Int := (K.take t).map fun p => (renum S x p).1
theorem asL_step {S : List NI} {x : Int} {K : List NI} {t : Nat} {p : NI} (h : K[t]? = some p) : asL S x K (t + 1) = asL S x K t ++ [(renum S x p).1] := by
  unfold asL
  rw [List.take_add_one, h, List.map_append]; rfl
theorem asL_all {S : List NI} {x : Int} {K : List NI} : asL S x K K.length = (K.map (renum S x)).map Prod.fst := by
  unfold asL
  rw [List.take_length, List.map_map]; rfl
theorem asL_len (S : List NI) (x : Int) (K : List NI) (t : Nat) : (asL S x K t).length ≤ t := by unfold asL; rw [List.length_map, List.length_take]; exact Nat.min_le_left _ _
theorem ids_renum {S : List NI} {x : Int} {K : List NI} : (K.map (renum S x)).map Prod.snd = K.map Prod.snd := by
  rw [List.map_map]
  exact List.map_congr_left fun p _ => ren_snd S x p
theorem state_len {I Y : List Tid} (h : I.length ≤ 6) (j : Nat) : (stateP I Y j).length ≤ 6 := putsG_len _ _ (by rw [tagB_len]; exact h)
theorem state_up {I Y : List Tid} (h : Up I) (j : Nat) : Up ((stateP I Y j).map Prod.snd) := by
  unfold stateP
  rw [putsG_map (key := Prod.snd) (key' := id) (f := Prod.snd) (fun _ => rfl), tagB_snd]
  exact puts_up h
theorem kept_len {l : List Tid} {d : Tid} (h : l.length ≤ 6) : (keptP l d).length ≤ 6 := putG_len _ _ (by rw [tag_len]; exact h)
theorem ok_step {Y : List Tid} {k : Nat} {d : Tid} (h : Y[k]? = some d) : (Y.take (k + 1)).all okI = ((Y.take k).all okI && okI d) := by
  rw [List.take_add_one, h, List.all_append]
  show ((Y.take k).all okI && (okI d && true)) = _
  rw [Bool.and_true]
theorem rput_b (l : List Tid) (a : Option Addr) (cap : Nat) (d : Tid) (w : World) (hv : SliceAt w a cap 3 Tid.cells l) (hcap : cap ≤ Go.maxLen) (hul : Up l) (h6 : l.length ≤ 6) :
    Calls Try.prog 20 #[.slice a l.length cap, d.v] w fun e w' => ∃ a1 c1 a2 c2, e = .returned (.tuple #[.slice a1 (keptP l d).length c1, .slice a2 ((keptP l d).map Prod.snd).length c2]) ∧ Below w.heap.size w w' ∧
      NewOk w w' [(0, .row (.slice a1 (keptP l d).length c1) 3 1 (keptP l d).length ((keptP l d).flatMap numc)), (1, .rowB true (.slice a2 ((keptP l d).map Prod.snd).length c2) 32 3 ((keptP l d).map Prod.snd).length (((keptP l d).map Prod.snd).flatMap Tid.cells))] := by
  refine (rput_c l a cap d w hv hcap hul h6).mono fun e w' ⟨a1, c1, a2, c2, he, hb, hn⟩ => ⟨a1, c1, a2, c2, ?_, hb, ?_⟩
  · rw [List.length_map]; exact he
  · refine newOk2 0 1 (hn.own 0 _ rfl) (rowB_own ?_) (fun b h1 h2 => hn.sep 0 1 _ _ rfl rfl (by decide) b h1 (by have h3 := h2.2; rw [List.length_map] at h3; exact h3))
    rw [List.length_map, List.flatMap_map]
    exact hn.own 1 _ rfl
theorem put_any (ms : List Mk) (a : Option Addr) (cap : Nat) (xs : List Mk) (b : Option Addr) (capb : Nat) (w : World) (hv : SliceAt w a cap 4 Mk.cells ms) (hcap : cap ≤ Go.maxLen) (hu : SliceAt w b capb 4 Mk.cells xs) (hcapb : capb ≤ Go.maxLen) :
    Calls Try.prog 21 #[.slice a ms.length cap, .slice b xs.length capb] w fun e w' => ∃ (zs : List Mk) (a' : Option Addr) (cap' : Nat), e = .returned (.tuple #[.slice a' zs.length cap', .int .i64 (noI (marksB ms && xs.all okM))]) ∧ Below w.heap.size w w' ∧
      w'.ownsRow w.heap.size 36 4 (.slice a' zs.length cap') zs.length (zs.flatMap Mk.cells) ∧ zs = if (marksB ms && xs.all okM) = true then putsG Mk.i ms xs else [] := by
  by_cases h : marksB ms = true ∧ xs.all okM = true
  · have hb : (marksB ms && xs.all okM) = true := by rw [h.1, h.2]; rfl
    refine (put_ok ms a cap xs b capb w hv hcap hu hcapb h.1 h.2).mono fun e w' ⟨a', cap', he, hb', hr⟩ => ⟨_, a', cap', ?_, hb', hr, by rw [if_pos hb]⟩
    rw [hb]; exact he
  · have hb : ¬ (marksB ms && xs.all okM) = true := fun e => h ((Bool.and_eq_true _ _).mp e)
    refine (put_no ms a cap xs b capb w hv hcap hu hcapb h).mono fun e w' ⟨he, hb'⟩ => ⟨[], none, 0, ?_, hb', World.ownsRow_nil _ _ _ _, by rw [if_neg hb]⟩
    rw [eq_false_of_ne_true hb]; exact he
end Go.Proofs.Ytmihoejecpcmjaa
/- net and journal: MarksPuts. Printed by a program of this seat's prover. -/
namespace Go.Proofs.Ytmihoejecpcmjaa
open Go Go.RowKit
set_option maxRecDepth 10000
set_option maxHeartbeats 4000000 in
theorem mputs_c (x : List Tid) (a : Option Addr) (capa : Nat) (y : List Tid) (b : Option Addr) (capb : Nat) (w : World) (hv : SliceAt w a capa 3 Tid.cells x) (hcapa : capa ≤ Go.maxLen) (hu : SliceAt w b capb 3 Tid.cells y) (hcapb : capb ≤ Go.maxLen) : Calls Try.prog 4 #[.slice a x.length capa, .slice b y.length capb] w fun e w' => e = .returned (.bool true) ∧ Below w.heap.size w w' := by
  have hvl := hv.1
  have hul := hu.1
  unfold Go.maxLen at hcapa hcapb
  refine calls_of_T (l := [.slice a x.length capa, .slice b y.length capb]) 178 Try.func4 rfl rfl rfl ?_
  show T _ _ _ [(0, .slice a x.length capa), (1, .slice b y.length capb)] []
  refine T_seq (T_region ?_)
  refine TL_q (.bool false) (fun _ _ hρ _ => r_assign (hρ _ _ rfl)) rfl rfl rfl (w_n rfl) ?_
  refine TL_seq ?_
  refine T_seq ?_
  refine T_seq (T_region ?_)
  refine TL_call (.bool true) (fun _ _ hρ _ => r_call (args := []) (enters_of Try.func8 (by kernel_rfl) rfl) (hρ _ _ rfl) (by rfl) rfl) (fun w _ => wakes_c w) rfl rfl rfl (w_n rfl) ?_
  refine TL_q (.bool false) (fun _ _ hρ _ => r_not (b := true) (hρ _ _ rfl)) rfl rfl rfl (w_n rfl) ?_
  refine TL_seq ?_
  refine T_cond_f rfl ?_
  refine T_skip' ?_
  refine p_seq ?_
  refine T_seq (T_region ?_)
  refine TL_q (.slice a x.length capa) (fun _ _ hρ _ => r_move (hρ _ _ rfl)) rfl rfl rfl (w_n rfl) ?_
  refine TL_callN (fun (_ : Option Addr × Nat) => True) (fun (ar1, cr1) => .slice ar1 ((x.take 8).length) cr1) (fun (ar1, cr1) => [(951, .row (.slice ar1 ((x.take 8).length) cr1) 32 3 ((x.take 8).length) ((x.take 8).flatMap Tid.cells))]) (fun _ _ hρ _ => r_call (args := [.slice a x.length capa, .int .i64 8]) (enters_of Try.func10 (by kernel_rfl) rfl) (hρ _ _ rfl) ((cons2 (hρ _ _ rfl) (cons2 (hρ _ _ rfl) rfl))) rfl) (fun w hm => (few_c x a capa 8 w (hv.keep hm.ext) hcapa (by omega)).mono fun e w' ⟨a', cap', he, hb, hr⟩ => ⟨(a', cap'), trivial, he, hb, newOk1 951 hr⟩) rfl rfl rfl (w_n rfl) ?_
  rintro ⟨ar1, cr1⟩ -
  refine TL_q (.slice b y.length capb) (fun _ _ hρ _ => r_move (hρ _ _ rfl)) rfl rfl rfl (w_n rfl) ?_
  refine TL_callN (fun (_ : Option Addr × Nat) => True) (fun (ar2, cr2) => .slice ar2 ((y.take 6).length) cr2) (fun (ar2, cr2) => [(953, .row (.slice ar2 ((y.take 6).length) cr2) 32 3 ((y.take 6).length) ((y.take 6).flatMap Tid.cells))]) (fun _ _ hρ _ => r_call (args := [.slice b y.length capb, .int .i64 6]) (enters_of Try.func10 (by kernel_rfl) rfl) (hρ _ _ rfl) ((cons2 (hρ _ _ rfl) (cons2 (hρ _ _ rfl) rfl))) rfl) (fun w hm => (few_c y b capb 6 w (hu.keep hm.ext) hcapb (by omega)).mono fun e w' ⟨a', cap', he, hb, hr⟩ => ⟨(a', cap'), trivial, he, hb, newOk1 953 hr⟩) rfl rfl rfl (w_n rfl) ?_
  rintro ⟨ar2, cr2⟩ -
  refine TL_q (.slice ar1 ((x.take 8).length) cr1) (fun _ _ hρ _ => r_assign (hρ _ _ rfl)) rfl rfl rfl (w_n rfl) ?_
  refine TL_q (.slice ar2 ((y.take 6).length) cr2) (fun _ _ hρ _ => r_assign (hρ _ _ rfl)) rfl rfl rfl (w_n rfl) ?_
  refine TL_seq ?_
  obtain ⟨I, hI⟩ : ∃ z, z = x.take 8 := ⟨_, rfl⟩
  rw [← hI]
  have hIl : I.length ≤ 8 := by rw [hI, List.length_take]; omega
  obtain ⟨Y, hY⟩ : ∃ z, z = y.take 6 := ⟨_, rfl⟩
  rw [← hY]
  have hYl : Y.length ≤ 6 := by rw [hY, List.length_take]; omega
  refine T_seq (T_region ?_)
  refine TL_q (.slice ar1 I.length cr1) (fun _ _ hρ _ => r_move (hρ _ _ rfl)) rfl rfl rfl (w_n rfl) ?_
  refine TL_callN (fun ((mr3, cs3, ar3, cr3) : List Mk × List Cv × Option Addr × Nat) => idsM mr3 = I ∧ PaintOk mr3 cs3 0) (fun (mr3, cs3, ar3, cr3) => .slice ar3 mr3.length cr3) (fun (mr3, cs3, ar3, cr3) => [(952, .row (.slice ar3 mr3.length cr3) 36 4 mr3.length (mr3.flatMap Mk.cells)), (962, .cvs cs3)]) (fun _ _ hρ _ => r_call (args := [.slice ar1 I.length cr1, .int .i64 0]) (enters_of Try.func9 (by kernel_rfl) rfl) (hρ _ _ rfl) ((cons2 (hρ _ _ rfl) (cons2 (hρ _ _ rfl) rfl))) rfl) (fun w hm => (row_c I ar1 cr1 0 w (SliceAt.own Tid.cells_len (hm.row 951 rfl) rfl rfl) (row_cap (hm.row 951 rfl)) (by omega) (by omega)).mono fun e w' ⟨m, c, a', cap', he, hb, hn, h1, h2⟩ => ⟨(m, c, a', cap'), ⟨h1, h2⟩, he, hb, newOk_at 952 962 (by decide) hn⟩) rfl rfl rfl (w_n rfl) ?_
  rintro ⟨mr3, cs3, ar3, cr3⟩ hr3
  refine TL_q (.slice ar3 mr3.length cr3) (fun _ _ hρ _ => r_assign (hρ _ _ rfl)) rfl rfl rfl (w_n rfl) ?_
  refine TL_seq ?_
  refine T_seq (T_region ?_)
  refine TL_q (.slice ar1 I.length cr1) (fun _ _ hρ _ => r_move (hρ _ _ rfl)) rfl rfl rfl (w_n rfl) ?_
  refine TL_call (.bool (marksB mr3)) (fun _ _ hρ _ => r_call (args := [.slice ar1 I.length cr1]) (enters_of Try.func17 (by kernel_rfl) rfl) (hρ _ _ rfl) ((cons2 (hρ _ _ rfl) rfl)) rfl) (fun w hm => (rmay_c I ar1 cr1 w (SliceAt.own Tid.cells_len (hm.row 951 rfl) rfl rfl) (row_cap (hm.row 951 rfl))).mono fun _ _ h => ⟨h.1.trans (congrArg Ending.returned (bool_as (row_marks hr3.1 hr3.2).symm)), h.2⟩) rfl rfl rfl (w_n rfl) ?_
  refine TL_q (.bool (marksB mr3)) (fun _ _ hρ _ => r_assign (hρ _ _ rfl)) rfl rfl rfl (w_n rfl) ?_
  refine TL_seq ?_
  refine T_seq ?_
  obtain ⟨r9, hr9⟩ : ∃ z, z = marksB mr3 := ⟨_, rfl⟩
  rw [← hr9]
  have hIM : I.length = mr3.length := by rw [← hr3.1, ids_len]
  refine T_seq (T_region ?_)
  refine TL_q (.slice ar3 mr3.length cr3) (fun _ _ hρ _ => r_move (hρ _ _ rfl)) rfl rfl rfl (w_n rfl) ?_
  refine TL_call (.int .i64 (noI r9)) (fun _ _ hρ _ => r_call (args := [.slice ar3 mr3.length cr3]) (enters_of Try.func14 (by kernel_rfl) rfl) (hρ _ _ rfl) ((cons2 (hρ _ _ rfl) rfl)) rfl) (fun w hm => (check_c mr3 ar3 cr3 w (SliceAt.own Mk.cells_len (hm.row 952 rfl) rfl rfl) (row_cap (hm.row 952 rfl))).mono fun _ _ h => ⟨h.1.trans (congrArg Ending.returned (int_as (by rw [hr9]; rfl))), h.2⟩) rfl rfl rfl (w_n rfl) ?_
  refine TL_q (.int .i64 (noI r9)) (fun _ _ hρ _ => r_assign (hρ _ _ rfl)) rfl rfl rfl (w_n rfl) ?_
  refine TL_seq ?_
  obtain ⟨e9, he9⟩ : ∃ z, z = noI r9 := ⟨_, rfl⟩
  rw [← he9]
  refine T_join (ι := Unit) (fun _ => True) (fun _ => [(4, .bool false), (5, .slice ar1 I.length cr1), (6, .slice ar2 Y.length cr2), (7, .slice ar3 mr3.length cr3), (8, .bool r9), (50, .bool false)]) (fun _ => [(952, .row (.slice ar3 mr3.length cr3) 36 4 mr3.length (mr3.flatMap Mk.cells)), (962, .cvs cs3), (953, .row (.slice ar2 Y.length cr2) 32 3 Y.length (Y.flatMap Tid.cells)), (951, .row (.slice ar1 I.length cr1) 32 3 I.length (I.flatMap Tid.cells))]) ?_ (fun z _ => ?_)
  · skip
    by_cases hr : r9 = true
    · skip
      refine T_region ?_
      refine TL_q (.int .i64 e9) (fun _ _ hρ _ => r_move (hρ _ _ rfl)) rfl rfl rfl (w_n rfl) ?_
      refine TL_q (.bool true) (fun _ _ hρ _ => r_as (r_eql (hρ _ _ rfl) (hρ _ _ rfl)) (bool_as (decide_eq_true (by rw [he9, hr]; decide)))) rfl rfl rfl (w_n rfl) ?_
      refine TL_q (.bool r9) (fun _ _ hρ _ => r_move (hρ _ _ rfl)) rfl rfl rfl (w_n rfl) ?_
      refine TL_q (.bool false) (fun _ _ hρ _ => r_as (r_neqB (by kernel_rfl) (hρ _ _ rfl) (hρ _ _ rfl)) (bool_as (by rw [hr]; rfl))) rfl rfl rfl (w_n rfl) ?_
      refine TL_q (.bool false) (fun _ _ hρ _ => r_move (hρ _ _ rfl)) rfl rfl rfl (w_n rfl) ?_
      refine TL_q (.int .i64 e9) (fun _ _ hρ _ => r_move (hρ _ _ rfl)) rfl rfl rfl (want_y 43 rfl rfl rfl) ?_
      refine TL_q (.bool false) (fun _ _ hρ _ => r_as (r_neq (hρ _ _ rfl) (hρ _ _ rfl)) (bool_as (by rw [decide_eq_true (by rw [he9, hr]; decide)]; rfl))) rfl rfl rfl (want_y 43 rfl rfl rfl) ?_
      refine TL_q (.bool false) (fun _ _ hρ _ => r_move (hρ _ _ rfl)) rfl rfl rfl (want_y 43 rfl rfl rfl) ?_
      refine TL_no rfl rfl (want_n 46 rfl rfl rfl) ?_
      refine TL_no rfl rfl (want_n 46 rfl rfl rfl) ?_
      refine TL_q (.bool false) (fun _ _ hρ _ => r_pick_f (hρ _ _ rfl) (hρ _ _ rfl)) rfl rfl rfl (want_y 43 rfl rfl rfl) ?_
      refine TL_q (.bool false) (fun _ _ hρ _ => r_pick_f (hρ _ _ rfl) (hρ _ _ rfl)) rfl rfl rfl (w_n rfl) ?_
      exact TL_at () trivial (sub_cons rfl (sub_cons rfl (sub_cons rfl (sub_cons rfl (sub_cons rfl (sub_cons rfl sub_nil)))))) (sub_cons rfl (sub_cons rfl (sub_cons rfl (sub_cons rfl sub_nil))))
    · skip
      refine T_region ?_
      refine TL_q (.int .i64 e9) (fun _ _ hρ _ => r_move (hρ _ _ rfl)) rfl rfl rfl (w_n rfl) ?_
      refine TL_q (.bool false) (fun _ _ hρ _ => r_as (r_eql (hρ _ _ rfl) (hρ _ _ rfl)) (bool_as (decide_eq_false (by rw [he9, eq_false_of_ne_true hr]; decide)))) rfl rfl rfl (w_n rfl) ?_
      refine TL_q (.bool r9) (fun _ _ hρ _ => r_move (hρ _ _ rfl)) rfl rfl rfl (w_n rfl) ?_
      refine TL_q (.bool false) (fun _ _ hρ _ => r_as (r_neqB (by kernel_rfl) (hρ _ _ rfl) (hρ _ _ rfl)) (bool_as (by rw [eq_false_of_ne_true hr]; rfl))) rfl rfl rfl (w_n rfl) ?_
      refine TL_q (.bool false) (fun _ _ hρ _ => r_move (hρ _ _ rfl)) rfl rfl rfl (w_n rfl) ?_
      refine TL_q (.int .i64 e9) (fun _ _ hρ _ => r_move (hρ _ _ rfl)) rfl rfl rfl (want_y 43 rfl rfl rfl) ?_
      refine TL_q (.bool true) (fun _ _ hρ _ => r_as (r_neq (hρ _ _ rfl) (hρ _ _ rfl)) (bool_as (by rw [decide_eq_false (by rw [he9, eq_false_of_ne_true hr]; decide)]; rfl))) rfl rfl rfl (want_y 43 rfl rfl rfl) ?_
      refine TL_q (.bool true) (fun _ _ hρ _ => r_move (hρ _ _ rfl)) rfl rfl rfl (want_y 43 rfl rfl rfl) ?_
      refine TL_q (.int .i64 e9) (fun _ _ hρ _ => r_move (hρ _ _ rfl)) rfl rfl rfl (want_y 46 rfl rfl rfl) ?_
      refine TL_q (.bool false) (fun _ _ hρ _ => r_as (r_neq (hρ _ _ rfl) (hρ _ _ rfl)) (bool_as (by rw [decide_eq_true (by rw [he9, eq_false_of_ne_true hr]; rfl)]; rfl))) rfl rfl rfl (want_y 46 rfl rfl rfl) ?_
      refine TL_q (.bool false) (fun _ _ hρ _ => r_pick_t (hρ _ _ rfl) (hρ _ _ rfl)) rfl rfl rfl (want_y 43 rfl rfl rfl) ?_
      refine TL_q (.bool false) (fun _ _ hρ _ => r_pick_f (hρ _ _ rfl) (hρ _ _ rfl)) rfl rfl rfl (w_n rfl) ?_
      exact TL_at () trivial (sub_cons rfl (sub_cons rfl (sub_cons rfl (sub_cons rfl (sub_cons rfl (sub_cons rfl sub_nil)))))) (sub_cons rfl (sub_cons rfl (sub_cons rfl (sub_cons rfl sub_nil))))
  · skip
    show T _ _ _ [(4, .bool false), (5, .slice ar1 I.length cr1), (6, .slice ar2 Y.length cr2), (7, .slice ar3 mr3.length cr3), (8, .bool r9), (50, .bool false)] [(952, .row (.slice ar3 mr3.length cr3) 36 4 mr3.length (mr3.flatMap Mk.cells)), (962, .cvs cs3), (953, .row (.slice ar2 Y.length cr2) 32 3 Y.length (Y.flatMap Tid.cells)), (951, .row (.slice ar1 I.length cr1) 32 3 I.length (I.flatMap Tid.cells))]
    refine T_cond_f rfl ?_
    refine T_skip' ?_
    refine p_seq ?_
    refine T_seq (T_region ?_)
    refine TL_q (.slice ar1 I.length cr1) (fun _ _ hρ _ => r_move (hρ _ _ rfl)) rfl rfl rfl (w_n rfl) ?_
    refine TL_q (.int .i64 ((I.length : Nat) : Int)) (fun _ _ hρ _ => r_len sl22 (hρ _ _ rfl)) rfl rfl rfl (w_n rfl) ?_
    refine TL_callN (fun (_ : Option Addr × Nat) => True) (fun (ar4, cr4) => .slice ar4 ((rangeF 0 I.length).length) cr4) (fun (ar4, cr4) => [(954, .row (.slice ar4 ((rangeF 0 I.length).length) cr4) 3 1 ((rangeF 0 I.length).length) ((rangeF 0 I.length).flatMap inc))]) (fun _ _ hρ _ => r_call (args := [.int .i64 0, .int .i64 ((I.length : Nat) : Int)]) (enters_of Try.func18 (by kernel_rfl) rfl) (hρ _ _ rfl) ((cons2 (hρ _ _ rfl) (cons2 (hρ _ _ rfl) rfl))) rfl) (fun w _ => (from_c 0 I.length w (by omega) (by omega)).mono fun e w' ⟨a', cap', he, hb, hr⟩ => ⟨(a', cap'), trivial, he, hb, newOk1 954 hr⟩) rfl rfl rfl (w_n rfl) ?_
    rintro ⟨ar4, cr4⟩ -
    refine TL_q (.slice ar1 I.length cr1) (fun _ _ hρ _ => r_move (hρ _ _ rfl)) rfl rfl rfl (w_n rfl) ?_
    refine TL_q (.slice ar4 ((rangeF 0 I.length).length) cr4) (fun _ _ hρ _ => r_assign (hρ _ _ rfl)) rfl rfl rfl (w_n rfl) ?_
    refine TL_q (.slice ar1 I.length cr1) (fun _ _ hρ _ => r_assign (hρ _ _ rfl)) rfl rfl rfl (w_n rfl) ?_
    refine TL_seq ?_
    refine T_seq (T_region ?_)
    refine TL_q (.int .i64 0) (fun _ _ hρ _ => r_assign (hρ _ _ rfl)) rfl rfl rfl (w_n rfl) ?_
    refine TL_seq ?_
    refine T_join (ι := Int) (fun (no7 : Int) => no7 = noI r9) (fun (no7 : Int) => [(4, .bool false), (5, .slice ar1 I.length cr1), (6, .slice ar2 Y.length cr2), (7, .slice ar3 mr3.length cr3), (10, .slice ar4 ((rangeF 0 I.length).length) cr4), (11, .slice ar1 I.length cr1), (12, .int .i64 no7)]) (fun (no7 : Int) => [(954, .row (.slice ar4 ((rangeF 0 I.length).length) cr4) 3 1 ((rangeF 0 I.length).length) ((rangeF 0 I.length).flatMap inc)), (952, .row (.slice ar3 mr3.length cr3) 36 4 mr3.length (mr3.flatMap Mk.cells)), (962, .cvs cs3), (953, .row (.slice ar2 Y.length cr2) 32 3 Y.length (Y.flatMap Tid.cells)), (951, .row (.slice ar1 I.length cr1) 32 3 I.length (I.flatMap Tid.cells))]) ?_ ?_
    · skip
      refine T_seq (T_region ?_)
      refine TL_q (.bool r9) (fun _ _ hρ _ => r_move (hρ _ _ rfl)) rfl rfl rfl (w_n rfl) ?_
      refine TL_q (.bool (!r9)) (fun _ _ hρ _ => r_not (b := r9) (hρ _ _ rfl)) rfl rfl rfl (w_n rfl) ?_
      refine TL_seq ?_
      refine T_cond rfl (fun h1 => ?_) (fun h1 => ?_)
      · replace h1 := bnot_t h1
        refine T_region ?_
        refine TL_q (.int .i64 260) (fun _ _ hρ _ => r_assign (hρ _ _ rfl)) rfl rfl rfl (w_n rfl) ?_
        refine TL_nil ?_
        exact p_at 260 (by rw [h1]; rfl) (sub_cons rfl (sub_cons rfl (sub_cons rfl (sub_cons rfl (sub_cons rfl (sub_cons rfl (sub_cons rfl sub_nil))))))) (sub_cons rfl (sub_cons rfl (sub_cons rfl (sub_cons rfl (sub_cons rfl sub_nil)))))
      · replace h1 := bnot_f h1
        refine T_skip' ?_
        exact p_at 0 (by rw [h1]; rfl) (sub_cons rfl (sub_cons rfl (sub_cons rfl (sub_cons rfl (sub_cons rfl (sub_cons rfl (sub_cons rfl sub_nil))))))) (sub_cons rfl (sub_cons rfl (sub_cons rfl (sub_cons rfl (sub_cons rfl sub_nil)))))
    · skip
      rintro no7 hno7
      show T _ _ _ [(4, .bool false), (5, .slice ar1 I.length cr1), (6, .slice ar2 Y.length cr2), (7, .slice ar3 mr3.length cr3), (10, .slice ar4 ((rangeF 0 I.length).length) cr4), (11, .slice ar1 I.length cr1), (12, .int .i64 no7)] [(954, .row (.slice ar4 ((rangeF 0 I.length).length) cr4) 3 1 ((rangeF 0 I.length).length) ((rangeF 0 I.length).flatMap inc)), (952, .row (.slice ar3 mr3.length cr3) 36 4 mr3.length (mr3.flatMap Mk.cells)), (962, .cvs cs3), (953, .row (.slice ar2 Y.length cr2) 32 3 Y.length (Y.flatMap Tid.cells)), (951, .row (.slice ar1 I.length cr1) 32 3 I.length (I.flatMap Tid.cells))]
      refine T_seq ?_
      refine T_mem (_ :: _) (fun _ hm => hm.rowB0 955 (.slice ar1 I.length cr1) 32 3 I.length (I.flatMap Tid.cells)) ?_
      refine T_seq (T_region ?_)
      refine TL_q (.slice ar2 Y.length cr2) (fun _ _ hρ _ => r_move (hρ _ _ rfl)) rfl rfl rfl (w_n rfl) ?_
      refine TL_q (.int .i64 ((Y.length : Nat) : Int)) (fun _ _ hρ _ => r_len sl22 (hρ _ _ rfl)) rfl rfl rfl (w_n rfl) ?_
      refine TL_q (.int .i64 0) (fun _ _ hρ _ => r_move (hρ _ _ rfl)) rfl rfl rfl (w_n rfl) ?_
      refine TL_seq ?_
      refine T_block ?_
      refine T_loop (ι := Nat × List NI × Int × Bool × Option Addr × Nat × Option Addr × Nat) (fun (z : Nat × List NI × Int × Bool × Option Addr × Nat × Option Addr × Nat) => match z with | (k, S, no8, tB, na, nc, ia, ic) => k ≤ Y.length ∧ no8 = noI (r9 && (Y.take k).all okI) ∧ (no8 = 0 → S = stateP I Y k) ∧ S.length ≤ 8 ∧ (tB = false → ia = ar1 ∧ ic = cr1 ∧ (S.map Prod.snd) = I)) (fun (z : Nat × List NI × Int × Bool × Option Addr × Nat × Option Addr × Nat) => match z with | (k, S, no8, tB, na, nc, ia, ic) => [(4, .bool false), (5, .slice ar1 I.length cr1), (6, .slice ar2 Y.length cr2), (7, .slice ar3 mr3.length cr3), (57, .slice ar2 Y.length cr2), (58, .int .i64 ((Y.length : Nat) : Int)), (59, .int .i64 ((k : Nat) : Int)), (12, .int .i64 no8), (10, .slice na ((S.map Prod.fst).length) nc), (11, .slice ia ((S.map Prod.snd).length) ic)]) (fun (z : Nat × List NI × Int × Bool × Option Addr × Nat × Option Addr × Nat) => match z with | (k, S, no8, tB, na, nc, ia, ic) => [(952, .row (.slice ar3 mr3.length cr3) 36 4 mr3.length (mr3.flatMap Mk.cells)), (962, .cvs cs3), (953, .row (.slice ar2 Y.length cr2) 32 3 Y.length (Y.flatMap Tid.cells)), (951, .row (.slice ar1 I.length cr1) 32 3 I.length (I.flatMap Tid.cells)), (954, .row (.slice na ((S.map Prod.fst).length) nc) 3 1 ((S.map Prod.fst).length) ((S.map Prod.fst).flatMap inc)), (955, .rowB tB (.slice ia (S.map Prod.snd).length ic) 32 3 (S.map Prod.snd).length ((S.map Prod.snd).flatMap Tid.cells))]) (fun (z : Nat × List NI × Int × Bool × Option Addr × Nat × Option Addr × Nat) => match z with | (k, S, no8, tB, na, nc, ia, ic) => Y.length - k) (0, tagB 0 I, no7, false, ar4, cr4, ar1, cr1) ⟨Nat.zero_le _, by rw [hno7]; cases r9 <;> rfl, fun _ => rfl, by rw [tagB_len]; omega, fun _ => ⟨rfl, rfl, tagB_snd 0 I⟩⟩ (sub_cons rfl (sub_cons rfl (sub_cons rfl (sub_cons rfl (sub_cons rfl (sub_cons rfl (sub_cons rfl (sub_cons rfl (sub_cons (by rw [tagB_fst]; first | done | rfl) (sub_cons (by rw [tagB_snd]; first | done | rfl) sub_nil)))))))))) (sub_cons rfl (sub_cons rfl (sub_cons rfl (sub_cons rfl (sub_cons (by rw [tagB_fst]; first | done | rfl) (sub_cons (by rw [tagB_snd]; first | done | rfl) sub_nil)))))) ?_
      rintro ⟨k, S, no8, tB, na, nc, ia, ic⟩ hp
      obtain ⟨hk, hno, hS0, hS8, hbf⟩ := hp
      show T _ _ _ [(4, .bool false), (5, .slice ar1 I.length cr1), (6, .slice ar2 Y.length cr2), (7, .slice ar3 mr3.length cr3), (57, .slice ar2 Y.length cr2), (58, .int .i64 ((Y.length : Nat) : Int)), (59, .int .i64 ((k : Nat) : Int)), (12, .int .i64 no8), (10, .slice na ((S.map Prod.fst).length) nc), (11, .slice ia ((S.map Prod.snd).length) ic)] [(952, .row (.slice ar3 mr3.length cr3) 36 4 mr3.length (mr3.flatMap Mk.cells)), (962, .cvs cs3), (953, .row (.slice ar2 Y.length cr2) 32 3 Y.length (Y.flatMap Tid.cells)), (951, .row (.slice ar1 I.length cr1) 32 3 I.length (I.flatMap Tid.cells)), (954, .row (.slice na ((S.map Prod.fst).length) nc) 3 1 ((S.map Prod.fst).length) ((S.map Prod.fst).flatMap inc)), (955, .rowB tB (.slice ia (S.map Prod.snd).length ic) 32 3 (S.map Prod.snd).length ((S.map Prod.snd).flatMap Tid.cells))]
      refine T_seq (T_region ?_)
      refine TL_q (.bool (decide (((k : Nat) : Int) < ((Y.length : Nat) : Int)))) (fun _ _ hρ _ => r_lss (hρ _ _ rfl) (hρ _ _ rfl)) rfl rfl rfl (w_n rfl) ?_
      refine TL_seq ?_
      refine T_seq ?_
      refine T_cond rfl (fun h2 => ?_) (fun h2 => ?_)
      · replace h2 := of_decide_eq_true h2
        refine T_skip' ?_
        refine p_seq ?_
        refine T_seq ?_
        refine T_block ?_
        obtain ⟨d9, hd9⟩ : ∃ x, Y[k]? = some x := ⟨_, List.getElem?_eq_getElem (by omega)⟩
        refine T_row 953 rfl (by omega) (fun g5 ha5 => ?_)
        subst ha5
        refine T_rowcap 953 rfl (fun hrc5 => ?_)
        refine T_seq (T_region ?_)
        refine TL_q (.int .i64 ((k : Nat) : Int)) (fun _ _ hρ _ => r_move (hρ _ _ rfl)) rfl rfl rfl (w_n rfl) ?_
        refine TL_q (.pointer (some ⟨g5, 0 + k * 3, none⟩)) (fun _ _ hρ _ => r_indexAddrS (i := k) sl22 sz32 (hρ _ _ rfl) (hρ _ _ rfl) (by omega)) rfl rfl rfl (w_n rfl) ?_
        refine TL_q (.agg #[.int .u64 d9.t, .int .i64 d9.s, .int .u64 d9.q]) (fun _ _ hρ hm => r_loadOwn (f := Tid.cells) (u := d9) (l := Y) ag32 sz32 (hρ _ _ rfl) (hm.row 953 rfl) rfl rfl Tid.cells_len hd9) rfl rfl rfl (w_n rfl) ?_
        refine TL_new 1 (.cells #[.int .u64 0, .int .i64 0, .int .u64 0] 32) (fun B => .pointer (some ⟨B, 0, none⟩)) (fun _ _ _ _ => r_alloc (v := .agg #[.int .u64 0, .int .i64 0, .int .u64 0]) (by kernel_rfl) rfl) rfl rfl rfl (w_n rfl) ?_
        intro B6
        refine TL_q (.int .i64 ((k : Nat) : Int)) (fun _ _ hρ _ => r_assign (hρ _ _ rfl)) rfl rfl rfl (w_n rfl) ?_
        refine TL_store 1 (.cells #[.int .u64 d9.t, .int .i64 d9.s, .int .u64 d9.q] 32) rfl (fun _ _ hρ hm => r_store sz32 (hρ _ _ rfl) (hρ _ _ rfl) (hm.at 1 rfl) rfl rfl rfl rfl) rfl rfl (w_n rfl) ?_
        refine TL_seq ?_
        refine T_join (ι := Int) (fun (no9 : Int) => no9 = noI (r9 && (Y.take (k + 1)).all okI)) (fun (no9 : Int) => [(4, .bool false), (5, .slice ar1 I.length cr1), (6, .slice (some ⟨g5, 0, none⟩) Y.length cr2), (7, .slice ar3 mr3.length cr3), (57, .slice (some ⟨g5, 0, none⟩) Y.length cr2), (58, .int .i64 ((Y.length : Nat) : Int)), (59, .int .i64 ((k : Nat) : Int)), (10, .slice na ((S.map Prod.fst).length) nc), (11, .slice ia ((S.map Prod.snd).length) ic), (60, .bool (decide (((k : Nat) : Int) < ((Y.length : Nat) : Int)))), (61, .int .i64 ((k : Nat) : Int)), (62, .pointer (some ⟨g5, 0 + k * 3, none⟩)), (63, .agg #[.int .u64 d9.t, .int .i64 d9.s, .int .u64 d9.q]), (14, .pointer (some ⟨B6, 0, none⟩)), (13, .int .i64 ((k : Nat) : Int)), (12, .int .i64 no9)]) (fun (no9 : Int) => [(952, .row (.slice ar3 mr3.length cr3) 36 4 mr3.length (mr3.flatMap Mk.cells)), (962, .cvs cs3), (953, .row (.slice (some ⟨g5, 0, none⟩) Y.length cr2) 32 3 Y.length (Y.flatMap Tid.cells)), (951, .row (.slice ar1 I.length cr1) 32 3 I.length (I.flatMap Tid.cells)), (954, .row (.slice na ((S.map Prod.fst).length) nc) 3 1 ((S.map Prod.fst).length) ((S.map Prod.fst).flatMap inc)), (955, .rowB tB (.slice ia (S.map Prod.snd).length ic) 32 3 (S.map Prod.snd).length ((S.map Prod.snd).flatMap Tid.cells)), (1, .blk B6 (.cells #[.int .u64 d9.t, .int .i64 d9.s, .int .u64 d9.q] 32))]) ?_ ?_
        · skip
          refine T_seq (T_region ?_)
          refine TL_q (.agg #[.int .u64 d9.t, .int .i64 d9.s, .int .u64 d9.q]) (fun _ _ hρ hm => r_loadA ag32 sz32 (hρ _ _ rfl) (hm.at 1 rfl) rfl rfl) rfl rfl rfl (w_n rfl) ?_
          refine TL_call (.bool (okI d9)) (fun _ _ hρ _ => r_call (args := [.agg #[.int .u64 d9.t, .int .i64 d9.s, .int .u64 d9.q]]) (enters_of Try.func19 (by kernel_rfl) rfl) (hρ _ _ rfl) ((cons2 (hρ _ _ rfl) rfl)) rfl) (fun w _ => rright_c d9 w) rfl rfl rfl (w_n rfl) ?_
          refine TL_q (.bool (!(okI d9))) (fun _ _ hρ _ => r_not (b := okI d9) (hρ _ _ rfl)) rfl rfl rfl (w_n rfl) ?_
          refine TL_seq ?_
          refine T_cond rfl (fun h3 => ?_) (fun h3 => ?_)
          · replace h3 := bnot_t h3
            refine T_region ?_
            refine TL_q (.int .i64 260) (fun _ _ hρ _ => r_assign (hρ _ _ rfl)) rfl rfl rfl (w_n rfl) ?_
            refine TL_nil ?_
            exact p_at 260 (by rw [ok_step hd9, h3, Bool.and_false, Bool.and_false]; rfl) (sub_cons rfl (sub_cons rfl (sub_cons rfl (sub_cons rfl (sub_cons rfl (sub_cons rfl (sub_cons rfl (sub_cons rfl (sub_cons rfl (sub_cons rfl (sub_cons rfl (sub_cons rfl (sub_cons rfl (sub_cons rfl (sub_cons rfl (sub_cons rfl sub_nil)))))))))))))))) (sub_cons rfl (sub_cons rfl (sub_cons rfl (sub_cons rfl (sub_cons rfl (sub_cons rfl (sub_cons rfl sub_nil)))))))
          · replace h3 := bnot_f h3
            refine T_skip' ?_
            exact p_at no8 (by rw [ok_step hd9, h3, Bool.and_true]; exact hno) (sub_cons rfl (sub_cons rfl (sub_cons rfl (sub_cons rfl (sub_cons rfl (sub_cons rfl (sub_cons rfl (sub_cons rfl (sub_cons rfl (sub_cons rfl (sub_cons rfl (sub_cons rfl (sub_cons rfl (sub_cons rfl (sub_cons rfl (sub_cons rfl sub_nil)))))))))))))))) (sub_cons rfl (sub_cons rfl (sub_cons rfl (sub_cons rfl (sub_cons rfl (sub_cons rfl (sub_cons rfl sub_nil)))))))
        · skip
          rintro no9 hno9
          show T _ _ _ [(4, .bool false), (5, .slice ar1 I.length cr1), (6, .slice (some ⟨g5, 0, none⟩) Y.length cr2), (7, .slice ar3 mr3.length cr3), (57, .slice (some ⟨g5, 0, none⟩) Y.length cr2), (58, .int .i64 ((Y.length : Nat) : Int)), (59, .int .i64 ((k : Nat) : Int)), (10, .slice na ((S.map Prod.fst).length) nc), (11, .slice ia ((S.map Prod.snd).length) ic), (60, .bool (decide (((k : Nat) : Int) < ((Y.length : Nat) : Int)))), (61, .int .i64 ((k : Nat) : Int)), (62, .pointer (some ⟨g5, 0 + k * 3, none⟩)), (63, .agg #[.int .u64 d9.t, .int .i64 d9.s, .int .u64 d9.q]), (14, .pointer (some ⟨B6, 0, none⟩)), (13, .int .i64 ((k : Nat) : Int)), (12, .int .i64 no9)] [(952, .row (.slice ar3 mr3.length cr3) 36 4 mr3.length (mr3.flatMap Mk.cells)), (962, .cvs cs3), (953, .row (.slice (some ⟨g5, 0, none⟩) Y.length cr2) 32 3 Y.length (Y.flatMap Tid.cells)), (951, .row (.slice ar1 I.length cr1) 32 3 I.length (I.flatMap Tid.cells)), (954, .row (.slice na ((S.map Prod.fst).length) nc) 3 1 ((S.map Prod.fst).length) ((S.map Prod.fst).flatMap inc)), (955, .rowB tB (.slice ia (S.map Prod.snd).length ic) 32 3 (S.map Prod.snd).length ((S.map Prod.snd).flatMap Tid.cells)), (1, .blk B6 (.cells #[.int .u64 d9.t, .int .i64 d9.s, .int .u64 d9.q] 32))]
          refine T_seq ?_
          refine T_seq (T_region ?_)
          refine TL_q (.int .i64 no9) (fun _ _ hρ _ => r_move (hρ _ _ rfl)) rfl rfl rfl (w_n rfl) ?_
          refine TL_q (.bool (!decide (no9 = 0))) (fun _ _ hρ _ => r_neq (hρ _ _ rfl) (hρ _ _ rfl)) rfl rfl rfl (w_n rfl) ?_
          refine TL_seq ?_
          refine T_cond rfl (fun h4 => ?_) (fun h4 => ?_)
          · replace h4 := of_decide_eq_false (bnot_t h4)
            refine T_exit' ?_
            refine p_then_x ?_
            refine p_blk_x ?_
            refine p_seq ?_
            refine T_region ?_
            refine TL_q (.int .i64 ((k + 1 : Nat) : Int)) (fun _ _ hρ _ => r_as (r_add (hρ _ _ rfl) (hρ _ _ rfl)) (int_as ((wrap64 (by omega) (by omega)).trans (by omega)))) rfl rfl rfl (w_n rfl) ?_
            refine TL_q (.int .i64 ((k + 1 : Nat) : Int)) (fun _ _ hρ _ => r_move (hρ _ _ rfl)) rfl rfl rfl (w_n rfl) ?_
            refine TL_nil ?_
            exact p_at (k + 1, S, no9, tB, na, nc, ia, ic) ⟨⟨by omega, hno9, fun h => absurd h h4, hS8, hbf⟩, by dsimp only; omega⟩ (sub_cons rfl (sub_cons rfl (sub_cons rfl (sub_cons rfl (sub_cons rfl (sub_cons rfl (sub_cons rfl (sub_cons rfl (sub_cons rfl (sub_cons rfl sub_nil)))))))))) (sub_cons rfl (sub_cons rfl (sub_cons rfl (sub_cons rfl (sub_cons rfl (sub_cons rfl sub_nil))))))
          · replace h4 := of_decide_eq_true (bnot_f h4)
            refine T_skip' ?_
            refine p_seq ?_
            have hall := noI_z (hno9.symm.trans h4)
            rw [ok_step hd9, Bool.and_eq_true, Bool.and_eq_true] at hall
            have hS := hS0 (by rw [hno, hall.1, hall.2.1]; rfl)
            have hmk : marksB mr3 = true := by rw [← hr9]; exact hall.1
            have hM6 := (marks_iff.1 hmk).2.2
            have hI6 : I.length ≤ 6 := by omega
            have hIu : Up I := by rw [← hr3.1]; exact (marks_iff.1 hmk).1
            have hul9 : Up (S.map Prod.snd) := by rw [hS]; exact state_up hIu k
            have hS6 : (S.map Prod.snd).length ≤ 6 := by rw [List.length_map, hS]; exact state_len hI6 k
            refine T_seq (T_region ?_)
            refine TL_q (.slice ia ((S.map Prod.snd).length) ic) (fun _ _ hρ _ => r_move (hρ _ _ rfl)) rfl rfl rfl (w_n rfl) ?_
            refine TL_q (.agg #[.int .u64 d9.t, .int .i64 d9.s, .int .u64 d9.q]) (fun _ _ hρ hm => r_loadA ag32 sz32 (hρ _ _ rfl) (hm.at 1 rfl) rfl rfl) rfl rfl rfl (w_n rfl) ?_
            refine TL_callN (fun (_ : Option Addr × Nat × Option Addr × Nat) => True) (fun (ka7, kc7, ja7, jc7) => .tuple #[.slice ka7 ((keptP (S.map Prod.snd) d9).length) kc7, .slice ja7 (((keptP (S.map Prod.snd) d9).map Prod.snd).length) jc7]) (fun (ka7, kc7, ja7, jc7) => [(958, .row (.slice ka7 ((keptP (S.map Prod.snd) d9).length) kc7) 3 1 ((keptP (S.map Prod.snd) d9).length) ((keptP (S.map Prod.snd) d9).flatMap numc)), (959, .rowB true (.slice ja7 ((keptP (S.map Prod.snd) d9).map Prod.snd).length jc7) 32 3 ((keptP (S.map Prod.snd) d9).map Prod.snd).length (((keptP (S.map Prod.snd) d9).map Prod.snd).flatMap Tid.cells))]) (fun _ _ hρ _ => r_call (args := [.slice ia ((S.map Prod.snd).length) ic, .agg #[.int .u64 d9.t, .int .i64 d9.s, .int .u64 d9.q]]) (enters_of Try.func20 (by kernel_rfl) rfl) (hρ _ _ rfl) ((cons2 (hρ _ _ rfl) (cons2 (hρ _ _ rfl) rfl))) rfl) (fun w hm => (rput_b (S.map Prod.snd) ia ic d9 w (rowB_at Tid.cells_len (hm.rowB 955 rfl) rfl hbf (SliceAt.own Tid.cells_len (hm.row 951 rfl) rfl rfl)) (rowB_cap (hm.rowB 955 rfl) (fun h => ⟨(hbf h).1, (hbf h).2.1⟩) (row_cap (hm.row 951 rfl))) hul9 hS6).mono fun e w' ⟨a1, c1, a2, c2, he, hb, hn⟩ => ⟨(a1, c1, a2, c2), trivial, he, hb, newOk_at 958 959 (by decide) hn⟩) rfl rfl rfl (w_n rfl) ?_
            rintro ⟨ka7, kc7, ja7, jc7⟩ -
            refine TL_q (.tuple #[.slice ka7 ((keptP (S.map Prod.snd) d9).length) kc7, .slice ja7 (((keptP (S.map Prod.snd) d9).map Prod.snd).length) jc7]) (fun _ _ hρ _ => r_move (hρ _ _ rfl)) rfl rfl rfl (w_n rfl) ?_
            refine TL_q (.slice ka7 ((keptP (S.map Prod.snd) d9).length) kc7) (fun _ _ hρ _ => r_extract (hρ _ _ rfl) rfl) rfl rfl rfl (w_n rfl) ?_
            refine TL_q (.slice ja7 (((keptP (S.map Prod.snd) d9).map Prod.snd).length) jc7) (fun _ _ hρ _ => r_extract (hρ _ _ rfl) rfl) rfl rfl rfl (w_n rfl) ?_
            refine TL_q (.slice ka7 ((keptP (S.map Prod.snd) d9).length) kc7) (fun _ _ hρ _ => r_assign (hρ _ _ rfl)) rfl rfl rfl (w_n rfl) ?_
            refine TL_q (.slice ja7 (((keptP (S.map Prod.snd) d9).map Prod.snd).length) jc7) (fun _ _ hρ _ => r_assign (hρ _ _ rfl)) rfl rfl rfl (w_n rfl) ?_
            refine TL_seq ?_
            obtain ⟨Kp, hKp⟩ : ∃ z, z = keptP (S.map Prod.snd) d9 := ⟨_, rfl⟩
            rw [← hKp]
            have hKl : Kp.length ≤ 6 := by rw [hKp]; exact kept_len hS6
            refine T_seq (T_region ?_)
            refine TL_q (.slice none 0 0) (fun _ _ hρ _ => r_assign (hρ _ _ rfl)) rfl rfl rfl (w_n rfl) ?_
            refine TL_seq ?_
            refine T_seq ?_
            refine T_mem (_ :: _) (fun _ hm => hm.nilRow 956 3 1) ?_
            refine T_seq (T_region ?_)
            refine TL_q (.slice ka7 Kp.length kc7) (fun _ _ hρ _ => r_move (hρ _ _ rfl)) rfl rfl rfl (w_n rfl) ?_
            refine TL_q (.int .i64 ((Kp.length : Nat) : Int)) (fun _ _ hρ _ => r_len sl43 (hρ _ _ rfl)) rfl rfl rfl (w_n rfl) ?_
            refine TL_q (.int .i64 0) (fun _ _ hρ _ => r_move (hρ _ _ rfl)) rfl rfl rfl (w_n rfl) ?_
            refine TL_seq ?_
            refine T_block ?_
            refine T_loop (ι := Nat × List Int × Option Addr × Nat) (fun (z : Nat × List Int × Option Addr × Nat) => match z with | (t, os, oa, oc) => t ≤ Kp.length ∧ os = asL S ((100 + k : Nat) : Int) Kp t) (fun (z : Nat × List Int × Option Addr × Nat) => match z with | (t, os, oa, oc) => [(4, .bool false), (5, .slice ar1 I.length cr1), (6, .slice (some ⟨g5, 0, none⟩) Y.length cr2), (7, .slice ar3 mr3.length cr3), (57, .slice (some ⟨g5, 0, none⟩) Y.length cr2), (58, .int .i64 ((Y.length : Nat) : Int)), (59, .int .i64 ((k : Nat) : Int)), (10, .slice na ((S.map Prod.fst).length) nc), (11, .slice ia ((S.map Prod.snd).length) ic), (60, .bool (decide (((k : Nat) : Int) < ((Y.length : Nat) : Int)))), (61, .int .i64 ((k : Nat) : Int)), (62, .pointer (some ⟨g5, 0 + k * 3, none⟩)), (63, .agg #[.int .u64 d9.t, .int .i64 d9.s, .int .u64 d9.q]), (14, .pointer (some ⟨B6, 0, none⟩)), (13, .int .i64 ((k : Nat) : Int)), (12, .int .i64 no9), (67, .int .i64 no9), (68, .bool (!decide (no9 = 0))), (70, .slice ia ((S.map Prod.snd).length) ic), (71, .agg #[.int .u64 d9.t, .int .i64 d9.s, .int .u64 d9.q]), (72, .tuple #[.slice ka7 Kp.length kc7, .slice ja7 ((Kp.map Prod.snd).length) jc7]), (69, .tuple #[.slice ka7 Kp.length kc7, .slice ja7 ((Kp.map Prod.snd).length) jc7]), (73, .slice ka7 Kp.length kc7), (74, .slice ja7 ((Kp.map Prod.snd).length) jc7), (15, .slice ka7 Kp.length kc7), (16, .slice ja7 ((Kp.map Prod.snd).length) jc7), (75, .slice ka7 Kp.length kc7), (76, .int .i64 ((Kp.length : Nat) : Int)), (77, .int .i64 ((t : Nat) : Int)), (17, .slice oa os.length oc)]) (fun (z : Nat × List Int × Option Addr × Nat) => match z with | (t, os, oa, oc) => [(958, .row (.slice ka7 Kp.length kc7) 3 1 Kp.length (Kp.flatMap numc)), (959, .rowB true (.slice ja7 (Kp.map Prod.snd).length jc7) 32 3 (Kp.map Prod.snd).length ((Kp.map Prod.snd).flatMap Tid.cells)), (952, .row (.slice ar3 mr3.length cr3) 36 4 mr3.length (mr3.flatMap Mk.cells)), (962, .cvs cs3), (953, .row (.slice (some ⟨g5, 0, none⟩) Y.length cr2) 32 3 Y.length (Y.flatMap Tid.cells)), (951, .row (.slice ar1 I.length cr1) 32 3 I.length (I.flatMap Tid.cells)), (954, .row (.slice na ((S.map Prod.fst).length) nc) 3 1 ((S.map Prod.fst).length) ((S.map Prod.fst).flatMap inc)), (955, .rowB tB (.slice ia (S.map Prod.snd).length ic) 32 3 (S.map Prod.snd).length ((S.map Prod.snd).flatMap Tid.cells)), (1, .blk B6 (.cells #[.int .u64 d9.t, .int .i64 d9.s, .int .u64 d9.q] 32)), (956, .row (.slice oa os.length oc) 3 1 os.length (os.flatMap inc))]) (fun (z : Nat × List Int × Option Addr × Nat) => match z with | (t, os, oa, oc) => Kp.length - t) (0, [], none, 0) ⟨Nat.zero_le _, rfl⟩ (sub_cons rfl (sub_cons rfl (sub_cons rfl (sub_cons rfl (sub_cons rfl (sub_cons rfl (sub_cons rfl (sub_cons rfl (sub_cons rfl (sub_cons rfl (sub_cons rfl (sub_cons rfl (sub_cons rfl (sub_cons rfl (sub_cons rfl (sub_cons rfl (sub_cons rfl (sub_cons rfl (sub_cons rfl (sub_cons rfl (sub_cons rfl (sub_cons rfl (sub_cons rfl (sub_cons rfl (sub_cons rfl (sub_cons rfl (sub_cons rfl (sub_cons rfl (sub_cons rfl (sub_cons rfl sub_nil)))))))))))))))))))))))))))))) (sub_cons rfl (sub_cons rfl (sub_cons rfl (sub_cons rfl (sub_cons rfl (sub_cons rfl (sub_cons rfl (sub_cons rfl (sub_cons rfl (sub_cons rfl sub_nil)))))))))) ?_
            rintro ⟨t, os, oa, oc⟩ hp
            obtain ⟨ht, hos⟩ := hp
            have hol : os.length ≤ t := by rw [hos]; exact asL_len _ _ _ _
            show T _ _ _ [(4, .bool false), (5, .slice ar1 I.length cr1), (6, .slice (some ⟨g5, 0, none⟩) Y.length cr2), (7, .slice ar3 mr3.length cr3), (57, .slice (some ⟨g5, 0, none⟩) Y.length cr2), (58, .int .i64 ((Y.length : Nat) : Int)), (59, .int .i64 ((k : Nat) : Int)), (10, .slice na ((S.map Prod.fst).length) nc), (11, .slice ia ((S.map Prod.snd).length) ic), (60, .bool (decide (((k : Nat) : Int) < ((Y.length : Nat) : Int)))), (61, .int .i64 ((k : Nat) : Int)), (62, .pointer (some ⟨g5, 0 + k * 3, none⟩)), (63, .agg #[.int .u64 d9.t, .int .i64 d9.s, .int .u64 d9.q]), (14, .pointer (some ⟨B6, 0, none⟩)), (13, .int .i64 ((k : Nat) : Int)), (12, .int .i64 no9), (67, .int .i64 no9), (68, .bool (!decide (no9 = 0))), (70, .slice ia ((S.map Prod.snd).length) ic), (71, .agg #[.int .u64 d9.t, .int .i64 d9.s, .int .u64 d9.q]), (72, .tuple #[.slice ka7 Kp.length kc7, .slice ja7 ((Kp.map Prod.snd).length) jc7]), (69, .tuple #[.slice ka7 Kp.length kc7, .slice ja7 ((Kp.map Prod.snd).length) jc7]), (73, .slice ka7 Kp.length kc7), (74, .slice ja7 ((Kp.map Prod.snd).length) jc7), (15, .slice ka7 Kp.length kc7), (16, .slice ja7 ((Kp.map Prod.snd).length) jc7), (75, .slice ka7 Kp.length kc7), (76, .int .i64 ((Kp.length : Nat) : Int)), (77, .int .i64 ((t : Nat) : Int)), (17, .slice oa os.length oc)] [(958, .row (.slice ka7 Kp.length kc7) 3 1 Kp.length (Kp.flatMap numc)), (959, .rowB true (.slice ja7 (Kp.map Prod.snd).length jc7) 32 3 (Kp.map Prod.snd).length ((Kp.map Prod.snd).flatMap Tid.cells)), (952, .row (.slice ar3 mr3.length cr3) 36 4 mr3.length (mr3.flatMap Mk.cells)), (962, .cvs cs3), (953, .row (.slice (some ⟨g5, 0, none⟩) Y.length cr2) 32 3 Y.length (Y.flatMap Tid.cells)), (951, .row (.slice ar1 I.length cr1) 32 3 I.length (I.flatMap Tid.cells)), (954, .row (.slice na ((S.map Prod.fst).length) nc) 3 1 ((S.map Prod.fst).length) ((S.map Prod.fst).flatMap inc)), (955, .rowB tB (.slice ia (S.map Prod.snd).length ic) 32 3 (S.map Prod.snd).length ((S.map Prod.snd).flatMap Tid.cells)), (1, .blk B6 (.cells #[.int .u64 d9.t, .int .i64 d9.s, .int .u64 d9.q] 32)), (956, .row (.slice oa os.length oc) 3 1 os.length (os.flatMap inc))]
            refine T_seq (T_region ?_)
            refine TL_q (.bool (decide (((t : Nat) : Int) < ((Kp.length : Nat) : Int)))) (fun _ _ hρ _ => r_lss (hρ _ _ rfl) (hρ _ _ rfl)) rfl rfl rfl (w_n rfl) ?_
            refine TL_seq ?_
            refine T_seq ?_
            refine T_cond rfl (fun h5 => ?_) (fun h5 => ?_)
            · replace h5 := of_decide_eq_true h5
              refine T_skip' ?_
              refine p_seq ?_
              refine T_seq ?_
              refine T_block ?_
              obtain ⟨p9, hp9⟩ : ∃ x, Kp[t]? = some x := ⟨_, List.getElem?_eq_getElem (by omega)⟩
              refine T_row 958 rfl (by omega) (fun g8 ha8 => ?_)
              subst ha8
              refine T_rowcap 958 rfl (fun hrc8 => ?_)
              refine T_seq (T_region ?_)
              refine TL_q (.pointer (some ⟨g8, 0 + t * 1, none⟩)) (fun _ _ hρ _ => r_indexAddrS (i := t) sl43 sz3 (hρ _ _ rfl) (hρ _ _ rfl) (by omega)) rfl rfl rfl (w_n rfl) ?_
              refine TL_q (.int .i64 p9.1) (fun _ _ hρ hm => r_loadOwn1 (f := numc) (u := p9) (l := Kp) ag3 (hρ _ _ rfl) (hm.row 958 rfl) rfl rfl numc_len hp9 rfl) rfl rfl rfl (w_n rfl) ?_
              refine TL_q (.int .i64 p9.1) (fun _ _ hρ _ => r_assign (hρ _ _ rfl)) rfl rfl rfl (w_n rfl) ?_
              refine TL_seq ?_
              refine T_seq (T_region ?_)
              refine TL_q (.int .i64 p9.1) (fun _ _ hρ _ => r_move (hρ _ _ rfl)) rfl rfl rfl (w_n rfl) ?_
              refine TL_q (.bool (decide (p9.1 < 0))) (fun _ _ hρ _ => r_lss (hρ _ _ rfl) (hρ _ _ rfl)) rfl rfl rfl (w_n rfl) ?_
              refine TL_seq ?_
              refine T_cond rfl (fun h6 => ?_) (fun h6 => ?_)
              · replace h6 := of_decide_eq_true h6
                refine T_region ?_
                refine TL_q (.slice oa os.length oc) (fun _ _ hρ _ => r_move (hρ _ _ rfl)) rfl rfl rfl (w_n rfl) ?_
                refine TL_q (.int .i64 ((k : Nat) : Int)) (fun _ _ hρ _ => r_move (hρ _ _ rfl)) rfl rfl rfl (w_n rfl) ?_
                refine TL_q (.int .i64 ((100 + k : Nat) : Int)) (fun _ _ hρ _ => r_as (r_add (hρ _ _ rfl) (hρ _ _ rfl)) (int_as (wrap64 (by omega) (by omega)))) rfl rfl rfl (w_n rfl) ?_
                refine TL_new 2 (.cells #[.int .i64 ((100 + k : Nat) : Int)] 3) (fun B => .slice (some ⟨B, 0, none⟩) 1 1) (fun _ _ hρ _ => r_buildSlice (vs := [(0, .int .i64 ((100 + k : Nat) : Int))]) (by kernel_rfl) (cons2 (pair2 (hρ _ _ rfl)) rfl)) rfl rfl rfl (w_n rfl) ?_
                intro B9
                refine TL_append (n := os.length) (m := 1) (xs := (os.flatMap inc)) (news := [.int .i64 ((100 + k : Nat) : Int)]) (z := .int .i64 0) 956 rfl rfl rfl sl43 sz3 by3 (by kernel_rfl) rfl rfl (.inl rfl) (fun _ hm => src_blk (news := [.int .i64 ((100 + k : Nat) : Int)]) (hm.at 2 rfl) rfl) (by simp [Value.oneCell']) (by omega) (by omega) rfl (w_n rfl) ?_
                intro a10 cap10
                refine TL_q (.slice a10 (os.length + 1) cap10) (fun _ _ hρ _ => r_assign (hρ _ _ rfl)) rfl rfl rfl (w_n rfl) ?_
                refine TL_nil ?_
                refine p_blk_n ?_
                refine p_seq ?_
                refine T_region ?_
                refine TL_q (.int .i64 ((t + 1 : Nat) : Int)) (fun _ _ hρ _ => r_as (r_add (hρ _ _ rfl) (hρ _ _ rfl)) (int_as ((wrap64 (by omega) (by omega)).trans (by omega)))) rfl rfl rfl (w_n rfl) ?_
                refine TL_q (.int .i64 ((t + 1 : Nat) : Int)) (fun _ _ hρ _ => r_move (hρ _ _ rfl)) rfl rfl rfl (w_n rfl) ?_
                refine TL_nil ?_
                have hn11 : (os.length + 1) = (os ++ [((100 + k : Nat) : Int)]).length := by simp
                have hx11 : ((os.flatMap inc) ++ [.int .i64 ((100 + k : Nat) : Int)]) = (os ++ [((100 + k : Nat) : Int)]).flatMap inc := by simp [inc]
                rw [hx11, hn11]
                exact p_at (t + 1, os ++ [((100 + k : Nat) : Int)], a10, cap10) ⟨⟨by omega, by rw [asL_step hp9, ren_neg h6, ← hos]⟩, by dsimp only; omega⟩ (sub_cons rfl (sub_cons rfl (sub_cons rfl (sub_cons rfl (sub_cons rfl (sub_cons rfl (sub_cons rfl (sub_cons rfl (sub_cons rfl (sub_cons rfl (sub_cons rfl (sub_cons rfl (sub_cons rfl (sub_cons rfl (sub_cons rfl (sub_cons rfl (sub_cons rfl (sub_cons rfl (sub_cons rfl (sub_cons rfl (sub_cons rfl (sub_cons rfl (sub_cons rfl (sub_cons rfl (sub_cons rfl (sub_cons rfl (sub_cons rfl (sub_cons rfl (sub_cons rfl (sub_cons rfl sub_nil)))))))))))))))))))))))))))))) (sub_cons rfl (sub_cons rfl (sub_cons rfl (sub_cons rfl (sub_cons rfl (sub_cons rfl (sub_cons rfl (sub_cons rfl (sub_cons rfl (sub_cons rfl sub_nil))))))))))
              · replace h6 := of_decide_eq_false h6
                obtain ⟨j9, s9, hj9, hpj⟩ := kept_old (hKp ▸ List.mem_of_getElem? hp9) h6
                rw [hpj]
                have hjl : j9 < (S.map Prod.fst).length := by rw [List.length_map]; exact (List.getElem?_eq_some_iff.1 hj9).1
                have hjs : (S.map Prod.fst)[j9]? = some s9.1 := by rw [List.getElem?_map, hj9]; rfl
                refine T_row 954 rfl (by omega) (fun g12 ha12 => ?_)
                subst ha12
                refine T_rowcap 954 rfl (fun hrc12 => ?_)
                refine T_region ?_
                refine TL_q (.slice oa os.length oc) (fun _ _ hρ _ => r_move (hρ _ _ rfl)) rfl rfl rfl (w_n rfl) ?_
                refine TL_q (.slice (some ⟨g12, 0, none⟩) ((S.map Prod.fst).length) nc) (fun _ _ hρ _ => r_move (hρ _ _ rfl)) rfl rfl rfl (w_n rfl) ?_
                refine TL_q (.int .i64 ((j9 : Nat) : Int)) (fun _ _ hρ _ => r_move (hρ _ _ rfl)) rfl rfl rfl (w_n rfl) ?_
                refine TL_q (.pointer (some ⟨g12, 0 + j9 * 1, none⟩)) (fun _ _ hρ _ => r_indexAddrS (i := j9) sl43 sz3 (hρ _ _ rfl) (hρ _ _ rfl) (by omega)) rfl rfl rfl (w_n rfl) ?_
                refine TL_q (.int .i64 s9.1) (fun _ _ hρ hm => r_loadOwn1 (f := inc) (u := s9.1) (l := (S.map Prod.fst)) ag3 (hρ _ _ rfl) (hm.row 954 rfl) rfl rfl inc_len hjs rfl) rfl rfl rfl (w_n rfl) ?_
                refine TL_new 3 (.cells #[.int .i64 s9.1] 3) (fun B => .slice (some ⟨B, 0, none⟩) 1 1) (fun _ _ hρ _ => r_buildSlice (vs := [(0, .int .i64 s9.1)]) (by kernel_rfl) (cons2 (pair2 (hρ _ _ rfl)) rfl)) rfl rfl rfl (w_n rfl) ?_
                intro B13
                refine TL_append (n := os.length) (m := 1) (xs := (os.flatMap inc)) (news := [.int .i64 s9.1]) (z := .int .i64 0) 956 rfl rfl rfl sl43 sz3 by3 (by kernel_rfl) rfl rfl (.inl rfl) (fun _ hm => src_blk (news := [.int .i64 s9.1]) (hm.at 3 rfl) rfl) (by simp [Value.oneCell']) (by omega) (by omega) rfl (w_n rfl) ?_
                intro a14 cap14
                refine TL_q (.slice a14 (os.length + 1) cap14) (fun _ _ hρ _ => r_assign (hρ _ _ rfl)) rfl rfl rfl (w_n rfl) ?_
                refine TL_nil ?_
                refine p_blk_n ?_
                refine p_seq ?_
                refine T_region ?_
                refine TL_q (.int .i64 ((t + 1 : Nat) : Int)) (fun _ _ hρ _ => r_as (r_add (hρ _ _ rfl) (hρ _ _ rfl)) (int_as ((wrap64 (by omega) (by omega)).trans (by omega)))) rfl rfl rfl (w_n rfl) ?_
                refine TL_q (.int .i64 ((t + 1 : Nat) : Int)) (fun _ _ hρ _ => r_move (hρ _ _ rfl)) rfl rfl rfl (w_n rfl) ?_
                refine TL_nil ?_
                have hn15 : (os.length + 1) = (os ++ [s9.1]).length := by simp
                have hx15 : ((os.flatMap inc) ++ [.int .i64 s9.1]) = (os ++ [s9.1]).flatMap inc := by simp [inc]
                rw [hx15, hn15]
                exact p_at (t + 1, os ++ [s9.1], a14, cap14) ⟨⟨by omega, by rw [asL_step hp9, ren_old hj9 hpj, ← hos]⟩, by dsimp only; omega⟩ (sub_cons rfl (sub_cons rfl (sub_cons rfl (sub_cons rfl (sub_cons rfl (sub_cons rfl (sub_cons rfl (sub_cons rfl (sub_cons rfl (sub_cons rfl (sub_cons rfl (sub_cons rfl (sub_cons rfl (sub_cons rfl (sub_cons rfl (sub_cons rfl (sub_cons rfl (sub_cons rfl (sub_cons rfl (sub_cons rfl (sub_cons rfl (sub_cons rfl (sub_cons rfl (sub_cons rfl (sub_cons rfl (sub_cons rfl (sub_cons rfl (sub_cons rfl (sub_cons rfl (sub_cons rfl sub_nil)))))))))))))))))))))))))))))) (sub_cons rfl (sub_cons rfl (sub_cons rfl (sub_cons rfl (sub_cons rfl (sub_cons rfl (sub_cons rfl (sub_cons rfl (sub_cons rfl (sub_cons rfl sub_nil))))))))))
            · replace h5 := of_decide_eq_false h5
              refine T_exit' ?_
              refine p_then_x ?_
              refine p_then_x ?_
              refine p_blk_x ?_
              refine p_seq ?_
              refine T_region ?_
              refine TL_q (.slice oa os.length oc) (fun _ _ hρ _ => r_move (hρ _ _ rfl)) rfl rfl rfl (w_n rfl) ?_
              refine TL_q (.slice ja7 ((Kp.map Prod.snd).length) jc7) (fun _ _ hρ _ => r_move (hρ _ _ rfl)) rfl rfl rfl (w_n rfl) ?_
              refine TL_q (.slice oa os.length oc) (fun _ _ hρ _ => r_assign (hρ _ _ rfl)) rfl rfl rfl (w_n rfl) ?_
              refine TL_q (.slice ja7 ((Kp.map Prod.snd).length) jc7) (fun _ _ hρ _ => r_assign (hρ _ _ rfl)) rfl rfl rfl (w_n rfl) ?_
              refine TL_nil ?_
              refine p_blk_n ?_
              refine p_seq ?_
              refine T_region ?_
              refine TL_q (.int .i64 ((k + 1 : Nat) : Int)) (fun _ _ hρ _ => r_as (r_add (hρ _ _ rfl) (hρ _ _ rfl)) (int_as ((wrap64 (by omega) (by omega)).trans (by omega)))) rfl rfl rfl (w_n rfl) ?_
              refine TL_q (.int .i64 ((k + 1 : Nat) : Int)) (fun _ _ hρ _ => r_move (hρ _ _ rfl)) rfl rfl rfl (w_n rfl) ?_
              refine TL_nil ?_
              have htk : t = Kp.length := by omega
              have hos2 : os = (stateP I Y (k + 1)).map Prod.fst := by rw [hos, htk, asL_all, hKp, hS, state_renum hd9]
              have hks : Kp.map Prod.snd = (stateP I Y (k + 1)).map Prod.snd := by rw [← state_renum hd9, ids_renum, hKp, hS]
              have hsl := state_len (Y := Y) hI6 (k + 1)
              refine p_mem (_ :: _ :: _) (fun _ hm => hm.move 954 956 rfl rfl) ?_
              refine p_mem (_ :: _ :: _) (fun _ hm => hm.rowB2 955 959 rfl rfl (fun h => by cases h) rfl) ?_
              rw [hos2, hks]
              exact p_at (k + 1, stateP I Y (k + 1), no9, tB || true, oa, oc, ja7, jc7) ⟨⟨by omega, hno9, fun _ => rfl, by omega, fun h => by rw [Bool.or_true] at h; cases h⟩, by dsimp only; omega⟩ (sub_cons rfl (sub_cons rfl (sub_cons rfl (sub_cons rfl (sub_cons rfl (sub_cons rfl (sub_cons rfl (sub_cons rfl (sub_cons rfl (sub_cons rfl sub_nil)))))))))) (sub_cons rfl (sub_cons rfl (sub_cons rfl (sub_cons rfl (sub_cons rfl (sub_cons rfl sub_nil))))))
      · replace h2 := of_decide_eq_false h2
        refine T_exit' ?_
        refine p_then_x ?_
        refine p_then_x ?_
        refine p_blk_x ?_
        refine p_seq ?_
        have hkY : k = Y.length := by omega
        subst hkY
        rw [List.take_length] at hno
        refine T_seq (T_region ?_)
        refine TL_q (.slice ar3 mr3.length cr3) (fun _ _ hρ _ => r_move (hρ _ _ rfl)) rfl rfl rfl (w_n rfl) ?_
        refine TL_q (.slice ar2 Y.length cr2) (fun _ _ hρ _ => r_move (hρ _ _ rfl)) rfl rfl rfl (w_n rfl) ?_
        refine TL_callN (fun ((mr16, cs16, ar16, cr16) : List Mk × List Cv × Option Addr × Nat) => idsM mr16 = Y ∧ PaintOk mr16 cs16 100) (fun (mr16, cs16, ar16, cr16) => .slice ar16 mr16.length cr16) (fun (mr16, cs16, ar16, cr16) => [(964, .row (.slice ar16 mr16.length cr16) 36 4 mr16.length (mr16.flatMap Mk.cells)), (966, .cvs cs16)]) (fun _ _ hρ _ => r_call (args := [.slice ar2 Y.length cr2, .int .i64 100]) (enters_of Try.func9 (by kernel_rfl) rfl) (hρ _ _ rfl) ((cons2 (hρ _ _ rfl) (cons2 (hρ _ _ rfl) rfl))) rfl) (fun w hm => (row_c Y ar2 cr2 100 w (SliceAt.own Tid.cells_len (hm.row 953 rfl) rfl rfl) (row_cap (hm.row 953 rfl)) (by omega) (by omega)).mono fun e w' ⟨m, c, a', cap', he, hb, hn, h1, h2⟩ => ⟨(m, c, a', cap'), ⟨h1, h2⟩, he, hb, newOk_at 964 966 (by decide) hn⟩) rfl rfl rfl (w_n rfl) ?_
        rintro ⟨mr16, cs16, ar16, cr16⟩ hr16
        refine TL_callN (fun ((zs, za, zc) : List Mk × Option Addr × Nat) => zs = if (marksB mr3 && mr16.all okM) = true then putsG Mk.i mr3 mr16 else []) (fun (zs, za, zc) => .tuple #[.slice za zs.length zc, .int .i64 (noI (marksB mr3 && mr16.all okM))]) (fun (zs, za, zc) => [(957, .row (.slice za zs.length zc) 36 4 zs.length (zs.flatMap Mk.cells))]) (fun _ _ hρ _ => r_call (args := [.slice ar3 mr3.length cr3, .slice ar16 mr16.length cr16]) (enters_of Try.func21 (by kernel_rfl) rfl) (hρ _ _ rfl) ((cons2 (hρ _ _ rfl) (cons2 (hρ _ _ rfl) rfl))) rfl) (fun w hm => (put_any mr3 ar3 cr3 mr16 ar16 cr16 w (SliceAt.own Mk.cells_len (hm.row 952 rfl) rfl rfl) (row_cap (hm.row 952 rfl)) (SliceAt.own Mk.cells_len (hm.row 964 rfl) rfl rfl) (row_cap (hm.row 964 rfl))).mono fun e w' ⟨zs, a', cap', he, hb, hr, hz⟩ => ⟨(zs, a', cap'), hz, he, hb, newOk1 957 (show (Res.row (.slice a' zs.length cap') 36 4 zs.length (zs.flatMap Mk.cells)).ok _ _ from hr)⟩) rfl rfl rfl (w_n rfl) ?_
        rintro ⟨zs, za, zc⟩ hz9
        refine TL_q (.tuple #[.slice za zs.length zc, .int .i64 (noI (marksB mr3 && mr16.all okM))]) (fun _ _ hρ _ => r_move (hρ _ _ rfl)) rfl rfl rfl (w_n rfl) ?_
        refine TL_q (.slice za zs.length zc) (fun _ _ hρ _ => r_extract (hρ _ _ rfl) rfl) rfl rfl rfl (w_n rfl) ?_
        refine TL_q (.int .i64 (noI (marksB mr3 && mr16.all okM))) (fun _ _ hρ _ => r_extract (hρ _ _ rfl) rfl) rfl rfl rfl (w_n rfl) ?_
        refine TL_q (.slice za zs.length zc) (fun _ _ hρ _ => r_assign (hρ _ _ rfl)) rfl rfl rfl (w_n rfl) ?_
        refine TL_q (.int .i64 (noI (marksB mr3 && mr16.all okM))) (fun _ _ hρ _ => r_assign (hρ _ _ rfl)) rfl rfl rfl (w_n rfl) ?_
        refine TL_seq ?_
        refine T_seq ?_
        obtain ⟨b9, hb9⟩ : ∃ z, z = (marksB mr3 && mr16.all okM) := ⟨_, rfl⟩
        rw [← hb9] at hz9 ⊢
        have hnb : noI b9 = no8 := by rw [hno, hb9, hr9, row_okM hr16.1 hr16.2]
        obtain ⟨e8, he8⟩ : ∃ z, z = noI b9 := ⟨_, rfl⟩
        rw [← he8] at hnb ⊢
        subst hnb
        refine T_join (ι := Unit) (fun _ => True) (fun _ => [(4, .bool false), (5, .slice ar1 I.length cr1), (7, .slice ar3 mr3.length cr3), (20, .slice za zs.length zc), (128, .bool false)]) (fun _ => [(957, .row (.slice za zs.length zc) 36 4 zs.length (zs.flatMap Mk.cells)), (964, .row (.slice ar16 mr16.length cr16) 36 4 mr16.length (mr16.flatMap Mk.cells)), (966, .cvs cs16), (952, .row (.slice ar3 mr3.length cr3) 36 4 mr3.length (mr3.flatMap Mk.cells)), (962, .cvs cs3), (953, .row (.slice ar2 Y.length cr2) 32 3 Y.length (Y.flatMap Tid.cells)), (951, .row (.slice ar1 I.length cr1) 32 3 I.length (I.flatMap Tid.cells)), (954, .row (.slice na ((S.map Prod.fst).length) nc) 3 1 ((S.map Prod.fst).length) ((S.map Prod.fst).flatMap inc)), (955, .rowB tB (.slice ia (S.map Prod.snd).length ic) 32 3 (S.map Prod.snd).length ((S.map Prod.snd).flatMap Tid.cells))]) ?_ (fun z _ => ?_)
        · skip
          by_cases hb : b9 = true
          · skip
            have hmx : marksB mr3 = true ∧ mr16.all okM = true := by rw [hb9] at hb; exact (Bool.and_eq_true _ _).mp hb
            have hzp : zs = putsG Mk.i mr3 mr16 := by rw [hz9, if_pos hb]
            have hSY := hS0 (by rw [he8, hb]; rfl)
            have hYX : Y = idsM mr16 := hr16.1.symm
            rw [hYX, ids_len, ← hr3.1] at hSY
            have hzm : marksB zs = true := by rw [hzp]; exact puts_marks hmx.1 hmx.2
            have hzi : idsM zs = (S.map Prod.snd) := by rw [hzp, hSY, state_ids]
            have hzl : zs.length ≤ 6 := (marks_iff.1 hzm).2.2
            have hzn : (S.map Prod.fst).length = zs.length := by rw [List.length_map, ← ids_len zs, hzi, List.length_map]
            refine T_region ?_
            refine TL_q (.int .i64 e8) (fun _ _ hρ _ => r_move (hρ _ _ rfl)) rfl rfl rfl (w_n rfl) ?_
            refine TL_q (.int .i64 e8) (fun _ _ hρ _ => r_move (hρ _ _ rfl)) rfl rfl rfl (w_n rfl) ?_
            refine TL_q (.bool false) (fun _ _ hρ _ => r_as (r_neq (hρ _ _ rfl) (hρ _ _ rfl)) (bool_as (by simp))) rfl rfl rfl (w_n rfl) ?_
            refine TL_q (.bool false) (fun _ _ hρ _ => r_move (hρ _ _ rfl)) rfl rfl rfl (w_n rfl) ?_
            refine TL_q (.int .i64 e8) (fun _ _ hρ _ => r_move (hρ _ _ rfl)) rfl rfl rfl (want_y 109 rfl rfl rfl) ?_
            refine TL_q (.bool false) (fun _ _ hρ _ => r_as (r_neq (hρ _ _ rfl) (hρ _ _ rfl)) (bool_as (by rw [decide_eq_true (by rw [he8, hb]; decide)]; rfl))) rfl rfl rfl (want_y 109 rfl rfl rfl) ?_
            refine TL_q (.bool false) (fun _ _ hρ _ => r_move (hρ _ _ rfl)) rfl rfl rfl (want_y 109 rfl rfl rfl) ?_
            refine TL_no rfl rfl (want_n 112 rfl rfl rfl) ?_
            refine TL_no rfl rfl (want_n 112 rfl rfl rfl) ?_
            refine TL_no rfl rfl (want_n 112 rfl rfl rfl) ?_
            refine TL_q (.bool false) (fun _ _ hρ _ => r_pick_f (hρ _ _ rfl) (hρ _ _ rfl)) rfl rfl rfl (want_y 109 rfl rfl rfl) ?_
            refine TL_q (.bool false) (fun _ _ hρ _ => r_pick_f (hρ _ _ rfl) (hρ _ _ rfl)) rfl rfl rfl (w_n rfl) ?_
            refine TL_q (.bool false) (fun _ _ hρ _ => r_move (hρ _ _ rfl)) rfl rfl rfl (w_n rfl) ?_
            refine TL_q (.int .i64 e8) (fun _ _ hρ _ => r_move (hρ _ _ rfl)) rfl rfl rfl (want_y 118 rfl rfl rfl) ?_
            refine TL_q (.bool true) (fun _ _ hρ _ => r_as (r_eql (hρ _ _ rfl) (hρ _ _ rfl)) (bool_as (decide_eq_true (by rw [he8, hb]; decide)))) rfl rfl rfl (want_y 118 rfl rfl rfl) ?_
            refine TL_q (.bool true) (fun _ _ hρ _ => r_move (hρ _ _ rfl)) rfl rfl rfl (want_y 118 rfl rfl rfl) ?_
            refine TL_q (.slice za zs.length zc) (fun _ _ hρ _ => r_move (hρ _ _ rfl)) rfl rfl rfl (want_y 121 rfl rfl rfl) ?_
            refine TL_q (.slice ia ((S.map Prod.snd).length) ic) (fun _ _ hρ _ => r_move (hρ _ _ rfl)) rfl rfl rfl (want_y 121 rfl rfl rfl) ?_
            refine TL_q (.slice na ((S.map Prod.fst).length) nc) (fun _ _ hρ _ => r_move (hρ _ _ rfl)) rfl rfl rfl (want_y 121 rfl rfl rfl) ?_
            refine TL_call (.bool true) (fun _ _ hρ _ => r_call (args := [.slice za zs.length zc, .slice ia ((S.map Prod.snd).length) ic, .slice na ((S.map Prod.fst).length) nc]) (enters_of Try.func22 (by kernel_rfl) rfl) (hρ _ _ rfl) ((cons2 (hρ _ _ rfl) (cons2 (hρ _ _ rfl) (cons2 (hρ _ _ rfl) rfl)))) rfl) (fun w hm => shows_c zs za zc (S.map Prod.snd) ia ic (S.map Prod.fst) na nc w (SliceAt.own Mk.cells_len (hm.row 957 rfl) rfl rfl) (row_cap (hm.row 957 rfl)) (rowB_at Tid.cells_len (hm.rowB 955 rfl) rfl hbf (SliceAt.own Tid.cells_len (hm.row 951 rfl) rfl rfl)) (rowB_cap (hm.rowB 955 rfl) (fun h => ⟨(hbf h).1, (hbf h).2.1⟩) (row_cap (hm.row 951 rfl))) (SliceAt.own inc_len (hm.row 954 rfl) rfl rfl) (row_cap (hm.row 954 rfl)) hzm hzi hzn (by rw [hzp, hSY]; exact paintN_puts (fun c hc => hm.cv 962 rfl hc) hr3.2 (fun c hc => hm.cv 966 rfl hc) hr16.2)) rfl rfl rfl (want_y 121 rfl rfl rfl) ?_
            refine TL_q (.bool false) (fun _ _ hρ _ => r_not (b := true) (hρ _ _ rfl)) rfl rfl rfl (want_y 121 rfl rfl rfl) ?_
            refine TL_q (.bool false) (fun _ _ hρ _ => r_pick_t (hρ _ _ rfl) (hρ _ _ rfl)) rfl rfl rfl (want_y 118 rfl rfl rfl) ?_
            refine TL_q (.bool false) (fun _ _ hρ _ => r_pick_f (hρ _ _ rfl) (hρ _ _ rfl)) rfl rfl rfl (w_n rfl) ?_
            exact TL_at () trivial (sub_cons rfl (sub_cons rfl (sub_cons rfl (sub_cons rfl (sub_cons rfl sub_nil))))) (sub_cons rfl (sub_cons rfl (sub_cons rfl (sub_cons rfl (sub_cons rfl (sub_cons rfl (sub_cons rfl (sub_cons rfl (sub_cons rfl sub_nil)))))))))
          · skip
            have hzp : zs = [] := by rw [hz9, if_neg hb]
            refine T_region ?_
            refine TL_q (.int .i64 e8) (fun _ _ hρ _ => r_move (hρ _ _ rfl)) rfl rfl rfl (w_n rfl) ?_
            refine TL_q (.int .i64 e8) (fun _ _ hρ _ => r_move (hρ _ _ rfl)) rfl rfl rfl (w_n rfl) ?_
            refine TL_q (.bool false) (fun _ _ hρ _ => r_as (r_neq (hρ _ _ rfl) (hρ _ _ rfl)) (bool_as (by simp))) rfl rfl rfl (w_n rfl) ?_
            refine TL_q (.bool false) (fun _ _ hρ _ => r_move (hρ _ _ rfl)) rfl rfl rfl (w_n rfl) ?_
            refine TL_q (.int .i64 e8) (fun _ _ hρ _ => r_move (hρ _ _ rfl)) rfl rfl rfl (want_y 109 rfl rfl rfl) ?_
            refine TL_q (.bool true) (fun _ _ hρ _ => r_as (r_neq (hρ _ _ rfl) (hρ _ _ rfl)) (bool_as (by rw [decide_eq_false (by rw [he8, eq_false_of_ne_true hb]; decide)]; rfl))) rfl rfl rfl (want_y 109 rfl rfl rfl) ?_
            refine TL_q (.bool true) (fun _ _ hρ _ => r_move (hρ _ _ rfl)) rfl rfl rfl (want_y 109 rfl rfl rfl) ?_
            refine TL_q (.slice za zs.length zc) (fun _ _ hρ _ => r_move (hρ _ _ rfl)) rfl rfl rfl (want_y 112 rfl rfl rfl) ?_
            refine TL_q (.int .i64 ((zs.length : Nat) : Int)) (fun _ _ hρ _ => r_len sl25 (hρ _ _ rfl)) rfl rfl rfl (want_y 112 rfl rfl rfl) ?_
            refine TL_q (.bool false) (fun _ _ hρ _ => r_as (r_gtr (hρ _ _ rfl) (hρ _ _ rfl)) (bool_as (decide_eq_false (by rw [hzp]; decide)))) rfl rfl rfl (want_y 112 rfl rfl rfl) ?_
            refine TL_q (.bool false) (fun _ _ hρ _ => r_pick_t (hρ _ _ rfl) (hρ _ _ rfl)) rfl rfl rfl (want_y 109 rfl rfl rfl) ?_
            refine TL_q (.bool false) (fun _ _ hρ _ => r_pick_f (hρ _ _ rfl) (hρ _ _ rfl)) rfl rfl rfl (w_n rfl) ?_
            refine TL_q (.bool false) (fun _ _ hρ _ => r_move (hρ _ _ rfl)) rfl rfl rfl (w_n rfl) ?_
            refine TL_q (.int .i64 e8) (fun _ _ hρ _ => r_move (hρ _ _ rfl)) rfl rfl rfl (want_y 118 rfl rfl rfl) ?_
            refine TL_q (.bool false) (fun _ _ hρ _ => r_as (r_eql (hρ _ _ rfl) (hρ _ _ rfl)) (bool_as (decide_eq_false (by rw [he8, eq_false_of_ne_true hb]; decide)))) rfl rfl rfl (want_y 118 rfl rfl rfl) ?_
            refine TL_q (.bool false) (fun _ _ hρ _ => r_move (hρ _ _ rfl)) rfl rfl rfl (want_y 118 rfl rfl rfl) ?_
            refine TL_no rfl rfl (want_n 121 rfl rfl rfl) ?_
            refine TL_no rfl rfl (want_n 121 rfl rfl rfl) ?_
            refine TL_no rfl rfl (want_n 121 rfl rfl rfl) ?_
            refine TL_no rfl rfl (want_n 121 rfl rfl rfl) ?_
            refine TL_no rfl rfl (want_n 121 rfl rfl rfl) ?_
            refine TL_q (.bool false) (fun _ _ hρ _ => r_pick_f (hρ _ _ rfl) (hρ _ _ rfl)) rfl rfl rfl (want_y 118 rfl rfl rfl) ?_
            refine TL_q (.bool false) (fun _ _ hρ _ => r_pick_f (hρ _ _ rfl) (hρ _ _ rfl)) rfl rfl rfl (w_n rfl) ?_
            exact TL_at () trivial (sub_cons rfl (sub_cons rfl (sub_cons rfl (sub_cons rfl (sub_cons rfl sub_nil))))) (sub_cons rfl (sub_cons rfl (sub_cons rfl (sub_cons rfl (sub_cons rfl (sub_cons rfl (sub_cons rfl (sub_cons rfl (sub_cons rfl sub_nil)))))))))
        · skip
          show T _ _ _ [(4, .bool false), (5, .slice ar1 I.length cr1), (7, .slice ar3 mr3.length cr3), (20, .slice za zs.length zc), (128, .bool false)] [(957, .row (.slice za zs.length zc) 36 4 zs.length (zs.flatMap Mk.cells)), (964, .row (.slice ar16 mr16.length cr16) 36 4 mr16.length (mr16.flatMap Mk.cells)), (966, .cvs cs16), (952, .row (.slice ar3 mr3.length cr3) 36 4 mr3.length (mr3.flatMap Mk.cells)), (962, .cvs cs3), (953, .row (.slice ar2 Y.length cr2) 32 3 Y.length (Y.flatMap Tid.cells)), (951, .row (.slice ar1 I.length cr1) 32 3 I.length (I.flatMap Tid.cells)), (954, .row (.slice na ((S.map Prod.fst).length) nc) 3 1 ((S.map Prod.fst).length) ((S.map Prod.fst).flatMap inc)), (955, .rowB tB (.slice ia (S.map Prod.snd).length ic) 32 3 (S.map Prod.snd).length ((S.map Prod.snd).flatMap Tid.cells))]
          refine T_cond_f rfl ?_
          refine T_skip' ?_
          refine p_seq ?_
          refine T_seq ?_
          have hzl6 : zs.length ≤ 6 := by
            by_cases hb : b9 = true
            · rw [hz9, if_pos hb]; rw [hb9, Bool.and_eq_true] at hb; exact putsG_len Mk.i _ (marks_iff.1 hb.1).2.2
            · rw [hz9, if_neg hb]; exact Nat.zero_le _
          refine T_seq (T_region ?_)
          refine TL_q (.slice za zs.length zc) (fun _ _ hρ _ => r_move (hρ _ _ rfl)) rfl rfl rfl (w_n rfl) ?_
          refine TL_q (.int .i64 ((zs.length : Nat) : Int)) (fun _ _ hρ _ => r_len sl25 (hρ _ _ rfl)) rfl rfl rfl (w_n rfl) ?_
          refine TL_q (.int .i64 0) (fun _ _ hρ _ => r_move (hρ _ _ rfl)) rfl rfl rfl (w_n rfl) ?_
          refine TL_seq ?_
          refine T_block ?_
          refine T_loop (ι := Nat × List Mk) (fun (z : Nat × List Mk) => match z with | (k3, zz) => k3 ≤ zs.length ∧ zz.length = zs.length) (fun (z : Nat × List Mk) => match z with | (k3, zz) => [(4, .bool false), (5, .slice ar1 I.length cr1), (7, .slice ar3 mr3.length cr3), (20, .slice za zs.length zc), (130, .int .i64 ((zs.length : Nat) : Int)), (131, .int .i64 ((k3 : Nat) : Int))]) (fun (z : Nat × List Mk) => match z with | (k3, zz) => [(964, .row (.slice ar16 mr16.length cr16) 36 4 mr16.length (mr16.flatMap Mk.cells)), (966, .cvs cs16), (952, .row (.slice ar3 mr3.length cr3) 36 4 mr3.length (mr3.flatMap Mk.cells)), (962, .cvs cs3), (953, .row (.slice ar2 Y.length cr2) 32 3 Y.length (Y.flatMap Tid.cells)), (951, .row (.slice ar1 I.length cr1) 32 3 I.length (I.flatMap Tid.cells)), (954, .row (.slice na ((S.map Prod.fst).length) nc) 3 1 ((S.map Prod.fst).length) ((S.map Prod.fst).flatMap inc)), (955, .rowB tB (.slice ia (S.map Prod.snd).length ic) 32 3 (S.map Prod.snd).length ((S.map Prod.snd).flatMap Tid.cells)), (957, .row (.slice za zs.length zc) 36 4 zs.length (zz.flatMap Mk.cells))]) (fun (z : Nat × List Mk) => match z with | (k3, zz) => zs.length - k3) (0, zs) ⟨Nat.zero_le _, rfl⟩ (sub_cons rfl (sub_cons rfl (sub_cons rfl (sub_cons rfl (sub_cons rfl (sub_cons rfl sub_nil)))))) (sub_cons rfl (sub_cons rfl (sub_cons rfl (sub_cons rfl (sub_cons rfl (sub_cons rfl (sub_cons rfl (sub_cons rfl (sub_cons rfl sub_nil))))))))) ?_
          rintro ⟨k3, zz⟩ hp
          obtain ⟨hk3, hzz⟩ := hp
          show T _ _ _ [(4, .bool false), (5, .slice ar1 I.length cr1), (7, .slice ar3 mr3.length cr3), (20, .slice za zs.length zc), (130, .int .i64 ((zs.length : Nat) : Int)), (131, .int .i64 ((k3 : Nat) : Int))] [(964, .row (.slice ar16 mr16.length cr16) 36 4 mr16.length (mr16.flatMap Mk.cells)), (966, .cvs cs16), (952, .row (.slice ar3 mr3.length cr3) 36 4 mr3.length (mr3.flatMap Mk.cells)), (962, .cvs cs3), (953, .row (.slice ar2 Y.length cr2) 32 3 Y.length (Y.flatMap Tid.cells)), (951, .row (.slice ar1 I.length cr1) 32 3 I.length (I.flatMap Tid.cells)), (954, .row (.slice na ((S.map Prod.fst).length) nc) 3 1 ((S.map Prod.fst).length) ((S.map Prod.fst).flatMap inc)), (955, .rowB tB (.slice ia (S.map Prod.snd).length ic) 32 3 (S.map Prod.snd).length ((S.map Prod.snd).flatMap Tid.cells)), (957, .row (.slice za zs.length zc) 36 4 zs.length (zz.flatMap Mk.cells))]
          refine T_seq (T_region ?_)
          refine TL_q (.bool (decide (((k3 : Nat) : Int) < ((zs.length : Nat) : Int)))) (fun _ _ hρ _ => r_lss (hρ _ _ rfl) (hρ _ _ rfl)) rfl rfl rfl (w_n rfl) ?_
          refine TL_seq ?_
          refine T_seq ?_
          refine T_cond rfl (fun h7 => ?_) (fun h7 => ?_)
          · replace h7 := of_decide_eq_true h7
            refine T_skip' ?_
            refine p_seq ?_
            refine T_seq ?_
            refine T_block ?_
            refine T_seq (T_region ?_)
            refine TL_q (.int .i64 ((k3 : Nat) : Int)) (fun _ _ hρ _ => r_move (hρ _ _ rfl)) rfl rfl rfl (w_n rfl) ?_
            refine TL_q (.int .i64 ((k3 : Nat) : Int)) (fun _ _ hρ _ => r_assign (hρ _ _ rfl)) rfl rfl rfl (w_n rfl) ?_
            refine TL_seq ?_
            refine T_row 957 rfl (by omega) (fun g17 ha17 => ?_)
            subst ha17
            refine T_rowcap 957 rfl (fun hrc17 => ?_)
            refine T_region ?_
            refine TL_q (.slice (some ⟨g17, 0, none⟩) zs.length zc) (fun _ _ hρ _ => r_move (hρ _ _ rfl)) rfl rfl rfl (w_n rfl) ?_
            refine TL_q (.int .i64 ((k3 : Nat) : Int)) (fun _ _ hρ _ => r_move (hρ _ _ rfl)) rfl rfl rfl (w_n rfl) ?_
            refine TL_q (.agg #[.int .u64 0, .int .i64 0, .int .u64 0, .pointer none]) (fun _ _ _ _ => r_build (vs := []) (by kernel_rfl) rfl) rfl rfl rfl (w_n rfl) ?_
            refine TL_q (.pointer (some ⟨g17, 0 + k3 * 4, none⟩)) (fun _ _ hρ _ => r_indexAddrS (i := k3) sl25 sz36 (hρ _ _ rfl) (hρ _ _ rfl) (by omega)) rfl rfl rfl (w_n rfl) ?_
            refine TL_storeRow (f := Mk.cells) (l := zz) (u := mk0) 957 rfl hzz.symm rfl rfl sz36 Mk.cells_len (by omega) rfl rfl (w_n rfl) ?_
            refine TL_nil ?_
            refine p_blk_n ?_
            refine p_seq ?_
            refine T_region ?_
            refine TL_q (.int .i64 ((k3 + 1 : Nat) : Int)) (fun _ _ hρ _ => r_as (r_add (hρ _ _ rfl) (hρ _ _ rfl)) (int_as ((wrap64 (by omega) (by omega)).trans (by omega)))) rfl rfl rfl (w_n rfl) ?_
            refine TL_q (.int .i64 ((k3 + 1 : Nat) : Int)) (fun _ _ hρ _ => r_move (hρ _ _ rfl)) rfl rfl rfl (w_n rfl) ?_
            refine TL_nil ?_
            exact p_at (k3 + 1, (zz.set k3 mk0)) ⟨⟨by omega, by rw [List.length_set]; exact hzz⟩, by dsimp only; omega⟩ (sub_cons rfl (sub_cons rfl (sub_cons rfl (sub_cons rfl (sub_cons rfl (sub_cons rfl sub_nil)))))) (sub_cons rfl (sub_cons rfl (sub_cons rfl (sub_cons rfl (sub_cons rfl (sub_cons rfl (sub_cons rfl (sub_cons rfl (sub_cons rfl sub_nil)))))))))
          · replace h7 := of_decide_eq_false h7
            refine T_exit' ?_
            refine p_then_x ?_
            refine p_then_x ?_
            refine p_blk_x ?_
            refine p_seq ?_
            refine T_seq ?_
            refine T_seq (T_region ?_)
            refine TL_q (.slice ar3 mr3.length cr3) (fun _ _ hρ _ => r_move (hρ _ _ rfl)) rfl rfl rfl (w_n rfl) ?_
            refine TL_q (.int .i64 ((mr3.length : Nat) : Int)) (fun _ _ hρ _ => r_len sl25 (hρ _ _ rfl)) rfl rfl rfl (w_n rfl) ?_
            refine TL_q (.int .i64 0) (fun _ _ hρ _ => r_move (hρ _ _ rfl)) rfl rfl rfl (w_n rfl) ?_
            refine TL_seq ?_
            refine T_block ?_
            refine T_loop (ι := Nat) (fun (k4 : Nat) => k4 ≤ mr3.length) (fun (k4 : Nat) => [(5, .slice ar1 I.length cr1), (139, .slice ar3 mr3.length cr3), (140, .int .i64 ((mr3.length : Nat) : Int)), (141, .int .i64 ((k4 : Nat) : Int))]) (fun (k4 : Nat) => [(964, .row (.slice ar16 mr16.length cr16) 36 4 mr16.length (mr16.flatMap Mk.cells)), (966, .cvs cs16), (952, .row (.slice ar3 mr3.length cr3) 36 4 mr3.length (mr3.flatMap Mk.cells)), (962, .cvs cs3), (953, .row (.slice ar2 Y.length cr2) 32 3 Y.length (Y.flatMap Tid.cells)), (951, .row (.slice ar1 I.length cr1) 32 3 I.length (I.flatMap Tid.cells)), (954, .row (.slice na ((S.map Prod.fst).length) nc) 3 1 ((S.map Prod.fst).length) ((S.map Prod.fst).flatMap inc)), (955, .rowB tB (.slice ia (S.map Prod.snd).length ic) 32 3 (S.map Prod.snd).length ((S.map Prod.snd).flatMap Tid.cells)), (957, .row (.slice za zs.length zc) 36 4 zs.length (zz.flatMap Mk.cells))]) (fun (k4 : Nat) => mr3.length - k4) 0 (Nat.zero_le _) (sub_cons rfl (sub_cons rfl (sub_cons rfl (sub_cons rfl sub_nil)))) (sub_cons rfl (sub_cons rfl (sub_cons rfl (sub_cons rfl (sub_cons rfl (sub_cons rfl (sub_cons rfl (sub_cons rfl (sub_cons rfl sub_nil))))))))) ?_
            rintro k4 hp
            have hk4 := hp
            show T _ _ _ [(5, .slice ar1 I.length cr1), (139, .slice ar3 mr3.length cr3), (140, .int .i64 ((mr3.length : Nat) : Int)), (141, .int .i64 ((k4 : Nat) : Int))] [(964, .row (.slice ar16 mr16.length cr16) 36 4 mr16.length (mr16.flatMap Mk.cells)), (966, .cvs cs16), (952, .row (.slice ar3 mr3.length cr3) 36 4 mr3.length (mr3.flatMap Mk.cells)), (962, .cvs cs3), (953, .row (.slice ar2 Y.length cr2) 32 3 Y.length (Y.flatMap Tid.cells)), (951, .row (.slice ar1 I.length cr1) 32 3 I.length (I.flatMap Tid.cells)), (954, .row (.slice na ((S.map Prod.fst).length) nc) 3 1 ((S.map Prod.fst).length) ((S.map Prod.fst).flatMap inc)), (955, .rowB tB (.slice ia (S.map Prod.snd).length ic) 32 3 (S.map Prod.snd).length ((S.map Prod.snd).flatMap Tid.cells)), (957, .row (.slice za zs.length zc) 36 4 zs.length (zz.flatMap Mk.cells))]
            refine T_seq (T_region ?_)
            refine TL_q (.bool (decide (((k4 : Nat) : Int) < ((mr3.length : Nat) : Int)))) (fun _ _ hρ _ => r_lss (hρ _ _ rfl) (hρ _ _ rfl)) rfl rfl rfl (w_n rfl) ?_
            refine TL_seq ?_
            refine T_seq ?_
            refine T_cond rfl (fun h8 => ?_) (fun h8 => ?_)
            · replace h8 := of_decide_eq_true h8
              refine T_skip' ?_
              refine p_seq ?_
              refine T_seq ?_
              refine T_block ?_
              obtain ⟨m9, hm9⟩ : ∃ x, mr3[k4]? = some x := ⟨_, List.getElem?_eq_getElem (by omega)⟩
              refine T_row 952 rfl (by omega) (fun g18 ha18 => ?_)
              subst ha18
              refine T_rowcap 952 rfl (fun hrc18 => ?_)
              refine T_seq (T_region ?_)
              refine TL_q (.int .i64 ((k4 : Nat) : Int)) (fun _ _ hρ _ => r_move (hρ _ _ rfl)) rfl rfl rfl (w_n rfl) ?_
              refine TL_q (.pointer (some ⟨g18, 0 + k4 * 4, none⟩)) (fun _ _ hρ _ => r_indexAddrS (i := k4) sl25 sz36 (hρ _ _ rfl) (hρ _ _ rfl) (by omega)) rfl rfl rfl (w_n rfl) ?_
              refine TL_q (.agg #[.int .u64 m9.i.t, .int .i64 m9.i.s, .int .u64 m9.i.q, .pointer m9.ptr]) (fun _ _ hρ hm => r_loadOwn (f := Mk.cells) (u := m9) (l := mr3) ag36 sz36 (hρ _ _ rfl) (hm.row 952 rfl) rfl rfl Mk.cells_len hm9) rfl rfl rfl (w_n rfl) ?_
              refine TL_new 4 (.cells #[.int .u64 0, .int .i64 0, .int .u64 0, .pointer none] 36) (fun B => .pointer (some ⟨B, 0, none⟩)) (fun _ _ _ _ => r_alloc (v := .agg #[.int .u64 0, .int .i64 0, .int .u64 0, .pointer none]) (by kernel_rfl) rfl) rfl rfl rfl (w_n rfl) ?_
              intro B19
              refine TL_q (.int .i64 ((k4 : Nat) : Int)) (fun _ _ hρ _ => r_assign (hρ _ _ rfl)) rfl rfl rfl (w_n rfl) ?_
              refine TL_store 4 (.cells #[.int .u64 m9.i.t, .int .i64 m9.i.s, .int .u64 m9.i.q, .pointer m9.ptr] 36) rfl (fun _ _ hρ hm => r_store sz36 (hρ _ _ rfl) (hρ _ _ rfl) (hm.at 4 rfl) rfl rfl rfl rfl) rfl rfl (w_n rfl) ?_
              refine TL_seq ?_
              have him : I[k4]? = some m9.i := by rw [← hr3.1]; exact ids_at hm9
              obtain ⟨cp, hcp0, hcp1, hcp3⟩ := hr3.2 k4 m9 hm9
              rw [Nat.zero_add] at hcp3
              refine T_row 951 rfl (by omega) (fun g20 ha20 => ?_)
              subst ha20
              refine T_rowcap 951 rfl (fun hrc20 => ?_)
              refine T_mem (_ :: _) (fun _ hm => hm.cvs0 960) ?_
              refine T_seq (T_draw (V := [(0, .pointer (some ⟨B19, 0, none⟩)), (1, .agg #[.int .u64 m9.i.t, .int .i64 m9.i.s, .int .u64 m9.i.q]), (2, .slice (some ⟨g20, 0, none⟩) I.length cr1), (3, .int .i64 ((k4 : Nat) : Int)), (4, .pointer (some ⟨g20, 0 + k4 * 3, none⟩)), (5, .agg #[.int .u64 m9.i.t, .int .i64 m9.i.s, .int .u64 m9.i.q]), (6, .bool false), (7, .bool false), (8, .pointer (some ⟨B19, 3, none⟩)), (9, .pointer m9.ptr), (10, .int .i64 ((k4 : Nat) : Int))]) [0, 1, 0, 0, 12, 28, 63, 127, 255, 511, 255, 1279, 4095, 8191, 16383] [[(24, none)], [(146, some 0)], [(5, none)], [(23, none)], [(148, some 2), (149, some 3)], [(150, some 4)], [(147, some 1), (151, some 5)], [(152, some 6)], [(24, none)], [(154, some 8)], [(23, none)], [(156, some 10)], [(155, some 9), (157, some 11)], [(158, some 12)], [(159, some 13), (153, some 7)]] 6144 mixed (by kernel_rfl) ?_)
              refine G_step [0, 1, 2, 3, 4, 5, 6, 7, 8, 9, 10] 11 [] (by kernel_rfl) (allM (all_cons (q_run (.pointer (some ⟨B19, 0, none⟩)) rfl rfl (wv_n rfl) rfl (fun _ _ hρ _ => r_fieldAddr fl36_0 sz32 (hρ _ _ rfl))) (all_cons (q_run (.agg #[.int .u64 m9.i.t, .int .i64 m9.i.s, .int .u64 m9.i.q]) rfl rfl (wv_n rfl) rfl (fun _ _ hρ hm => r_loadA ag32 sz32 (hρ _ _ rfl) (hm.at 4 rfl) rfl rfl)) (all_cons (q_run (.slice (some ⟨g20, 0, none⟩) I.length cr1) rfl rfl (wv_n rfl) rfl (fun _ _ hρ _ => r_move (hρ _ _ rfl))) (all_cons (q_run (.int .i64 ((k4 : Nat) : Int)) rfl rfl (wv_n rfl) rfl (fun _ _ hρ _ => r_move (hρ _ _ rfl))) (all_cons (q_run (.pointer (some ⟨g20, 0 + k4 * 3, none⟩)) rfl rfl (wv_n rfl) rfl (fun _ _ hρ _ => r_indexAddrS (i := k4) sl22 sz32 (hρ _ _ rfl) (hρ _ _ rfl) (by omega))) (all_cons (q_run (.agg #[.int .u64 m9.i.t, .int .i64 m9.i.s, .int .u64 m9.i.q]) rfl rfl (wv_n rfl) rfl (fun _ _ hρ hm => r_loadOwn (f := Tid.cells) (u := m9.i) (l := I) ag32 sz32 (hρ _ _ rfl) (hm.row 951 rfl) rfl rfl Tid.cells_len him)) (all_cons (q_run (.bool false) rfl rfl (wv_n rfl) rfl (fun _ _ hρ _ => r_as (r_neqA (by kernel_rfl) (hρ _ _ rfl) (hρ _ _ rfl) (run_equalI (l := [(0, .u64), (1, .i64), (2, .u64)]) (by kernel_rfl) rfl rfl)) (bool_as (by simp only [eqI_self]; try rfl)))) (all_cons (q_run (.bool false) rfl rfl (wv_n rfl) rfl (fun _ _ hρ _ => r_move (hρ _ _ rfl))) (all_cons (q_run (.pointer (some ⟨B19, 3, none⟩)) rfl rfl (wv_y rfl rfl) rfl (fun _ _ hρ _ => r_fieldAddr fl36_1 sz34 (hρ _ _ rfl))) (all_cons (q_run (.pointer m9.ptr) rfl rfl (wv_y rfl rfl) rfl (fun _ _ hρ hm => r_load ag34 (hρ _ _ rfl) (hm.at 4 rfl) rfl)) (all_cons (q_run (.int .i64 ((k4 : Nat) : Int)) rfl rfl (wv_y rfl rfl) rfl (fun _ _ hρ _ => r_move (hρ _ _ rfl))) all_nil)))))))))))) (allM (all_cons ?_ all_nil))
              refine LOb_callX (ι := Cv) (fun (dv22 : Cv) e w w' => e = .returned (.pointer (some ⟨dv22.p, 0, none⟩)) ∧ CvNew w w' [] dv22 ∧ Painted dv22 ((k4 : Nat) : Int)) (fun dv22 => .pointer (some ⟨dv22.p, 0, none⟩)) _ (fun dv22 => []) rfl (wv_y rfl rfl) rfl rfl (fun _ _ hρ _ => r_call (args := [.int .i64 ((k4 : Nat) : Int)]) (enters_of Try.func24 (by kernel_rfl) rfl) (hρ _ _ rfl) ((cons2 (hρ _ _ rfl) rfl)) rfl) (fun w _ => painted_c ((k4 : Nat) : Int) w) (fun _ e w w' hm h => ⟨h.1, hm.cvGet 960 rfl h.2.1 (fun _ hx => nomatch hx)⟩) (fun dv22 => by kernel_rfl) ?_
              rintro dv22 ⟨_, w1_dv22, w2_dv22, _, hn_dv22, hp_dv22⟩
              refine G_step [8, 9] 12 [] (by kernel_rfl) (allM (all_cons (q_run (.pointer (some ⟨B19, 3, none⟩)) rfl rfl (wv_y rfl rfl) rfl (fun _ _ hρ _ => r_fieldAddr fl36_1 sz34 (hρ _ _ rfl))) (all_cons (q_run (.pointer m9.ptr) rfl rfl (wv_y rfl rfl) rfl (fun _ _ hρ hm => r_load ag34 (hρ _ _ rfl) (hm.at 4 rfl) rfl)) all_nil))) (allM (all_cons ?_ all_nil))
              refine LOb_call (.bool true) [(13, .bool false), (14, .bool false)] rfl (wv_y rfl rfl) rfl rfl (fun _ _ hρ _ => r_call (args := [.pointer m9.ptr, .pointer (some ⟨dv22.p, 0, none⟩)]) (enters_of Try.func23 (by kernel_rfl) rfl) (hρ _ _ rfl) ((cons2 (hρ _ _ rfl) (cons2 (hρ _ _ rfl) rfl))) rfl) (fun w hm => (by rw [ptr_some hcp1]; exact (same_eq cp dv22 w (hm.cv 962 rfl hcp0) (hm.cv 960 rfl List.mem_cons_self) (hcp3.1.trans hp_dv22.1.symm) (hcp3.2.1.trans hp_dv22.2.1.symm)).mono fun _ _ h => ⟨h.1.trans (congrArg Ending.returned (bool_as (decide_eq_true (painted_ts hcp3 hp_dv22)))), h.2⟩)) (by kernel_rfl) ?_
              refine G_last [13, 14] [(5, .slice (some ⟨g20, 0, none⟩) I.length cr1), (139, .slice (some ⟨g18, 0, none⟩) mr3.length cr3), (140, .int .i64 ((mr3.length : Nat) : Int)), (141, .int .i64 ((k4 : Nat) : Int)), (142, .bool (decide (((k4 : Nat) : Int) < ((mr3.length : Nat) : Int)))), (143, .int .i64 ((k4 : Nat) : Int)), (144, .pointer (some ⟨g18, 0 + k4 * 4, none⟩)), (145, .agg #[.int .u64 m9.i.t, .int .i64 m9.i.s, .int .u64 m9.i.q, .pointer m9.ptr]), (24, .pointer (some ⟨B19, 0, none⟩)), (23, .int .i64 ((k4 : Nat) : Int)), (146, .pointer (some ⟨B19, 0, none⟩)), (147, .agg #[.int .u64 m9.i.t, .int .i64 m9.i.s, .int .u64 m9.i.q]), (148, .slice (some ⟨g20, 0, none⟩) I.length cr1), (149, .int .i64 ((k4 : Nat) : Int)), (150, .pointer (some ⟨g20, 0 + k4 * 3, none⟩)), (151, .agg #[.int .u64 m9.i.t, .int .i64 m9.i.s, .int .u64 m9.i.q]), (152, .bool false), (153, .bool false), (154, .pointer (some ⟨B19, 3, none⟩)), (155, .pointer m9.ptr), (156, .int .i64 ((k4 : Nat) : Int)), (157, .pointer (some ⟨dv22.p, 0, none⟩)), (158, .bool true), (159, .bool false), (160, .bool false)] (by kernel_rfl) (allM (all_cons (q_run (.bool false) rfl rfl (wv_y rfl rfl) rfl (fun _ _ hρ _ => r_not (b := true) (hρ _ _ rfl))) (all_cons (q_run (.bool false) rfl rfl (wv_n rfl) rfl (fun _ _ hρ _ => r_pick_f (hρ _ _ rfl) (hρ _ _ rfl))) all_nil))) (end_old rfl rfl (end_old rfl rfl (end_old rfl rfl (end_old rfl rfl (end_old rfl rfl (end_old rfl rfl (end_old rfl rfl (end_old rfl rfl (end_old rfl rfl (end_old rfl rfl (end_new 0 rfl rfl (end_new 1 rfl rfl (end_new 2 rfl rfl (end_new 3 rfl rfl (end_new 4 rfl rfl (end_new 5 rfl rfl (end_new 6 rfl rfl (end_new 7 rfl rfl (end_new 8 rfl rfl (end_new 9 rfl rfl (end_new 10 rfl rfl (end_new 11 rfl rfl (end_new 12 rfl rfl (end_new 13 rfl rfl (end_new 14 rfl rfl end_nil))))))))))))))))))))))))) ?_
              refine T_cond_f rfl ?_
              refine T_skip' ?_
              refine p_blk_n ?_
              refine p_seq ?_
              refine T_region ?_
              refine TL_q (.int .i64 ((k4 + 1 : Nat) : Int)) (fun _ _ hρ _ => r_as (r_add (hρ _ _ rfl) (hρ _ _ rfl)) (int_as ((wrap64 (by omega) (by omega)).trans (by omega)))) rfl rfl rfl (w_n rfl) ?_
              refine TL_q (.int .i64 ((k4 + 1 : Nat) : Int)) (fun _ _ hρ _ => r_move (hρ _ _ rfl)) rfl rfl rfl (w_n rfl) ?_
              refine TL_nil ?_
              exact p_at (k4 + 1) ⟨by omega, by omega⟩ (sub_cons rfl (sub_cons rfl (sub_cons rfl (sub_cons rfl sub_nil)))) (sub_cons rfl (sub_cons rfl (sub_cons rfl (sub_cons rfl (sub_cons rfl (sub_cons rfl (sub_cons rfl (sub_cons rfl (sub_cons rfl sub_nil)))))))))
            · replace h8 := of_decide_eq_false h8
              refine T_exit' ?_
              refine p_then_x ?_
              refine p_then_x ?_
              refine p_blk_x ?_
              refine p_seq ?_
              refine T_seq (T_region ?_)
              refine TL_call (.agg #[.int .u64 1, .int .i64 1, .int .u64 1]) (fun _ _ hρ _ => r_call (args := [.int .u64 1]) (enters_of Try.func25 (by kernel_rfl) rfl) (hρ _ _ rfl) ((cons2 (hρ _ _ rfl) rfl)) rfl) (fun w _ => id_c 1 w) rfl rfl rfl (w_n rfl) ?_
              refine TL_q (.agg #[.int .u64 1, .int .i64 1, .int .u64 1, .pointer none]) (fun _ _ hρ _ => r_build (vs := [(0, .agg #[.int .u64 1, .int .i64 1, .int .u64 1])]) (by kernel_rfl) (cons2 (pair2 (hρ _ _ rfl)) rfl)) rfl rfl rfl (w_n rfl) ?_
              refine TL_new 5 (.cells #[.int .u64 1, .int .i64 1, .int .u64 1, .pointer none] 36) (fun B => .slice (some ⟨B, 0, none⟩) 1 1) (fun _ _ hρ _ => r_buildSlice (vs := [(0, .agg #[.int .u64 1, .int .i64 1, .int .u64 1, .pointer none])]) (by kernel_rfl) (cons2 (pair2 (hρ _ _ rfl)) rfl)) rfl rfl rfl (w_n rfl) ?_
              intro B23
              refine TL_call (.tuple #[.slice none 0 0, .int .i64 260]) (fun _ _ hρ _ => r_call (args := [.slice none 0 0, .slice (some ⟨B23, 0, none⟩) 1 1]) (enters_of Try.func21 (by kernel_rfl) rfl) (hρ _ _ rfl) ((cons2 (hρ _ _ rfl) (cons2 (hρ _ _ rfl) rfl))) rfl) (fun w hm => put_no [] none 0 [(⟨(⟨1, 1, 1⟩ : Tid), none⟩ : Mk)] (some ⟨B23, 0, none⟩) 1 w (sliceNil w) (by decide) ⟨Nat.le_of_ble_eq_true rfl, (fun e => by cases e), .inr ⟨_, 0, _, _, _, rfl, (hm.at 5 rfl), row_of_take (fun _ => rfl) rfl⟩⟩ (Nat.le_of_ble_eq_true rfl) (fun h => absurd h.2 (by decide +kernel))) rfl rfl rfl (w_n rfl) ?_
              refine TL_q (.tuple #[.slice none 0 0, .int .i64 260]) (fun _ _ hρ _ => r_move (hρ _ _ rfl)) rfl rfl rfl (w_n rfl) ?_
              refine TL_q (.slice none 0 0) (fun _ _ hρ _ => r_extract (hρ _ _ rfl) rfl) rfl rfl rfl (w_n rfl) ?_
              refine TL_q (.int .i64 260) (fun _ _ hρ _ => r_extract (hρ _ _ rfl) rfl) rfl rfl rfl (w_n rfl) ?_
              refine TL_q (.slice none 0 0) (fun _ _ hρ _ => r_assign (hρ _ _ rfl)) rfl rfl rfl (w_n rfl) ?_
              refine TL_q (.int .i64 260) (fun _ _ hρ _ => r_assign (hρ _ _ rfl)) rfl rfl rfl (w_n rfl) ?_
              refine TL_seq ?_
              refine T_seq (T_region ?_)
              refine TL_q (.int .i64 260) (fun _ _ hρ _ => r_move (hρ _ _ rfl)) rfl rfl rfl (w_n rfl) ?_
              refine TL_q (.bool true) (fun _ _ hρ _ => r_as (r_eql (hρ _ _ rfl) (hρ _ _ rfl)) (by rfl)) rfl rfl rfl (w_n rfl) ?_
              refine TL_q (.bool true) (fun _ _ hρ _ => r_move (hρ _ _ rfl)) rfl rfl rfl (w_n rfl) ?_
              refine TL_call (.agg #[.int .u64 1, .int .i64 1, .int .u64 1]) (fun _ _ hρ _ => r_call (args := [.int .u64 1]) (enters_of Try.func25 (by kernel_rfl) rfl) (hρ _ _ rfl) ((cons2 (hρ _ _ rfl) rfl)) rfl) (fun w _ => id_c 1 w) rfl rfl rfl (want_y 171 rfl rfl rfl) ?_
              refine TL_q (.agg #[.int .u64 1, .int .i64 1, .int .u64 1, .pointer none]) (fun _ _ hρ _ => r_build (vs := [(0, .agg #[.int .u64 1, .int .i64 1, .int .u64 1])]) (by kernel_rfl) (cons2 (pair2 (hρ _ _ rfl)) rfl)) rfl rfl rfl (want_y 171 rfl rfl rfl) ?_
              refine TL_new 6 (.cells #[.int .u64 1, .int .i64 1, .int .u64 1, .pointer none] 36) (fun B => .slice (some ⟨B, 0, none⟩) 1 1) (fun _ _ hρ _ => r_buildSlice (vs := [(0, .agg #[.int .u64 1, .int .i64 1, .int .u64 1, .pointer none])]) (by kernel_rfl) (cons2 (pair2 (hρ _ _ rfl)) rfl)) rfl rfl rfl (want_y 171 rfl rfl rfl) ?_
              intro B24
              refine TL_call (.int .i64 260) (fun _ _ hρ _ => r_call (args := [.slice (some ⟨B24, 0, none⟩) 1 1]) (enters_of Try.func14 (by kernel_rfl) rfl) (hρ _ _ rfl) ((cons2 (hρ _ _ rfl) rfl)) rfl) (fun w hm => (check_c [(⟨(⟨1, 1, 1⟩ : Tid), none⟩ : Mk)] (some ⟨B24, 0, none⟩) 1 w ⟨Nat.le_of_ble_eq_true rfl, (fun e => by cases e), .inr ⟨_, 0, _, _, _, rfl, (hm.at 6 rfl), row_of_take (fun _ => rfl) rfl⟩⟩ (Nat.le_of_ble_eq_true rfl)).mono fun _ _ h => ⟨h.1.trans (congrArg Ending.returned (int_as (if_neg (by decide +kernel)))), h.2⟩) rfl rfl rfl (want_y 171 rfl rfl rfl) ?_
              refine TL_q (.bool true) (fun _ _ hρ _ => r_as (r_eql (hρ _ _ rfl) (hρ _ _ rfl)) (by rfl)) rfl rfl rfl (want_y 171 rfl rfl rfl) ?_
              refine TL_q (.bool true) (fun _ _ hρ _ => r_pick_t (hρ _ _ rfl) (hρ _ _ rfl)) rfl rfl rfl (w_n rfl) ?_
              refine TL_q (.bool true) (fun _ _ hρ _ => r_assign (hρ _ _ rfl)) rfl rfl rfl (w_n rfl) ?_
              refine TL_seq ?_
              refine T_ret' ?_
              refine ret_of rfl (.bool true) (fun tmps w hk hm => res1 rfl (res_tmp (hk 4 _ rfl))) (fun w hm => ?_)
              exact ⟨rfl, hm.ext⟩
end Go.Proofs.Ytmihoejecpcmjaa
