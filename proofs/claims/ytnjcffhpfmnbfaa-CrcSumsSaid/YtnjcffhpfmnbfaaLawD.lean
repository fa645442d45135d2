/- crc: the walk of CrcSums. Printed by a program of this seat's prover. -/
import Derived.Test.YtnjcffhpfmnbfaaLawA
import Derived.Test.YtnjcffhpfmnbfaaOwns
namespace Go.Proofs.Ytnjcffhpfmnbfaa
open Go Go.RowKit
set_option maxRecDepth 10000
abbrev RB := RowG By
abbrev RB.toV (r : RB) : RowV := ⟨r.a, r.cap, r.l⟩
theorem sliceMap {α β : Type} {w : World} {a : Option Addr} {cap s : Nat} {f : α → List Value} {f' : β → List Value} {l : List α} (h : SliceAt w a cap s f l) (g : α → β) (hg : ∀ x, f x = f' (g x)) : SliceAt w a cap s f' (l.map g) := by
  refine ⟨by rw [List.length_map]; exact h.1, h.2.1, ?_⟩
  rcases h.2.2 with h1 | ⟨b, off, cs, T, fz, e1, e2, e3⟩
  · exact .inl (by rw [h1]; rfl)
  · refine .inr ⟨b, off, cs, T, fz, e1, e2, fun i y hy => ?_⟩
    rw [List.getElem?_map] at hy
    obtain ⟨x, hx, rfl⟩ := Option.map_eq_some_iff.1 hy
    rw [← hg]; exact e3 i x hx
theorem toV_flat : ∀ os : List RB, (os.map RB.toV).flatMap RowV.l = os.flatMap RowG.l
  | [] => rfl
  | r :: os => by rw [List.map_cons, List.flatMap_cons, List.flatMap_cons, toV_flat os]
abbrev cutR (r : RB) : List By := r.l.take 400
theorem cut_len {os rs : List RB} {k : Nat} (h : os.map RowG.l = (rs.take k).map cutR) : (os.flatMap RowG.l).length ≤ 400 * os.length := by
  have h1 : ∀ r ∈ os, r.l.length ≤ 400 := fun r hr => by
    have : r.l ∈ (rs.take k).map cutR := by rw [← h]; exact List.mem_map.2 ⟨r, hr, rfl⟩
    obtain ⟨q, _, hq⟩ := List.mem_map.1 this
    rw [← hq, List.length_take]; omega
  clear h
  induction os with
  | nil => exact Nat.le_refl _
  | cons r os ih =>
    rw [List.flatMap_cons, List.length_append, List.length_cons]
    have := ih (fun q hq => h1 q (List.mem_cons_of_mem _ hq))
    have := h1 r List.mem_cons_self
    omega
theorem cut_step {os rs : List RB} {k : Nat} {r e : RB} (h : os.map RowG.l = (rs.take k).map cutR) (hx : rs[k]? = some r) (he : e.l = r.l.take 400) : (os ++ [e]).map RowG.l = (rs.take (k + 1)).map cutR := by
  rw [List.map_append, h, List.take_add_one, hx, List.map_append]
  show _ ++ [e.l] = _ ++ [r.l.take 400]
  rw [he]
theorem cut_at {os rs : List RB} {k j : Nat} {o r : RB} (h : os.map RowG.l = (rs.take k).map cutR) (ho : os[j]? = some o) (hr : rs[j]? = some r) (hj : j < k) : o.l = r.l.take 400 := by
  have e := congrArg (fun z => z[j]?) h
  simp only [List.getElem?_map, ho, List.getElem?_take, if_pos hj, hr] at e
  exact Option.some.inj e
theorem cut_size {os rs : List RB} {k : Nat} (h : os.map RowG.l = (rs.take k).map cutR) (hk : k ≤ rs.length) : os.length = k := by
  have := congrArg List.length h
  rw [List.length_map, List.length_map, List.length_take] at this; omega

set_option maxHeartbeats 4000000 in
theorem sums_any (rs : List RB) (a : Option Addr) (cap : Nat) (ws : List Wd) (aw : Option Addr) (capw : Nat) (w : World) (hv : SliceAt w a cap 1 RowG.cells rs) (hrs : ∀ r ∈ rs, r.ok 1 byc w ∧ r.cap ≤ Go.maxLen) (hcap : cap ≤ Go.maxLen) (hw : SliceAt w aw capw 1 wc ws) (hcapw : capw ≤ Go.maxLen) : Calls Try.prog 6 #[.slice a rs.length cap, .slice aw ws.length capw] w fun e w' => e = .returned (.bool true) ∧ Below w.heap.size w w' := by
  have hvl := hv.1
  have hvl := hv.1
  have hwl := hw.1
  unfold Go.maxLen at hcap hcapw
  refine calls_of_T (l := [.slice a rs.length cap, .slice aw ws.length capw]) 87 Try.func6 rfl rfl rfl ?_
  show T _ _ _ [(0, .slice a rs.length cap), (1, .slice aw ws.length capw)] []
  refine T_seq (T_region ?_)
  refine TL_q (.bool false) (fun _ _ hρ _ => r_assign (hρ _ _ rfl)) rfl rfl rfl (w_n rfl) ?_
  refine TL_seq ?_
  refine T_seq ?_
  refine T_seq (T_region ?_)
  refine TL_call (.bool true) (fun _ _ hρ _ => r_call (args := []) (enters_of Try.func9 (by kernel_rfl) rfl) (hρ _ _ rfl) (by rfl) rfl) (fun w _ => wakes_any w) rfl rfl rfl (w_n rfl) ?_
  refine TL_q (.bool false) (fun _ _ hρ _ => r_not (b := true) (hρ _ _ rfl)) rfl rfl rfl (w_n rfl) ?_
  refine TL_seq ?_
  refine T_cond_f rfl ?_
  refine T_skip' ?_
  refine p_seq ?_
  refine T_seq (T_region ?_)
  refine TL_q (.slice none 0 0) (fun _ _ hρ _ => r_assign (hρ _ _ rfl)) rfl rfl rfl (w_n rfl) ?_
  refine TL_seq ?_
  refine T_seq (T_region ?_)
  refine TL_q (.slice none 0 0) (fun _ _ hρ _ => r_assign (hρ _ _ rfl)) rfl rfl rfl (w_n rfl) ?_
  refine TL_seq ?_
  refine T_seq ?_
  refine T_seq (T_region ?_)
  refine TL_q (.slice a rs.length cap) (fun _ _ hρ _ => r_move (hρ _ _ rfl)) rfl rfl rfl (w_n rfl) ?_
  refine TL_q (.int .i64 ((rs.length : Nat) : Int)) (fun _ _ hρ _ => r_len sl43 (hρ _ _ rfl)) rfl rfl rfl (w_n rfl) ?_
  refine TL_q (.int .i64 0) (fun _ _ hρ _ => r_move (hρ _ _ rfl)) rfl rfl rfl (w_n rfl) ?_
  refine TL_seq ?_
  refine T_block ?_
  refine T_mem [(53, .many 5 1 byc ([] : List RB)), (52, .row (.slice none 0 0) 5 1 0 []), (51, .row (.slice none 0 0) 29 1 0 [])] (fun _ hm => ((hm.nilRow 51 29 1).nilRow 52 5 1).many0 53 5 1 byc) ?_
  refine T_loop (ι := Nat × List RB × Option Addr × Nat × Option Addr × Nat) (fun (z : Nat × List RB × Option Addr × Nat × Option Addr × Nat) => match z with | (k, os, ao, co, aa, ca) => k ≤ rs.length ∧ k ≤ 6 ∧ os.map RowG.l = (rs.take k).map cutR) (fun (z : Nat × List RB × Option Addr × Nat × Option Addr × Nat) => match z with | (k, os, ao, co, aa, ca) => [(0, .slice a rs.length cap), (1, .slice aw ws.length capw), (4, .bool false), (17, .slice a rs.length cap), (18, .int .i64 ((rs.length : Nat) : Int)), (19, .int .i64 ((k : Nat) : Int)), (6, .slice ao os.length co), (5, .slice aa ((os.flatMap RowG.l).length) ca)]) (fun (z : Nat × List RB × Option Addr × Nat × Option Addr × Nat) => match z with | (k, os, ao, co, aa, ca) => [(53, .many 5 1 byc os), (52, .row (.slice aa ((os.flatMap RowG.l).length) ca) 5 1 ((os.flatMap RowG.l).length) ((os.flatMap RowG.l).flatMap byc)), (51, .row (.slice ao os.length co) 29 1 os.length (os.flatMap RowG.cells))]) (fun (z : Nat × List RB × Option Addr × Nat × Option Addr × Nat) => match z with | (k, os, ao, co, aa, ca) => rs.length - k) (0, [], none, 0, none, 0) ⟨Nat.zero_le _, Nat.zero_le _, rfl⟩ (sub_cons rfl (sub_cons rfl (sub_cons rfl (sub_cons rfl (sub_cons rfl (sub_cons rfl (sub_cons rfl (sub_cons rfl sub_nil)))))))) (sub_cons rfl (sub_cons rfl (sub_cons rfl sub_nil))) ?_
  rintro ⟨k, os, ao, co, aa, ca⟩ hp
  obtain ⟨hk, hk6, hos⟩ := hp
  have hal := cut_len hos
  have hol := cut_size hos hk
  show T _ _ _ [(0, .slice a rs.length cap), (1, .slice aw ws.length capw), (4, .bool false), (17, .slice a rs.length cap), (18, .int .i64 ((rs.length : Nat) : Int)), (19, .int .i64 ((k : Nat) : Int)), (6, .slice ao os.length co), (5, .slice aa ((os.flatMap RowG.l).length) ca)] [(53, .many 5 1 byc os), (52, .row (.slice aa ((os.flatMap RowG.l).length) ca) 5 1 ((os.flatMap RowG.l).length) ((os.flatMap RowG.l).flatMap byc)), (51, .row (.slice ao os.length co) 29 1 os.length (os.flatMap RowG.cells))]
  refine T_seq (T_region ?_)
  refine TL_q (.bool (decide (((k : Nat) : Int) < ((rs.length : Nat) : Int)))) (fun _ _ hρ _ => r_lss (hρ _ _ rfl) (hρ _ _ rfl)) rfl rfl rfl (w_n rfl) ?_
  refine TL_seq ?_
  refine T_seq ?_
  refine T_cond rfl (fun h1 => ?_) (fun h1 => ?_)
  · replace h1 := of_decide_eq_true h1
    refine T_skip' ?_
    refine p_seq ?_
    refine T_seq ?_
    refine T_block ?_
    obtain ⟨x, hx⟩ : ∃ x, rs[k]? = some x := ⟨_, List.getElem?_eq_getElem (by omega)⟩
    have hxr := (hrs x (List.mem_of_getElem? hx)).1
    have hxc := (hrs x (List.mem_of_getElem? hx)).2
    have hx4 : (x.l.take 400).length ≤ 400 := by rw [List.length_take]; omega
    obtain ⟨b1, of1, cs1, T1, fz1, ha1, hq1, hr1⟩ := hv.open (i := k) (by omega)
    subst ha1
    refine T_seq (T_region ?_)
    refine TL_q (.int .i64 ((k : Nat) : Int)) (fun _ _ hρ _ => r_move (hρ _ _ rfl)) rfl rfl rfl (w_n rfl) ?_
    refine TL_q (.pointer (some ⟨b1, of1 + k * 1, none⟩)) (fun _ _ hρ _ => r_indexAddrS (i := k) sl43 sz29 (hρ _ _ rfl) (hρ _ _ rfl) (by omega)) rfl rfl rfl (w_n rfl) ?_
    refine TL_q (.slice x.a x.l.length x.cap) (fun _ _ hρ hm => r_loadRow1 (f := RowG.cells) (u := x) ag29 (hρ _ _ rfl) (hm.old hq1) hr1 hx rfl) rfl rfl rfl (w_n rfl) ?_
    refine TL_q (.int .i64 ((k : Nat) : Int)) (fun _ _ hρ _ => r_assign (hρ _ _ rfl)) rfl rfl rfl (w_n rfl) ?_
    refine TL_q (.slice x.a x.l.length x.cap) (fun _ _ hρ _ => r_assign (hρ _ _ rfl)) rfl rfl rfl (w_n rfl) ?_
    refine TL_seq ?_
    refine T_seq ?_
    refine T_seq (T_region ?_)
    refine TL_q (.int .i64 ((k : Nat) : Int)) (fun _ _ hρ _ => r_move (hρ _ _ rfl)) rfl rfl rfl (w_n rfl) ?_
    refine TL_q (.bool (decide (((k : Nat) : Int) = 6))) (fun _ _ hρ _ => r_eql (hρ _ _ rfl) (hρ _ _ rfl)) rfl rfl rfl (w_n rfl) ?_
    refine TL_seq ?_
    refine T_cond rfl (fun h2 => ?_) (fun h2 => ?_)
    · replace h2 := of_decide_eq_true h2
      refine T_exit' ?_
      refine p_then_x ?_
      refine p_blk_o rfl ?_
      refine p_then_x ?_
      refine p_then_x ?_
      refine p_blk_x ?_
      refine p_seq ?_
      refine T_seq ?_
      refine T_seq (T_region ?_)
      refine TL_q (.slice ao os.length co) (fun _ _ hρ _ => r_move (hρ _ _ rfl)) rfl rfl rfl (w_n rfl) ?_
      refine TL_call (.int .u32 ((sumC 0#32 (os.flatMap RowG.l)).toNat : Int)) (fun _ _ hρ _ => r_call (args := [.slice ao os.length co]) (enters_of Try.func20 (by kernel_rfl) rfl) (hρ _ _ rfl) ((cons2 (hρ _ _ rfl) rfl)) rfl) (fun w hm => (by have hb := sum_c (os.map RB.toV) ao co w (sliceMap (SliceAt.own RowG.cells_len (hm.row 51 rfl) rfl rfl) RB.toV (fun _ => rfl)) (fun r h => by obtain ⟨q, hq, rfl⟩ := List.mem_map.1 h; exact manyAt byc_len (hm.many 53 rfl) hq) (fun r h => by obtain ⟨q, hq, rfl⟩ := List.mem_map.1 h; exact manyCap (hm.many 53 rfl) hq) (row_cap (hm.row 51 rfl)); rw [List.length_map, toV_flat] at hb; exact hb)) rfl rfl rfl (w_n rfl) ?_
      refine TL_q (.slice aa ((os.flatMap RowG.l).length) ca) (fun _ _ hρ _ => r_move (hρ _ _ rfl)) rfl rfl rfl (w_n rfl) ?_
      refine TL_call (.int .u32 ((sumC 0#32 (os.flatMap RowG.l)).toNat : Int)) (fun _ _ hρ _ => r_call (args := [.slice aa ((os.flatMap RowG.l).length) ca]) (enters_of Try.func21 (by kernel_rfl) rfl) (hρ _ _ rfl) ((cons2 (hρ _ _ rfl) rfl)) rfl) (fun w hm => sum_ref (os.flatMap RowG.l) aa ca w (SliceAt.own byc_len (hm.row 52 rfl) rfl rfl) (by omega)) rfl rfl rfl (w_n rfl) ?_
      refine TL_q (.bool false) (fun _ _ hρ _ => r_as (r_neq (hρ _ _ rfl) (hρ _ _ rfl)) (bool_as (by simp))) rfl rfl rfl (w_n rfl) ?_
      refine TL_seq ?_
      refine T_cond_f rfl ?_
      refine T_skip' ?_
      refine p_seq ?_
      refine T_seq ?_
      refine T_seq (T_region ?_)
      refine TL_q (.slice ao os.length co) (fun _ _ hρ _ => r_move (hρ _ _ rfl)) rfl rfl rfl (w_n rfl) ?_
      refine TL_q (.int .i64 ((os.length : Nat) : Int)) (fun _ _ hρ _ => r_len sl43 (hρ _ _ rfl)) rfl rfl rfl (w_n rfl) ?_
      refine TL_q (.int .i64 0) (fun _ _ hρ _ => r_move (hρ _ _ rfl)) rfl rfl rfl (w_n rfl) ?_
      refine TL_seq ?_
      refine T_block ?_
      refine T_loop (ι := Nat) (fun (j : Nat) => j ≤ os.length) (fun (j : Nat) => [(0, .slice (some ⟨b1, of1, none⟩) rs.length cap), (1, .slice aw ws.length capw), (5, .slice aa ((os.flatMap RowG.l).length) ca), (41, .slice ao os.length co), (42, .int .i64 ((os.length : Nat) : Int)), (43, .int .i64 ((j : Nat) : Int))]) (fun (j : Nat) => [(53, .many 5 1 byc os), (52, .row (.slice aa ((os.flatMap RowG.l).length) ca) 5 1 ((os.flatMap RowG.l).length) ((os.flatMap RowG.l).flatMap byc)), (51, .row (.slice ao os.length co) 29 1 os.length (os.flatMap RowG.cells))]) (fun (j : Nat) => os.length - j) 0 (Nat.zero_le _) (sub_cons rfl (sub_cons rfl (sub_cons rfl (sub_cons rfl (sub_cons rfl (sub_cons rfl sub_nil)))))) (sub_cons rfl (sub_cons rfl (sub_cons rfl sub_nil))) ?_
      rintro j hp
      show T _ _ _ [(0, .slice (some ⟨b1, of1, none⟩) rs.length cap), (1, .slice aw ws.length capw), (5, .slice aa ((os.flatMap RowG.l).length) ca), (41, .slice ao os.length co), (42, .int .i64 ((os.length : Nat) : Int)), (43, .int .i64 ((j : Nat) : Int))] [(53, .many 5 1 byc os), (52, .row (.slice aa ((os.flatMap RowG.l).length) ca) 5 1 ((os.flatMap RowG.l).length) ((os.flatMap RowG.l).flatMap byc)), (51, .row (.slice ao os.length co) 29 1 os.length (os.flatMap RowG.cells))]
      refine T_seq (T_region ?_)
      refine TL_q (.bool (decide (((j : Nat) : Int) < ((os.length : Nat) : Int)))) (fun _ _ hρ _ => r_lss (hρ _ _ rfl) (hρ _ _ rfl)) rfl rfl rfl (w_n rfl) ?_
      refine TL_seq ?_
      refine T_seq ?_
      refine T_cond rfl (fun h3 => ?_) (fun h3 => ?_)
      · replace h3 := of_decide_eq_true h3
        refine T_skip' ?_
        refine p_seq ?_
        refine T_seq ?_
        refine T_block ?_
        obtain ⟨o, ho⟩ : ∃ o, os[j]? = some o := ⟨_, List.getElem?_eq_getElem (by omega)⟩
        obtain ⟨y, hy⟩ : ∃ y, rs[j]? = some y := ⟨_, List.getElem?_eq_getElem (by omega)⟩
        have hyr := (hrs y (List.mem_of_getElem? hy)).1
        have hyc := (hrs y (List.mem_of_getElem? hy)).2
        have hoy := cut_at hos ho hy (by omega)
        have hol2 : o.l.length ≤ 400 := by rw [hoy, List.length_take]; omega
        have hy4 : (y.l.take 400).length ≤ 400 := by rw [List.length_take]; omega
        refine T_row 51 rfl (by omega) (fun g2 ha2 => ?_)
        subst ha2
        refine T_rowcap 51 rfl (fun hrc2 => ?_)
        refine T_seq (T_region ?_)
        refine TL_q (.int .i64 ((j : Nat) : Int)) (fun _ _ hρ _ => r_move (hρ _ _ rfl)) rfl rfl rfl (w_n rfl) ?_
        refine TL_q (.pointer (some ⟨g2, 0 + j * 1, none⟩)) (fun _ _ hρ _ => r_indexAddrS (i := j) sl43 sz29 (hρ _ _ rfl) (hρ _ _ rfl) (by omega)) rfl rfl rfl (w_n rfl) ?_
        refine TL_q (.slice o.a o.l.length o.cap) (fun _ _ hρ hm => r_loadOwn1 (f := RowG.cells) (u := o) (l := os) ag29 (hρ _ _ rfl) (hm.row 51 rfl) rfl rfl RowG.cells_len ho rfl) rfl rfl rfl (w_n rfl) ?_
        refine TL_q (.int .i64 ((j : Nat) : Int)) (fun _ _ hρ _ => r_assign (hρ _ _ rfl)) rfl rfl rfl (w_n rfl) ?_
        refine TL_q (.slice o.a o.l.length o.cap) (fun _ _ hρ _ => r_assign (hρ _ _ rfl)) rfl rfl rfl (w_n rfl) ?_
        refine TL_seq ?_
        refine T_seq (T_region ?_)
        refine TL_q (.slice o.a o.l.length o.cap) (fun _ _ hρ _ => r_move (hρ _ _ rfl)) rfl rfl rfl (w_n rfl) ?_
        refine TL_q (.slice (some ⟨b1, of1, none⟩) rs.length cap) (fun _ _ hρ _ => r_move (hρ _ _ rfl)) rfl rfl rfl (w_n rfl) ?_
        refine TL_q (.int .i64 ((j : Nat) : Int)) (fun _ _ hρ _ => r_move (hρ _ _ rfl)) rfl rfl rfl (w_n rfl) ?_
        refine TL_q (.pointer (some ⟨b1, of1 + j * 1, none⟩)) (fun _ _ hρ _ => r_indexAddrS (i := j) sl43 sz29 (hρ _ _ rfl) (hρ _ _ rfl) (by omega)) rfl rfl rfl (w_n rfl) ?_
        refine TL_q (.slice y.a y.l.length y.cap) (fun _ _ hρ hm => r_loadRow1 (f := RowG.cells) (u := y) ag29 (hρ _ _ rfl) (hm.old hq1) hr1 hy rfl) rfl rfl rfl (w_n rfl) ?_
        refine TL_callN (fun (_ : Option Addr × Nat) => True) (fun (a3, cap3) => .slice a3 ((y.l.take 400).length) cap3) (fun (a3, cap3) => [(1, .row (.slice a3 ((y.l.take 400).length) cap3) 5 1 ((y.l.take 400).length) ((y.l.take 400).flatMap byc))]) (fun _ _ hρ _ => r_call (args := [.slice y.a y.l.length y.cap]) (enters_of Try.func13 (by kernel_rfl) rfl) (hρ _ _ rfl) ((cons2 (hρ _ _ rfl) rfl)) rfl) (fun w hm => (few_c y.l y.a y.cap w (hyr.keep hm.ext) hyc).mono fun e w' ⟨a', cap', he, hb, hr⟩ => ⟨(a', cap'), trivial, he, hb, newOk1 1 hr⟩) rfl rfl rfl (w_n rfl) ?_
        rintro ⟨a3, cap3⟩ -
        refine TL_call (.bool true) (fun _ _ hρ _ => r_call (args := [.slice o.a o.l.length o.cap, .slice a3 ((y.l.take 400).length) cap3]) (enters_of Try.func11 (by kernel_rfl) rfl) (hρ _ _ rfl) ((cons2 (hρ _ _ rfl) (cons2 (hρ _ _ rfl) rfl))) rfl) (fun w hm => (equal_b o.l (y.l.take 400) o.a a3 o.cap cap3 w (manyAt byc_len (hm.many 53 rfl) (List.mem_of_getElem? ho)) (SliceAt.own byc_len (hm.row 1 rfl) rfl rfl) (by omega) (by omega)).mono fun _ _ h => ⟨h.1.trans (congrArg Ending.returned (bool_as (decide_eq_true (hoy)))), h.2⟩) rfl rfl rfl (w_n rfl) ?_
        refine TL_q (.bool false) (fun _ _ hρ _ => r_not (b := true) (hρ _ _ rfl)) rfl rfl rfl (w_n rfl) ?_
        refine TL_seq ?_
        refine T_cond_f rfl ?_
        refine T_skip' ?_
        refine p_blk_n ?_
        refine p_seq ?_
        refine T_region ?_
        refine TL_q (.int .i64 ((j + 1 : Nat) : Int)) (fun _ _ hρ _ => r_as (r_add (hρ _ _ rfl) (hρ _ _ rfl)) (int_as ((wrap64 (by omega) (by omega)).trans (by omega)))) rfl rfl rfl (w_n rfl) ?_
        refine TL_q (.int .i64 ((j + 1 : Nat) : Int)) (fun _ _ hρ _ => r_move (hρ _ _ rfl)) rfl rfl rfl (w_n rfl) ?_
        refine TL_nil ?_
        exact p_at (j + 1) ⟨by omega, by omega⟩ (sub_cons rfl (sub_cons rfl (sub_cons rfl (sub_cons rfl (sub_cons rfl (sub_cons rfl sub_nil)))))) (sub_cons rfl (sub_cons rfl (sub_cons rfl sub_nil)))
      · replace h3 := of_decide_eq_false h3
        refine T_exit' ?_
        refine p_then_x ?_
        refine p_then_x ?_
        refine p_blk_x ?_
        refine p_seq ?_
        refine T_seq ?_
        refine T_seq (T_region ?_)
        refine TL_q (.slice aw ws.length capw) (fun _ _ hρ _ => r_move (hρ _ _ rfl)) rfl rfl rfl (w_n rfl) ?_
        refine TL_q (.int .i64 ((ws.length : Nat) : Int)) (fun _ _ hρ _ => r_len sl44 (hρ _ _ rfl)) rfl rfl rfl (w_n rfl) ?_
        refine TL_q (.int .i64 0) (fun _ _ hρ _ => r_move (hρ _ _ rfl)) rfl rfl rfl (w_n rfl) ?_
        refine TL_seq ?_
        refine T_block ?_
        refine T_loop (ι := Nat) (fun (j : Nat) => j ≤ ws.length) (fun (j : Nat) => [(5, .slice aa ((os.flatMap RowG.l).length) ca), (57, .slice aw ws.length capw), (58, .int .i64 ((ws.length : Nat) : Int)), (59, .int .i64 ((j : Nat) : Int))]) (fun (j : Nat) => [(53, .many 5 1 byc os), (52, .row (.slice aa ((os.flatMap RowG.l).length) ca) 5 1 ((os.flatMap RowG.l).length) ((os.flatMap RowG.l).flatMap byc)), (51, .row (.slice ao os.length co) 29 1 os.length (os.flatMap RowG.cells))]) (fun (j : Nat) => ws.length - j) 0 (Nat.zero_le _) (sub_cons rfl (sub_cons rfl (sub_cons rfl (sub_cons rfl sub_nil)))) (sub_cons rfl (sub_cons rfl (sub_cons rfl sub_nil))) ?_
        rintro j hp
        show T _ _ _ [(5, .slice aa ((os.flatMap RowG.l).length) ca), (57, .slice aw ws.length capw), (58, .int .i64 ((ws.length : Nat) : Int)), (59, .int .i64 ((j : Nat) : Int))] [(53, .many 5 1 byc os), (52, .row (.slice aa ((os.flatMap RowG.l).length) ca) 5 1 ((os.flatMap RowG.l).length) ((os.flatMap RowG.l).flatMap byc)), (51, .row (.slice ao os.length co) 29 1 os.length (os.flatMap RowG.cells))]
        refine T_seq (T_region ?_)
        refine TL_q (.bool (decide (((j : Nat) : Int) < ((ws.length : Nat) : Int)))) (fun _ _ hρ _ => r_lss (hρ _ _ rfl) (hρ _ _ rfl)) rfl rfl rfl (w_n rfl) ?_
        refine TL_seq ?_
        refine T_seq ?_
        refine T_cond rfl (fun h4 => ?_) (fun h4 => ?_)
        · replace h4 := of_decide_eq_true h4
          refine T_skip' ?_
          refine p_seq ?_
          refine T_seq ?_
          refine T_block ?_
          obtain ⟨z, hz⟩ : ∃ z, ws[j]? = some z := ⟨_, List.getElem?_eq_getElem (by omega)⟩
          obtain ⟨b4, of4, cs4, T4, fz4, ha4, hq4, hr4⟩ := hw.open (i := j) (by omega)
          subst ha4
          refine T_seq (T_region ?_)
          refine TL_q (.int .i64 ((j : Nat) : Int)) (fun _ _ hρ _ => r_move (hρ _ _ rfl)) rfl rfl rfl (w_n rfl) ?_
          refine TL_q (.pointer (some ⟨b4, of4 + j * 1, none⟩)) (fun _ _ hρ _ => r_indexAddrS (i := j) sl44 sz24 (hρ _ _ rfl) (hρ _ _ rfl) (by omega)) rfl rfl rfl (w_n rfl) ?_
          refine TL_q (.int .u32 ((z).toNat : Int)) (fun _ _ hρ hm => r_loadRow1 (f := wc) (u := z) ag24 (hρ _ _ rfl) (hm.old hq4) hr4 hz rfl) rfl rfl rfl (w_n rfl) ?_
          refine TL_q (.int .i64 ((j : Nat) : Int)) (fun _ _ hρ _ => r_assign (hρ _ _ rfl)) rfl rfl rfl (w_n rfl) ?_
          refine TL_q (.int .u32 ((z).toNat : Int)) (fun _ _ hρ _ => r_assign (hρ _ _ rfl)) rfl rfl rfl (w_n rfl) ?_
          refine TL_seq ?_
          refine T_seq ?_
          refine T_seq (T_region ?_)
          refine TL_q (.int .i64 ((j : Nat) : Int)) (fun _ _ hρ _ => r_move (hρ _ _ rfl)) rfl rfl rfl (w_n rfl) ?_
          refine TL_q (.bool (decide (((j : Nat) : Int) = 6))) (fun _ _ hρ _ => r_eql (hρ _ _ rfl) (hρ _ _ rfl)) rfl rfl rfl (w_n rfl) ?_
          refine TL_seq ?_
          refine T_cond rfl (fun h5 => ?_) (fun h5 => ?_)
          · replace h5 := of_decide_eq_true h5
            refine T_exit' ?_
            refine p_then_x ?_
            refine p_blk_o rfl ?_
            refine p_then_x ?_
            refine p_then_x ?_
            refine p_blk_x ?_
            refine p_seq ?_
            refine T_seq (T_region ?_)
            refine TL_call (.agg (lst wc tabL)) (fun _ _ hρ _ => r_call (args := []) (enters_of Try.func24 (by kernel_rfl) rfl) (hρ _ _ rfl) (by rfl) rfl) (fun w _ => table_c w) rfl rfl rfl (w_n rfl) ?_
            refine TL_new 2 (.cells (lst wc zeroT) 48) (fun B => .pointer (some ⟨B, 0, none⟩)) (fun _ _ _ _ => r_alloc (v := .agg (lst wc zeroT)) (by kernel_rfl) rfl) rfl rfl rfl (w_n rfl) ?_
            intro B5
            refine TL_store 2 (.cells (lst wc tabL) 48) rfl (fun _ _ hρ hm => r_storeAll sz48 (hρ _ _ rfl) (hρ _ _ rfl) (hm.at 2 rfl) (wc_size zeroT_len) (wc_size tabL_len) (lst_one wc_one _)) rfl rfl (w_n rfl) ?_
            refine TL_seq ?_
            refine T_seq ?_
            refine T_seq (T_region ?_)
            refine TL_q (.int .i64 0) (fun _ _ hρ _ => r_move (hρ _ _ rfl)) rfl rfl rfl (w_n rfl) ?_
            refine TL_seq ?_
            refine T_block ?_
            refine T_loop (ι := Nat) (fun (i : Nat) => i ≤ 256) (fun (i : Nat) => [(13, .pointer (some ⟨B5, 0, none⟩)), (75, .int .i64 ((i : Nat) : Int))]) (fun (i : Nat) => [(53, .many 5 1 byc os), (52, .row (.slice aa ((os.flatMap RowG.l).length) ca) 5 1 ((os.flatMap RowG.l).length) ((os.flatMap RowG.l).flatMap byc)), (51, .row (.slice ao os.length co) 29 1 os.length (os.flatMap RowG.cells)), (2, .blk B5 (.cells (lst wc tabL) 48))]) (fun (i : Nat) => 256 - i) 0 (Nat.zero_le _) (sub_cons rfl (sub_cons rfl sub_nil)) (sub_cons rfl (sub_cons rfl (sub_cons rfl (sub_cons rfl sub_nil)))) ?_
            rintro i hp
            show T _ _ _ [(13, .pointer (some ⟨B5, 0, none⟩)), (75, .int .i64 ((i : Nat) : Int))] [(53, .many 5 1 byc os), (52, .row (.slice aa ((os.flatMap RowG.l).length) ca) 5 1 ((os.flatMap RowG.l).length) ((os.flatMap RowG.l).flatMap byc)), (51, .row (.slice ao os.length co) 29 1 os.length (os.flatMap RowG.cells)), (2, .blk B5 (.cells (lst wc tabL) 48))]
            refine T_seq (T_region ?_)
            refine TL_q (.bool (decide (((i : Nat) : Int) < 256))) (fun _ _ hρ _ => r_lss (hρ _ _ rfl) (hρ _ _ rfl)) rfl rfl rfl (w_n rfl) ?_
            refine TL_seq ?_
            refine T_seq ?_
            refine T_cond rfl (fun h6 => ?_) (fun h6 => ?_)
            · replace h6 := of_decide_eq_true h6
              refine T_skip' ?_
              refine p_seq ?_
              refine T_seq ?_
              refine T_block ?_
              refine T_seq (T_region ?_)
              refine TL_q (.int .i64 ((i : Nat) : Int)) (fun _ _ hρ _ => r_move (hρ _ _ rfl)) rfl rfl rfl (w_n rfl) ?_
              refine TL_q (.int .i64 ((i : Nat) : Int)) (fun _ _ hρ _ => r_assign (hρ _ _ rfl)) rfl rfl rfl (w_n rfl) ?_
              refine TL_seq ?_
              refine T_seq (T_draw (V := [(0, .int .i64 ((i : Nat) : Int)), (1, .pointer (some ⟨B5, 0 + i * 1, none⟩)), (2, .int .u32 ((step (0#32) (BitVec.ofNat 8 i)).toNat : Int)), (3, .int .i64 ((i : Nat) : Int)), (4, .int .u8 ((BitVec.ofNat 8 i).toNat : Int))]) [0, 1, 3, 0, 8, 24, 56, 127] [[(14, none)], [(13, none), (78, some 0)], [(79, some 1)], [(14, none)], [(81, some 3)], [(82, some 4)], [(83, some 5)], [(80, some 2), (84, some 6)]] 96 mixed (by kernel_rfl) ?_)
              refine G_step [0, 1, 2, 3, 4] 5 [] (by kernel_rfl) (allM (all_cons (q_run (.int .i64 ((i : Nat) : Int)) rfl rfl (wv_n rfl) rfl (fun _ _ hρ _ => r_move (hρ _ _ rfl))) (all_cons (q_run (.pointer (some ⟨B5, 0 + i * 1, none⟩)) rfl rfl (wv_n rfl) rfl (fun _ _ hρ _ => r_indexAddrA (i := i) ar48 sz24 (hρ _ _ rfl) (hρ _ _ rfl) (by omega))) (all_cons (q_run (.int .u32 ((step (0#32) (BitVec.ofNat 8 i)).toNat : Int)) rfl rfl (wv_n rfl) rfl (fun _ _ hρ hm => r_loadRow1 (f := wc) (l := tabL) (off := 0) (i := i) (s := 1) (u := step (0#32) (BitVec.ofNat 8 i)) ag24 (hρ _ _ rfl) (hm.at 2 rfl) (row_lst wc_len _) (tabL_at (by omega)) rfl)) (all_cons (q_run (.int .i64 ((i : Nat) : Int)) rfl rfl (wv_n rfl) rfl (fun _ _ hρ _ => r_move (hρ _ _ rfl))) (all_cons (q_run (.int .u8 ((BitVec.ofNat 8 i).toNat : Int)) rfl rfl (wv_n rfl) rfl (fun _ _ hρ _ => r_convN (k := .i64) (k' := .u8) (n := i) un3 io5 rfl (hρ _ _ rfl))) all_nil)))))) (allM (all_cons ?_ all_nil))
              refine LOb_new 3 (.cells #[.int .u8 ((BitVec.ofNat 8 i).toNat : Int)] 5) (fun B => .slice (some ⟨B, 0, none⟩) 1 1) (fun B => []) rfl (wv_n rfl) rfl rfl (fun _ _ hρ _ => r_buildSlice (vs := [(0, .int .u8 ((BitVec.ofNat 8 i).toNat : Int))]) (by kernel_rfl) (cons2 (pair2 (hρ _ _ rfl)) rfl)) (fun B => by kernel_rfl) ?_
              intro B6
              refine G_step [0, 1, 2] 6 [] (by kernel_rfl) (allM (all_cons (q_run (.int .i64 ((i : Nat) : Int)) rfl rfl (wv_n rfl) rfl (fun _ _ hρ _ => r_move (hρ _ _ rfl))) (all_cons (q_run (.pointer (some ⟨B5, 0 + i * 1, none⟩)) rfl rfl (wv_n rfl) rfl (fun _ _ hρ _ => r_indexAddrA (i := i) ar48 sz24 (hρ _ _ rfl) (hρ _ _ rfl) (by omega))) (all_cons (q_run (.int .u32 ((step (0#32) (BitVec.ofNat 8 i)).toNat : Int)) rfl rfl (wv_n rfl) rfl (fun _ _ hρ hm => r_loadRow1 (f := wc) (l := tabL) (off := 0) (i := i) (s := 1) (u := step (0#32) (BitVec.ofNat 8 i)) ag24 (hρ _ _ rfl) (hm.at 2 rfl) (row_lst wc_len _) (tabL_at (by omega)) rfl)) all_nil)))) (allM (all_cons ?_ all_nil))
              refine LOb_call (.int .u32 ((step (0#32) (BitVec.ofNat 8 i)).toNat : Int)) [(7, .bool false)] rfl (wv_n rfl) rfl rfl (fun _ _ hρ _ => r_call (args := [.int .u32 0, .slice (some ⟨B6, 0, none⟩) 1 1]) (enters_of Try.func25 (by kernel_rfl) rfl) (hρ _ _ rfl) ((cons2 (hρ _ _ rfl) (cons2 (hρ _ _ rfl) rfl))) rfl) (fun w hm => fed_ref 0#32 [BitVec.ofNat 8 i] (some ⟨B6, 0, none⟩) 1 w ⟨Nat.le_of_ble_eq_true rfl, (fun e => by cases e), .inr ⟨_, 0, _, _, _, rfl, (hm.at 3 rfl), row_of_take (fun _ => rfl) rfl⟩⟩ (Nat.le_of_ble_eq_true rfl)) (by kernel_rfl) ?_
              refine G_last [0, 1, 2, 7] [(13, .pointer (some ⟨B5, 0, none⟩)), (75, .int .i64 ((i : Nat) : Int)), (76, .bool (decide (((i : Nat) : Int) < 256))), (77, .int .i64 ((i : Nat) : Int)), (14, .int .i64 ((i : Nat) : Int)), (78, .int .i64 ((i : Nat) : Int)), (79, .pointer (some ⟨B5, 0 + i * 1, none⟩)), (80, .int .u32 ((step (0#32) (BitVec.ofNat 8 i)).toNat : Int)), (81, .int .i64 ((i : Nat) : Int)), (82, .int .u8 ((BitVec.ofNat 8 i).toNat : Int)), (83, .slice (some ⟨B6, 0, none⟩) 1 1), (84, .int .u32 ((step (0#32) (BitVec.ofNat 8 i)).toNat : Int)), (85, .bool false)] (by kernel_rfl) (allM (all_cons (q_run (.int .i64 ((i : Nat) : Int)) rfl rfl (wv_n rfl) rfl (fun _ _ hρ _ => r_move (hρ _ _ rfl))) (all_cons (q_run (.pointer (some ⟨B5, 0 + i * 1, none⟩)) rfl rfl (wv_n rfl) rfl (fun _ _ hρ _ => r_indexAddrA (i := i) ar48 sz24 (hρ _ _ rfl) (hρ _ _ rfl) (by omega))) (all_cons (q_run (.int .u32 ((step (0#32) (BitVec.ofNat 8 i)).toNat : Int)) rfl rfl (wv_n rfl) rfl (fun _ _ hρ hm => r_loadRow1 (f := wc) (l := tabL) (off := 0) (i := i) (s := 1) (u := step (0#32) (BitVec.ofNat 8 i)) ag24 (hρ _ _ rfl) (hm.at 2 rfl) (row_lst wc_len _) (tabL_at (by omega)) rfl)) (all_cons (q_run (.bool false) rfl rfl (wv_n rfl) rfl (fun _ _ hρ _ => r_as (r_neq (hρ _ _ rfl) (hρ _ _ rfl)) (bool_as (by simp)))) all_nil))))) (end_old rfl rfl (end_old rfl rfl (end_old rfl rfl (end_old rfl rfl (end_old rfl rfl (end_new 0 rfl rfl (end_new 1 rfl rfl (end_new 2 rfl rfl (end_new 3 rfl rfl (end_new 4 rfl rfl (end_new 5 rfl rfl (end_new 6 rfl rfl (end_new 7 rfl rfl end_nil))))))))))))) ?_
              refine T_cond_f rfl ?_
              refine T_skip' ?_
              refine p_blk_n ?_
              refine p_seq ?_
              refine T_region ?_
              refine TL_q (.int .i64 ((i + 1 : Nat) : Int)) (fun _ _ hρ _ => r_as (r_add (hρ _ _ rfl) (hρ _ _ rfl)) (int_as ((wrap64 (by omega) (by omega)).trans (by omega)))) rfl rfl rfl (w_n rfl) ?_
              refine TL_q (.int .i64 ((i + 1 : Nat) : Int)) (fun _ _ hρ _ => r_move (hρ _ _ rfl)) rfl rfl rfl (w_n rfl) ?_
              refine TL_nil ?_
              exact p_at (i + 1) ⟨by omega, by omega⟩ (sub_cons rfl (sub_cons rfl sub_nil)) (sub_cons rfl (sub_cons rfl (sub_cons rfl (sub_cons rfl sub_nil))))
            · replace h6 := of_decide_eq_false h6
              refine T_exit' ?_
              refine p_then_x ?_
              refine p_then_x ?_
              refine p_blk_x ?_
              refine p_seq ?_
              refine T_seq (T_region ?_)
              refine TL_q (.bool true) (fun _ _ hρ _ => r_assign (hρ _ _ rfl)) rfl rfl rfl (w_n rfl) ?_
              refine TL_seq ?_
              refine T_ret' ?_
              refine ret_of rfl (.bool true) (fun tmps w hk hm => res1 rfl (res_tmp (hk 4 _ rfl))) (fun w hm => ?_)
              exact ⟨rfl, hm.ext⟩
          · replace h5 := of_decide_eq_false h5
            refine T_skip' ?_
            refine p_seq ?_
            refine T_seq (T_region ?_)
            refine TL_q (.int .u32 ((z).toNat : Int)) (fun _ _ hρ _ => r_move (hρ _ _ rfl)) rfl rfl rfl (w_n rfl) ?_
            refine TL_q (.slice aa ((os.flatMap RowG.l).length) ca) (fun _ _ hρ _ => r_move (hρ _ _ rfl)) rfl rfl rfl (w_n rfl) ?_
            refine TL_call (.int .u32 ((sumC z (os.flatMap RowG.l)).toNat : Int)) (fun _ _ hρ _ => r_call (args := [.int .u32 ((z).toNat : Int), .slice aa ((os.flatMap RowG.l).length) ca]) (enters_of Try.func22 (by kernel_rfl) rfl) (hρ _ _ rfl) ((cons2 (hρ _ _ rfl) (cons2 (hρ _ _ rfl) rfl))) rfl) (fun w hm => moreB_c z (os.flatMap RowG.l) aa ca w (SliceAt.own byc_len (hm.row 52 rfl) rfl rfl) (row_cap (hm.row 52 rfl))) rfl rfl rfl (w_n rfl) ?_
            refine TL_q (.int .u32 ((z).toNat : Int)) (fun _ _ hρ _ => r_move (hρ _ _ rfl)) rfl rfl rfl (w_n rfl) ?_
            refine TL_q (.slice aa ((os.flatMap RowG.l).length) ca) (fun _ _ hρ _ => r_move (hρ _ _ rfl)) rfl rfl rfl (w_n rfl) ?_
            refine TL_call (.int .u32 ((sumC z (os.flatMap RowG.l)).toNat : Int)) (fun _ _ hρ _ => r_call (args := [.int .u32 ((z).toNat : Int), .slice aa ((os.flatMap RowG.l).length) ca]) (enters_of Try.func23 (by kernel_rfl) rfl) (hρ _ _ rfl) ((cons2 (hρ _ _ rfl) (cons2 (hρ _ _ rfl) rfl))) rfl) (fun w hm => more_ref z (os.flatMap RowG.l) aa ca w (SliceAt.own byc_len (hm.row 52 rfl) rfl rfl) (by omega)) rfl rfl rfl (w_n rfl) ?_
            refine TL_q (.bool false) (fun _ _ hρ _ => r_as (r_neq (hρ _ _ rfl) (hρ _ _ rfl)) (bool_as (by simp))) rfl rfl rfl (w_n rfl) ?_
            refine TL_seq ?_
            refine T_cond_f rfl ?_
            refine T_skip' ?_
            refine p_blk_n ?_
            refine p_seq ?_
            refine T_region ?_
            refine TL_q (.int .i64 ((j + 1 : Nat) : Int)) (fun _ _ hρ _ => r_as (r_add (hρ _ _ rfl) (hρ _ _ rfl)) (int_as ((wrap64 (by omega) (by omega)).trans (by omega)))) rfl rfl rfl (w_n rfl) ?_
            refine TL_q (.int .i64 ((j + 1 : Nat) : Int)) (fun _ _ hρ _ => r_move (hρ _ _ rfl)) rfl rfl rfl (w_n rfl) ?_
            refine TL_nil ?_
            exact p_at (j + 1) ⟨by omega, by omega⟩ (sub_cons rfl (sub_cons rfl (sub_cons rfl (sub_cons rfl sub_nil)))) (sub_cons rfl (sub_cons rfl (sub_cons rfl sub_nil)))
        · replace h4 := of_decide_eq_false h4
          refine T_exit' ?_
          refine p_then_x ?_
          refine p_then_x ?_
          refine p_blk_x ?_
          refine p_seq ?_
          refine T_seq (T_region ?_)
          refine TL_call (.agg (lst wc tabL)) (fun _ _ hρ _ => r_call (args := []) (enters_of Try.func24 (by kernel_rfl) rfl) (hρ _ _ rfl) (by rfl) rfl) (fun w _ => table_c w) rfl rfl rfl (w_n rfl) ?_
          refine TL_new 4 (.cells (lst wc zeroT) 48) (fun B => .pointer (some ⟨B, 0, none⟩)) (fun _ _ _ _ => r_alloc (v := .agg (lst wc zeroT)) (by kernel_rfl) rfl) rfl rfl rfl (w_n rfl) ?_
          intro B7
          refine TL_store 4 (.cells (lst wc tabL) 48) rfl (fun _ _ hρ hm => r_storeAll sz48 (hρ _ _ rfl) (hρ _ _ rfl) (hm.at 4 rfl) (wc_size zeroT_len) (wc_size tabL_len) (lst_one wc_one _)) rfl rfl (w_n rfl) ?_
          refine TL_seq ?_
          refine T_seq ?_
          refine T_seq (T_region ?_)
          refine TL_q (.int .i64 0) (fun _ _ hρ _ => r_move (hρ _ _ rfl)) rfl rfl rfl (w_n rfl) ?_
          refine TL_seq ?_
          refine T_block ?_
          refine T_loop (ι := Nat) (fun (i : Nat) => i ≤ 256) (fun (i : Nat) => [(13, .pointer (some ⟨B7, 0, none⟩)), (75, .int .i64 ((i : Nat) : Int))]) (fun (i : Nat) => [(53, .many 5 1 byc os), (52, .row (.slice aa ((os.flatMap RowG.l).length) ca) 5 1 ((os.flatMap RowG.l).length) ((os.flatMap RowG.l).flatMap byc)), (51, .row (.slice ao os.length co) 29 1 os.length (os.flatMap RowG.cells)), (4, .blk B7 (.cells (lst wc tabL) 48))]) (fun (i : Nat) => 256 - i) 0 (Nat.zero_le _) (sub_cons rfl (sub_cons rfl sub_nil)) (sub_cons rfl (sub_cons rfl (sub_cons rfl (sub_cons rfl sub_nil)))) ?_
          rintro i hp
          show T _ _ _ [(13, .pointer (some ⟨B7, 0, none⟩)), (75, .int .i64 ((i : Nat) : Int))] [(53, .many 5 1 byc os), (52, .row (.slice aa ((os.flatMap RowG.l).length) ca) 5 1 ((os.flatMap RowG.l).length) ((os.flatMap RowG.l).flatMap byc)), (51, .row (.slice ao os.length co) 29 1 os.length (os.flatMap RowG.cells)), (4, .blk B7 (.cells (lst wc tabL) 48))]
          refine T_seq (T_region ?_)
          refine TL_q (.bool (decide (((i : Nat) : Int) < 256))) (fun _ _ hρ _ => r_lss (hρ _ _ rfl) (hρ _ _ rfl)) rfl rfl rfl (w_n rfl) ?_
          refine TL_seq ?_
          refine T_seq ?_
          refine T_cond rfl (fun h7 => ?_) (fun h7 => ?_)
          · replace h7 := of_decide_eq_true h7
            refine T_skip' ?_
            refine p_seq ?_
            refine T_seq ?_
            refine T_block ?_
            refine T_seq (T_region ?_)
            refine TL_q (.int .i64 ((i : Nat) : Int)) (fun _ _ hρ _ => r_move (hρ _ _ rfl)) rfl rfl rfl (w_n rfl) ?_
            refine TL_q (.int .i64 ((i : Nat) : Int)) (fun _ _ hρ _ => r_assign (hρ _ _ rfl)) rfl rfl rfl (w_n rfl) ?_
            refine TL_seq ?_
            refine T_seq (T_draw (V := [(0, .int .i64 ((i : Nat) : Int)), (1, .pointer (some ⟨B7, 0 + i * 1, none⟩)), (2, .int .u32 ((step (0#32) (BitVec.ofNat 8 i)).toNat : Int)), (3, .int .i64 ((i : Nat) : Int)), (4, .int .u8 ((BitVec.ofNat 8 i).toNat : Int))]) [0, 1, 3, 0, 8, 24, 56, 127] [[(14, none)], [(13, none), (78, some 0)], [(79, some 1)], [(14, none)], [(81, some 3)], [(82, some 4)], [(83, some 5)], [(80, some 2), (84, some 6)]] 96 mixed (by kernel_rfl) ?_)
            refine G_step [0, 1, 2, 3, 4] 5 [] (by kernel_rfl) (allM (all_cons (q_run (.int .i64 ((i : Nat) : Int)) rfl rfl (wv_n rfl) rfl (fun _ _ hρ _ => r_move (hρ _ _ rfl))) (all_cons (q_run (.pointer (some ⟨B7, 0 + i * 1, none⟩)) rfl rfl (wv_n rfl) rfl (fun _ _ hρ _ => r_indexAddrA (i := i) ar48 sz24 (hρ _ _ rfl) (hρ _ _ rfl) (by omega))) (all_cons (q_run (.int .u32 ((step (0#32) (BitVec.ofNat 8 i)).toNat : Int)) rfl rfl (wv_n rfl) rfl (fun _ _ hρ hm => r_loadRow1 (f := wc) (l := tabL) (off := 0) (i := i) (s := 1) (u := step (0#32) (BitVec.ofNat 8 i)) ag24 (hρ _ _ rfl) (hm.at 4 rfl) (row_lst wc_len _) (tabL_at (by omega)) rfl)) (all_cons (q_run (.int .i64 ((i : Nat) : Int)) rfl rfl (wv_n rfl) rfl (fun _ _ hρ _ => r_move (hρ _ _ rfl))) (all_cons (q_run (.int .u8 ((BitVec.ofNat 8 i).toNat : Int)) rfl rfl (wv_n rfl) rfl (fun _ _ hρ _ => r_convN (k := .i64) (k' := .u8) (n := i) un3 io5 rfl (hρ _ _ rfl))) all_nil)))))) (allM (all_cons ?_ all_nil))
            refine LOb_new 5 (.cells #[.int .u8 ((BitVec.ofNat 8 i).toNat : Int)] 5) (fun B => .slice (some ⟨B, 0, none⟩) 1 1) (fun B => []) rfl (wv_n rfl) rfl rfl (fun _ _ hρ _ => r_buildSlice (vs := [(0, .int .u8 ((BitVec.ofNat 8 i).toNat : Int))]) (by kernel_rfl) (cons2 (pair2 (hρ _ _ rfl)) rfl)) (fun B => by kernel_rfl) ?_
            intro B8
            refine G_step [0, 1, 2] 6 [] (by kernel_rfl) (allM (all_cons (q_run (.int .i64 ((i : Nat) : Int)) rfl rfl (wv_n rfl) rfl (fun _ _ hρ _ => r_move (hρ _ _ rfl))) (all_cons (q_run (.pointer (some ⟨B7, 0 + i * 1, none⟩)) rfl rfl (wv_n rfl) rfl (fun _ _ hρ _ => r_indexAddrA (i := i) ar48 sz24 (hρ _ _ rfl) (hρ _ _ rfl) (by omega))) (all_cons (q_run (.int .u32 ((step (0#32) (BitVec.ofNat 8 i)).toNat : Int)) rfl rfl (wv_n rfl) rfl (fun _ _ hρ hm => r_loadRow1 (f := wc) (l := tabL) (off := 0) (i := i) (s := 1) (u := step (0#32) (BitVec.ofNat 8 i)) ag24 (hρ _ _ rfl) (hm.at 4 rfl) (row_lst wc_len _) (tabL_at (by omega)) rfl)) all_nil)))) (allM (all_cons ?_ all_nil))
            refine LOb_call (.int .u32 ((step (0#32) (BitVec.ofNat 8 i)).toNat : Int)) [(7, .bool false)] rfl (wv_n rfl) rfl rfl (fun _ _ hρ _ => r_call (args := [.int .u32 0, .slice (some ⟨B8, 0, none⟩) 1 1]) (enters_of Try.func25 (by kernel_rfl) rfl) (hρ _ _ rfl) ((cons2 (hρ _ _ rfl) (cons2 (hρ _ _ rfl) rfl))) rfl) (fun w hm => fed_ref 0#32 [BitVec.ofNat 8 i] (some ⟨B8, 0, none⟩) 1 w ⟨Nat.le_of_ble_eq_true rfl, (fun e => by cases e), .inr ⟨_, 0, _, _, _, rfl, (hm.at 5 rfl), row_of_take (fun _ => rfl) rfl⟩⟩ (Nat.le_of_ble_eq_true rfl)) (by kernel_rfl) ?_
            refine G_last [0, 1, 2, 7] [(13, .pointer (some ⟨B7, 0, none⟩)), (75, .int .i64 ((i : Nat) : Int)), (76, .bool (decide (((i : Nat) : Int) < 256))), (77, .int .i64 ((i : Nat) : Int)), (14, .int .i64 ((i : Nat) : Int)), (78, .int .i64 ((i : Nat) : Int)), (79, .pointer (some ⟨B7, 0 + i * 1, none⟩)), (80, .int .u32 ((step (0#32) (BitVec.ofNat 8 i)).toNat : Int)), (81, .int .i64 ((i : Nat) : Int)), (82, .int .u8 ((BitVec.ofNat 8 i).toNat : Int)), (83, .slice (some ⟨B8, 0, none⟩) 1 1), (84, .int .u32 ((step (0#32) (BitVec.ofNat 8 i)).toNat : Int)), (85, .bool false)] (by kernel_rfl) (allM (all_cons (q_run (.int .i64 ((i : Nat) : Int)) rfl rfl (wv_n rfl) rfl (fun _ _ hρ _ => r_move (hρ _ _ rfl))) (all_cons (q_run (.pointer (some ⟨B7, 0 + i * 1, none⟩)) rfl rfl (wv_n rfl) rfl (fun _ _ hρ _ => r_indexAddrA (i := i) ar48 sz24 (hρ _ _ rfl) (hρ _ _ rfl) (by omega))) (all_cons (q_run (.int .u32 ((step (0#32) (BitVec.ofNat 8 i)).toNat : Int)) rfl rfl (wv_n rfl) rfl (fun _ _ hρ hm => r_loadRow1 (f := wc) (l := tabL) (off := 0) (i := i) (s := 1) (u := step (0#32) (BitVec.ofNat 8 i)) ag24 (hρ _ _ rfl) (hm.at 4 rfl) (row_lst wc_len _) (tabL_at (by omega)) rfl)) (all_cons (q_run (.bool false) rfl rfl (wv_n rfl) rfl (fun _ _ hρ _ => r_as (r_neq (hρ _ _ rfl) (hρ _ _ rfl)) (bool_as (by simp)))) all_nil))))) (end_old rfl rfl (end_old rfl rfl (end_old rfl rfl (end_old rfl rfl (end_old rfl rfl (end_new 0 rfl rfl (end_new 1 rfl rfl (end_new 2 rfl rfl (end_new 3 rfl rfl (end_new 4 rfl rfl (end_new 5 rfl rfl (end_new 6 rfl rfl (end_new 7 rfl rfl end_nil))))))))))))) ?_
            refine T_cond_f rfl ?_
            refine T_skip' ?_
            refine p_blk_n ?_
            refine p_seq ?_
            refine T_region ?_
            refine TL_q (.int .i64 ((i + 1 : Nat) : Int)) (fun _ _ hρ _ => r_as (r_add (hρ _ _ rfl) (hρ _ _ rfl)) (int_as ((wrap64 (by omega) (by omega)).trans (by omega)))) rfl rfl rfl (w_n rfl) ?_
            refine TL_q (.int .i64 ((i + 1 : Nat) : Int)) (fun _ _ hρ _ => r_move (hρ _ _ rfl)) rfl rfl rfl (w_n rfl) ?_
            refine TL_nil ?_
            exact p_at (i + 1) ⟨by omega, by omega⟩ (sub_cons rfl (sub_cons rfl sub_nil)) (sub_cons rfl (sub_cons rfl (sub_cons rfl (sub_cons rfl sub_nil))))
          · replace h7 := of_decide_eq_false h7
            refine T_exit' ?_
            refine p_then_x ?_
            refine p_then_x ?_
            refine p_blk_x ?_
            refine p_seq ?_
            refine T_seq (T_region ?_)
            refine TL_q (.bool true) (fun _ _ hρ _ => r_assign (hρ _ _ rfl)) rfl rfl rfl (w_n rfl) ?_
            refine TL_seq ?_
            refine T_ret' ?_
            refine ret_of rfl (.bool true) (fun tmps w hk hm => res1 rfl (res_tmp (hk 4 _ rfl))) (fun w hm => ?_)
            exact ⟨rfl, hm.ext⟩
    · replace h2 := of_decide_eq_false h2
      refine T_skip' ?_
      refine p_seq ?_
      refine T_region ?_
      refine TL_q (.slice ao os.length co) (fun _ _ hρ _ => r_move (hρ _ _ rfl)) rfl rfl rfl (w_n rfl) ?_
      refine TL_q (.slice x.a x.l.length x.cap) (fun _ _ hρ _ => r_move (hρ _ _ rfl)) rfl rfl rfl (w_n rfl) ?_
      refine TL_callN (fun (_ : Option Addr × Nat) => True) (fun (a9, cap9) => .slice a9 ((x.l.take 400).length) cap9) (fun (a9, cap9) => [(6, .row (.slice a9 ((x.l.take 400).length) cap9) 5 1 ((x.l.take 400).length) ((x.l.take 400).flatMap byc))]) (fun _ _ hρ _ => r_call (args := [.slice x.a x.l.length x.cap]) (enters_of Try.func13 (by kernel_rfl) rfl) (hρ _ _ rfl) ((cons2 (hρ _ _ rfl) rfl)) rfl) (fun w hm => (few_c x.l x.a x.cap w (hxr.keep hm.ext) hxc).mono fun e w' ⟨a', cap', he, hb, hr⟩ => ⟨(a', cap'), trivial, he, hb, newOk1 6 hr⟩) rfl rfl rfl (w_n rfl) ?_
      rintro ⟨a9, cap9⟩ -
      refine TL_new 7 (.cells #[.slice a9 ((x.l.take 400).length) cap9] 29) (fun B => .slice (some ⟨B, 0, none⟩) 1 1) (fun _ _ hρ _ => r_buildSlice (vs := [(0, .slice a9 ((x.l.take 400).length) cap9)]) (by kernel_rfl) (cons2 (pair2 (hρ _ _ rfl)) rfl)) rfl rfl rfl (w_n rfl) ?_
      intro B10
      refine TL_append (n := os.length) (m := 1) (xs := (os.flatMap RowG.cells)) (news := [.slice a9 ((x.l.take 400).length) cap9]) (z := .slice none 0 0) 51 rfl rfl rfl sl43 sz29 by29 (by kernel_rfl) rfl rfl (.inl rfl) (fun _ hm => src_blk (news := [.slice a9 ((x.l.take 400).length) cap9]) (hm.at 7 rfl) rfl) (by first | (intro u hu; obtain ⟨x, _, hx⟩ := List.mem_flatMap.1 hu; exact byc_one x u hx) | simp [Value.oneCell']) (by omega) (by omega) rfl (w_n rfl) ?_
      intro a11 cap11
      refine TL_q (.slice aa ((os.flatMap RowG.l).length) ca) (fun _ _ hρ _ => r_move (hρ _ _ rfl)) rfl rfl rfl (w_n rfl) ?_
      refine TL_q (.slice x.a x.l.length x.cap) (fun _ _ hρ _ => r_move (hρ _ _ rfl)) rfl rfl rfl (w_n rfl) ?_
      refine TL_callN (fun (_ : Option Addr × Nat) => True) (fun (a12, cap12) => .slice a12 ((x.l.take 400).length) cap12) (fun (a12, cap12) => [(8, .row (.slice a12 ((x.l.take 400).length) cap12) 5 1 ((x.l.take 400).length) ((x.l.take 400).flatMap byc))]) (fun _ _ hρ _ => r_call (args := [.slice x.a x.l.length x.cap]) (enters_of Try.func13 (by kernel_rfl) rfl) (hρ _ _ rfl) ((cons2 (hρ _ _ rfl) rfl)) rfl) (fun w hm => (few_c x.l x.a x.cap w (hxr.keep hm.ext) hxc).mono fun e w' ⟨a', cap', he, hb, hr⟩ => ⟨(a', cap'), trivial, he, hb, newOk1 8 hr⟩) rfl rfl rfl (w_n rfl) ?_
      rintro ⟨a12, cap12⟩ -
      refine TL_append (n := (os.flatMap RowG.l).length) (m := (x.l.take 400).length) (xs := ((os.flatMap RowG.l).flatMap byc)) (news := ((x.l.take 400).flatMap byc)) (z := .int .u8 0) 52 rfl rfl rfl sl29 sz5 by5 (by kernel_rfl) rfl rfl (.inl rfl) (fun _ hm => src_of byc_len (SliceAt.own byc_len (hm.row 8 rfl) rfl rfl)) (by first | (intro u hu; obtain ⟨x, _, hx⟩ := List.mem_flatMap.1 hu; exact byc_one x u hx) | simp [Value.oneCell']) (by omega) (by omega) rfl (w_n rfl) ?_
      intro a13 cap13
      refine TL_q (.slice a11 (os.length + 1) cap11) (fun _ _ hρ _ => r_assign (hρ _ _ rfl)) rfl rfl rfl (w_n rfl) ?_
      refine TL_q (.slice a13 ((os.flatMap RowG.l).length + (x.l.take 400).length) cap13) (fun _ _ hρ _ => r_assign (hρ _ _ rfl)) rfl rfl rfl (w_n rfl) ?_
      refine TL_nil ?_
      refine p_blk_n ?_
      refine p_seq ?_
      have hna : ((os.flatMap RowG.l).length + (x.l.take 400).length) = ((os ++ [(⟨a9, cap9, x.l.take 400⟩ : RB)]).flatMap RowG.l).length := by simp
      have hxa : (((os.flatMap RowG.l).flatMap byc) ++ ((x.l.take 400).flatMap byc)) = ((os ++ [(⟨a9, cap9, x.l.take 400⟩ : RB)]).flatMap RowG.l).flatMap byc := by simp
      have hno : (os.length + 1) = (os ++ [(⟨a9, cap9, x.l.take 400⟩ : RB)]).length := by simp
      have hxo : ((os.flatMap RowG.cells) ++ [.slice a9 ((x.l.take 400).length) cap9]) = (os ++ [(⟨a9, cap9, x.l.take 400⟩ : RB)]).flatMap RowG.cells := by simp [RowG.cells]
      refine T_sub [(0, .slice (some ⟨b1, of1, none⟩) rs.length cap), (1, .slice aw ws.length capw), (4, .bool false), (17, .slice (some ⟨b1, of1, none⟩) rs.length cap), (18, .int .i64 ((rs.length : Nat) : Int)), (19, .int .i64 ((k : Nat) : Int)), (6, .slice a11 (os.length + 1) cap11), (5, .slice a13 ((os.flatMap RowG.l).length + (x.l.take 400).length) cap13)] [(6, .row (.slice a9 ((x.l.take 400).length) cap9) 5 1 ((x.l.take 400).length) ((x.l.take 400).flatMap byc)), (51, .row (.slice a11 (os.length + 1) cap11) 29 1 (os.length + 1) ((os.flatMap RowG.cells) ++ [.slice a9 ((x.l.take 400).length) cap9])), (52, .row (.slice a13 ((os.flatMap RowG.l).length + (x.l.take 400).length) cap13) 5 1 ((os.flatMap RowG.l).length + (x.l.take 400).length) (((os.flatMap RowG.l).flatMap byc) ++ ((x.l.take 400).flatMap byc))), (53, .many 5 1 byc os)] (sub_cons rfl (sub_cons rfl (sub_cons rfl (sub_cons rfl (sub_cons rfl (sub_cons rfl (sub_cons rfl (sub_cons rfl sub_nil)))))))) (sub_cons rfl (sub_cons rfl (sub_cons rfl (sub_cons rfl sub_nil)))) ?_
      rw [hxa, hxo, hna, hno]
      refine T_mem [(53, .many 5 1 byc (os ++ [(⟨a9, cap9, x.l.take 400⟩ : RB)])), (52, .row (.slice a13 (((os ++ [(⟨a9, cap9, x.l.take 400⟩ : RB)]).flatMap RowG.l).length) cap13) 5 1 (((os ++ [(⟨a9, cap9, x.l.take 400⟩ : RB)]).flatMap RowG.l).length) (((os ++ [(⟨a9, cap9, x.l.take 400⟩ : RB)]).flatMap RowG.l).flatMap byc)), (51, .row (.slice a11 ((os ++ [(⟨a9, cap9, x.l.take 400⟩ : RB)]).length) cap11) 29 1 ((os ++ [(⟨a9, cap9, x.l.take 400⟩ : RB)]).length) ((os ++ [(⟨a9, cap9, x.l.take 400⟩ : RB)]).flatMap RowG.cells))] (fun _ hm => (hm.push 53 6 rfl rfl rfl rfl).sub (sub_cons rfl (sub_cons rfl (sub_cons rfl sub_nil)))) ?_
      refine T_region ?_
      refine TL_q (.int .i64 ((k + 1 : Nat) : Int)) (fun _ _ hρ _ => r_as (r_add (hρ _ _ rfl) (hρ _ _ rfl)) (int_as ((wrap64 (by omega) (by omega)).trans (by omega)))) rfl rfl rfl (w_n rfl) ?_
      refine TL_q (.int .i64 ((k + 1 : Nat) : Int)) (fun _ _ hρ _ => r_move (hρ _ _ rfl)) rfl rfl rfl (w_n rfl) ?_
      refine TL_nil ?_
      exact p_at (k + 1, os ++ [(⟨a9, cap9, x.l.take 400⟩ : RB)], a11, cap11, a13, cap13) ⟨⟨by omega, by omega, cut_step hos hx rfl⟩, by dsimp only; omega⟩ (sub_cons rfl (sub_cons rfl (sub_cons rfl (sub_cons rfl (sub_cons rfl (sub_cons rfl (sub_cons rfl (sub_cons rfl sub_nil)))))))) (sub_cons rfl (sub_cons rfl (sub_cons rfl sub_nil)))
  · replace h1 := of_decide_eq_false h1
    refine T_exit' ?_
    refine p_then_x ?_
    refine p_then_x ?_
    refine p_blk_x ?_
    refine p_seq ?_
    refine T_seq ?_
    refine T_seq (T_region ?_)
    refine TL_q (.slice ao os.length co) (fun _ _ hρ _ => r_move (hρ _ _ rfl)) rfl rfl rfl (w_n rfl) ?_
    refine TL_call (.int .u32 ((sumC 0#32 (os.flatMap RowG.l)).toNat : Int)) (fun _ _ hρ _ => r_call (args := [.slice ao os.length co]) (enters_of Try.func20 (by kernel_rfl) rfl) (hρ _ _ rfl) ((cons2 (hρ _ _ rfl) rfl)) rfl) (fun w hm => (by have hb := sum_c (os.map RB.toV) ao co w (sliceMap (SliceAt.own RowG.cells_len (hm.row 51 rfl) rfl rfl) RB.toV (fun _ => rfl)) (fun r h => by obtain ⟨q, hq, rfl⟩ := List.mem_map.1 h; exact manyAt byc_len (hm.many 53 rfl) hq) (fun r h => by obtain ⟨q, hq, rfl⟩ := List.mem_map.1 h; exact manyCap (hm.many 53 rfl) hq) (row_cap (hm.row 51 rfl)); rw [List.length_map, toV_flat] at hb; exact hb)) rfl rfl rfl (w_n rfl) ?_
    refine TL_q (.slice aa ((os.flatMap RowG.l).length) ca) (fun _ _ hρ _ => r_move (hρ _ _ rfl)) rfl rfl rfl (w_n rfl) ?_
    refine TL_call (.int .u32 ((sumC 0#32 (os.flatMap RowG.l)).toNat : Int)) (fun _ _ hρ _ => r_call (args := [.slice aa ((os.flatMap RowG.l).length) ca]) (enters_of Try.func21 (by kernel_rfl) rfl) (hρ _ _ rfl) ((cons2 (hρ _ _ rfl) rfl)) rfl) (fun w hm => sum_ref (os.flatMap RowG.l) aa ca w (SliceAt.own byc_len (hm.row 52 rfl) rfl rfl) (by omega)) rfl rfl rfl (w_n rfl) ?_
    refine TL_q (.bool false) (fun _ _ hρ _ => r_as (r_neq (hρ _ _ rfl) (hρ _ _ rfl)) (bool_as (by simp))) rfl rfl rfl (w_n rfl) ?_
    refine TL_seq ?_
    refine T_cond_f rfl ?_
    refine T_skip' ?_
    refine p_seq ?_
    refine T_seq ?_
    refine T_seq (T_region ?_)
    refine TL_q (.slice ao os.length co) (fun _ _ hρ _ => r_move (hρ _ _ rfl)) rfl rfl rfl (w_n rfl) ?_
    refine TL_q (.int .i64 ((os.length : Nat) : Int)) (fun _ _ hρ _ => r_len sl43 (hρ _ _ rfl)) rfl rfl rfl (w_n rfl) ?_
    refine TL_q (.int .i64 0) (fun _ _ hρ _ => r_move (hρ _ _ rfl)) rfl rfl rfl (w_n rfl) ?_
    refine TL_seq ?_
    refine T_block ?_
    refine T_loop (ι := Nat) (fun (j : Nat) => j ≤ os.length) (fun (j : Nat) => [(0, .slice a rs.length cap), (1, .slice aw ws.length capw), (5, .slice aa ((os.flatMap RowG.l).length) ca), (41, .slice ao os.length co), (42, .int .i64 ((os.length : Nat) : Int)), (43, .int .i64 ((j : Nat) : Int))]) (fun (j : Nat) => [(53, .many 5 1 byc os), (52, .row (.slice aa ((os.flatMap RowG.l).length) ca) 5 1 ((os.flatMap RowG.l).length) ((os.flatMap RowG.l).flatMap byc)), (51, .row (.slice ao os.length co) 29 1 os.length (os.flatMap RowG.cells))]) (fun (j : Nat) => os.length - j) 0 (Nat.zero_le _) (sub_cons rfl (sub_cons rfl (sub_cons rfl (sub_cons rfl (sub_cons rfl (sub_cons rfl sub_nil)))))) (sub_cons rfl (sub_cons rfl (sub_cons rfl sub_nil))) ?_
    rintro j hp
    show T _ _ _ [(0, .slice a rs.length cap), (1, .slice aw ws.length capw), (5, .slice aa ((os.flatMap RowG.l).length) ca), (41, .slice ao os.length co), (42, .int .i64 ((os.length : Nat) : Int)), (43, .int .i64 ((j : Nat) : Int))] [(53, .many 5 1 byc os), (52, .row (.slice aa ((os.flatMap RowG.l).length) ca) 5 1 ((os.flatMap RowG.l).length) ((os.flatMap RowG.l).flatMap byc)), (51, .row (.slice ao os.length co) 29 1 os.length (os.flatMap RowG.cells))]
    refine T_seq (T_region ?_)
    refine TL_q (.bool (decide (((j : Nat) : Int) < ((os.length : Nat) : Int)))) (fun _ _ hρ _ => r_lss (hρ _ _ rfl) (hρ _ _ rfl)) rfl rfl rfl (w_n rfl) ?_
    refine TL_seq ?_
    refine T_seq ?_
    refine T_cond rfl (fun h8 => ?_) (fun h8 => ?_)
    · replace h8 := of_decide_eq_true h8
      refine T_skip' ?_
      refine p_seq ?_
      refine T_seq ?_
      refine T_block ?_
      obtain ⟨o, ho⟩ : ∃ o, os[j]? = some o := ⟨_, List.getElem?_eq_getElem (by omega)⟩
      obtain ⟨y, hy⟩ : ∃ y, rs[j]? = some y := ⟨_, List.getElem?_eq_getElem (by omega)⟩
      have hyr := (hrs y (List.mem_of_getElem? hy)).1
      have hyc := (hrs y (List.mem_of_getElem? hy)).2
      have hoy := cut_at hos ho hy (by omega)
      have hol2 : o.l.length ≤ 400 := by rw [hoy, List.length_take]; omega
      have hy4 : (y.l.take 400).length ≤ 400 := by rw [List.length_take]; omega
      refine T_row 51 rfl (by omega) (fun g14 ha14 => ?_)
      subst ha14
      refine T_rowcap 51 rfl (fun hrc14 => ?_)
      obtain ⟨b15, of15, cs15, T15, fz15, ha15, hq15, hr15⟩ := hv.open (i := j) (by omega)
      subst ha15
      refine T_seq (T_region ?_)
      refine TL_q (.int .i64 ((j : Nat) : Int)) (fun _ _ hρ _ => r_move (hρ _ _ rfl)) rfl rfl rfl (w_n rfl) ?_
      refine TL_q (.pointer (some ⟨g14, 0 + j * 1, none⟩)) (fun _ _ hρ _ => r_indexAddrS (i := j) sl43 sz29 (hρ _ _ rfl) (hρ _ _ rfl) (by omega)) rfl rfl rfl (w_n rfl) ?_
      refine TL_q (.slice o.a o.l.length o.cap) (fun _ _ hρ hm => r_loadOwn1 (f := RowG.cells) (u := o) (l := os) ag29 (hρ _ _ rfl) (hm.row 51 rfl) rfl rfl RowG.cells_len ho rfl) rfl rfl rfl (w_n rfl) ?_
      refine TL_q (.int .i64 ((j : Nat) : Int)) (fun _ _ hρ _ => r_assign (hρ _ _ rfl)) rfl rfl rfl (w_n rfl) ?_
      refine TL_q (.slice o.a o.l.length o.cap) (fun _ _ hρ _ => r_assign (hρ _ _ rfl)) rfl rfl rfl (w_n rfl) ?_
      refine TL_seq ?_
      refine T_seq (T_region ?_)
      refine TL_q (.slice o.a o.l.length o.cap) (fun _ _ hρ _ => r_move (hρ _ _ rfl)) rfl rfl rfl (w_n rfl) ?_
      refine TL_q (.slice (some ⟨b15, of15, none⟩) rs.length cap) (fun _ _ hρ _ => r_move (hρ _ _ rfl)) rfl rfl rfl (w_n rfl) ?_
      refine TL_q (.int .i64 ((j : Nat) : Int)) (fun _ _ hρ _ => r_move (hρ _ _ rfl)) rfl rfl rfl (w_n rfl) ?_
      refine TL_q (.pointer (some ⟨b15, of15 + j * 1, none⟩)) (fun _ _ hρ _ => r_indexAddrS (i := j) sl43 sz29 (hρ _ _ rfl) (hρ _ _ rfl) (by omega)) rfl rfl rfl (w_n rfl) ?_
      refine TL_q (.slice y.a y.l.length y.cap) (fun _ _ hρ hm => r_loadRow1 (f := RowG.cells) (u := y) ag29 (hρ _ _ rfl) (hm.old hq15) hr15 hy rfl) rfl rfl rfl (w_n rfl) ?_
      refine TL_callN (fun (_ : Option Addr × Nat) => True) (fun (a16, cap16) => .slice a16 ((y.l.take 400).length) cap16) (fun (a16, cap16) => [(9, .row (.slice a16 ((y.l.take 400).length) cap16) 5 1 ((y.l.take 400).length) ((y.l.take 400).flatMap byc))]) (fun _ _ hρ _ => r_call (args := [.slice y.a y.l.length y.cap]) (enters_of Try.func13 (by kernel_rfl) rfl) (hρ _ _ rfl) ((cons2 (hρ _ _ rfl) rfl)) rfl) (fun w hm => (few_c y.l y.a y.cap w (hyr.keep hm.ext) hyc).mono fun e w' ⟨a', cap', he, hb, hr⟩ => ⟨(a', cap'), trivial, he, hb, newOk1 9 hr⟩) rfl rfl rfl (w_n rfl) ?_
      rintro ⟨a16, cap16⟩ -
      refine TL_call (.bool true) (fun _ _ hρ _ => r_call (args := [.slice o.a o.l.length o.cap, .slice a16 ((y.l.take 400).length) cap16]) (enters_of Try.func11 (by kernel_rfl) rfl) (hρ _ _ rfl) ((cons2 (hρ _ _ rfl) (cons2 (hρ _ _ rfl) rfl))) rfl) (fun w hm => (equal_b o.l (y.l.take 400) o.a a16 o.cap cap16 w (manyAt byc_len (hm.many 53 rfl) (List.mem_of_getElem? ho)) (SliceAt.own byc_len (hm.row 9 rfl) rfl rfl) (by omega) (by omega)).mono fun _ _ h => ⟨h.1.trans (congrArg Ending.returned (bool_as (decide_eq_true (hoy)))), h.2⟩) rfl rfl rfl (w_n rfl) ?_
      refine TL_q (.bool false) (fun _ _ hρ _ => r_not (b := true) (hρ _ _ rfl)) rfl rfl rfl (w_n rfl) ?_
      refine TL_seq ?_
      refine T_cond_f rfl ?_
      refine T_skip' ?_
      refine p_blk_n ?_
      refine p_seq ?_
      refine T_region ?_
      refine TL_q (.int .i64 ((j + 1 : Nat) : Int)) (fun _ _ hρ _ => r_as (r_add (hρ _ _ rfl) (hρ _ _ rfl)) (int_as ((wrap64 (by omega) (by omega)).trans (by omega)))) rfl rfl rfl (w_n rfl) ?_
      refine TL_q (.int .i64 ((j + 1 : Nat) : Int)) (fun _ _ hρ _ => r_move (hρ _ _ rfl)) rfl rfl rfl (w_n rfl) ?_
      refine TL_nil ?_
      exact p_at (j + 1) ⟨by omega, by omega⟩ (sub_cons rfl (sub_cons rfl (sub_cons rfl (sub_cons rfl (sub_cons rfl (sub_cons rfl sub_nil)))))) (sub_cons rfl (sub_cons rfl (sub_cons rfl sub_nil)))
    · replace h8 := of_decide_eq_false h8
      refine T_exit' ?_
      refine p_then_x ?_
      refine p_then_x ?_
      refine p_blk_x ?_
      refine p_seq ?_
      refine T_seq ?_
      refine T_seq (T_region ?_)
      refine TL_q (.slice aw ws.length capw) (fun _ _ hρ _ => r_move (hρ _ _ rfl)) rfl rfl rfl (w_n rfl) ?_
      refine TL_q (.int .i64 ((ws.length : Nat) : Int)) (fun _ _ hρ _ => r_len sl44 (hρ _ _ rfl)) rfl rfl rfl (w_n rfl) ?_
      refine TL_q (.int .i64 0) (fun _ _ hρ _ => r_move (hρ _ _ rfl)) rfl rfl rfl (w_n rfl) ?_
      refine TL_seq ?_
      refine T_block ?_
      refine T_loop (ι := Nat) (fun (j : Nat) => j ≤ ws.length) (fun (j : Nat) => [(5, .slice aa ((os.flatMap RowG.l).length) ca), (57, .slice aw ws.length capw), (58, .int .i64 ((ws.length : Nat) : Int)), (59, .int .i64 ((j : Nat) : Int))]) (fun (j : Nat) => [(53, .many 5 1 byc os), (52, .row (.slice aa ((os.flatMap RowG.l).length) ca) 5 1 ((os.flatMap RowG.l).length) ((os.flatMap RowG.l).flatMap byc)), (51, .row (.slice ao os.length co) 29 1 os.length (os.flatMap RowG.cells))]) (fun (j : Nat) => ws.length - j) 0 (Nat.zero_le _) (sub_cons rfl (sub_cons rfl (sub_cons rfl (sub_cons rfl sub_nil)))) (sub_cons rfl (sub_cons rfl (sub_cons rfl sub_nil))) ?_
      rintro j hp
      show T _ _ _ [(5, .slice aa ((os.flatMap RowG.l).length) ca), (57, .slice aw ws.length capw), (58, .int .i64 ((ws.length : Nat) : Int)), (59, .int .i64 ((j : Nat) : Int))] [(53, .many 5 1 byc os), (52, .row (.slice aa ((os.flatMap RowG.l).length) ca) 5 1 ((os.flatMap RowG.l).length) ((os.flatMap RowG.l).flatMap byc)), (51, .row (.slice ao os.length co) 29 1 os.length (os.flatMap RowG.cells))]
      refine T_seq (T_region ?_)
      refine TL_q (.bool (decide (((j : Nat) : Int) < ((ws.length : Nat) : Int)))) (fun _ _ hρ _ => r_lss (hρ _ _ rfl) (hρ _ _ rfl)) rfl rfl rfl (w_n rfl) ?_
      refine TL_seq ?_
      refine T_seq ?_
      refine T_cond rfl (fun h9 => ?_) (fun h9 => ?_)
      · replace h9 := of_decide_eq_true h9
        refine T_skip' ?_
        refine p_seq ?_
        refine T_seq ?_
        refine T_block ?_
        obtain ⟨z, hz⟩ : ∃ z, ws[j]? = some z := ⟨_, List.getElem?_eq_getElem (by omega)⟩
        obtain ⟨b17, of17, cs17, T17, fz17, ha17, hq17, hr17⟩ := hw.open (i := j) (by omega)
        subst ha17
        refine T_seq (T_region ?_)
        refine TL_q (.int .i64 ((j : Nat) : Int)) (fun _ _ hρ _ => r_move (hρ _ _ rfl)) rfl rfl rfl (w_n rfl) ?_
        refine TL_q (.pointer (some ⟨b17, of17 + j * 1, none⟩)) (fun _ _ hρ _ => r_indexAddrS (i := j) sl44 sz24 (hρ _ _ rfl) (hρ _ _ rfl) (by omega)) rfl rfl rfl (w_n rfl) ?_
        refine TL_q (.int .u32 ((z).toNat : Int)) (fun _ _ hρ hm => r_loadRow1 (f := wc) (u := z) ag24 (hρ _ _ rfl) (hm.old hq17) hr17 hz rfl) rfl rfl rfl (w_n rfl) ?_
        refine TL_q (.int .i64 ((j : Nat) : Int)) (fun _ _ hρ _ => r_assign (hρ _ _ rfl)) rfl rfl rfl (w_n rfl) ?_
        refine TL_q (.int .u32 ((z).toNat : Int)) (fun _ _ hρ _ => r_assign (hρ _ _ rfl)) rfl rfl rfl (w_n rfl) ?_
        refine TL_seq ?_
        refine T_seq ?_
        refine T_seq (T_region ?_)
        refine TL_q (.int .i64 ((j : Nat) : Int)) (fun _ _ hρ _ => r_move (hρ _ _ rfl)) rfl rfl rfl (w_n rfl) ?_
        refine TL_q (.bool (decide (((j : Nat) : Int) = 6))) (fun _ _ hρ _ => r_eql (hρ _ _ rfl) (hρ _ _ rfl)) rfl rfl rfl (w_n rfl) ?_
        refine TL_seq ?_
        refine T_cond rfl (fun h10 => ?_) (fun h10 => ?_)
        · replace h10 := of_decide_eq_true h10
          refine T_exit' ?_
          refine p_then_x ?_
          refine p_blk_o rfl ?_
          refine p_then_x ?_
          refine p_then_x ?_
          refine p_blk_x ?_
          refine p_seq ?_
          refine T_seq (T_region ?_)
          refine TL_call (.agg (lst wc tabL)) (fun _ _ hρ _ => r_call (args := []) (enters_of Try.func24 (by kernel_rfl) rfl) (hρ _ _ rfl) (by rfl) rfl) (fun w _ => table_c w) rfl rfl rfl (w_n rfl) ?_
          refine TL_new 10 (.cells (lst wc zeroT) 48) (fun B => .pointer (some ⟨B, 0, none⟩)) (fun _ _ _ _ => r_alloc (v := .agg (lst wc zeroT)) (by kernel_rfl) rfl) rfl rfl rfl (w_n rfl) ?_
          intro B18
          refine TL_store 10 (.cells (lst wc tabL) 48) rfl (fun _ _ hρ hm => r_storeAll sz48 (hρ _ _ rfl) (hρ _ _ rfl) (hm.at 10 rfl) (wc_size zeroT_len) (wc_size tabL_len) (lst_one wc_one _)) rfl rfl (w_n rfl) ?_
          refine TL_seq ?_
          refine T_seq ?_
          refine T_seq (T_region ?_)
          refine TL_q (.int .i64 0) (fun _ _ hρ _ => r_move (hρ _ _ rfl)) rfl rfl rfl (w_n rfl) ?_
          refine TL_seq ?_
          refine T_block ?_
          refine T_loop (ι := Nat) (fun (i : Nat) => i ≤ 256) (fun (i : Nat) => [(13, .pointer (some ⟨B18, 0, none⟩)), (75, .int .i64 ((i : Nat) : Int))]) (fun (i : Nat) => [(53, .many 5 1 byc os), (52, .row (.slice aa ((os.flatMap RowG.l).length) ca) 5 1 ((os.flatMap RowG.l).length) ((os.flatMap RowG.l).flatMap byc)), (51, .row (.slice ao os.length co) 29 1 os.length (os.flatMap RowG.cells)), (10, .blk B18 (.cells (lst wc tabL) 48))]) (fun (i : Nat) => 256 - i) 0 (Nat.zero_le _) (sub_cons rfl (sub_cons rfl sub_nil)) (sub_cons rfl (sub_cons rfl (sub_cons rfl (sub_cons rfl sub_nil)))) ?_
          rintro i hp
          show T _ _ _ [(13, .pointer (some ⟨B18, 0, none⟩)), (75, .int .i64 ((i : Nat) : Int))] [(53, .many 5 1 byc os), (52, .row (.slice aa ((os.flatMap RowG.l).length) ca) 5 1 ((os.flatMap RowG.l).length) ((os.flatMap RowG.l).flatMap byc)), (51, .row (.slice ao os.length co) 29 1 os.length (os.flatMap RowG.cells)), (10, .blk B18 (.cells (lst wc tabL) 48))]
          refine T_seq (T_region ?_)
          refine TL_q (.bool (decide (((i : Nat) : Int) < 256))) (fun _ _ hρ _ => r_lss (hρ _ _ rfl) (hρ _ _ rfl)) rfl rfl rfl (w_n rfl) ?_
          refine TL_seq ?_
          refine T_seq ?_
          refine T_cond rfl (fun h11 => ?_) (fun h11 => ?_)
          · replace h11 := of_decide_eq_true h11
            refine T_skip' ?_
            refine p_seq ?_
            refine T_seq ?_
            refine T_block ?_
            refine T_seq (T_region ?_)
            refine TL_q (.int .i64 ((i : Nat) : Int)) (fun _ _ hρ _ => r_move (hρ _ _ rfl)) rfl rfl rfl (w_n rfl) ?_
            refine TL_q (.int .i64 ((i : Nat) : Int)) (fun _ _ hρ _ => r_assign (hρ _ _ rfl)) rfl rfl rfl (w_n rfl) ?_
            refine TL_seq ?_
            refine T_seq (T_draw (V := [(0, .int .i64 ((i : Nat) : Int)), (1, .pointer (some ⟨B18, 0 + i * 1, none⟩)), (2, .int .u32 ((step (0#32) (BitVec.ofNat 8 i)).toNat : Int)), (3, .int .i64 ((i : Nat) : Int)), (4, .int .u8 ((BitVec.ofNat 8 i).toNat : Int))]) [0, 1, 3, 0, 8, 24, 56, 127] [[(14, none)], [(13, none), (78, some 0)], [(79, some 1)], [(14, none)], [(81, some 3)], [(82, some 4)], [(83, some 5)], [(80, some 2), (84, some 6)]] 96 mixed (by kernel_rfl) ?_)
            refine G_step [0, 1, 2, 3, 4] 5 [] (by kernel_rfl) (allM (all_cons (q_run (.int .i64 ((i : Nat) : Int)) rfl rfl (wv_n rfl) rfl (fun _ _ hρ _ => r_move (hρ _ _ rfl))) (all_cons (q_run (.pointer (some ⟨B18, 0 + i * 1, none⟩)) rfl rfl (wv_n rfl) rfl (fun _ _ hρ _ => r_indexAddrA (i := i) ar48 sz24 (hρ _ _ rfl) (hρ _ _ rfl) (by omega))) (all_cons (q_run (.int .u32 ((step (0#32) (BitVec.ofNat 8 i)).toNat : Int)) rfl rfl (wv_n rfl) rfl (fun _ _ hρ hm => r_loadRow1 (f := wc) (l := tabL) (off := 0) (i := i) (s := 1) (u := step (0#32) (BitVec.ofNat 8 i)) ag24 (hρ _ _ rfl) (hm.at 10 rfl) (row_lst wc_len _) (tabL_at (by omega)) rfl)) (all_cons (q_run (.int .i64 ((i : Nat) : Int)) rfl rfl (wv_n rfl) rfl (fun _ _ hρ _ => r_move (hρ _ _ rfl))) (all_cons (q_run (.int .u8 ((BitVec.ofNat 8 i).toNat : Int)) rfl rfl (wv_n rfl) rfl (fun _ _ hρ _ => r_convN (k := .i64) (k' := .u8) (n := i) un3 io5 rfl (hρ _ _ rfl))) all_nil)))))) (allM (all_cons ?_ all_nil))
            refine LOb_new 11 (.cells #[.int .u8 ((BitVec.ofNat 8 i).toNat : Int)] 5) (fun B => .slice (some ⟨B, 0, none⟩) 1 1) (fun B => []) rfl (wv_n rfl) rfl rfl (fun _ _ hρ _ => r_buildSlice (vs := [(0, .int .u8 ((BitVec.ofNat 8 i).toNat : Int))]) (by kernel_rfl) (cons2 (pair2 (hρ _ _ rfl)) rfl)) (fun B => by kernel_rfl) ?_
            intro B19
            refine G_step [0, 1, 2] 6 [] (by kernel_rfl) (allM (all_cons (q_run (.int .i64 ((i : Nat) : Int)) rfl rfl (wv_n rfl) rfl (fun _ _ hρ _ => r_move (hρ _ _ rfl))) (all_cons (q_run (.pointer (some ⟨B18, 0 + i * 1, none⟩)) rfl rfl (wv_n rfl) rfl (fun _ _ hρ _ => r_indexAddrA (i := i) ar48 sz24 (hρ _ _ rfl) (hρ _ _ rfl) (by omega))) (all_cons (q_run (.int .u32 ((step (0#32) (BitVec.ofNat 8 i)).toNat : Int)) rfl rfl (wv_n rfl) rfl (fun _ _ hρ hm => r_loadRow1 (f := wc) (l := tabL) (off := 0) (i := i) (s := 1) (u := step (0#32) (BitVec.ofNat 8 i)) ag24 (hρ _ _ rfl) (hm.at 10 rfl) (row_lst wc_len _) (tabL_at (by omega)) rfl)) all_nil)))) (allM (all_cons ?_ all_nil))
            refine LOb_call (.int .u32 ((step (0#32) (BitVec.ofNat 8 i)).toNat : Int)) [(7, .bool false)] rfl (wv_n rfl) rfl rfl (fun _ _ hρ _ => r_call (args := [.int .u32 0, .slice (some ⟨B19, 0, none⟩) 1 1]) (enters_of Try.func25 (by kernel_rfl) rfl) (hρ _ _ rfl) ((cons2 (hρ _ _ rfl) (cons2 (hρ _ _ rfl) rfl))) rfl) (fun w hm => fed_ref 0#32 [BitVec.ofNat 8 i] (some ⟨B19, 0, none⟩) 1 w ⟨Nat.le_of_ble_eq_true rfl, (fun e => by cases e), .inr ⟨_, 0, _, _, _, rfl, (hm.at 11 rfl), row_of_take (fun _ => rfl) rfl⟩⟩ (Nat.le_of_ble_eq_true rfl)) (by kernel_rfl) ?_
            refine G_last [0, 1, 2, 7] [(13, .pointer (some ⟨B18, 0, none⟩)), (75, .int .i64 ((i : Nat) : Int)), (76, .bool (decide (((i : Nat) : Int) < 256))), (77, .int .i64 ((i : Nat) : Int)), (14, .int .i64 ((i : Nat) : Int)), (78, .int .i64 ((i : Nat) : Int)), (79, .pointer (some ⟨B18, 0 + i * 1, none⟩)), (80, .int .u32 ((step (0#32) (BitVec.ofNat 8 i)).toNat : Int)), (81, .int .i64 ((i : Nat) : Int)), (82, .int .u8 ((BitVec.ofNat 8 i).toNat : Int)), (83, .slice (some ⟨B19, 0, none⟩) 1 1), (84, .int .u32 ((step (0#32) (BitVec.ofNat 8 i)).toNat : Int)), (85, .bool false)] (by kernel_rfl) (allM (all_cons (q_run (.int .i64 ((i : Nat) : Int)) rfl rfl (wv_n rfl) rfl (fun _ _ hρ _ => r_move (hρ _ _ rfl))) (all_cons (q_run (.pointer (some ⟨B18, 0 + i * 1, none⟩)) rfl rfl (wv_n rfl) rfl (fun _ _ hρ _ => r_indexAddrA (i := i) ar48 sz24 (hρ _ _ rfl) (hρ _ _ rfl) (by omega))) (all_cons (q_run (.int .u32 ((step (0#32) (BitVec.ofNat 8 i)).toNat : Int)) rfl rfl (wv_n rfl) rfl (fun _ _ hρ hm => r_loadRow1 (f := wc) (l := tabL) (off := 0) (i := i) (s := 1) (u := step (0#32) (BitVec.ofNat 8 i)) ag24 (hρ _ _ rfl) (hm.at 10 rfl) (row_lst wc_len _) (tabL_at (by omega)) rfl)) (all_cons (q_run (.bool false) rfl rfl (wv_n rfl) rfl (fun _ _ hρ _ => r_as (r_neq (hρ _ _ rfl) (hρ _ _ rfl)) (bool_as (by simp)))) all_nil))))) (end_old rfl rfl (end_old rfl rfl (end_old rfl rfl (end_old rfl rfl (end_old rfl rfl (end_new 0 rfl rfl (end_new 1 rfl rfl (end_new 2 rfl rfl (end_new 3 rfl rfl (end_new 4 rfl rfl (end_new 5 rfl rfl (end_new 6 rfl rfl (end_new 7 rfl rfl end_nil))))))))))))) ?_
            refine T_cond_f rfl ?_
            refine T_skip' ?_
            refine p_blk_n ?_
            refine p_seq ?_
            refine T_region ?_
            refine TL_q (.int .i64 ((i + 1 : Nat) : Int)) (fun _ _ hρ _ => r_as (r_add (hρ _ _ rfl) (hρ _ _ rfl)) (int_as ((wrap64 (by omega) (by omega)).trans (by omega)))) rfl rfl rfl (w_n rfl) ?_
            refine TL_q (.int .i64 ((i + 1 : Nat) : Int)) (fun _ _ hρ _ => r_move (hρ _ _ rfl)) rfl rfl rfl (w_n rfl) ?_
            refine TL_nil ?_
            exact p_at (i + 1) ⟨by omega, by omega⟩ (sub_cons rfl (sub_cons rfl sub_nil)) (sub_cons rfl (sub_cons rfl (sub_cons rfl (sub_cons rfl sub_nil))))
          · replace h11 := of_decide_eq_false h11
            refine T_exit' ?_
            refine p_then_x ?_
            refine p_then_x ?_
            refine p_blk_x ?_
            refine p_seq ?_
            refine T_seq (T_region ?_)
            refine TL_q (.bool true) (fun _ _ hρ _ => r_assign (hρ _ _ rfl)) rfl rfl rfl (w_n rfl) ?_
            refine TL_seq ?_
            refine T_ret' ?_
            refine ret_of rfl (.bool true) (fun tmps w hk hm => res1 rfl (res_tmp (hk 4 _ rfl))) (fun w hm => ?_)
            exact ⟨rfl, hm.ext⟩
        · replace h10 := of_decide_eq_false h10
          refine T_skip' ?_
          refine p_seq ?_
          refine T_seq (T_region ?_)
          refine TL_q (.int .u32 ((z).toNat : Int)) (fun _ _ hρ _ => r_move (hρ _ _ rfl)) rfl rfl rfl (w_n rfl) ?_
          refine TL_q (.slice aa ((os.flatMap RowG.l).length) ca) (fun _ _ hρ _ => r_move (hρ _ _ rfl)) rfl rfl rfl (w_n rfl) ?_
          refine TL_call (.int .u32 ((sumC z (os.flatMap RowG.l)).toNat : Int)) (fun _ _ hρ _ => r_call (args := [.int .u32 ((z).toNat : Int), .slice aa ((os.flatMap RowG.l).length) ca]) (enters_of Try.func22 (by kernel_rfl) rfl) (hρ _ _ rfl) ((cons2 (hρ _ _ rfl) (cons2 (hρ _ _ rfl) rfl))) rfl) (fun w hm => moreB_c z (os.flatMap RowG.l) aa ca w (SliceAt.own byc_len (hm.row 52 rfl) rfl rfl) (row_cap (hm.row 52 rfl))) rfl rfl rfl (w_n rfl) ?_
          refine TL_q (.int .u32 ((z).toNat : Int)) (fun _ _ hρ _ => r_move (hρ _ _ rfl)) rfl rfl rfl (w_n rfl) ?_
          refine TL_q (.slice aa ((os.flatMap RowG.l).length) ca) (fun _ _ hρ _ => r_move (hρ _ _ rfl)) rfl rfl rfl (w_n rfl) ?_
          refine TL_call (.int .u32 ((sumC z (os.flatMap RowG.l)).toNat : Int)) (fun _ _ hρ _ => r_call (args := [.int .u32 ((z).toNat : Int), .slice aa ((os.flatMap RowG.l).length) ca]) (enters_of Try.func23 (by kernel_rfl) rfl) (hρ _ _ rfl) ((cons2 (hρ _ _ rfl) (cons2 (hρ _ _ rfl) rfl))) rfl) (fun w hm => more_ref z (os.flatMap RowG.l) aa ca w (SliceAt.own byc_len (hm.row 52 rfl) rfl rfl) (by omega)) rfl rfl rfl (w_n rfl) ?_
          refine TL_q (.bool false) (fun _ _ hρ _ => r_as (r_neq (hρ _ _ rfl) (hρ _ _ rfl)) (bool_as (by simp))) rfl rfl rfl (w_n rfl) ?_
          refine TL_seq ?_
          refine T_cond_f rfl ?_
          refine T_skip' ?_
          refine p_blk_n ?_
          refine p_seq ?_
          refine T_region ?_
          refine TL_q (.int .i64 ((j + 1 : Nat) : Int)) (fun _ _ hρ _ => r_as (r_add (hρ _ _ rfl) (hρ _ _ rfl)) (int_as ((wrap64 (by omega) (by omega)).trans (by omega)))) rfl rfl rfl (w_n rfl) ?_
          refine TL_q (.int .i64 ((j + 1 : Nat) : Int)) (fun _ _ hρ _ => r_move (hρ _ _ rfl)) rfl rfl rfl (w_n rfl) ?_
          refine TL_nil ?_
          exact p_at (j + 1) ⟨by omega, by omega⟩ (sub_cons rfl (sub_cons rfl (sub_cons rfl (sub_cons rfl sub_nil)))) (sub_cons rfl (sub_cons rfl (sub_cons rfl sub_nil)))
      · replace h9 := of_decide_eq_false h9
        refine T_exit' ?_
        refine p_then_x ?_
        refine p_then_x ?_
        refine p_blk_x ?_
        refine p_seq ?_
        refine T_seq (T_region ?_)
        refine TL_call (.agg (lst wc tabL)) (fun _ _ hρ _ => r_call (args := []) (enters_of Try.func24 (by kernel_rfl) rfl) (hρ _ _ rfl) (by rfl) rfl) (fun w _ => table_c w) rfl rfl rfl (w_n rfl) ?_
        refine TL_new 12 (.cells (lst wc zeroT) 48) (fun B => .pointer (some ⟨B, 0, none⟩)) (fun _ _ _ _ => r_alloc (v := .agg (lst wc zeroT)) (by kernel_rfl) rfl) rfl rfl rfl (w_n rfl) ?_
        intro B20
        refine TL_store 12 (.cells (lst wc tabL) 48) rfl (fun _ _ hρ hm => r_storeAll sz48 (hρ _ _ rfl) (hρ _ _ rfl) (hm.at 12 rfl) (wc_size zeroT_len) (wc_size tabL_len) (lst_one wc_one _)) rfl rfl (w_n rfl) ?_
        refine TL_seq ?_
        refine T_seq ?_
        refine T_seq (T_region ?_)
        refine TL_q (.int .i64 0) (fun _ _ hρ _ => r_move (hρ _ _ rfl)) rfl rfl rfl (w_n rfl) ?_
        refine TL_seq ?_
        refine T_block ?_
        refine T_loop (ι := Nat) (fun (i : Nat) => i ≤ 256) (fun (i : Nat) => [(13, .pointer (some ⟨B20, 0, none⟩)), (75, .int .i64 ((i : Nat) : Int))]) (fun (i : Nat) => [(53, .many 5 1 byc os), (52, .row (.slice aa ((os.flatMap RowG.l).length) ca) 5 1 ((os.flatMap RowG.l).length) ((os.flatMap RowG.l).flatMap byc)), (51, .row (.slice ao os.length co) 29 1 os.length (os.flatMap RowG.cells)), (12, .blk B20 (.cells (lst wc tabL) 48))]) (fun (i : Nat) => 256 - i) 0 (Nat.zero_le _) (sub_cons rfl (sub_cons rfl sub_nil)) (sub_cons rfl (sub_cons rfl (sub_cons rfl (sub_cons rfl sub_nil)))) ?_
        rintro i hp
        show T _ _ _ [(13, .pointer (some ⟨B20, 0, none⟩)), (75, .int .i64 ((i : Nat) : Int))] [(53, .many 5 1 byc os), (52, .row (.slice aa ((os.flatMap RowG.l).length) ca) 5 1 ((os.flatMap RowG.l).length) ((os.flatMap RowG.l).flatMap byc)), (51, .row (.slice ao os.length co) 29 1 os.length (os.flatMap RowG.cells)), (12, .blk B20 (.cells (lst wc tabL) 48))]
        refine T_seq (T_region ?_)
        refine TL_q (.bool (decide (((i : Nat) : Int) < 256))) (fun _ _ hρ _ => r_lss (hρ _ _ rfl) (hρ _ _ rfl)) rfl rfl rfl (w_n rfl) ?_
        refine TL_seq ?_
        refine T_seq ?_
        refine T_cond rfl (fun h12 => ?_) (fun h12 => ?_)
        · replace h12 := of_decide_eq_true h12
          refine T_skip' ?_
          refine p_seq ?_
          refine T_seq ?_
          refine T_block ?_
          refine T_seq (T_region ?_)
          refine TL_q (.int .i64 ((i : Nat) : Int)) (fun _ _ hρ _ => r_move (hρ _ _ rfl)) rfl rfl rfl (w_n rfl) ?_
          refine TL_q (.int .i64 ((i : Nat) : Int)) (fun _ _ hρ _ => r_assign (hρ _ _ rfl)) rfl rfl rfl (w_n rfl) ?_
          refine TL_seq ?_
          refine T_seq (T_draw (V := [(0, .int .i64 ((i : Nat) : Int)), (1, .pointer (some ⟨B20, 0 + i * 1, none⟩)), (2, .int .u32 ((step (0#32) (BitVec.ofNat 8 i)).toNat : Int)), (3, .int .i64 ((i : Nat) : Int)), (4, .int .u8 ((BitVec.ofNat 8 i).toNat : Int))]) [0, 1, 3, 0, 8, 24, 56, 127] [[(14, none)], [(13, none), (78, some 0)], [(79, some 1)], [(14, none)], [(81, some 3)], [(82, some 4)], [(83, some 5)], [(80, some 2), (84, some 6)]] 96 mixed (by kernel_rfl) ?_)
          refine G_step [0, 1, 2, 3, 4] 5 [] (by kernel_rfl) (allM (all_cons (q_run (.int .i64 ((i : Nat) : Int)) rfl rfl (wv_n rfl) rfl (fun _ _ hρ _ => r_move (hρ _ _ rfl))) (all_cons (q_run (.pointer (some ⟨B20, 0 + i * 1, none⟩)) rfl rfl (wv_n rfl) rfl (fun _ _ hρ _ => r_indexAddrA (i := i) ar48 sz24 (hρ _ _ rfl) (hρ _ _ rfl) (by omega))) (all_cons (q_run (.int .u32 ((step (0#32) (BitVec.ofNat 8 i)).toNat : Int)) rfl rfl (wv_n rfl) rfl (fun _ _ hρ hm => r_loadRow1 (f := wc) (l := tabL) (off := 0) (i := i) (s := 1) (u := step (0#32) (BitVec.ofNat 8 i)) ag24 (hρ _ _ rfl) (hm.at 12 rfl) (row_lst wc_len _) (tabL_at (by omega)) rfl)) (all_cons (q_run (.int .i64 ((i : Nat) : Int)) rfl rfl (wv_n rfl) rfl (fun _ _ hρ _ => r_move (hρ _ _ rfl))) (all_cons (q_run (.int .u8 ((BitVec.ofNat 8 i).toNat : Int)) rfl rfl (wv_n rfl) rfl (fun _ _ hρ _ => r_convN (k := .i64) (k' := .u8) (n := i) un3 io5 rfl (hρ _ _ rfl))) all_nil)))))) (allM (all_cons ?_ all_nil))
          refine LOb_new 13 (.cells #[.int .u8 ((BitVec.ofNat 8 i).toNat : Int)] 5) (fun B => .slice (some ⟨B, 0, none⟩) 1 1) (fun B => []) rfl (wv_n rfl) rfl rfl (fun _ _ hρ _ => r_buildSlice (vs := [(0, .int .u8 ((BitVec.ofNat 8 i).toNat : Int))]) (by kernel_rfl) (cons2 (pair2 (hρ _ _ rfl)) rfl)) (fun B => by kernel_rfl) ?_
          intro B21
          refine G_step [0, 1, 2] 6 [] (by kernel_rfl) (allM (all_cons (q_run (.int .i64 ((i : Nat) : Int)) rfl rfl (wv_n rfl) rfl (fun _ _ hρ _ => r_move (hρ _ _ rfl))) (all_cons (q_run (.pointer (some ⟨B20, 0 + i * 1, none⟩)) rfl rfl (wv_n rfl) rfl (fun _ _ hρ _ => r_indexAddrA (i := i) ar48 sz24 (hρ _ _ rfl) (hρ _ _ rfl) (by omega))) (all_cons (q_run (.int .u32 ((step (0#32) (BitVec.ofNat 8 i)).toNat : Int)) rfl rfl (wv_n rfl) rfl (fun _ _ hρ hm => r_loadRow1 (f := wc) (l := tabL) (off := 0) (i := i) (s := 1) (u := step (0#32) (BitVec.ofNat 8 i)) ag24 (hρ _ _ rfl) (hm.at 12 rfl) (row_lst wc_len _) (tabL_at (by omega)) rfl)) all_nil)))) (allM (all_cons ?_ all_nil))
          refine LOb_call (.int .u32 ((step (0#32) (BitVec.ofNat 8 i)).toNat : Int)) [(7, .bool false)] rfl (wv_n rfl) rfl rfl (fun _ _ hρ _ => r_call (args := [.int .u32 0, .slice (some ⟨B21, 0, none⟩) 1 1]) (enters_of Try.func25 (by kernel_rfl) rfl) (hρ _ _ rfl) ((cons2 (hρ _ _ rfl) (cons2 (hρ _ _ rfl) rfl))) rfl) (fun w hm => fed_ref 0#32 [BitVec.ofNat 8 i] (some ⟨B21, 0, none⟩) 1 w ⟨Nat.le_of_ble_eq_true rfl, (fun e => by cases e), .inr ⟨_, 0, _, _, _, rfl, (hm.at 13 rfl), row_of_take (fun _ => rfl) rfl⟩⟩ (Nat.le_of_ble_eq_true rfl)) (by kernel_rfl) ?_
          refine G_last [0, 1, 2, 7] [(13, .pointer (some ⟨B20, 0, none⟩)), (75, .int .i64 ((i : Nat) : Int)), (76, .bool (decide (((i : Nat) : Int) < 256))), (77, .int .i64 ((i : Nat) : Int)), (14, .int .i64 ((i : Nat) : Int)), (78, .int .i64 ((i : Nat) : Int)), (79, .pointer (some ⟨B20, 0 + i * 1, none⟩)), (80, .int .u32 ((step (0#32) (BitVec.ofNat 8 i)).toNat : Int)), (81, .int .i64 ((i : Nat) : Int)), (82, .int .u8 ((BitVec.ofNat 8 i).toNat : Int)), (83, .slice (some ⟨B21, 0, none⟩) 1 1), (84, .int .u32 ((step (0#32) (BitVec.ofNat 8 i)).toNat : Int)), (85, .bool false)] (by kernel_rfl) (allM (all_cons (q_run (.int .i64 ((i : Nat) : Int)) rfl rfl (wv_n rfl) rfl (fun _ _ hρ _ => r_move (hρ _ _ rfl))) (all_cons (q_run (.pointer (some ⟨B20, 0 + i * 1, none⟩)) rfl rfl (wv_n rfl) rfl (fun _ _ hρ _ => r_indexAddrA (i := i) ar48 sz24 (hρ _ _ rfl) (hρ _ _ rfl) (by omega))) (all_cons (q_run (.int .u32 ((step (0#32) (BitVec.ofNat 8 i)).toNat : Int)) rfl rfl (wv_n rfl) rfl (fun _ _ hρ hm => r_loadRow1 (f := wc) (l := tabL) (off := 0) (i := i) (s := 1) (u := step (0#32) (BitVec.ofNat 8 i)) ag24 (hρ _ _ rfl) (hm.at 12 rfl) (row_lst wc_len _) (tabL_at (by omega)) rfl)) (all_cons (q_run (.bool false) rfl rfl (wv_n rfl) rfl (fun _ _ hρ _ => r_as (r_neq (hρ _ _ rfl) (hρ _ _ rfl)) (bool_as (by simp)))) all_nil))))) (end_old rfl rfl (end_old rfl rfl (end_old rfl rfl (end_old rfl rfl (end_old rfl rfl (end_new 0 rfl rfl (end_new 1 rfl rfl (end_new 2 rfl rfl (end_new 3 rfl rfl (end_new 4 rfl rfl (end_new 5 rfl rfl (end_new 6 rfl rfl (end_new 7 rfl rfl end_nil))))))))))))) ?_
          refine T_cond_f rfl ?_
          refine T_skip' ?_
          refine p_blk_n ?_
          refine p_seq ?_
          refine T_region ?_
          refine TL_q (.int .i64 ((i + 1 : Nat) : Int)) (fun _ _ hρ _ => r_as (r_add (hρ _ _ rfl) (hρ _ _ rfl)) (int_as ((wrap64 (by omega) (by omega)).trans (by omega)))) rfl rfl rfl (w_n rfl) ?_
          refine TL_q (.int .i64 ((i + 1 : Nat) : Int)) (fun _ _ hρ _ => r_move (hρ _ _ rfl)) rfl rfl rfl (w_n rfl) ?_
          refine TL_nil ?_
          exact p_at (i + 1) ⟨by omega, by omega⟩ (sub_cons rfl (sub_cons rfl sub_nil)) (sub_cons rfl (sub_cons rfl (sub_cons rfl (sub_cons rfl sub_nil))))
        · replace h12 := of_decide_eq_false h12
          refine T_exit' ?_
          refine p_then_x ?_
          refine p_then_x ?_
          refine p_blk_x ?_
          refine p_seq ?_
          refine T_seq (T_region ?_)
          refine TL_q (.bool true) (fun _ _ hρ _ => r_assign (hρ _ _ rfl)) rfl rfl rfl (w_n rfl) ?_
          refine TL_seq ?_
          refine T_ret' ?_
          refine ret_of rfl (.bool true) (fun tmps w hk hm => res1 rfl (res_tmp (hk 4 _ rfl))) (fun w hm => ?_)
          exact ⟨rfl, hm.ext⟩
end Go.Proofs.Ytnjcffhpfmnbfaa
