/- crc: rows of bytes. Printed by a program of this seat's prover. -/
import Derived.Test.YtnjcffhpfmnbfaaFeed
namespace Go.Proofs.Ytnjcffhpfmnbfaa
open Go Go.RowKit
set_option maxRecDepth 10000
abbrev byc (b : By) : List Value := [.int .u8 (b.toNat : Int)]
theorem byc_len (b : By) : (byc b).length = 1 := rfl
/-- A row of bytes, as a slice. -/
structure RowV where
  a : Option Addr
  cap : Nat
  l : List By
abbrev RowV.cells (r : RowV) : List Value := [.slice r.a r.l.length r.cap]
theorem RowV.cells_len (r : RowV) : r.cells.length = 1 := rfl
abbrev RowV.okR (w : World) (r : RowV) : Prop := SliceAt w r.a r.cap 1 byc r.l
def posR (rows : List RowV) (i : Nat) : Nat := ((rows.take i).flatMap RowV.l).length
theorem posR_succ {rows : List RowV} {i : Nat} {r : RowV} (h : rows[i]? = some r) : posR rows (i + 1) = posR rows i + r.l.length := by
  unfold posR
  rw [List.take_add_one, h, List.flatMap_append, List.length_append]; simp
theorem posR_end (rows : List RowV) : posR rows rows.length = (rows.flatMap RowV.l).length := by
  unfold posR; rw [List.take_length]
theorem flatR {rows : List RowV} {i j : Nat} {r : RowV} {b : By} (h : rows[i]? = some r) (hb : r.l[j]? = some b) : (rows.flatMap RowV.l)[posR rows i + j]? = some b := by
  obtain ⟨hi, hr⟩ := List.getElem?_eq_some_iff.1 h
  have e : rows = rows.take i ++ r :: rows.drop (i + 1) := by
    rw [← hr, List.getElem_cons_drop, List.take_append_drop]
  have hp : posR rows i = ((rows.take i).flatMap RowV.l).length := rfl
  generalize posR rows i = n at hp ⊢
  conv => lhs; rw [e]
  rw [List.flatMap_append, List.flatMap_cons, hp]
  have hj := (List.getElem?_eq_some_iff.1 hb).1
  rw [List.getElem?_append_right (by omega), Nat.add_sub_cancel_left, List.getElem?_append_left hj, hb]
theorem reg_snoc (r : Wd) {l : List By} {k : Nat} {b : By} (h : l[k]? = some b) : step (regL r (l.take k)) b = regL r (l.take (k + 1)) := by
  unfold regL
  rw [List.take_add_one, h, List.foldl_append]; rfl
theorem NewOk.mem {w w' : World} {L : Heap} (h : MemOk w L w') : NewOk w w' L := ⟨h.own, h.sep⟩
abbrev encB (b : By) : List Value := [.int .u8 (b.toNat : Int)]

theorem of_c (r : Wd) (w : World) : Calls Try.prog 37 #[.int .u32 (r.toNat : Int)] w (Ans (fun _ : Nat × Nat => True) (fun z => .pointer (some ⟨z.1, 0, none⟩)) (fun z => [(902, .blk z.1 (.cells #[.pointer (some ⟨z.2, 0, none⟩), .int .u32 (r.toNat : Int)] 77)), (900, .blk z.2 (.cells tbZ 74))]) w) := by
  refine calls_of_T (l := [.int .u32 ((r).toNat : Int)]) 8 Try.func37 rfl rfl rfl ?_
  show T _ _ _ [(0, .int .u32 ((r).toNat : Int))] []
  refine T_seq (T_region ?_)
  refine TL_q (.pointer none) (fun _ _ hρ _ => r_assign (hρ _ _ rfl)) rfl rfl rfl (w_n rfl) ?_
  refine TL_seq ?_
  refine T_seq (T_region ?_)
  refine TL_q (.agg #[.int .u32 0, .int .i32 0, .int .u32 0, .int .u32 0, .int .u32 0, .int .u32 0, .int .u32 0, .int .u32 0, .int .u32 0, .int .u32 0, .int .u32 0, .int .u32 0, .int .u32 0, .int .u32 0, .int .u32 0, .int .u32 0, .int .u32 0, .int .u32 0, .int .u32 0]) (fun _ _ _ _ => r_build (vs := []) (by kernel_rfl) rfl) rfl rfl rfl (w_n rfl) ?_
  refine TL_new 900 (.cells #[.int .u32 0, .int .i32 0, .int .u32 0, .int .u32 0, .int .u32 0, .int .u32 0, .int .u32 0, .int .u32 0, .int .u32 0, .int .u32 0, .int .u32 0, .int .u32 0, .int .u32 0, .int .u32 0, .int .u32 0, .int .u32 0, .int .u32 0, .int .u32 0, .int .u32 0] 74) (fun B => .pointer (some ⟨B, 0, none⟩)) (fun _ _ hρ _ => r_box (hρ _ _ rfl) rfl) rfl rfl rfl (w_n rfl) ?_
  intro B1
  refine TL_q (.int .u32 ((r).toNat : Int)) (fun _ _ hρ _ => r_move (hρ _ _ rfl)) rfl rfl rfl (w_n rfl) ?_
  refine TL_q (.agg #[.pointer (some ⟨B1, 0, none⟩), .int .u32 ((r).toNat : Int)]) (fun _ _ hρ _ => r_build (vs := [(0, .pointer (some ⟨B1, 0, none⟩)), (1, .int .u32 ((r).toNat : Int))]) (by kernel_rfl) (cons2 (pair2 (hρ _ _ rfl)) (cons2 (pair2 (hρ _ _ rfl)) rfl))) rfl rfl rfl (w_n rfl) ?_
  refine TL_new 902 (.cells #[.pointer (some ⟨B1, 0, none⟩), .int .u32 ((r).toNat : Int)] 77) (fun B => .pointer (some ⟨B, 0, none⟩)) (fun _ _ hρ _ => r_box (hρ _ _ rfl) rfl) rfl rfl rfl (w_n rfl) ?_
  intro B2
  refine TL_q (.pointer (some ⟨B2, 0, none⟩)) (fun _ _ hρ _ => r_assign (hρ _ _ rfl)) rfl rfl rfl (w_n rfl) ?_
  refine TL_seq ?_
  refine T_ret' ?_
  refine ret_of rfl (.pointer (some ⟨B2, 0, none⟩)) (fun tmps w hk hm => res1 rfl (res_tmp (hk 2 _ rfl))) (fun w hm => ?_)
  exact ⟨(B2, B1), trivial, rfl, hm.ext, (NewOk.mem hm)⟩

theorem each_c (a : Option Addr) (n cap : Nat) (w : World) : Calls Try.prog 38 #[.slice a n cap] w (Ans (fun _ : Nat => True) (fun z => .func (.func 40) #[] #[.pointer (some ⟨z, 0, none⟩)]) (fun z => [(903, .blk z (.cells #[.slice a n cap] 43))]) w) := by
  refine calls_of_T (l := [.slice a n cap]) 4 Try.func38 rfl rfl rfl ?_
  show T _ _ _ [(0, .slice a n cap)] []
  refine T_seq (T_region ?_)
  refine TL_new 903 (.cells #[.slice a n cap] 43) (fun B => .pointer (some ⟨B, 0, none⟩)) (fun _ _ hρ _ => r_box (hρ _ _ rfl) rfl) rfl rfl rfl (w_n rfl) ?_
  intro B1
  refine TL_q (.nilFunc) (fun _ _ hρ _ => r_assign (hρ _ _ rfl)) rfl rfl rfl (w_n rfl) ?_
  refine TL_seq ?_
  refine T_seq (T_region ?_)
  refine TL_q (.func (.func 40) #[] #[.pointer (some ⟨B1, 0, none⟩)]) (fun _ _ hρ _ => r_makeFunc (by simp) (map_arr (cons2 (hρ _ _ rfl) rfl))) rfl rfl rfl (w_n rfl) ?_
  refine TL_q (.func (.func 40) #[] #[.pointer (some ⟨B1, 0, none⟩)]) (fun _ _ hρ _ => r_assign (hρ _ _ rfl)) rfl rfl rfl (w_n rfl) ?_
  refine TL_seq ?_
  refine T_ret' ?_
  refine ret_of rfl (.func (.func 40) #[] #[.pointer (some ⟨B1, 0, none⟩)]) (fun tmps w hk hm => res1 rfl (res_tmp (hk 2 _ rfl))) (fun w hm => ?_)
  exact ⟨B1, trivial, rfl, hm.ext, (NewOk.mem hm)⟩

theorem each_iter {ι : Type} (w₀ : World) (rows : List RowV) (a : Option Addr) (cap Cc : Nat) (hv : SliceAt w₀ a cap 1 RowV.cells rows) (hr : ∀ r ∈ rows, r.okR w₀) (hcp : ∀ r ∈ rows, r.cap ≤ Go.maxLen) (hcap : cap ≤ Go.maxLen) (p : Nat → ι → Prop) (LJ : Nat → ι → Heap) (hc : ∀ k i, lk (LJ k i) 903 = some (.blk Cc (.cells #[.slice a rows.length cap] 43))) :
    IterAt Try.prog w₀ 40 #[.pointer (some ⟨Cc, 0, none⟩)] encB (rows.flatMap RowV.l) p LJ := by
  intro l κ pX LX hY i₀ W hp0 hm0
  have hvl := hv.1
  unfold Go.maxLen at hcap
  have hp0 : p (posR rows 0) i₀ := hp0
  show Calls Try.prog 40 #[.func (.yield l) #[] #[], .pointer (some ⟨Cc, 0, none⟩)] W _
  refine ht_of_T (l := [.func (.yield l) #[] #[], .pointer (some ⟨Cc, 0, none⟩)]) (L := LJ 0 i₀) 25 Try.func40 rfl rfl rfl ?_ W hm0
  show T _ _ _ [(0, .func (.yield l) #[] #[]), (1, .pointer (some ⟨Cc, 0, none⟩))] (LJ 0 i₀)
  refine T_scope ?_
  refine T_label ?_
  refine T_mem ((903, .blk Cc (.cells #[.slice a rows.length cap] 43)) :: LJ 0 i₀) (fun _ hm => hm.of (lk_dup (hc 0 i₀))) ?_
  refine T_seq (T_region ?_)
  refine TL_q (.slice a rows.length cap) (fun _ _ hρ hm => r_load ag43 (hρ _ _ rfl) (hm.at 903 rfl) rfl) rfl rfl rfl (w_n rfl) ?_
  refine TL_q (.int .i64 ((rows.length : Nat) : Int)) (fun _ _ hρ _ => r_len sl43 (hρ _ _ rfl)) rfl rfl rfl (w_n rfl) ?_
  refine TL_q (.int .i64 0) (fun _ _ hρ _ => r_move (hρ _ _ rfl)) rfl rfl rfl (w_n rfl) ?_
  refine TL_seq ?_
  refine T_block ?_
  refine T_mem (LJ 0 i₀) (fun _ hm => hm.of (lk_into (hc 0 i₀))) ?_
  refine T_loopE (ι := Nat × ι) (fun (z : Nat × ι) => match z with | (i, z) => i ≤ rows.length ∧ p (posR rows i) z) (fun (z : Nat × ι) => match z with | (i, z) => [(0, .func (.yield l) #[] #[]), (7, .slice a rows.length cap), (8, .int .i64 ((rows.length : Nat) : Int)), (9, .int .i64 ((i : Nat) : Int))]) (fun (z : Nat × ι) => match z with | (i, z) => (LJ (posR rows i) z)) (fun (z : Nat × ι) => match z with | (i, z) => rows.length - i) (0, i₀) ⟨Nat.zero_le _, hp0⟩ (sub_cons rfl (sub_cons rfl (sub_cons rfl (sub_cons rfl sub_nil)))) rfl ?_
  rintro ⟨i, z⟩ hp
  obtain ⟨hi, hpz⟩ := hp
  show T _ _ _ [(0, .func (.yield l) #[] #[]), (7, .slice a rows.length cap), (8, .int .i64 ((rows.length : Nat) : Int)), (9, .int .i64 ((i : Nat) : Int))] (LJ (posR rows i) z)
  refine T_seq (T_region ?_)
  refine TL_q (.bool (decide (((i : Nat) : Int) < ((rows.length : Nat) : Int)))) (fun _ _ hρ _ => r_lss (hρ _ _ rfl) (hρ _ _ rfl)) rfl rfl rfl (w_n rfl) ?_
  refine TL_seq ?_
  refine T_seq ?_
  refine T_cond rfl (fun h1 => ?_) (fun h1 => ?_)
  · replace h1 := of_decide_eq_true h1
    refine T_skip' ?_
    refine p_seq ?_
    refine T_seq ?_
    refine T_block ?_
    obtain ⟨x, hx⟩ : ∃ x, rows[i]? = some x := ⟨_, List.getElem?_eq_getElem (by omega)⟩
    have hxr := hr x (List.mem_of_getElem? hx)
    have hxl := hxr.1
    have hxc := hcp x (List.mem_of_getElem? hx)
    unfold Go.maxLen at hxc
    obtain ⟨b1, of1, cs1, T1, fz1, ha1, hq1, hr1⟩ := hv.open (i := i) (by omega)
    subst ha1
    refine T_seq (T_region ?_)
    refine TL_q (.pointer (some ⟨b1, of1 + i * 1, none⟩)) (fun _ _ hρ _ => r_indexAddrS (i := i) sl43 sz29 (hρ _ _ rfl) (hρ _ _ rfl) (by omega)) rfl rfl rfl (w_n rfl) ?_
    refine TL_q (.slice x.a x.l.length x.cap) (fun _ _ hρ hm => r_loadRow1 (f := RowV.cells) (u := x) ag29 (hρ _ _ rfl) (hm.old hq1) hr1 hx rfl) rfl rfl rfl (w_n rfl) ?_
    refine TL_q (.slice x.a x.l.length x.cap) (fun _ _ hρ _ => r_assign (hρ _ _ rfl)) rfl rfl rfl (w_n rfl) ?_
    refine TL_seq ?_
    refine T_seq (T_region ?_)
    refine TL_q (.slice x.a x.l.length x.cap) (fun _ _ hρ _ => r_move (hρ _ _ rfl)) rfl rfl rfl (w_n rfl) ?_
    refine TL_q (.int .i64 ((x.l.length : Nat) : Int)) (fun _ _ hρ _ => r_len sl29 (hρ _ _ rfl)) rfl rfl rfl (w_n rfl) ?_
    refine TL_q (.int .i64 0) (fun _ _ hρ _ => r_move (hρ _ _ rfl)) rfl rfl rfl (w_n rfl) ?_
    refine TL_seq ?_
    refine T_block ?_
    refine T_loopE (ι := Nat × ι) (fun (z : Nat × ι) => match z with | (j, z2) => j ≤ x.l.length ∧ p (posR rows i + j) z2) (fun (z : Nat × ι) => match z with | (j, z2) => [(0, .func (.yield l) #[] #[]), (7, .slice (some ⟨b1, of1, none⟩) rows.length cap), (8, .int .i64 ((rows.length : Nat) : Int)), (9, .int .i64 ((i : Nat) : Int)), (10, .bool (decide (((i : Nat) : Int) < ((rows.length : Nat) : Int)))), (11, .pointer (some ⟨b1, of1 + i * 1, none⟩)), (12, .slice x.a x.l.length x.cap), (4, .slice x.a x.l.length x.cap), (13, .slice x.a x.l.length x.cap), (14, .int .i64 ((x.l.length : Nat) : Int)), (15, .int .i64 ((j : Nat) : Int))]) (fun (z : Nat × ι) => match z with | (j, z2) => (LJ (posR rows i + j) z2)) (fun (z : Nat × ι) => match z with | (j, z2) => x.l.length - j) (0, z) ⟨Nat.zero_le _, hpz⟩ (sub_cons rfl (sub_cons rfl (sub_cons rfl (sub_cons rfl (sub_cons rfl (sub_cons rfl (sub_cons rfl (sub_cons rfl (sub_cons rfl (sub_cons rfl (sub_cons rfl sub_nil))))))))))) rfl ?_
    rintro ⟨j, z2⟩ hp
    obtain ⟨hj, hp2⟩ := hp
    show T _ _ _ [(0, .func (.yield l) #[] #[]), (7, .slice (some ⟨b1, of1, none⟩) rows.length cap), (8, .int .i64 ((rows.length : Nat) : Int)), (9, .int .i64 ((i : Nat) : Int)), (10, .bool (decide (((i : Nat) : Int) < ((rows.length : Nat) : Int)))), (11, .pointer (some ⟨b1, of1 + i * 1, none⟩)), (12, .slice x.a x.l.length x.cap), (4, .slice x.a x.l.length x.cap), (13, .slice x.a x.l.length x.cap), (14, .int .i64 ((x.l.length : Nat) : Int)), (15, .int .i64 ((j : Nat) : Int))] (LJ (posR rows i + j) z2)
    refine T_seq (T_region ?_)
    refine TL_q (.bool (decide (((j : Nat) : Int) < ((x.l.length : Nat) : Int)))) (fun _ _ hρ _ => r_lss (hρ _ _ rfl) (hρ _ _ rfl)) rfl rfl rfl (w_n rfl) ?_
    refine TL_seq ?_
    refine T_seq ?_
    refine T_cond rfl (fun h2 => ?_) (fun h2 => ?_)
    · replace h2 := of_decide_eq_true h2
      refine T_skip' ?_
      refine p_seq ?_
      refine T_seq ?_
      refine T_block ?_
      obtain ⟨y, hy⟩ : ∃ y, x.l[j]? = some y := ⟨_, List.getElem?_eq_getElem (by omega)⟩
      obtain ⟨b2, of2, cs2, T2, fz2, ha2, hq2, hr2⟩ := hxr.open (i := j) (by omega)
      rw [ha2]
      refine T_seq (T_region ?_)
      refine TL_q (.pointer (some ⟨b2, of2 + j * 1, none⟩)) (fun _ _ hρ _ => r_indexAddrS (i := j) sl29 sz5 (hρ _ _ rfl) (hρ _ _ rfl) (by omega)) rfl rfl rfl (w_n rfl) ?_
      refine TL_q (.int .u8 ((y).toNat : Int)) (fun _ _ hρ hm => r_loadRow1 (f := byc) (u := y) ag5 (hρ _ _ rfl) (hm.old hq2) hr2 hy rfl) rfl rfl rfl (w_n rfl) ?_
      refine TL_q (.int .u8 ((y).toNat : Int)) (fun _ _ hρ _ => r_assign (hρ _ _ rfl)) rfl rfl rfl (w_n rfl) ?_
      refine TL_seq ?_
      refine T_seq (T_region ?_)
      refine TL_q (.func (.yield l) #[] #[]) (fun _ _ hρ _ => r_move (hρ _ _ rfl)) rfl rfl rfl (w_n rfl) ?_
      refine TL_q (.int .u8 ((y).toNat : Int)) (fun _ _ hρ _ => r_move (hρ _ _ rfl)) rfl rfl rfl (w_n rfl) ?_
      refine TL_yieldB (fun z3 => p (posR rows i + j + 1) z3) (fun z3 => LJ (posR rows i + j + 1) z3) pX LX rfl (fun _ _ hρ _ => r_yield (hρ _ _ rfl) ((cons2 (hρ _ _ rfl) rfl))) (fun W hm => hY (posR rows i + j) y z2 W (flatR hx hy) hp2 hm) rfl rfl rfl (w_n rfl) ?_
      intro yx3 hyx3
      refine TL_q (.bool (!yx3.isLeft)) (fun _ _ hρ _ => r_not (b := yx3.isLeft) (hρ _ _ rfl)) rfl rfl rfl (w_n rfl) ?_
      refine TL_seq ?_
      refine T_cond rfl (fun h3 => ?_) (fun h3 => ?_)
      · replace h3 := bnot_t h3
        obtain ⟨j1, rfl⟩ := isR h3
        refine T_exit' ?_
        refine p_blk_o rfl ?_
        refine p_then_x ?_
        refine p_then_x ?_
        refine p_blk_o rfl ?_
        refine p_blk_o rfl ?_
        refine p_then_x ?_
        refine p_then_x ?_
        refine p_blk_x ?_
        refine p_ng_n ?_
        refine p_end ?_
        refine ret_of rfl (.tuple #[]) (fun tmps w hk hm => results_none rfl _ _ _) (fun w hm => ?_)
        first
          | exact ⟨⟨_, rfl⟩, .inr ⟨j1, hyx3, hm⟩⟩
          | (have hil : i = rows.length := (by omega); subst hil; rw [posR_end] at hpz hm; exact ⟨⟨_, rfl⟩, .inl ⟨z, hpz, hm⟩⟩)
      · replace h3 := bnot_f h3
        obtain ⟨i1, rfl⟩ := isL h3
        refine T_skip' ?_
        refine p_blk_n ?_
        refine p_seq ?_
        refine T_region ?_
        refine TL_q (.int .i64 ((j + 1 : Nat) : Int)) (fun _ _ hρ _ => r_as (r_add (hρ _ _ rfl) (hρ _ _ rfl)) (int_as ((wrap64 (by omega) (by omega)).trans (by omega)))) rfl rfl rfl (w_n rfl) ?_
        refine TL_q (.int .i64 ((j + 1 : Nat) : Int)) (fun _ _ hρ _ => r_move (hρ _ _ rfl)) rfl rfl rfl (w_n rfl) ?_
        refine TL_nil ?_
        exact p_atE (j + 1, i1) ⟨⟨by omega, hyx3⟩, by dsimp only; omega⟩ (sub_cons rfl (sub_cons rfl (sub_cons rfl (sub_cons rfl (sub_cons rfl (sub_cons rfl (sub_cons rfl (sub_cons rfl (sub_cons rfl (sub_cons rfl (sub_cons rfl sub_nil))))))))))) rfl
    · replace h2 := of_decide_eq_false h2
      refine T_exit' ?_
      refine p_then_x ?_
      refine p_then_x ?_
      refine p_blk_x ?_
      refine p_blk_n ?_
      refine p_seq ?_
      refine T_region ?_
      refine TL_q (.int .i64 ((i + 1 : Nat) : Int)) (fun _ _ hρ _ => r_as (r_add (hρ _ _ rfl) (hρ _ _ rfl)) (int_as ((wrap64 (by omega) (by omega)).trans (by omega)))) rfl rfl rfl (w_n rfl) ?_
      refine TL_q (.int .i64 ((i + 1 : Nat) : Int)) (fun _ _ hρ _ => r_move (hρ _ _ rfl)) rfl rfl rfl (w_n rfl) ?_
      refine TL_nil ?_
      exact p_atE (i + 1, z2) ⟨⟨by omega, by rw [posR_succ hx, ← show j = x.l.length by omega]; exact hp2⟩, by dsimp only; omega⟩ (sub_cons rfl (sub_cons rfl (sub_cons rfl (sub_cons rfl sub_nil)))) (congrArg (fun q => LJ q z2) (by rw [posR_succ hx]; omega))
  · replace h1 := of_decide_eq_false h1
    refine T_exit' ?_
    refine p_then_x ?_
    refine p_then_x ?_
    refine p_blk_x ?_
    refine p_ng_n ?_
    refine p_end ?_
    refine ret_of rfl (.tuple #[]) (fun tmps w hk hm => results_none rfl _ _ _) (fun w hm => ?_)
    first
      | exact ⟨⟨_, rfl⟩, .inr ⟨j1, hyx3, hm⟩⟩
      | (have hil : i = rows.length := (by omega); subst hil; rw [posR_end] at hpz hm; exact ⟨⟨_, rfl⟩, .inl ⟨z, hpz, hm⟩⟩)
end Go.Proofs.Ytnjcffhpfmnbfaa
