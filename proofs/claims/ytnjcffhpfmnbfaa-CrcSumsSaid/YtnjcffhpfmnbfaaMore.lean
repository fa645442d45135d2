/- crc: sums, and the tail. Printed by a program of this seat's prover. -/
import Derived.Test.YtnjcffhpfmnbfaaIter
namespace Go.Proofs.Ytnjcffhpfmnbfaa
open Go Go.RowKit
set_option maxRecDepth 10000
theorem more_c (s : Wd) (rows : List RowV) (a : Option Addr) (cap : Nat) (w : World) (hv : SliceAt w a cap 1 RowV.cells rows) (hr : ∀ r ∈ rows, r.okR w) (hcp : ∀ r ∈ rows, r.cap ≤ Go.maxLen) (hcap : cap ≤ Go.maxLen) : Calls Try.prog 34 #[.int .u32 (s.toNat : Int), .slice a rows.length cap] w fun e w' => e = .returned (.int .u32 ((sumC s (rows.flatMap RowV.l)).toNat : Int)) ∧ Below w.heap.size w w' := by
  refine calls_of_T (l := [.int .u32 ((s).toNat : Int), .slice a rows.length cap]) 24 Try.func34 rfl rfl rfl ?_
  show T _ _ _ [(0, .int .u32 ((s).toNat : Int)), (1, .slice a rows.length cap)] []
  refine T_seq (T_region ?_)
  refine TL_q (.int .u32 0) (fun _ _ hρ _ => r_assign (hρ _ _ rfl)) rfl rfl rfl (w_n rfl) ?_
  refine TL_seq ?_
  refine T_seq (T_region ?_)
  refine TL_q (.int .u32 ((s).toNat : Int)) (fun _ _ hρ _ => r_move (hρ _ _ rfl)) rfl rfl rfl (w_n rfl) ?_
  refine TL_q (.int .u32 ((~~~s).toNat : Int)) (fun _ _ hρ _ => r_notW (k := .u32) (a := s) rfl (hρ _ _ rfl)) rfl rfl rfl (w_n rfl) ?_
  refine TL_callN (fun (_ : Nat × Nat) => True) (fun (R1, T1) => .pointer (some ⟨R1, 0, none⟩)) (fun (R1, T1) => [(902, .blk R1 (.cells #[.pointer (some ⟨T1, 0, none⟩), .int .u32 ((~~~s).toNat : Int)] 77)), (900, .blk T1 (.cells #[.int .u32 0, .int .i32 0, .int .u32 0, .int .u32 0, .int .u32 0, .int .u32 0, .int .u32 0, .int .u32 0, .int .u32 0, .int .u32 0, .int .u32 0, .int .u32 0, .int .u32 0, .int .u32 0, .int .u32 0, .int .u32 0, .int .u32 0, .int .u32 0, .int .u32 0] 74))]) (fun _ _ hρ _ => r_call (args := [.int .u32 ((~~~s).toNat : Int)]) (enters_of Try.func37 (by kernel_rfl) rfl) (hρ _ _ rfl) ((cons2 (hρ _ _ rfl) rfl)) rfl) (fun w _ => of_c (~~~s) w) rfl rfl rfl (w_n rfl) ?_
  rintro ⟨R1, T1⟩ -
  refine TL_q (.pointer (some ⟨R1, 0, none⟩)) (fun _ _ hρ _ => r_assign (hρ _ _ rfl)) rfl rfl rfl (w_n rfl) ?_
  refine TL_seq ?_
  refine T_seq (T_region ?_)
  refine TL_q (.pointer (some ⟨R1, 0, none⟩)) (fun _ _ hρ _ => r_move (hρ _ _ rfl)) rfl rfl rfl (w_n rfl) ?_
  refine TL_q (.func (.func 35) #[.pointer (some ⟨R1, 0, none⟩)] #[]) (fun _ _ hρ _ => r_makeFunc (map_arr (cons2 (hρ _ _ rfl) rfl)) (by simp)) rfl rfl rfl (w_n rfl) ?_
  refine TL_new 1 (.cells #[.nilFunc] 78) (fun B => .pointer (some ⟨B, 0, none⟩)) (fun _ _ _ _ => r_alloc (v := .nilFunc) (by kernel_rfl) rfl) rfl rfl rfl (w_n rfl) ?_
  intro B2
  refine TL_store 1 (.cells #[.func (.func 35) #[.pointer (some ⟨R1, 0, none⟩)] #[]] 78) rfl (fun _ _ hρ hm => r_store sz78 (hρ _ _ rfl) (hρ _ _ rfl) (hm.at 1 rfl) rfl rfl rfl rfl) rfl rfl (w_n rfl) ?_
  refine TL_seq ?_
  refine T_seq ?_
  refine T_seq (T_region ?_)
  refine TL_q (.slice a rows.length cap) (fun _ _ hρ _ => r_move (hρ _ _ rfl)) rfl rfl rfl (w_n rfl) ?_
  refine TL_callN (fun (_ : Nat) => True) (fun C3 => .func (.func 40) #[] #[.pointer (some ⟨C3, 0, none⟩)]) (fun C3 => [(903, .blk C3 (.cells #[.slice a rows.length cap] 43))]) (fun _ _ hρ _ => r_call (args := [.slice a rows.length cap]) (enters_of Try.func38 (by kernel_rfl) rfl) (hρ _ _ rfl) ((cons2 (hρ _ _ rfl) rfl)) rfl) (fun w _ => each_c a rows.length cap w) rfl rfl rfl (w_n rfl) ?_
  rintro C3 -
  refine TL_seq ?_
  refine T_block ?_
  refine T_sub [(4, .int .u32 0), (5, .pointer (some ⟨R1, 0, none⟩)), (6, .pointer (some ⟨B2, 0, none⟩)), (14, .func (.func 40) #[] #[.pointer (some ⟨C3, 0, none⟩)])] [(903, .blk C3 (.cells #[.slice a rows.length cap] 43)), (902, .blk R1 (.cells #[.pointer (some ⟨T1, 0, none⟩), .int .u32 ((~~~s).toNat : Int)] 77)), (900, .blk T1 (.cells #[.int .u32 0, .int .i32 0, .int .u32 0, .int .u32 0, .int .u32 0, .int .u32 0, .int .u32 0, .int .u32 0, .int .u32 0, .int .u32 0, .int .u32 0, .int .u32 0, .int .u32 0, .int .u32 0, .int .u32 0, .int .u32 0, .int .u32 0, .int .u32 0, .int .u32 0] 74)), (1, .blk B2 (.cells #[.func (.func 35) #[.pointer (some ⟨R1, 0, none⟩)] #[]] 78))] (sub_cons rfl (sub_cons rfl (sub_cons rfl (sub_cons rfl sub_nil)))) (sub_cons rfl (sub_cons rfl (sub_cons rfl (sub_cons rfl sub_nil)))) ?_
  refine T_range (ι := Bool) (encs := encB) (xs := (rows.flatMap RowV.l)) rfl rfl (enters_of Try.func40 (by kernel_rfl) rfl) (fun _ => rfl) rfl 801 802 rfl (fun (k : Nat) (d : Bool) => True) (fun (k : Nat) (d : Bool) => [(903, .blk C3 (.cells #[.slice a rows.length cap] 43)), (1, .blk B2 (.cells #[.func (.func 35) #[.pointer (some ⟨R1, 0, none⟩)] #[]] 78)), (902, .blk R1 (.cells #[.pointer (some ⟨T1, 0, none⟩), .int .u32 ((regL (~~~s) ((rows.flatMap RowV.l).take k)).toNat : Int)] 77)), (900, .blk T1 (.cells (tbS d) 74))]) (fun _ _ => False) (fun _ => []) (fun x => [(4, .int .u32 0), (5, .pointer (some ⟨R1, 0, none⟩)), (6, .pointer (some ⟨B2, 0, none⟩)), (14, .func (.func 40) #[] #[.pointer (some ⟨C3, 0, none⟩)]), (7, .int .u8 ((x).toNat : Int))]) (fun D l rec => each_iter _ rows a cap C3 hv hr hcp hcap _ _ (fun _ _ => rfl)) (fun _ _ => ⟨rfl, rfl⟩) (fun _ => ⟨rfl, rfl⟩) false trivial (sub_cons rfl (sub_cons rfl (sub_cons rfl (sub_cons rfl sub_nil)))) ?_ ?_ ?_ (fun _ _ _ h => h.elim)
  · intro D1 l1 rec1 k x d hx1 hp1
    refine T_sub [(4, .int .u32 0), (5, .pointer (some ⟨R1, 0, none⟩)), (6, .pointer (some ⟨B2, 0, none⟩)), (14, .func (.func 40) #[] #[.pointer (some ⟨C3, 0, none⟩)]), (15, .int .u8 ((x).toNat : Int))] [(801, .blk D1 (.deferred (some []))), (802, .blk l1 (.loop rec1)), (903, .blk C3 (.cells #[.slice a rows.length cap] 43)), (1, .blk B2 (.cells #[.func (.func 35) #[.pointer (some ⟨R1, 0, none⟩)] #[]] 78)), (902, .blk R1 (.cells #[.pointer (some ⟨T1, 0, none⟩), .int .u32 ((regL (~~~s) ((rows.flatMap RowV.l).take k)).toNat : Int)] 77)), (900, .blk T1 (.cells (tbS d) 74))] (sub_cons rfl (sub_cons rfl (sub_cons rfl (sub_cons rfl (sub_cons rfl sub_nil))))) (sub_cons rfl (sub_cons rfl (sub_cons rfl (sub_cons rfl (sub_cons rfl (sub_cons rfl sub_nil)))))) ?_
    refine T_region ?_
    refine TL_q (.int .u8 ((x).toNat : Int)) (fun _ _ hρ _ => r_assign (hρ _ _ rfl)) rfl rfl rfl (w_n rfl) ?_
    refine TL_nil ?_
    exact p_at () trivial (sub_cons rfl (sub_cons rfl (sub_cons rfl (sub_cons rfl (sub_cons rfl sub_nil))))) (sub_cons rfl (sub_cons rfl (sub_cons rfl (sub_cons rfl (sub_cons rfl (sub_cons rfl sub_nil))))))
  · intro D1 l1 rec1 k x d hx1 hp1
    show T _ _ _ [(4, .int .u32 0), (5, .pointer (some ⟨R1, 0, none⟩)), (6, .pointer (some ⟨B2, 0, none⟩)), (14, .func (.func 40) #[] #[.pointer (some ⟨C3, 0, none⟩)]), (7, .int .u8 ((x).toNat : Int))] [(801, .blk D1 (.deferred (some []))), (802, .blk l1 (.loop { rec1 with state := .busy })), (903, .blk C3 (.cells #[.slice a rows.length cap] 43)), (1, .blk B2 (.cells #[.func (.func 35) #[.pointer (some ⟨R1, 0, none⟩)] #[]] 78)), (902, .blk R1 (.cells #[.pointer (some ⟨T1, 0, none⟩), .int .u32 ((regL (~~~s) ((rows.flatMap RowV.l).take k)).toNat : Int)] 77)), (900, .blk T1 (.cells (tbS d) 74))]
    refine T_block ?_
    refine T_region ?_
    refine TL_q (.func (.func 35) #[.pointer (some ⟨R1, 0, none⟩)] #[]) (fun _ _ hρ hm => r_load ag78 (hρ _ _ rfl) (hm.at 1 rfl) rfl) rfl rfl rfl (w_n rfl) ?_
    refine TL_q (.int .u8 ((x).toNat : Int)) (fun _ _ hρ _ => r_move (hρ _ _ rfl)) rfl rfl rfl (w_n rfl) ?_
    refine TL_callH _ _ _ (fun _ _ hρ _ => r_call (args := [.int .u8 ((x).toNat : Int)]) (enters_of Try.func35 (by kernel_rfl) rfl) (hρ _ _ rfl) ((cons2 (hρ _ _ rfl) rfl)) rfl) (fun w hm => feed_ht _ _ T1 R1 (regL (~~~s) ((rows.flatMap RowV.l).take k)) x d rfl rfl rfl w hm) rfl rfl rfl (w_n rfl) ?_
    intro _ _
    refine TL_nil ?_
    refine p_blk_n ?_
    rw [reg_snoc _ hx1]
    exact p_round_n true trivial (sub_cons rfl (sub_cons rfl (sub_cons rfl (sub_cons rfl (sub_cons rfl (sub_cons rfl sub_nil))))))
  · intro D1 d hp1
    refine p_sub [(4, .int .u32 0), (5, .pointer (some ⟨R1, 0, none⟩)), (6, .pointer (some ⟨B2, 0, none⟩)), (14, .func (.func 40) #[] #[.pointer (some ⟨C3, 0, none⟩)])] [(801, .blk D1 (.deferred (some []))), (903, .blk C3 (.cells #[.slice a rows.length cap] 43)), (1, .blk B2 (.cells #[.func (.func 35) #[.pointer (some ⟨R1, 0, none⟩)] #[]] 78)), (902, .blk R1 (.cells #[.pointer (some ⟨T1, 0, none⟩), .int .u32 ((regL (~~~s) ((rows.flatMap RowV.l).take (rows.flatMap RowV.l).length)).toNat : Int)] 77)), (900, .blk T1 (.cells (tbS d) 74))] (sub_cons rfl (sub_cons rfl (sub_cons rfl (sub_cons rfl sub_nil)))) (sub_cons rfl (sub_cons rfl (sub_cons rfl (sub_cons rfl (sub_cons rfl sub_nil))))) ?_
    refine p_blk_n ?_
    refine p_seq ?_
    refine T_seq (T_region ?_)
    refine TL_q (.pointer (some ⟨R1, 0, none⟩)) (fun _ _ hρ _ => r_move (hρ _ _ rfl)) rfl rfl rfl (w_n rfl) ?_
    refine TL_q (.pointer (some ⟨R1, 0, none⟩)) (fun _ _ hρ _ => r_nilCheck (hρ _ _ rfl) rfl) rfl rfl rfl (w_n rfl) ?_
    refine TL_q (.pointer (some ⟨R1, 1, none⟩)) (fun _ _ hρ _ => r_fieldAddr fl77_1 sz24 (hρ _ _ rfl)) rfl rfl rfl (w_n rfl) ?_
    refine TL_q (.int .u32 ((regL (~~~s) ((rows.flatMap RowV.l).take (rows.flatMap RowV.l).length)).toNat : Int)) (fun _ _ hρ hm => r_load ag24 (hρ _ _ rfl) (hm.at 902 rfl) rfl) rfl rfl rfl (w_n rfl) ?_
    refine TL_q (.int .u32 ((~~~(regL (~~~s) ((rows.flatMap RowV.l).take (rows.flatMap RowV.l).length))).toNat : Int)) (fun _ _ hρ _ => r_notW (k := .u32) (a := (regL (~~~s) ((rows.flatMap RowV.l).take (rows.flatMap RowV.l).length))) rfl (hρ _ _ rfl)) rfl rfl rfl (w_n rfl) ?_
    refine TL_q (.int .u32 ((~~~(regL (~~~s) ((rows.flatMap RowV.l).take (rows.flatMap RowV.l).length))).toNat : Int)) (fun _ _ hρ _ => r_assign (hρ _ _ rfl)) rfl rfl rfl (w_n rfl) ?_
    refine TL_seq ?_
    refine T_ret' ?_
    refine ret_of1 801 D1 rfl rfl (.int .u32 ((~~~(regL (~~~s) ((rows.flatMap RowV.l).take (rows.flatMap RowV.l).length))).toNat : Int)) (fun tmps w hk hm => res1 rfl (res_tmp (hk 4 _ rfl))) (fun w hm => ?_)
    refine ⟨?_, hm.ext⟩
    rw [List.take_length]; rfl

theorem sum_c (rows : List RowV) (a : Option Addr) (cap : Nat) (w : World) (hv : SliceAt w a cap 1 RowV.cells rows) (hr : ∀ r ∈ rows, r.okR w) (hcp : ∀ r ∈ rows, r.cap ≤ Go.maxLen) (hcap : cap ≤ Go.maxLen) : Calls Try.prog 20 #[.slice a rows.length cap] w fun e w' => e = .returned (.int .u32 ((sumC 0#32 (rows.flatMap RowV.l)).toNat : Int)) ∧ Below w.heap.size w w' := by
  refine calls_of_T (l := [.slice a rows.length cap]) 5 Try.func20 rfl rfl rfl ?_
  show T _ _ _ [(0, .slice a rows.length cap)] []
  refine T_seq (T_region ?_)
  refine TL_q (.int .u32 0) (fun _ _ hρ _ => r_assign (hρ _ _ rfl)) rfl rfl rfl (w_n rfl) ?_
  refine TL_seq ?_
  refine T_seq (T_region ?_)
  refine TL_q (.slice a rows.length cap) (fun _ _ hρ _ => r_move (hρ _ _ rfl)) rfl rfl rfl (w_n rfl) ?_
  refine TL_call (.int .u32 ((sumC (0#32) (rows.flatMap RowV.l)).toNat : Int)) (fun _ _ hρ _ => r_call (args := [.int .u32 0, .slice a rows.length cap]) (enters_of Try.func34 (by kernel_rfl) rfl) (hρ _ _ rfl) ((cons2 (hρ _ _ rfl) (cons2 (hρ _ _ rfl) rfl))) rfl) (fun w hm => more_c (0#32) rows a cap w (hv.keep hm.ext) (fun r h => (hr r h).keep hm.ext) hcp hcap) rfl rfl rfl (w_n rfl) ?_
  refine TL_q (.int .u32 ((sumC (0#32) (rows.flatMap RowV.l)).toNat : Int)) (fun _ _ hρ _ => r_assign (hρ _ _ rfl)) rfl rfl rfl (w_n rfl) ?_
  refine TL_seq ?_
  refine T_ret' ?_
  refine ret_of rfl (.int .u32 ((sumC (0#32) (rows.flatMap RowV.l)).toNat : Int)) (fun tmps w hk hm => res1 rfl (res_tmp (hk 2 _ rfl))) (fun w hm => ?_)
  exact ⟨rfl, hm.ext⟩

theorem moreB_c (s : Wd) (l : List By) (a : Option Addr) (cap : Nat) (w : World) (hv : SliceAt w a cap 1 byc l) (hcap : cap ≤ Go.maxLen) : Calls Try.prog 22 #[.int .u32 (s.toNat : Int), .slice a l.length cap] w fun e w' => e = .returned (.int .u32 ((sumC s l).toNat : Int)) ∧ Below w.heap.size w w' := by
  refine calls_of_T (l := [.int .u32 ((s).toNat : Int), .slice a l.length cap]) 9 Try.func22 rfl rfl rfl ?_
  show T _ _ _ [(0, .int .u32 ((s).toNat : Int)), (1, .slice a l.length cap)] []
  refine T_seq (T_region ?_)
  refine TL_q (.int .u32 0) (fun _ _ hρ _ => r_assign (hρ _ _ rfl)) rfl rfl rfl (w_n rfl) ?_
  refine TL_seq ?_
  refine T_seq (T_region ?_)
  refine TL_q (.int .u32 ((s).toNat : Int)) (fun _ _ hρ _ => r_move (hρ _ _ rfl)) rfl rfl rfl (w_n rfl) ?_
  refine TL_q (.slice a l.length cap) (fun _ _ hρ _ => r_move (hρ _ _ rfl)) rfl rfl rfl (w_n rfl) ?_
  refine TL_new 1 (.cells #[.slice a l.length cap] 29) (fun B => .slice (some ⟨B, 0, none⟩) 1 1) (fun _ _ hρ _ => r_buildSlice (vs := [(0, .slice a l.length cap)]) (by kernel_rfl) (cons2 (pair2 (hρ _ _ rfl)) rfl)) rfl rfl rfl (w_n rfl) ?_
  intro B1
  refine TL_call (.int .u32 ((sumC s l).toNat : Int)) (fun _ _ hρ _ => r_call (args := [.int .u32 ((s).toNat : Int), .slice (some ⟨B1, 0, none⟩) 1 1]) (enters_of Try.func34 (by kernel_rfl) rfl) (hρ _ _ rfl) ((cons2 (hρ _ _ rfl) (cons2 (hρ _ _ rfl) rfl))) rfl) (fun w hm => (more_c s [⟨a, cap, l⟩] (some ⟨B1, 0, none⟩) 1 w ⟨by simp, (fun e => by cases e), .inr ⟨_, 0, _, _, _, rfl, (hm.at 1 rfl), row_of_take (fun _ => rfl) rfl⟩⟩ (fun r h => by rw [List.mem_singleton.1 h]; exact hv.keep hm.ext) (fun r h => by rw [List.mem_singleton.1 h]; exact hcap) (by decide)).mono fun _ _ h => ⟨h.1.trans (by rw [List.flatMap_cons, List.flatMap_nil, List.append_nil]), h.2⟩) rfl rfl rfl (w_n rfl) ?_
  refine TL_q (.int .u32 ((sumC s l).toNat : Int)) (fun _ _ hρ _ => r_assign (hρ _ _ rfl)) rfl rfl rfl (w_n rfl) ?_
  refine TL_seq ?_
  refine T_ret' ?_
  refine ret_of rfl (.int .u32 ((sumC s l).toNat : Int)) (fun tmps w hk hm => res1 rfl (res_tmp (hk 4 _ rfl))) (fun w hm => ?_)
  exact ⟨rfl, hm.ext⟩

abbrev fourV (x : Wd) : Value := .agg #[.int .u8 ((x.setWidth 8).toNat : Int), .int .u8 (((x >>> 8).setWidth 8).toNat : Int), .int .u8 (((x >>> 16).setWidth 8).toNat : Int), .int .u8 (((x >>> 24).setWidth 8).toNat : Int)]

theorem four_c (x : Wd) (w : World) : Calls Try.prog 26 #[.int .u32 (x.toNat : Int)] w fun e w' => e = .returned (fourV x) ∧ Below w.heap.size w w' := by
  refine calls_of_T (l := [.int .u32 ((x).toNat : Int)]) 15 Try.func26 rfl rfl rfl ?_
  show T _ _ _ [(0, .int .u32 ((x).toNat : Int))] []
  refine T_seq (T_region ?_)
  refine TL_new 1 (.cells #[.int .u8 0, .int .u8 0, .int .u8 0, .int .u8 0] 26) (fun B => .pointer (some ⟨B, 0, none⟩)) (fun _ _ _ _ => r_alloc (v := .agg #[.int .u8 0, .int .u8 0, .int .u8 0, .int .u8 0]) (by kernel_rfl) rfl) rfl rfl rfl (w_n rfl) ?_
  intro B1
  refine TL_seq ?_
  refine T_seq (T_region ?_)
  refine TL_q (.int .u32 ((x).toNat : Int)) (fun _ _ hρ _ => r_move (hρ _ _ rfl)) rfl rfl rfl (w_n rfl) ?_
  refine TL_q (.int .u8 ((x.setWidth 8).toNat : Int)) (fun _ _ hρ _ => r_convB (k := .u32) (k' := .u8) (a := x) un24 io5 rfl (hρ _ _ rfl)) rfl rfl rfl (w_n rfl) ?_
  refine TL_q (.int .u32 ((x).toNat : Int)) (fun _ _ hρ _ => r_move (hρ _ _ rfl)) rfl rfl rfl (w_n rfl) ?_
  refine TL_q (.int .u32 ((x >>> 8).toNat : Int)) (fun _ _ hρ _ => r_shrB (k := .u32) (a := x) (n := 8) (by decide) (hρ _ _ rfl) (hρ _ _ rfl)) rfl rfl rfl (w_n rfl) ?_
  refine TL_q (.int .u8 (((x >>> 8).setWidth 8).toNat : Int)) (fun _ _ hρ _ => r_convB (k := .u32) (k' := .u8) (a := (x >>> 8)) un24 io5 rfl (hρ _ _ rfl)) rfl rfl rfl (w_n rfl) ?_
  refine TL_q (.int .u32 ((x).toNat : Int)) (fun _ _ hρ _ => r_move (hρ _ _ rfl)) rfl rfl rfl (w_n rfl) ?_
  refine TL_q (.int .u32 ((x >>> 16).toNat : Int)) (fun _ _ hρ _ => r_shrB (k := .u32) (a := x) (n := 16) (by decide) (hρ _ _ rfl) (hρ _ _ rfl)) rfl rfl rfl (w_n rfl) ?_
  refine TL_q (.int .u8 (((x >>> 16).setWidth 8).toNat : Int)) (fun _ _ hρ _ => r_convB (k := .u32) (k' := .u8) (a := (x >>> 16)) un24 io5 rfl (hρ _ _ rfl)) rfl rfl rfl (w_n rfl) ?_
  refine TL_q (.int .u32 ((x).toNat : Int)) (fun _ _ hρ _ => r_move (hρ _ _ rfl)) rfl rfl rfl (w_n rfl) ?_
  refine TL_q (.int .u32 ((x >>> 24).toNat : Int)) (fun _ _ hρ _ => r_shrB (k := .u32) (a := x) (n := 24) (by decide) (hρ _ _ rfl) (hρ _ _ rfl)) rfl rfl rfl (w_n rfl) ?_
  refine TL_q (.int .u8 (((x >>> 24).setWidth 8).toNat : Int)) (fun _ _ hρ _ => r_convB (k := .u32) (k' := .u8) (a := (x >>> 24)) un24 io5 rfl (hρ _ _ rfl)) rfl rfl rfl (w_n rfl) ?_
  refine TL_q (.agg #[.int .u8 ((x.setWidth 8).toNat : Int), .int .u8 (((x >>> 8).setWidth 8).toNat : Int), .int .u8 (((x >>> 16).setWidth 8).toNat : Int), .int .u8 (((x >>> 24).setWidth 8).toNat : Int)]) (fun _ _ hρ _ => r_build (vs := [(0, .int .u8 ((x.setWidth 8).toNat : Int)), (1, .int .u8 (((x >>> 8).setWidth 8).toNat : Int)), (2, .int .u8 (((x >>> 16).setWidth 8).toNat : Int)), (3, .int .u8 (((x >>> 24).setWidth 8).toNat : Int))]) (by kernel_rfl) (cons2 (pair2 (hρ _ _ rfl)) (cons2 (pair2 (hρ _ _ rfl)) (cons2 (pair2 (hρ _ _ rfl)) (cons2 (pair2 (hρ _ _ rfl)) rfl))))) rfl rfl rfl (w_n rfl) ?_
  refine TL_store 1 (.cells #[.int .u8 ((x.setWidth 8).toNat : Int), .int .u8 (((x >>> 8).setWidth 8).toNat : Int), .int .u8 (((x >>> 16).setWidth 8).toNat : Int), .int .u8 (((x >>> 24).setWidth 8).toNat : Int)] 26) rfl (fun _ _ hρ hm => r_store sz26 (hρ _ _ rfl) (hρ _ _ rfl) (hm.at 1 rfl) rfl rfl rfl rfl) rfl rfl (w_n rfl) ?_
  refine TL_seq ?_
  refine T_ret' ?_
  refine ret_of rfl (.agg #[.int .u8 ((x.setWidth 8).toNat : Int), .int .u8 (((x >>> 8).setWidth 8).toNat : Int), .int .u8 (((x >>> 16).setWidth 8).toNat : Int), .int .u8 (((x >>> 24).setWidth 8).toNat : Int)]) (fun tmps w hk hm => res1 rfl (res_cell (hk 2 _ rfl) (run_loadVar_agg ag26 sz26 (hm.at 1 rfl) (Nat.le_of_ble_eq_true rfl) rfl))) (fun w hm => ?_)
  exact ⟨rfl, hm.ext⟩

theorem shr31 (x : Wd) : x >>> 31 = 1#32 ↔ x.getLsbD 31 = true := by
  constructor
  · intro h
    have := congrArg (fun y => BitVec.getLsbD y 0) h
    simp only [BitVec.getLsbD_ushiftRight] at this
    simpa using this
  · intro h
    apply BitVec.eq_of_getLsbD_eq
    intro i hi
    rw [BitVec.getLsbD_ushiftRight, BitVec.getLsbD_one]
    by_cases h0 : i = 0
    · subst h0; simp [h]
    · rw [BitVec.getLsbD_of_ge x _ (by omega)]; simp [h0]
theorem back_t {x : Wd} {k : Nat} (h : (backN k x) >>> 31 = 1#32) : backN (k + 1) x = ((backN k x ^^^ 3988292384#32) <<< 1) ||| 1#32 := if_pos ((shr31 _).1 h)
theorem back_f {x : Wd} {k : Nat} (h : ¬ (backN k x) >>> 31 = 1#32) : backN (k + 1) x = (backN k x) <<< 1 := if_neg (fun e => h ((shr31 _).2 e))

theorem tail_c (s t : Wd) (w : World) : Calls Try.prog 10 #[.int .u32 (s.toNat : Int), .int .u32 (t.toNat : Int)] w fun e w' => e = .returned (fourV (tailW s t)) ∧ Below w.heap.size w w' := by
  refine calls_of_T (l := [.int .u32 ((s).toNat : Int), .int .u32 ((t).toNat : Int)]) 25 Try.func10 rfl rfl rfl ?_
  show T _ _ _ [(0, .int .u32 ((s).toNat : Int)), (1, .int .u32 ((t).toNat : Int))] []
  refine T_seq (T_region ?_)
  refine TL_new 1 (.cells #[.int .u8 0, .int .u8 0, .int .u8 0, .int .u8 0] 26) (fun B => .pointer (some ⟨B, 0, none⟩)) (fun _ _ _ _ => r_alloc (v := .agg #[.int .u8 0, .int .u8 0, .int .u8 0, .int .u8 0]) (by kernel_rfl) rfl) rfl rfl rfl (w_n rfl) ?_
  intro B1
  refine TL_seq ?_
  refine T_seq (T_region ?_)
  refine TL_q (.int .u32 ((t).toNat : Int)) (fun _ _ hρ _ => r_move (hρ _ _ rfl)) rfl rfl rfl (w_n rfl) ?_
  refine TL_q (.int .u32 ((~~~t).toNat : Int)) (fun _ _ hρ _ => r_notW (k := .u32) (a := t) rfl (hρ _ _ rfl)) rfl rfl rfl (w_n rfl) ?_
  refine TL_q (.int .u32 ((~~~t).toNat : Int)) (fun _ _ hρ _ => r_assign (hρ _ _ rfl)) rfl rfl rfl (w_n rfl) ?_
  refine TL_seq ?_
  refine T_seq ?_
  refine T_seq (T_region ?_)
  refine TL_q (.int .i64 0) (fun _ _ hρ _ => r_move (hρ _ _ rfl)) rfl rfl rfl (w_n rfl) ?_
  refine TL_seq ?_
  refine T_block ?_
  refine T_loop (ι := Nat) (fun (k : Nat) => k ≤ 32) (fun (k : Nat) => [(0, .int .u32 ((s).toNat : Int)), (4, .pointer (some ⟨B1, 0, none⟩)), (8, .int .i64 ((k : Nat) : Int)), (5, .int .u32 ((backN k (~~~t)).toNat : Int))]) (fun (k : Nat) => [(1, .blk B1 (.cells #[.int .u8 0, .int .u8 0, .int .u8 0, .int .u8 0] 26))]) (fun (k : Nat) => 32 - k) 0 (Nat.zero_le _) (sub_cons rfl (sub_cons rfl (sub_cons rfl (sub_cons rfl sub_nil)))) (sub_cons rfl sub_nil) ?_
  rintro k hp
  show T _ _ _ [(0, .int .u32 ((s).toNat : Int)), (4, .pointer (some ⟨B1, 0, none⟩)), (8, .int .i64 ((k : Nat) : Int)), (5, .int .u32 ((backN k (~~~t)).toNat : Int))] [(1, .blk B1 (.cells #[.int .u8 0, .int .u8 0, .int .u8 0, .int .u8 0] 26))]
  refine T_seq (T_region ?_)
  refine TL_q (.bool (decide (((k : Nat) : Int) < 32))) (fun _ _ hρ _ => r_lss (hρ _ _ rfl) (hρ _ _ rfl)) rfl rfl rfl (w_n rfl) ?_
  refine TL_seq ?_
  refine T_seq ?_
  refine T_cond rfl (fun h1 => ?_) (fun h1 => ?_)
  · replace h1 := of_decide_eq_true h1
    refine T_skip' ?_
    refine p_seq ?_
    refine T_seq ?_
    refine T_block ?_
    refine T_seq (T_region ?_)
    refine TL_q (.int .u32 ((backN k (~~~t)).toNat : Int)) (fun _ _ hρ _ => r_move (hρ _ _ rfl)) rfl rfl rfl (w_n rfl) ?_
    refine TL_q (.int .u32 (((backN k (~~~t)) >>> 31).toNat : Int)) (fun _ _ hρ _ => r_shrB (k := .u32) (a := (backN k (~~~t))) (n := 31) (by decide) (hρ _ _ rfl) (hρ _ _ rfl)) rfl rfl rfl (w_n rfl) ?_
    refine TL_q (.bool (decide (((backN k (~~~t)) >>> 31) = (1#32)))) (fun _ _ hρ _ => r_as (r_eql (hρ _ _ rfl) (hρ _ _ rfl)) (bool_as (bv_dec ((backN k (~~~t)) >>> 31) (1#32)))) rfl rfl rfl (w_n rfl) ?_
    refine TL_seq ?_
    refine T_cond rfl (fun h2 => ?_) (fun h2 => ?_)
    · replace h2 := of_decide_eq_true h2
      refine T_region ?_
      refine TL_q (.int .u32 ((backN k (~~~t)).toNat : Int)) (fun _ _ hρ _ => r_move (hρ _ _ rfl)) rfl rfl rfl (w_n rfl) ?_
      refine TL_q (.int .u32 (((backN k (~~~t)) ^^^ (3988292384#32)).toNat : Int)) (fun _ _ hρ _ => r_xorB (k := .u32) (a := (backN k (~~~t))) (b := (3988292384#32)) rfl (hρ _ _ rfl) (hρ _ _ rfl)) rfl rfl rfl (w_n rfl) ?_
      refine TL_q (.int .u32 ((((backN k (~~~t)) ^^^ (3988292384#32)) <<< 1).toNat : Int)) (fun _ _ hρ _ => r_shlB (k := .u32) (a := ((backN k (~~~t)) ^^^ (3988292384#32))) (n := 1) rfl (by decide) (hρ _ _ rfl) (hρ _ _ rfl)) rfl rfl rfl (w_n rfl) ?_
      refine TL_q (.int .u32 (((((backN k (~~~t)) ^^^ (3988292384#32)) <<< 1) ||| (1#32)).toNat : Int)) (fun _ _ hρ _ => r_orB (k := .u32) (a := (((backN k (~~~t)) ^^^ (3988292384#32)) <<< 1)) (b := (1#32)) rfl (hρ _ _ rfl) (hρ _ _ rfl)) rfl rfl rfl (w_n rfl) ?_
      refine TL_q (.int .u32 (((((backN k (~~~t)) ^^^ (3988292384#32)) <<< 1) ||| (1#32)).toNat : Int)) (fun _ _ hρ _ => r_assign (hρ _ _ rfl)) rfl rfl rfl (w_n rfl) ?_
      refine TL_nil ?_
      refine p_blk_n ?_
      refine p_seq ?_
      refine T_region ?_
      refine TL_q (.int .i64 ((k + 1 : Nat) : Int)) (fun _ _ hρ _ => r_as (r_add (hρ _ _ rfl) (hρ _ _ rfl)) (int_as ((wrap64 (by omega) (by omega)).trans (by omega)))) rfl rfl rfl (w_n rfl) ?_
      refine TL_q (.int .i64 ((k + 1 : Nat) : Int)) (fun _ _ hρ _ => r_move (hρ _ _ rfl)) rfl rfl rfl (w_n rfl) ?_
      refine TL_nil ?_
      exact p_at (k + 1) ⟨by omega, by omega⟩ (sub_cons rfl (sub_cons rfl (sub_cons rfl (sub_cons (congrArg (fun x : Wd => some (Value.int .u32 (x.toNat : Int))) (back_t h2).symm) sub_nil)))) (sub_cons rfl sub_nil)
    · replace h2 := of_decide_eq_false h2
      refine T_region ?_
      refine TL_q (.int .u32 ((backN k (~~~t)).toNat : Int)) (fun _ _ hρ _ => r_move (hρ _ _ rfl)) rfl rfl rfl (w_n rfl) ?_
      refine TL_q (.int .u32 (((backN k (~~~t)) <<< 1).toNat : Int)) (fun _ _ hρ _ => r_shlB (k := .u32) (a := (backN k (~~~t))) (n := 1) rfl (by decide) (hρ _ _ rfl) (hρ _ _ rfl)) rfl rfl rfl (w_n rfl) ?_
      refine TL_q (.int .u32 (((backN k (~~~t)) <<< 1).toNat : Int)) (fun _ _ hρ _ => r_assign (hρ _ _ rfl)) rfl rfl rfl (w_n rfl) ?_
      refine TL_nil ?_
      refine p_blk_n ?_
      refine p_seq ?_
      refine T_region ?_
      refine TL_q (.int .i64 ((k + 1 : Nat) : Int)) (fun _ _ hρ _ => r_as (r_add (hρ _ _ rfl) (hρ _ _ rfl)) (int_as ((wrap64 (by omega) (by omega)).trans (by omega)))) rfl rfl rfl (w_n rfl) ?_
      refine TL_q (.int .i64 ((k + 1 : Nat) : Int)) (fun _ _ hρ _ => r_move (hρ _ _ rfl)) rfl rfl rfl (w_n rfl) ?_
      refine TL_nil ?_
      exact p_at (k + 1) ⟨by omega, by omega⟩ (sub_cons rfl (sub_cons rfl (sub_cons rfl (sub_cons (congrArg (fun x : Wd => some (Value.int .u32 (x.toNat : Int))) (back_f h2).symm) sub_nil)))) (sub_cons rfl sub_nil)
  · replace h1 := of_decide_eq_false h1
    refine T_exit' ?_
    refine p_then_x ?_
    refine p_then_x ?_
    refine p_blk_x ?_
    refine p_seq ?_
    refine T_seq (T_region ?_)
    refine TL_q (.int .u32 ((backN k (~~~t)).toNat : Int)) (fun _ _ hρ _ => r_move (hρ _ _ rfl)) rfl rfl rfl (w_n rfl) ?_
    refine TL_q (.int .u32 ((s).toNat : Int)) (fun _ _ hρ _ => r_move (hρ _ _ rfl)) rfl rfl rfl (w_n rfl) ?_
    refine TL_q (.int .u32 ((~~~s).toNat : Int)) (fun _ _ hρ _ => r_notW (k := .u32) (a := s) rfl (hρ _ _ rfl)) rfl rfl rfl (w_n rfl) ?_
    refine TL_q (.int .u32 (((backN k (~~~t)) ^^^ (~~~s)).toNat : Int)) (fun _ _ hρ _ => r_xorB (k := .u32) (a := (backN k (~~~t))) (b := (~~~s)) rfl (hρ _ _ rfl) (hρ _ _ rfl)) rfl rfl rfl (w_n rfl) ?_
    refine TL_call (.agg #[.int .u8 (((((backN k (~~~t)) ^^^ (~~~s))).setWidth 8).toNat : Int), .int .u8 (((((backN k (~~~t)) ^^^ (~~~s)) >>> 8).setWidth 8).toNat : Int), .int .u8 (((((backN k (~~~t)) ^^^ (~~~s)) >>> 16).setWidth 8).toNat : Int), .int .u8 (((((backN k (~~~t)) ^^^ (~~~s)) >>> 24).setWidth 8).toNat : Int)]) (fun _ _ hρ _ => r_call (args := [.int .u32 (((backN k (~~~t)) ^^^ (~~~s)).toNat : Int)]) (enters_of Try.func26 (by kernel_rfl) rfl) (hρ _ _ rfl) ((cons2 (hρ _ _ rfl) rfl)) rfl) (fun w _ => four_c ((backN k (~~~t)) ^^^ (~~~s)) w) rfl rfl rfl (w_n rfl) ?_
    refine TL_store 1 (.cells #[.int .u8 (((((backN k (~~~t)) ^^^ (~~~s))).setWidth 8).toNat : Int), .int .u8 (((((backN k (~~~t)) ^^^ (~~~s)) >>> 8).setWidth 8).toNat : Int), .int .u8 (((((backN k (~~~t)) ^^^ (~~~s)) >>> 16).setWidth 8).toNat : Int), .int .u8 (((((backN k (~~~t)) ^^^ (~~~s)) >>> 24).setWidth 8).toNat : Int)] 26) rfl (fun _ _ hρ hm => r_store sz26 (hρ _ _ rfl) (hρ _ _ rfl) (hm.at 1 rfl) rfl rfl rfl rfl) rfl rfl (w_n rfl) ?_
    refine TL_seq ?_
    refine T_ret' ?_
    refine ret_of rfl (.agg #[.int .u8 (((((backN k (~~~t)) ^^^ (~~~s))).setWidth 8).toNat : Int), .int .u8 (((((backN k (~~~t)) ^^^ (~~~s)) >>> 8).setWidth 8).toNat : Int), .int .u8 (((((backN k (~~~t)) ^^^ (~~~s)) >>> 16).setWidth 8).toNat : Int), .int .u8 (((((backN k (~~~t)) ^^^ (~~~s)) >>> 24).setWidth 8).toNat : Int)]) (fun tmps w hk hm => res1 rfl (res_cell (hk 4 _ rfl) (run_loadVar_agg ag26 sz26 (hm.at 1 rfl) (Nat.le_of_ble_eq_true rfl) rfl))) (fun w hm => ?_)
    have hk32 : k = 32 := by omega
    subst hk32
    exact ⟨rfl, hm.ext⟩
end Go.Proofs.Ytnjcffhpfmnbfaa
