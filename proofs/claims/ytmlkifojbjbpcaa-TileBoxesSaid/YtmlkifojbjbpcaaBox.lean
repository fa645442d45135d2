/- tile: Box and its reference. Printed by a program of this seat's prover. -/
import Derived.Test.YtmlkifojbjbpcaaCntC
namespace Go.Proofs.Ytmlkifojbjbpcaa
open Go Go.RowKit
set_option maxRecDepth 10000
structure BoxV where
  x : Int
  y : Int
  x2 : Int
  y2 : Int
abbrev BoxV.v (z : BoxV) : Value := .agg #[.int .i64 z.x, .int .i64 z.y, .int .i64 z.x2, .int .i64 z.y2]
abbrev zeroB : BoxV := ⟨0, 0, 0, 0⟩
/-- The box so far, told by Box. -/
def boxS (z : BoxV) (x y : Int) : BoxV := ⟨if x < z.x then x else z.x, if y < z.y then y else z.y, if z.x2 < x then x else z.x2, if z.y2 < y then y else z.y2⟩
def boxN (a b : List C4) : Nat → BoxV
  | 0 => ⟨8, 8, -1, -1⟩
  | k + 1 => if get a k = get b k then boxN a b k else boxS (boxN a b k) ((k % 8 : Nat) : Int) ((k / 8 : Nat) : Int)
theorem box_eq {a b : List C4} {px py : Nat} (h : get a (py * 8 + px) = get b (py * 8 + px)) : boxN a b (8 * py + px + 1) = boxN a b (8 * py + px) := by
  rw [Nat.mul_comm] at h
  exact if_pos h
theorem box_ne {a b : List C4} {px py : Nat} (hx : px < 8) (h : ¬ get a (py * 8 + px) = get b (py * 8 + px)) : boxN a b (8 * py + px + 1) = boxS (boxN a b (8 * py + px)) px py := by
  rw [Nat.mul_comm] at h
  refine (if_neg h).trans ?_
  rw [show (8 * py + px) % 8 = px by omega, show (8 * py + px) / 8 = py by omega]
/-- What Box tells. -/
def boxE (a b : List C4) : BoxV := if a = b then zeroB else boxN a b 64
/-- The box so far, told by the reference. -/
def rbS (z : BoxV) (q : Bool) (x y : Int) : BoxV := match q with
  | true => ⟨if x < z.x then x else z.x, z.y, if z.x2 < x then x else z.x2, y⟩
  | false => ⟨if x < x then x else x, y, if x < x then x else x, y⟩
def rsN (a b : List C4) : Nat → Bool
  | 0 => false
  | k + 1 => if get a k = get b k then rsN a b k else true
def rbN (a b : List C4) : Nat → BoxV
  | 0 => zeroB
  | k + 1 => if get a k = get b k then rbN a b k else rbS (rbN a b k) (rsN a b k) ((k % 8 : Nat) : Int) ((k / 8 : Nat) : Int)
theorem rb_eq {a b : List C4} {k : Nat} (h : get a k = get b k) : rbN a b (k + 1) = rbN a b k := if_pos h
theorem rs_eq {a b : List C4} {k : Nat} (h : get a k = get b k) : rsN a b (k + 1) = rsN a b k := if_pos h
theorem rs_ne {a b : List C4} {k : Nat} (h : ¬ get a k = get b k) : rsN a b (k + 1) = true := if_neg h
theorem rb_ne {a b : List C4} {x y : Nat} (hx : x < 8) (h : ¬ get a (8 * y + x) = get b (8 * y + x)) : rbN a b (8 * y + x + 1) = rbS (rbN a b (8 * y + x)) (rsN a b (8 * y + x)) x y := by
  refine (if_neg h).trans ?_
  rw [show (8 * y + x) % 8 = x by omega, show (8 * y + x) / 8 = y by omega]
/-- Both tell the same. -/
theorem box_same (a b : List C4) : ∀ k, k ≤ 64 → (rsN a b k = false ∧ boxN a b k = ⟨8, 8, -1, -1⟩ ∧ rbN a b k = zeroB ∧ ∀ i, i < k → get a i = get b i) ∨
    (rsN a b k = true ∧ boxN a b k = rbN a b k ∧ 0 ≤ (rbN a b k).x ∧ (rbN a b k).x < 8 ∧ 0 ≤ (rbN a b k).x2 ∧ (rbN a b k).x2 < 8 ∧ 0 ≤ (rbN a b k).y ∧ (rbN a b k).y ≤ (rbN a b k).y2 ∧ 8 * (rbN a b k).y2 < k ∧ ∃ i, i < k ∧ ¬ get a i = get b i)
  | 0, _ => .inl ⟨rfl, rfl, rfl, fun i h => by omega⟩
  | k + 1, hk => by
    have ih := box_same a b k (by omega)
    by_cases h : get a k = get b k
    · rw [show rsN a b (k + 1) = rsN a b k from if_pos h, show rbN a b (k + 1) = rbN a b k from if_pos h, show boxN a b (k + 1) = boxN a b k from if_pos h]
      rcases ih with ⟨h1, h2, h3, h4⟩ | ⟨h1, h2, h3, h4, h5, h6, h7, h8, h9, i, hi, hne⟩
      · refine .inl ⟨h1, h2, h3, fun i hi => ?_⟩
        by_cases e : i = k
        · subst e; exact h
        · exact h4 i (by omega)
      · exact .inr ⟨h1, h2, h3, h4, h5, h6, h7, h8, by omega, i, by omega, hne⟩
    · rw [show rsN a b (k + 1) = true from if_neg h, show rbN a b (k + 1) = rbS (rbN a b k) (rsN a b k) ((k % 8 : Nat) : Int) ((k / 8 : Nat) : Int) from if_neg h, show boxN a b (k + 1) = boxS (boxN a b k) ((k % 8 : Nat) : Int) ((k / 8 : Nat) : Int) from if_neg h]
      refine .inr ?_
      rcases ih with ⟨h1, h2, h3, h4⟩ | ⟨h1, h2, h3, h4, h5, h6, h7, h8, h9, i, hi, hne⟩
      · rw [h1, h2]
        simp only [rbS, boxS, ite_self]
        rw [if_pos (by omega), if_pos (by omega), if_pos (by omega), if_pos (by omega)]
        exact ⟨trivial, rfl, by omega, by omega, by omega, by omega, by omega, by omega, by omega, k, by omega, h⟩
      · rw [h1, h2]
        generalize rbN a b k = z at *
        simp only [rbS, boxS]
        rw [if_neg (show ¬ ((k / 8 : Nat) : Int) < z.y by omega), show (if z.y2 < ((k / 8 : Nat) : Int) then ((k / 8 : Nat) : Int) else z.y2) = ((k / 8 : Nat) : Int) by split <;> omega]
        refine ⟨trivial, rfl, ?_, ?_, ?_, ?_, by omega, by omega, by omega, k, by omega, h⟩
        all_goals first | (split <;> omega) | trivial
theorem box_out {a b : List C4} (ha : a.length = 64) (hb : b.length = 64) : boxE a b = rbN a b 64 ∧ rsN a b 64 = !decide (a = b) := by
  unfold boxE
  rcases box_same a b 64 (Nat.le_refl _) with ⟨h1, h2, h3, h4⟩ | ⟨h1, h2, h3, h4, h5, h6, h7, h8, h9, i, hi, hne⟩
  · have e : a = b := by
      refine List.ext_getElem (by omega) fun i hx hy => ?_
      have := h4 i (by omega)
      unfold get at this
      rwa [List.getD_eq_getElem?_getD, List.getD_eq_getElem?_getD, List.getElem?_eq_getElem hx, List.getElem?_eq_getElem hy] at this
    rw [if_pos e, decide_eq_true e]
    exact ⟨h3.symm, h1⟩
  · have e : ¬ a = b := fun e => hne (by rw [e])
    rw [if_neg e, decide_eq_false e]
    exact ⟨h2, h1⟩

theorem eq_til {l m : List C4} (hl : l.length = 64) (hm : m.length = 64) (w : World) : (Op.equal 25 (til l) (til m)).run Try.prog w = .ok (decide (l = m)) w :=
  run_equalLst (il := [(0, .u8), (1, .u8), (2, .u8), (3, .u8)]) ar25 sz23 ag23 (by kernel_rfl) C4.cells_len hl hm (fun _ => rfl) fun x y h => of_decide_eq_true ((eqC x y).symm.trans h)

theorem box_c (a b : List C4) (w : World) (ha : a.length = 64) (hb : b.length = 64) : Calls Try.prog 17 #[til a, til b] w fun e w' => e = .returned (.tuple #[(boxE a b).v, .bool (!decide (a = b))]) ∧ Below w.heap.size w w' := by
  refine calls_of_T (l := [.agg (lst C4.cells a), .agg (lst C4.cells b)]) 47 Try.func17 rfl rfl rfl ?_
  show T _ _ _ [(0, .agg (lst C4.cells a)), (1, .agg (lst C4.cells b))] []
  refine T_seq (T_region ?_)
  refine TL_new 900 (.cells (lst C4.cells a) 25) (fun B => .pointer (some ⟨B, 0, none⟩)) (fun _ _ hρ _ => r_box (hρ _ _ rfl) rfl) rfl rfl rfl (w_n rfl) ?_
  intro B1
  refine TL_new 901 (.cells (lst C4.cells b) 25) (fun B => .pointer (some ⟨B, 0, none⟩)) (fun _ _ hρ _ => r_box (hρ _ _ rfl) rfl) rfl rfl rfl (w_n rfl) ?_
  intro B2
  refine TL_new 1 (.cells #[.int .i64 0, .int .i64 0, .int .i64 0, .int .i64 0] 33) (fun B => .pointer (some ⟨B, 0, none⟩)) (fun _ _ _ _ => r_alloc (v := .agg #[.int .i64 0, .int .i64 0, .int .i64 0, .int .i64 0]) (by kernel_rfl) rfl) rfl rfl rfl (w_n rfl) ?_
  intro B3
  refine TL_q (.bool false) (fun _ _ hρ _ => r_assign (hρ _ _ rfl)) rfl rfl rfl (w_n rfl) ?_
  refine TL_seq ?_
  refine T_seq ?_
  refine T_seq (T_region ?_)
  refine TL_q (.agg (lst C4.cells a)) (fun _ _ hρ hm => r_loadW ag25 sz25 (hρ _ _ rfl) (hm.at 900 rfl) (tsz ha)) rfl rfl rfl (w_n rfl) ?_
  refine TL_q (.agg (lst C4.cells b)) (fun _ _ hρ hm => r_loadW ag25 sz25 (hρ _ _ rfl) (hm.at 901 rfl) (tsz hb)) rfl rfl rfl (w_n rfl) ?_
  refine TL_q (.bool (decide (a = b))) (fun _ w hρ _ => r_as (r_eqlA (by kernel_rfl) (hρ _ _ rfl) (hρ _ _ rfl) (eq_til ha hb w)) (by rfl)) rfl rfl rfl (w_n rfl) ?_
  refine TL_seq ?_
  refine T_cond rfl (fun h1 => ?_) (fun h1 => ?_)
  · replace h1 := of_decide_eq_true h1
    refine T_seq (T_region ?_)
    refine TL_q (.agg #[.int .i64 0, .int .i64 0, .int .i64 0, .int .i64 0]) (fun _ _ _ _ => r_build (vs := []) (by kernel_rfl) rfl) rfl rfl rfl (w_n rfl) ?_
    refine TL_store 1 (.cells #[.int .i64 0, .int .i64 0, .int .i64 0, .int .i64 0] 33) rfl (fun _ _ hρ hm => r_store sz33 (hρ _ _ rfl) (hρ _ _ rfl) (hm.at 1 rfl) rfl rfl rfl rfl) rfl rfl (w_n rfl) ?_
    refine TL_q (.bool false) (fun _ _ hρ _ => r_assign (hρ _ _ rfl)) rfl rfl rfl (w_n rfl) ?_
    refine TL_seq ?_
    refine T_ret' ?_
    refine p_then_r ?_
    refine ret_of rfl (.tuple #[.agg #[.int .i64 0, .int .i64 0, .int .i64 0, .int .i64 0], .bool false]) (fun tmps w hk hm => res2 rfl (res_cell (hk 4 _ rfl) (run_loadVar_agg ag33 sz33 (hm.at 1 rfl) (Nat.le_of_ble_eq_true rfl) rfl)) (res_tmp (hk 5 _ rfl))) (fun w hm => ?_)
    subst h1
    exact ⟨by unfold boxE; rw [if_pos rfl, decide_eq_true rfl]; rfl, hm.ext⟩
  · replace h1 := of_decide_eq_false h1
    refine T_skip' ?_
    refine p_seq ?_
    refine T_seq (T_region ?_)
    refine TL_q (.agg #[.int .i64 8, .int .i64 8, .int .i64 (-1), .int .i64 (-1)]) (fun _ _ hρ _ => r_build (vs := [(0, .int .i64 8), (1, .int .i64 8), (2, .int .i64 (-1)), (3, .int .i64 (-1))]) (by kernel_rfl) (cons2 (pair2 (hρ _ _ rfl)) (cons2 (pair2 (hρ _ _ rfl)) (cons2 (pair2 (hρ _ _ rfl)) (cons2 (pair2 (hρ _ _ rfl)) rfl))))) rfl rfl rfl (w_n rfl) ?_
    refine TL_new 902 (.cells #[.int .i64 0, .int .i64 0, .int .i64 0, .int .i64 0] 33) (fun B => .pointer (some ⟨B, 0, none⟩)) (fun _ _ _ _ => r_alloc (v := .agg #[.int .i64 0, .int .i64 0, .int .i64 0, .int .i64 0]) (by kernel_rfl) rfl) rfl rfl rfl (w_n rfl) ?_
    intro B4
    refine TL_store 902 (.cells #[.int .i64 8, .int .i64 8, .int .i64 (-1), .int .i64 (-1)] 33) rfl (fun _ _ hρ hm => r_store sz33 (hρ _ _ rfl) (hρ _ _ rfl) (hm.at 902 rfl) rfl rfl rfl rfl) rfl rfl (w_n rfl) ?_
    refine TL_seq ?_
    refine T_seq ?_
    refine T_seq (T_region ?_)
    refine TL_call (.func (.func 47) #[] #[]) (fun _ _ hρ _ => r_call (args := []) (enters_of Try.func38 (by kernel_rfl) rfl) (hρ _ _ rfl) (by rfl) rfl) (fun w _ => each_c w) rfl rfl rfl (w_n rfl) ?_
    refine TL_seq ?_
    refine T_block ?_
    refine T_sub [(2, .pointer (some ⟨B1, 0, none⟩)), (3, .pointer (some ⟨B2, 0, none⟩)), (4, .pointer (some ⟨B3, 0, none⟩)), (5, .bool false), (6, .pointer (some ⟨B4, 0, none⟩)), (15, .func (.func 47) #[] #[])] [(900, .blk B1 (.cells (lst C4.cells a) 25)), (901, .blk B2 (.cells (lst C4.cells b) 25)), (1, .blk B3 (.cells #[.int .i64 0, .int .i64 0, .int .i64 0, .int .i64 0] 33)), (902, .blk B4 (.cells #[.int .i64 8, .int .i64 8, .int .i64 (-1), .int .i64 (-1)] 33))] (sub_cons rfl (sub_cons rfl (sub_cons rfl (sub_cons rfl (sub_cons rfl (sub_cons rfl sub_nil)))))) (sub_cons rfl (sub_cons rfl (sub_cons rfl (sub_cons rfl sub_nil)))) ?_
    refine T_range (ι := Unit) (encs := encP) (xs := pts) rfl rfl (enters_of Try.func47 (by kernel_rfl) rfl) (fun _ => rfl) rfl 801 802 rfl (fun (k : Nat) (_u : Unit) => True) (fun (k : Nat) (_u : Unit) => [(900, .blk B1 (.cells (lst C4.cells a) 25)), (901, .blk B2 (.cells (lst C4.cells b) 25)), (1, .blk B3 (.cells #[.int .i64 0, .int .i64 0, .int .i64 0, .int .i64 0] 33)), (902, .blk B4 (.cells #[.int .i64 ((boxN a b k).x), .int .i64 ((boxN a b k).y), .int .i64 ((boxN a b k).x2), .int .i64 ((boxN a b k).y2)] 33))]) (fun _ _ => False) (fun _ => []) (fun x => [(2, .pointer (some ⟨B1, 0, none⟩)), (3, .pointer (some ⟨B2, 0, none⟩)), (4, .pointer (some ⟨B3, 0, none⟩)), (5, .bool false), (6, .pointer (some ⟨B4, 0, none⟩)), (15, .func (.func 47) #[] #[]), (7, .int .i64 x.1), (8, .int .i64 x.2)]) (fun D l rec => each_iter _ _ _) (fun _ _ => ⟨rfl, rfl⟩) (fun _ => ⟨rfl, rfl⟩) () trivial (sub_cons rfl (sub_cons rfl (sub_cons rfl (sub_cons rfl sub_nil)))) ?_ ?_ ?_ (fun _ _ _ h => h.elim)
    · intro D1 l1 rec1 k x _u hx1 hp1
      refine T_sub [(2, .pointer (some ⟨B1, 0, none⟩)), (3, .pointer (some ⟨B2, 0, none⟩)), (4, .pointer (some ⟨B3, 0, none⟩)), (5, .bool false), (6, .pointer (some ⟨B4, 0, none⟩)), (15, .func (.func 47) #[] #[]), (16, .int .i64 x.1), (17, .int .i64 x.2)] [(801, .blk D1 (.deferred (some []))), (802, .blk l1 (.loop rec1)), (900, .blk B1 (.cells (lst C4.cells a) 25)), (901, .blk B2 (.cells (lst C4.cells b) 25)), (1, .blk B3 (.cells #[.int .i64 0, .int .i64 0, .int .i64 0, .int .i64 0] 33)), (902, .blk B4 (.cells #[.int .i64 ((boxN a b k).x), .int .i64 ((boxN a b k).y), .int .i64 ((boxN a b k).x2), .int .i64 ((boxN a b k).y2)] 33))] (sub_cons rfl (sub_cons rfl (sub_cons rfl (sub_cons rfl (sub_cons rfl (sub_cons rfl (sub_cons rfl (sub_cons rfl sub_nil)))))))) (sub_cons rfl (sub_cons rfl (sub_cons rfl (sub_cons rfl (sub_cons rfl (sub_cons rfl sub_nil)))))) ?_
      refine T_seq (T_region ?_)
      refine TL_q (.int .i64 x.1) (fun _ _ hρ _ => r_assign (hρ _ _ rfl)) rfl rfl rfl (w_n rfl) ?_
      refine TL_seq ?_
      refine T_region ?_
      refine TL_q (.int .i64 x.2) (fun _ _ hρ _ => r_assign (hρ _ _ rfl)) rfl rfl rfl (w_n rfl) ?_
      refine TL_nil ?_
      exact p_at () trivial (sub_cons rfl (sub_cons rfl (sub_cons rfl (sub_cons rfl (sub_cons rfl (sub_cons rfl (sub_cons rfl (sub_cons rfl sub_nil)))))))) (sub_cons rfl (sub_cons rfl (sub_cons rfl (sub_cons rfl (sub_cons rfl (sub_cons rfl sub_nil))))))
    · intro D1 l1 rec1 k x _u hx1 hp1
      show T _ _ _ [(2, .pointer (some ⟨B1, 0, none⟩)), (3, .pointer (some ⟨B2, 0, none⟩)), (4, .pointer (some ⟨B3, 0, none⟩)), (5, .bool false), (6, .pointer (some ⟨B4, 0, none⟩)), (15, .func (.func 47) #[] #[]), (7, .int .i64 x.1), (8, .int .i64 x.2)] [(801, .blk D1 (.deferred (some []))), (802, .blk l1 (.loop { rec1 with state := .busy })), (900, .blk B1 (.cells (lst C4.cells a) 25)), (901, .blk B2 (.cells (lst C4.cells b) 25)), (1, .blk B3 (.cells #[.int .i64 0, .int .i64 0, .int .i64 0, .int .i64 0] 33)), (902, .blk B4 (.cells #[.int .i64 ((boxN a b k).x), .int .i64 ((boxN a b k).y), .int .i64 ((boxN a b k).x2), .int .i64 ((boxN a b k).y2)] 33))]
      obtain ⟨px, py, rfl, hpx, hpy, rfl⟩ := pts_nat hx1
      show T _ _ _ [(2, .pointer (some ⟨B1, 0, none⟩)), (3, .pointer (some ⟨B2, 0, none⟩)), (4, .pointer (some ⟨B3, 0, none⟩)), (5, .bool false), (6, .pointer (some ⟨B4, 0, none⟩)), (15, .func (.func 47) #[] #[]), (7, .int .i64 ((px : Nat) : Int)), (8, .int .i64 ((py : Nat) : Int))] [(801, .blk D1 (.deferred (some []))), (802, .blk l1 (.loop { rec1 with state := .busy })), (900, .blk B1 (.cells (lst C4.cells a) 25)), (901, .blk B2 (.cells (lst C4.cells b) 25)), (1, .blk B3 (.cells #[.int .i64 0, .int .i64 0, .int .i64 0, .int .i64 0] 33)), (902, .blk B4 (.cells #[.int .i64 ((boxN a b (8 * py + px)).x), .int .i64 ((boxN a b (8 * py + px)).y), .int .i64 ((boxN a b (8 * py + px)).x2), .int .i64 ((boxN a b (8 * py + px)).y2)] 33))]
      refine T_block ?_
      refine T_seq (T_region ?_)
      refine TL_q (.int .i64 ((py : Nat) : Int)) (fun _ _ hρ _ => r_move (hρ _ _ rfl)) rfl rfl rfl (w_n rfl) ?_
      refine TL_q (.int .i64 ((py * 8 : Nat) : Int)) (fun _ _ hρ _ => r_as (r_mul (hρ _ _ rfl) (hρ _ _ rfl)) (int_as ((wrap64 (by omega) (by omega)).trans (by omega)))) rfl rfl rfl (w_n rfl) ?_
      refine TL_q (.int .i64 ((px : Nat) : Int)) (fun _ _ hρ _ => r_move (hρ _ _ rfl)) rfl rfl rfl (w_n rfl) ?_
      refine TL_q (.int .i64 ((py * 8 + px : Nat) : Int)) (fun _ _ hρ _ => r_as (r_add (hρ _ _ rfl) (hρ _ _ rfl)) (int_as ((wrap64 (by omega) (by omega)).trans (by omega)))) rfl rfl rfl (w_n rfl) ?_
      refine TL_q (.int .i64 ((py * 8 + px : Nat) : Int)) (fun _ _ hρ _ => r_assign (hρ _ _ rfl)) rfl rfl rfl (w_n rfl) ?_
      refine TL_seq ?_
      refine T_seq (T_draw (V := [(0, .int .i64 ((py * 8 + px : Nat) : Int)), (1, .pointer (some ⟨B1, 0 + (py * 8 + px) * 4, none⟩)), (2, .agg #[.int .u8 ((get a (py * 8 + px)).r), .int .u8 ((get a (py * 8 + px)).g), .int .u8 ((get a (py * 8 + px)).b), .int .u8 ((get a (py * 8 + px)).a)]), (3, .int .i64 ((py * 8 + px : Nat) : Int)), (4, .pointer (some ⟨B2, 0 + (py * 8 + px) * 4, none⟩)), (5, .agg #[.int .u8 ((get b (py * 8 + px)).r), .int .u8 ((get b (py * 8 + px)).g), .int .u8 ((get b (py * 8 + px)).b), .int .u8 ((get b (py * 8 + px)).a)]), (6, .bool (!decide ((get a (py * 8 + px)) = (get b (py * 8 + px)))))]) [0, 1, 3, 0, 8, 24, 63] [[(9, none)], [(2, none), (22, some 0)], [(23, some 1)], [(9, none)], [(3, none), (25, some 3)], [(26, some 4)], [(24, some 2), (27, some 5)]] 0 mixed (by kernel_rfl) ?_)
      refine G_last [0, 1, 2, 3, 4, 5, 6] [(4, .pointer (some ⟨B3, 0, none⟩)), (5, .bool false), (6, .pointer (some ⟨B4, 0, none⟩)), (7, .int .i64 ((px : Nat) : Int)), (8, .int .i64 ((py : Nat) : Int)), (28, .bool (!decide ((get a (py * 8 + px)) = (get b (py * 8 + px)))))] (by kernel_rfl) (allM (all_cons (q_run (.int .i64 ((py * 8 + px : Nat) : Int)) rfl rfl (wv_n rfl) rfl (fun _ _ hρ _ => r_move (hρ _ _ rfl))) (all_cons (q_run (.pointer (some ⟨B1, 0 + (py * 8 + px) * 4, none⟩)) rfl rfl (wv_n rfl) rfl (fun _ _ hρ _ => r_indexAddrA (i := py * 8 + px) ar25 sz23 (hρ _ _ rfl) (hρ _ _ rfl) (by omega))) (all_cons (q_run (.agg #[.int .u8 ((get a (py * 8 + px)).r), .int .u8 ((get a (py * 8 + px)).g), .int .u8 ((get a (py * 8 + px)).b), .int .u8 ((get a (py * 8 + px)).a)]) rfl rfl (wv_n rfl) rfl (fun _ _ hρ hm => r_loadRow (f := C4.cells) (u := (get a (py * 8 + px))) ag23 sz23 (hρ _ _ rfl) (hm.at 900 rfl) (row_lst C4.cells_len _) (get_some ha (by omega)))) (all_cons (q_run (.int .i64 ((py * 8 + px : Nat) : Int)) rfl rfl (wv_n rfl) rfl (fun _ _ hρ _ => r_move (hρ _ _ rfl))) (all_cons (q_run (.pointer (some ⟨B2, 0 + (py * 8 + px) * 4, none⟩)) rfl rfl (wv_n rfl) rfl (fun _ _ hρ _ => r_indexAddrA (i := py * 8 + px) ar25 sz23 (hρ _ _ rfl) (hρ _ _ rfl) (by omega))) (all_cons (q_run (.agg #[.int .u8 ((get b (py * 8 + px)).r), .int .u8 ((get b (py * 8 + px)).g), .int .u8 ((get b (py * 8 + px)).b), .int .u8 ((get b (py * 8 + px)).a)]) rfl rfl (wv_n rfl) rfl (fun _ _ hρ hm => r_loadRow (f := C4.cells) (u := (get b (py * 8 + px))) ag23 sz23 (hρ _ _ rfl) (hm.at 901 rfl) (row_lst C4.cells_len _) (get_some hb (by omega)))) (all_cons (q_run (.bool (!decide ((get a (py * 8 + px)) = (get b (py * 8 + px))))) rfl rfl (wv_n rfl) rfl (fun _ _ hρ _ => r_as (r_neqA (by kernel_rfl) (hρ _ _ rfl) (hρ _ _ rfl) (run_equalI (l := [(0, .u8), (1, .u8), (2, .u8), (3, .u8)]) (by kernel_rfl) rfl rfl)) (bool_as (congrArg (fun b => !b) (eqC (get a (py * 8 + px)) (get b (py * 8 + px))))))) all_nil)))))))) (end_old rfl rfl (end_old rfl rfl (end_old rfl rfl (end_old rfl rfl (end_old rfl rfl (end_new 6 rfl rfl end_nil)))))) ?_
      refine T_cond rfl (fun h2 => ?_) (fun h2 => ?_)
      · replace h2 := of_decide_eq_false (bnot_t h2)
        refine T_region ?_
        refine TL_q (.pointer (some ⟨B4, 0, none⟩)) (fun _ _ hρ _ => r_fieldAddr fl33_0 sz3 (hρ _ _ rfl)) rfl rfl rfl (w_n rfl) ?_
        refine TL_q (.int .i64 ((boxN a b (8 * py + px)).x)) (fun _ _ hρ hm => r_load ag3 (hρ _ _ rfl) (hm.at 902 rfl) rfl) rfl rfl rfl (w_n rfl) ?_
        refine TL_q (.int .i64 ((px : Nat) : Int)) (fun _ _ hρ _ => r_move (hρ _ _ rfl)) rfl rfl rfl (w_n rfl) ?_
        refine TL_q (.int .i64 (if ((px : Nat) : Int) < (boxN a b (8 * py + px)).x then ((px : Nat) : Int) else (boxN a b (8 * py + px)).x)) (fun _ _ hρ _ => r_min (hρ _ _ rfl) (hρ _ _ rfl)) rfl rfl rfl (w_n rfl) ?_
        refine TL_q (.pointer (some ⟨B4, 1, none⟩)) (fun _ _ hρ _ => r_fieldAddr fl33_1 sz3 (hρ _ _ rfl)) rfl rfl rfl (w_n rfl) ?_
        refine TL_q (.int .i64 ((boxN a b (8 * py + px)).y)) (fun _ _ hρ hm => r_load ag3 (hρ _ _ rfl) (hm.at 902 rfl) rfl) rfl rfl rfl (w_n rfl) ?_
        refine TL_q (.int .i64 ((py : Nat) : Int)) (fun _ _ hρ _ => r_move (hρ _ _ rfl)) rfl rfl rfl (w_n rfl) ?_
        refine TL_q (.int .i64 (if ((py : Nat) : Int) < (boxN a b (8 * py + px)).y then ((py : Nat) : Int) else (boxN a b (8 * py + px)).y)) (fun _ _ hρ _ => r_min (hρ _ _ rfl) (hρ _ _ rfl)) rfl rfl rfl (w_n rfl) ?_
        refine TL_q (.pointer (some ⟨B4, 2, none⟩)) (fun _ _ hρ _ => r_fieldAddr fl33_2 sz3 (hρ _ _ rfl)) rfl rfl rfl (w_n rfl) ?_
        refine TL_q (.int .i64 ((boxN a b (8 * py + px)).x2)) (fun _ _ hρ hm => r_load ag3 (hρ _ _ rfl) (hm.at 902 rfl) rfl) rfl rfl rfl (w_n rfl) ?_
        refine TL_q (.int .i64 ((px : Nat) : Int)) (fun _ _ hρ _ => r_move (hρ _ _ rfl)) rfl rfl rfl (w_n rfl) ?_
        refine TL_q (.int .i64 (if (boxN a b (8 * py + px)).x2 < ((px : Nat) : Int) then ((px : Nat) : Int) else (boxN a b (8 * py + px)).x2)) (fun _ _ hρ _ => r_max (hρ _ _ rfl) (hρ _ _ rfl)) rfl rfl rfl (w_n rfl) ?_
        refine TL_q (.pointer (some ⟨B4, 3, none⟩)) (fun _ _ hρ _ => r_fieldAddr fl33_3 sz3 (hρ _ _ rfl)) rfl rfl rfl (w_n rfl) ?_
        refine TL_q (.int .i64 ((boxN a b (8 * py + px)).y2)) (fun _ _ hρ hm => r_load ag3 (hρ _ _ rfl) (hm.at 902 rfl) rfl) rfl rfl rfl (w_n rfl) ?_
        refine TL_q (.int .i64 ((py : Nat) : Int)) (fun _ _ hρ _ => r_move (hρ _ _ rfl)) rfl rfl rfl (w_n rfl) ?_
        refine TL_q (.int .i64 (if (boxN a b (8 * py + px)).y2 < ((py : Nat) : Int) then ((py : Nat) : Int) else (boxN a b (8 * py + px)).y2)) (fun _ _ hρ _ => r_max (hρ _ _ rfl) (hρ _ _ rfl)) rfl rfl rfl (w_n rfl) ?_
        refine TL_q (.agg #[.int .i64 (if ((px : Nat) : Int) < (boxN a b (8 * py + px)).x then ((px : Nat) : Int) else (boxN a b (8 * py + px)).x), .int .i64 (if ((py : Nat) : Int) < (boxN a b (8 * py + px)).y then ((py : Nat) : Int) else (boxN a b (8 * py + px)).y), .int .i64 (if (boxN a b (8 * py + px)).x2 < ((px : Nat) : Int) then ((px : Nat) : Int) else (boxN a b (8 * py + px)).x2), .int .i64 (if (boxN a b (8 * py + px)).y2 < ((py : Nat) : Int) then ((py : Nat) : Int) else (boxN a b (8 * py + px)).y2)]) (fun _ _ hρ _ => r_build (vs := [(0, .int .i64 (if ((px : Nat) : Int) < (boxN a b (8 * py + px)).x then ((px : Nat) : Int) else (boxN a b (8 * py + px)).x)), (1, .int .i64 (if ((py : Nat) : Int) < (boxN a b (8 * py + px)).y then ((py : Nat) : Int) else (boxN a b (8 * py + px)).y)), (2, .int .i64 (if (boxN a b (8 * py + px)).x2 < ((px : Nat) : Int) then ((px : Nat) : Int) else (boxN a b (8 * py + px)).x2)), (3, .int .i64 (if (boxN a b (8 * py + px)).y2 < ((py : Nat) : Int) then ((py : Nat) : Int) else (boxN a b (8 * py + px)).y2))]) (by kernel_rfl) (cons2 (pair2 (hρ _ _ rfl)) (cons2 (pair2 (hρ _ _ rfl)) (cons2 (pair2 (hρ _ _ rfl)) (cons2 (pair2 (hρ _ _ rfl)) rfl))))) rfl rfl rfl (w_n rfl) ?_
        refine TL_store 902 (.cells #[.int .i64 (if ((px : Nat) : Int) < (boxN a b (8 * py + px)).x then ((px : Nat) : Int) else (boxN a b (8 * py + px)).x), .int .i64 (if ((py : Nat) : Int) < (boxN a b (8 * py + px)).y then ((py : Nat) : Int) else (boxN a b (8 * py + px)).y), .int .i64 (if (boxN a b (8 * py + px)).x2 < ((px : Nat) : Int) then ((px : Nat) : Int) else (boxN a b (8 * py + px)).x2), .int .i64 (if (boxN a b (8 * py + px)).y2 < ((py : Nat) : Int) then ((py : Nat) : Int) else (boxN a b (8 * py + px)).y2)] 33) rfl (fun _ _ hρ hm => r_store sz33 (hρ _ _ rfl) (hρ _ _ rfl) (hm.at 902 rfl) rfl rfl rfl rfl) rfl rfl (w_n rfl) ?_
        refine TL_nil ?_
        refine p_blk_n ?_
        exact p_round_n () trivial (sub_cons rfl (sub_cons rfl (sub_cons rfl (sub_cons rfl (sub_cons rfl (sub_cons (congrArg (fun z : BoxV => some (Res.blk B4 (.cells #[.int .i64 z.x, .int .i64 z.y, .int .i64 z.x2, .int .i64 z.y2] 33))) (box_ne hpx h2).symm) sub_nil))))))
      · replace h2 := of_decide_eq_true (bnot_f h2)
        refine T_skip' ?_
        refine p_blk_n ?_
        exact p_round_n () trivial (sub_cons rfl (sub_cons rfl (sub_cons rfl (sub_cons rfl (sub_cons rfl (sub_cons (congrArg (fun z : BoxV => some (Res.blk B4 (.cells #[.int .i64 z.x, .int .i64 z.y, .int .i64 z.x2, .int .i64 z.y2] 33))) (box_eq h2).symm) sub_nil))))))
    · intro D1 _u hp1
      refine p_sub [(2, .pointer (some ⟨B1, 0, none⟩)), (3, .pointer (some ⟨B2, 0, none⟩)), (4, .pointer (some ⟨B3, 0, none⟩)), (5, .bool false), (6, .pointer (some ⟨B4, 0, none⟩)), (15, .func (.func 47) #[] #[])] [(801, .blk D1 (.deferred (some []))), (900, .blk B1 (.cells (lst C4.cells a) 25)), (901, .blk B2 (.cells (lst C4.cells b) 25)), (1, .blk B3 (.cells #[.int .i64 0, .int .i64 0, .int .i64 0, .int .i64 0] 33)), (902, .blk B4 (.cells #[.int .i64 ((boxN a b 64).x), .int .i64 ((boxN a b 64).y), .int .i64 ((boxN a b 64).x2), .int .i64 ((boxN a b 64).y2)] 33))] (sub_cons rfl (sub_cons rfl (sub_cons rfl (sub_cons rfl (sub_cons rfl (sub_cons rfl sub_nil)))))) (sub_cons rfl (sub_cons rfl (sub_cons rfl (sub_cons rfl (sub_cons rfl sub_nil))))) ?_
      refine p_blk_n ?_
      refine p_seq ?_
      refine T_seq (T_region ?_)
      refine TL_q (.agg #[.int .i64 ((boxN a b 64).x), .int .i64 ((boxN a b 64).y), .int .i64 ((boxN a b 64).x2), .int .i64 ((boxN a b 64).y2)]) (fun _ _ hρ hm => r_loadA ag33 sz33 (hρ _ _ rfl) (hm.at 902 rfl) rfl rfl) rfl rfl rfl (w_n rfl) ?_
      refine TL_store 1 (.cells #[.int .i64 ((boxN a b 64).x), .int .i64 ((boxN a b 64).y), .int .i64 ((boxN a b 64).x2), .int .i64 ((boxN a b 64).y2)] 33) rfl (fun _ _ hρ hm => r_store sz33 (hρ _ _ rfl) (hρ _ _ rfl) (hm.at 1 rfl) rfl rfl rfl rfl) rfl rfl (w_n rfl) ?_
      refine TL_q (.bool true) (fun _ _ hρ _ => r_assign (hρ _ _ rfl)) rfl rfl rfl (w_n rfl) ?_
      refine TL_seq ?_
      refine T_ret' ?_
      refine ret_of1 801 D1 rfl rfl (.tuple #[.agg #[.int .i64 ((boxN a b 64).x), .int .i64 ((boxN a b 64).y), .int .i64 ((boxN a b 64).x2), .int .i64 ((boxN a b 64).y2)], .bool true]) (fun tmps w hk hm => res2 rfl (res_cell (hk 4 _ rfl) (run_loadVar_agg ag33 sz33 (hm.at 1 rfl) (Nat.le_of_ble_eq_true rfl) rfl)) (res_tmp (hk 5 _ rfl))) (fun w hm => ?_)
      exact ⟨by unfold boxE; rw [if_neg h1, decide_eq_false h1]; rfl, hm.ext⟩

theorem box_ref (a b : List C4) (w : World) (ha : a.length = 64) (hb : b.length = 64) : Calls Try.prog 18 #[til a, til b] w fun e w' => e = .returned (.tuple #[(rbN a b 64).v, .bool (rsN a b 64)]) ∧ Below w.heap.size w w' := by
  refine calls_of_T (l := [.agg (lst C4.cells a), .agg (lst C4.cells b)]) 51 Try.func18 rfl rfl rfl ?_
  show T _ _ _ [(0, .agg (lst C4.cells a)), (1, .agg (lst C4.cells b))] []
  refine T_seq (T_region ?_)
  refine TL_new 900 (.cells (lst C4.cells a) 25) (fun B => .pointer (some ⟨B, 0, none⟩)) (fun _ _ hρ _ => r_box (hρ _ _ rfl) rfl) rfl rfl rfl (w_n rfl) ?_
  intro B1
  refine TL_new 901 (.cells (lst C4.cells b) 25) (fun B => .pointer (some ⟨B, 0, none⟩)) (fun _ _ hρ _ => r_box (hρ _ _ rfl) rfl) rfl rfl rfl (w_n rfl) ?_
  intro B2
  refine TL_new 1 (.cells #[.int .i64 0, .int .i64 0, .int .i64 0, .int .i64 0] 33) (fun B => .pointer (some ⟨B, 0, none⟩)) (fun _ _ _ _ => r_alloc (v := .agg #[.int .i64 0, .int .i64 0, .int .i64 0, .int .i64 0]) (by kernel_rfl) rfl) rfl rfl rfl (w_n rfl) ?_
  intro B3
  refine TL_q (.bool false) (fun _ _ hρ _ => r_assign (hρ _ _ rfl)) rfl rfl rfl (w_n rfl) ?_
  refine TL_seq ?_
  refine T_seq (T_region ?_)
  refine TL_q (.agg #[.int .i64 0, .int .i64 0, .int .i64 0, .int .i64 0]) (fun _ _ _ _ => r_build (vs := []) (by kernel_rfl) rfl) rfl rfl rfl (w_n rfl) ?_
  refine TL_new 902 (.cells #[.int .i64 0, .int .i64 0, .int .i64 0, .int .i64 0] 33) (fun B => .pointer (some ⟨B, 0, none⟩)) (fun _ _ _ _ => r_alloc (v := .agg #[.int .i64 0, .int .i64 0, .int .i64 0, .int .i64 0]) (by kernel_rfl) rfl) rfl rfl rfl (w_n rfl) ?_
  intro B4
  refine TL_store 902 (.cells #[.int .i64 0, .int .i64 0, .int .i64 0, .int .i64 0] 33) rfl (fun _ _ hρ hm => r_store sz33 (hρ _ _ rfl) (hρ _ _ rfl) (hm.at 902 rfl) rfl rfl rfl rfl) rfl rfl (w_n rfl) ?_
  refine TL_q (.bool false) (fun _ _ hρ _ => r_assign (hρ _ _ rfl)) rfl rfl rfl (w_n rfl) ?_
  refine TL_seq ?_
  refine T_seq ?_
  refine T_seq (T_region ?_)
  refine TL_q (.int .i64 0) (fun _ _ hρ _ => r_move (hρ _ _ rfl)) rfl rfl rfl (w_n rfl) ?_
  refine TL_seq ?_
  refine T_block ?_
  refine T_loop (ι := Nat) (fun (y : Nat) => y ≤ 8) (fun (y : Nat) => [(2, .pointer (some ⟨B1, 0, none⟩)), (3, .pointer (some ⟨B2, 0, none⟩)), (4, .pointer (some ⟨B3, 0, none⟩)), (5, .bool false), (6, .pointer (some ⟨B4, 0, none⟩)), (11, .int .i64 ((y : Nat) : Int)), (7, .bool (rsN a b (8 * y)))]) (fun (y : Nat) => [(900, .blk B1 (.cells (lst C4.cells a) 25)), (901, .blk B2 (.cells (lst C4.cells b) 25)), (1, .blk B3 (.cells #[.int .i64 0, .int .i64 0, .int .i64 0, .int .i64 0] 33)), (902, .blk B4 (.cells #[.int .i64 ((rbN a b (8 * y)).x), .int .i64 ((rbN a b (8 * y)).y), .int .i64 ((rbN a b (8 * y)).x2), .int .i64 ((rbN a b (8 * y)).y2)] 33))]) (fun (y : Nat) => 8 - y) 0 (Nat.zero_le _) (sub_cons rfl (sub_cons rfl (sub_cons rfl (sub_cons rfl (sub_cons rfl (sub_cons rfl (sub_cons rfl sub_nil))))))) (sub_cons rfl (sub_cons rfl (sub_cons rfl (sub_cons rfl sub_nil)))) ?_
  rintro y hp
  show T _ _ _ [(2, .pointer (some ⟨B1, 0, none⟩)), (3, .pointer (some ⟨B2, 0, none⟩)), (4, .pointer (some ⟨B3, 0, none⟩)), (5, .bool false), (6, .pointer (some ⟨B4, 0, none⟩)), (11, .int .i64 ((y : Nat) : Int)), (7, .bool (rsN a b (8 * y)))] [(900, .blk B1 (.cells (lst C4.cells a) 25)), (901, .blk B2 (.cells (lst C4.cells b) 25)), (1, .blk B3 (.cells #[.int .i64 0, .int .i64 0, .int .i64 0, .int .i64 0] 33)), (902, .blk B4 (.cells #[.int .i64 ((rbN a b (8 * y)).x), .int .i64 ((rbN a b (8 * y)).y), .int .i64 ((rbN a b (8 * y)).x2), .int .i64 ((rbN a b (8 * y)).y2)] 33))]
  refine T_seq (T_region ?_)
  refine TL_q (.bool (decide (((y : Nat) : Int) < 8))) (fun _ _ hρ _ => r_lss (hρ _ _ rfl) (hρ _ _ rfl)) rfl rfl rfl (w_n rfl) ?_
  refine TL_seq ?_
  refine T_seq ?_
  refine T_cond rfl (fun h1 => ?_) (fun h1 => ?_)
  · replace h1 := of_decide_eq_true h1
    refine T_skip' ?_
    refine p_seq ?_
    refine T_seq ?_
    refine T_block ?_
    refine T_seq (T_region ?_)
    refine TL_q (.int .i64 ((y : Nat) : Int)) (fun _ _ hρ _ => r_move (hρ _ _ rfl)) rfl rfl rfl (w_n rfl) ?_
    refine TL_q (.int .i64 ((y : Nat) : Int)) (fun _ _ hρ _ => r_assign (hρ _ _ rfl)) rfl rfl rfl (w_n rfl) ?_
    refine TL_seq ?_
    refine T_seq (T_region ?_)
    refine TL_q (.int .i64 0) (fun _ _ hρ _ => r_move (hρ _ _ rfl)) rfl rfl rfl (w_n rfl) ?_
    refine TL_seq ?_
    refine T_block ?_
    refine T_loop (ι := Nat) (fun (x : Nat) => x ≤ 8) (fun (x : Nat) => [(2, .pointer (some ⟨B1, 0, none⟩)), (3, .pointer (some ⟨B2, 0, none⟩)), (4, .pointer (some ⟨B3, 0, none⟩)), (5, .bool false), (6, .pointer (some ⟨B4, 0, none⟩)), (11, .int .i64 ((y : Nat) : Int)), (12, .bool (decide (((y : Nat) : Int) < 8))), (13, .int .i64 ((y : Nat) : Int)), (8, .int .i64 ((y : Nat) : Int)), (14, .int .i64 ((x : Nat) : Int)), (7, .bool (rsN a b (8 * y + x)))]) (fun (x : Nat) => [(900, .blk B1 (.cells (lst C4.cells a) 25)), (901, .blk B2 (.cells (lst C4.cells b) 25)), (1, .blk B3 (.cells #[.int .i64 0, .int .i64 0, .int .i64 0, .int .i64 0] 33)), (902, .blk B4 (.cells #[.int .i64 ((rbN a b (8 * y + x)).x), .int .i64 ((rbN a b (8 * y + x)).y), .int .i64 ((rbN a b (8 * y + x)).x2), .int .i64 ((rbN a b (8 * y + x)).y2)] 33))]) (fun (x : Nat) => 8 - x) 0 (Nat.zero_le _) (sub_cons rfl (sub_cons rfl (sub_cons rfl (sub_cons rfl (sub_cons rfl (sub_cons rfl (sub_cons rfl (sub_cons rfl (sub_cons rfl (sub_cons rfl (sub_cons rfl sub_nil))))))))))) (sub_cons rfl (sub_cons rfl (sub_cons rfl (sub_cons rfl sub_nil)))) ?_
    rintro x hp
    show T _ _ _ [(2, .pointer (some ⟨B1, 0, none⟩)), (3, .pointer (some ⟨B2, 0, none⟩)), (4, .pointer (some ⟨B3, 0, none⟩)), (5, .bool false), (6, .pointer (some ⟨B4, 0, none⟩)), (11, .int .i64 ((y : Nat) : Int)), (12, .bool (decide (((y : Nat) : Int) < 8))), (13, .int .i64 ((y : Nat) : Int)), (8, .int .i64 ((y : Nat) : Int)), (14, .int .i64 ((x : Nat) : Int)), (7, .bool (rsN a b (8 * y + x)))] [(900, .blk B1 (.cells (lst C4.cells a) 25)), (901, .blk B2 (.cells (lst C4.cells b) 25)), (1, .blk B3 (.cells #[.int .i64 0, .int .i64 0, .int .i64 0, .int .i64 0] 33)), (902, .blk B4 (.cells #[.int .i64 ((rbN a b (8 * y + x)).x), .int .i64 ((rbN a b (8 * y + x)).y), .int .i64 ((rbN a b (8 * y + x)).x2), .int .i64 ((rbN a b (8 * y + x)).y2)] 33))]
    refine T_seq (T_region ?_)
    refine TL_q (.bool (decide (((x : Nat) : Int) < 8))) (fun _ _ hρ _ => r_lss (hρ _ _ rfl) (hρ _ _ rfl)) rfl rfl rfl (w_n rfl) ?_
    refine TL_seq ?_
    refine T_seq ?_
    refine T_cond rfl (fun h2 => ?_) (fun h2 => ?_)
    · replace h2 := of_decide_eq_true h2
      refine T_skip' ?_
      refine p_seq ?_
      refine T_seq ?_
      refine T_block ?_
      refine T_seq (T_region ?_)
      refine TL_q (.int .i64 ((x : Nat) : Int)) (fun _ _ hρ _ => r_move (hρ _ _ rfl)) rfl rfl rfl (w_n rfl) ?_
      refine TL_q (.int .i64 ((x : Nat) : Int)) (fun _ _ hρ _ => r_assign (hρ _ _ rfl)) rfl rfl rfl (w_n rfl) ?_
      refine TL_seq ?_
      refine T_seq ?_
      refine T_seq (T_draw (V := [(0, .agg (lst C4.cells a)), (1, .int .i64 ((x : Nat) : Int)), (2, .int .i64 ((y : Nat) : Int)), (4, .agg (lst C4.cells b)), (5, .int .i64 ((x : Nat) : Int)), (6, .int .i64 ((y : Nat) : Int))]) [0, 0, 0, 7, 0, 0, 0, 127, 255] [[(2, none)], [(9, none)], [(8, none)], [(17, some 0), (18, some 1), (19, some 2)], [(3, none)], [(9, none)], [(8, none)], [(21, some 4), (22, some 5), (23, some 6)], [(20, some 3), (24, some 7)]] 136 mixed (by kernel_rfl) ?_)
      refine G_step [0, 1, 2, 4, 5, 6] 3 [] (by kernel_rfl) (allM (all_cons (q_run (.agg (lst C4.cells a)) rfl rfl (wv_n rfl) rfl (fun _ _ hρ hm => r_loadW ag25 sz25 (hρ _ _ rfl) (hm.at 900 rfl) (tsz ha))) (all_cons (q_run (.int .i64 ((x : Nat) : Int)) rfl rfl (wv_n rfl) rfl (fun _ _ hρ _ => r_move (hρ _ _ rfl))) (all_cons (q_run (.int .i64 ((y : Nat) : Int)) rfl rfl (wv_n rfl) rfl (fun _ _ hρ _ => r_move (hρ _ _ rfl))) (all_cons (q_run (.agg (lst C4.cells b)) rfl rfl (wv_n rfl) rfl (fun _ _ hρ hm => r_loadW ag25 sz25 (hρ _ _ rfl) (hm.at 901 rfl) (tsz hb))) (all_cons (q_run (.int .i64 ((x : Nat) : Int)) rfl rfl (wv_n rfl) rfl (fun _ _ hρ _ => r_move (hρ _ _ rfl))) (all_cons (q_run (.int .i64 ((y : Nat) : Int)) rfl rfl (wv_n rfl) rfl (fun _ _ hρ _ => r_move (hρ _ _ rfl))) all_nil))))))) (allM (all_cons ?_ all_nil))
      refine LOb_call (.agg #[.int .u8 ((get a (8 * y + x)).r), .int .u8 ((get a (8 * y + x)).g), .int .u8 ((get a (8 * y + x)).b), .int .u8 ((get a (8 * y + x)).a)]) [] rfl (wv_n rfl) rfl rfl (fun _ _ hρ _ => r_call (args := [.agg (lst C4.cells a), .int .i64 ((x : Nat) : Int), .int .i64 ((y : Nat) : Int)]) (enters_of Try.func29 (by kernel_rfl) rfl) (hρ _ _ rfl) ((cons2 (hρ _ _ rfl) (cons2 (hρ _ _ rfl) (cons2 (hρ _ _ rfl) rfl)))) rfl) (fun w _ => at_ref a x y w ha (by omega) (by omega)) (by kernel_rfl) ?_
      refine G_step [4, 5, 6] 7 [] (by kernel_rfl) (allM (all_cons (q_run (.agg (lst C4.cells b)) rfl rfl (wv_n rfl) rfl (fun _ _ hρ hm => r_loadW ag25 sz25 (hρ _ _ rfl) (hm.at 901 rfl) (tsz hb))) (all_cons (q_run (.int .i64 ((x : Nat) : Int)) rfl rfl (wv_n rfl) rfl (fun _ _ hρ _ => r_move (hρ _ _ rfl))) (all_cons (q_run (.int .i64 ((y : Nat) : Int)) rfl rfl (wv_n rfl) rfl (fun _ _ hρ _ => r_move (hρ _ _ rfl))) all_nil)))) (allM (all_cons ?_ all_nil))
      refine LOb_call (.agg #[.int .u8 ((get b (8 * y + x)).r), .int .u8 ((get b (8 * y + x)).g), .int .u8 ((get b (8 * y + x)).b), .int .u8 ((get b (8 * y + x)).a)]) [(8, .bool (decide ((get a (8 * y + x)) = (get b (8 * y + x)))))] rfl (wv_n rfl) rfl rfl (fun _ _ hρ _ => r_call (args := [.agg (lst C4.cells b), .int .i64 ((x : Nat) : Int), .int .i64 ((y : Nat) : Int)]) (enters_of Try.func29 (by kernel_rfl) rfl) (hρ _ _ rfl) ((cons2 (hρ _ _ rfl) (cons2 (hρ _ _ rfl) (cons2 (hρ _ _ rfl) rfl)))) rfl) (fun w _ => at_ref b x y w hb (by omega) (by omega)) (by kernel_rfl) ?_
      refine G_last [8] [(2, .pointer (some ⟨B1, 0, none⟩)), (3, .pointer (some ⟨B2, 0, none⟩)), (4, .pointer (some ⟨B3, 0, none⟩)), (5, .bool false), (6, .pointer (some ⟨B4, 0, none⟩)), (11, .int .i64 ((y : Nat) : Int)), (12, .bool (decide (((y : Nat) : Int) < 8))), (13, .int .i64 ((y : Nat) : Int)), (8, .int .i64 ((y : Nat) : Int)), (14, .int .i64 ((x : Nat) : Int)), (7, .bool (rsN a b (8 * y + x))), (15, .bool (decide (((x : Nat) : Int) < 8))), (16, .int .i64 ((x : Nat) : Int)), (9, .int .i64 ((x : Nat) : Int)), (17, .agg (lst C4.cells a)), (18, .int .i64 ((x : Nat) : Int)), (19, .int .i64 ((y : Nat) : Int)), (20, .agg #[.int .u8 ((get a (8 * y + x)).r), .int .u8 ((get a (8 * y + x)).g), .int .u8 ((get a (8 * y + x)).b), .int .u8 ((get a (8 * y + x)).a)]), (21, .agg (lst C4.cells b)), (22, .int .i64 ((x : Nat) : Int)), (23, .int .i64 ((y : Nat) : Int)), (24, .agg #[.int .u8 ((get b (8 * y + x)).r), .int .u8 ((get b (8 * y + x)).g), .int .u8 ((get b (8 * y + x)).b), .int .u8 ((get b (8 * y + x)).a)]), (25, .bool (decide ((get a (8 * y + x)) = (get b (8 * y + x)))))] (by kernel_rfl) (allM (all_cons (q_run (.bool (decide ((get a (8 * y + x)) = (get b (8 * y + x))))) rfl rfl (wv_n rfl) rfl (fun _ _ hρ _ => r_as (r_eqlA (by kernel_rfl) (hρ _ _ rfl) (hρ _ _ rfl) (run_equalI (l := [(0, .u8), (1, .u8), (2, .u8), (3, .u8)]) (by kernel_rfl) rfl rfl)) (bool_as (eqC (get a (8 * y + x)) (get b (8 * y + x)))))) all_nil)) (end_old rfl rfl (end_old rfl rfl (end_old rfl rfl (end_old rfl rfl (end_old rfl rfl (end_old rfl rfl (end_old rfl rfl (end_old rfl rfl (end_old rfl rfl (end_old rfl rfl (end_old rfl rfl (end_old rfl rfl (end_old rfl rfl (end_old rfl rfl (end_new 0 rfl rfl (end_new 1 rfl rfl (end_new 2 rfl rfl (end_new 3 rfl rfl (end_new 4 rfl rfl (end_new 5 rfl rfl (end_new 6 rfl rfl (end_new 7 rfl rfl (end_new 8 rfl rfl end_nil))))))))))))))))))))))) ?_
      refine T_cond rfl (fun h3 => ?_) (fun h3 => ?_)
      · replace h3 := of_decide_eq_true h3
        refine T_exit' ?_
        refine p_then_x ?_
        refine p_blk_x ?_
        refine p_seq ?_
        refine T_region ?_
        refine TL_q (.int .i64 ((x + 1 : Nat) : Int)) (fun _ _ hρ _ => r_as (r_add (hρ _ _ rfl) (hρ _ _ rfl)) (int_as ((wrap64 (by omega) (by omega)).trans (by omega)))) rfl rfl rfl (w_n rfl) ?_
        refine TL_q (.int .i64 ((x + 1 : Nat) : Int)) (fun _ _ hρ _ => r_move (hρ _ _ rfl)) rfl rfl rfl (w_n rfl) ?_
        refine TL_nil ?_
        exact p_at (x + 1) ⟨by omega, by omega⟩ (sub_cons rfl (sub_cons rfl (sub_cons rfl (sub_cons rfl (sub_cons rfl (sub_cons rfl (sub_cons rfl (sub_cons rfl (sub_cons rfl (sub_cons rfl (sub_cons (congrArg (fun z : Bool => some (Value.bool z)) (rs_eq h3).symm) sub_nil))))))))))) (sub_cons rfl (sub_cons rfl (sub_cons rfl (sub_cons (congrArg (fun z : BoxV => some (Res.blk B4 (.cells #[.int .i64 z.x, .int .i64 z.y, .int .i64 z.x2, .int .i64 z.y2] 33))) (rb_eq h3).symm) sub_nil))))
      · replace h3 := of_decide_eq_false h3
        refine T_skip' ?_
        refine p_seq ?_
        refine T_seq ?_
        refine T_seq (T_region ?_)
        refine TL_q (.bool (rsN a b (8 * y + x))) (fun _ _ hρ _ => r_move (hρ _ _ rfl)) rfl rfl rfl (w_n rfl) ?_
        refine TL_q (.bool (!(rsN a b (8 * y + x)))) (fun _ _ hρ _ => r_not (b := rsN a b (8 * y + x)) (hρ _ _ rfl)) rfl rfl rfl (w_n rfl) ?_
        refine TL_seq ?_
        refine T_cond rfl (fun h4 => ?_) (fun h4 => ?_)
        · replace h4 := bnot_t h4
          refine T_region ?_
          refine TL_q (.int .i64 ((x : Nat) : Int)) (fun _ _ hρ _ => r_move (hρ _ _ rfl)) rfl rfl rfl (w_n rfl) ?_
          refine TL_q (.int .i64 ((y : Nat) : Int)) (fun _ _ hρ _ => r_move (hρ _ _ rfl)) rfl rfl rfl (w_n rfl) ?_
          refine TL_q (.int .i64 ((x : Nat) : Int)) (fun _ _ hρ _ => r_move (hρ _ _ rfl)) rfl rfl rfl (w_n rfl) ?_
          refine TL_q (.int .i64 ((y : Nat) : Int)) (fun _ _ hρ _ => r_move (hρ _ _ rfl)) rfl rfl rfl (w_n rfl) ?_
          refine TL_q (.agg #[.int .i64 ((x : Nat) : Int), .int .i64 ((y : Nat) : Int), .int .i64 ((x : Nat) : Int), .int .i64 ((y : Nat) : Int)]) (fun _ _ hρ _ => r_build (vs := [(0, .int .i64 ((x : Nat) : Int)), (1, .int .i64 ((y : Nat) : Int)), (2, .int .i64 ((x : Nat) : Int)), (3, .int .i64 ((y : Nat) : Int))]) (by kernel_rfl) (cons2 (pair2 (hρ _ _ rfl)) (cons2 (pair2 (hρ _ _ rfl)) (cons2 (pair2 (hρ _ _ rfl)) (cons2 (pair2 (hρ _ _ rfl)) rfl))))) rfl rfl rfl (w_n rfl) ?_
          refine TL_store 902 (.cells #[.int .i64 ((x : Nat) : Int), .int .i64 ((y : Nat) : Int), .int .i64 ((x : Nat) : Int), .int .i64 ((y : Nat) : Int)] 33) rfl (fun _ _ hρ hm => r_store sz33 (hρ _ _ rfl) (hρ _ _ rfl) (hm.at 902 rfl) rfl rfl rfl rfl) rfl rfl (w_n rfl) ?_
          refine TL_q (.bool true) (fun _ _ hρ _ => r_assign (hρ _ _ rfl)) rfl rfl rfl (w_n rfl) ?_
          refine TL_nil ?_
          refine p_seq ?_
          refine T_seq ?_
          refine T_seq (T_region ?_)
          refine TL_q (.int .i64 ((x : Nat) : Int)) (fun _ _ hρ _ => r_move (hρ _ _ rfl)) rfl rfl rfl (w_n rfl) ?_
          refine TL_q (.pointer (some ⟨B4, 0, none⟩)) (fun _ _ hρ _ => r_fieldAddr fl33_0 sz3 (hρ _ _ rfl)) rfl rfl rfl (w_n rfl) ?_
          refine TL_q (.int .i64 ((x : Nat) : Int)) (fun _ _ hρ hm => r_load ag3 (hρ _ _ rfl) (hm.at 902 rfl) rfl) rfl rfl rfl (w_n rfl) ?_
          refine TL_q (.bool (decide (((x : Nat) : Int) < ((x : Nat) : Int)))) (fun _ _ hρ _ => r_lss (hρ _ _ rfl) (hρ _ _ rfl)) rfl rfl rfl (w_n rfl) ?_
          refine TL_seq ?_
          refine T_cond rfl (fun h5 => ?_) (fun h5 => ?_)
          · replace h5 := of_decide_eq_true h5
            refine T_region ?_
            refine TL_q (.int .i64 ((x : Nat) : Int)) (fun _ _ hρ _ => r_move (hρ _ _ rfl)) rfl rfl rfl (w_n rfl) ?_
            refine TL_q (.pointer (some ⟨B4, 0, none⟩)) (fun _ _ hρ _ => r_fieldAddr fl33_0 sz3 (hρ _ _ rfl)) rfl rfl rfl (w_n rfl) ?_
            refine TL_store 902 (.cells #[.int .i64 ((x : Nat) : Int), .int .i64 ((y : Nat) : Int), .int .i64 ((x : Nat) : Int), .int .i64 ((y : Nat) : Int)] 33) rfl (fun _ _ hρ hm => r_store sz3 (hρ _ _ rfl) (hρ _ _ rfl) (hm.at 902 rfl) rfl rfl rfl rfl) rfl rfl (w_n rfl) ?_
            refine TL_nil ?_
            refine p_seq ?_
            refine T_seq ?_
            refine T_seq (T_region ?_)
            refine TL_q (.int .i64 ((x : Nat) : Int)) (fun _ _ hρ _ => r_move (hρ _ _ rfl)) rfl rfl rfl (w_n rfl) ?_
            refine TL_q (.pointer (some ⟨B4, 2, none⟩)) (fun _ _ hρ _ => r_fieldAddr fl33_2 sz3 (hρ _ _ rfl)) rfl rfl rfl (w_n rfl) ?_
            refine TL_q (.int .i64 ((x : Nat) : Int)) (fun _ _ hρ hm => r_load ag3 (hρ _ _ rfl) (hm.at 902 rfl) rfl) rfl rfl rfl (w_n rfl) ?_
            refine TL_q (.bool (decide (((x : Nat) : Int) < ((x : Nat) : Int)))) (fun _ _ hρ _ => r_gtr (hρ _ _ rfl) (hρ _ _ rfl)) rfl rfl rfl (w_n rfl) ?_
            refine TL_seq ?_
            refine T_cond rfl (fun h6 => ?_) (fun h6 => ?_)
            · replace h6 := of_decide_eq_true h6
              refine T_region ?_
              refine TL_q (.int .i64 ((x : Nat) : Int)) (fun _ _ hρ _ => r_move (hρ _ _ rfl)) rfl rfl rfl (w_n rfl) ?_
              refine TL_q (.pointer (some ⟨B4, 2, none⟩)) (fun _ _ hρ _ => r_fieldAddr fl33_2 sz3 (hρ _ _ rfl)) rfl rfl rfl (w_n rfl) ?_
              refine TL_store 902 (.cells #[.int .i64 ((x : Nat) : Int), .int .i64 ((y : Nat) : Int), .int .i64 ((x : Nat) : Int), .int .i64 ((y : Nat) : Int)] 33) rfl (fun _ _ hρ hm => r_store sz3 (hρ _ _ rfl) (hρ _ _ rfl) (hm.at 902 rfl) rfl rfl rfl rfl) rfl rfl (w_n rfl) ?_
              refine TL_nil ?_
              refine p_seq ?_
              refine T_region ?_
              refine TL_q (.int .i64 ((y : Nat) : Int)) (fun _ _ hρ _ => r_move (hρ _ _ rfl)) rfl rfl rfl (w_n rfl) ?_
              refine TL_q (.pointer (some ⟨B4, 3, none⟩)) (fun _ _ hρ _ => r_fieldAddr fl33_3 sz3 (hρ _ _ rfl)) rfl rfl rfl (w_n rfl) ?_
              refine TL_store 902 (.cells #[.int .i64 ((x : Nat) : Int), .int .i64 ((y : Nat) : Int), .int .i64 ((x : Nat) : Int), .int .i64 ((y : Nat) : Int)] 33) rfl (fun _ _ hρ hm => r_store sz3 (hρ _ _ rfl) (hρ _ _ rfl) (hm.at 902 rfl) rfl rfl rfl rfl) rfl rfl (w_n rfl) ?_
              refine TL_nil ?_
              refine p_blk_n ?_
              refine p_seq ?_
              refine T_region ?_
              refine TL_q (.int .i64 ((x + 1 : Nat) : Int)) (fun _ _ hρ _ => r_as (r_add (hρ _ _ rfl) (hρ _ _ rfl)) (int_as ((wrap64 (by omega) (by omega)).trans (by omega)))) rfl rfl rfl (w_n rfl) ?_
              refine TL_q (.int .i64 ((x + 1 : Nat) : Int)) (fun _ _ hρ _ => r_move (hρ _ _ rfl)) rfl rfl rfl (w_n rfl) ?_
              refine TL_nil ?_
              exact p_at (x + 1) ⟨by omega, by omega⟩ (sub_cons rfl (sub_cons rfl (sub_cons rfl (sub_cons rfl (sub_cons rfl (sub_cons rfl (sub_cons rfl (sub_cons rfl (sub_cons rfl (sub_cons rfl (sub_cons (congrArg (fun z : Bool => some (Value.bool z)) (rs_ne h3).symm) sub_nil))))))))))) (sub_cons rfl (sub_cons rfl (sub_cons rfl (sub_cons (congrArg (fun z : BoxV => some (Res.blk B4 (.cells #[.int .i64 z.x, .int .i64 z.y, .int .i64 z.x2, .int .i64 z.y2] 33))) (show (⟨((x : Nat) : Int), ((y : Nat) : Int), ((x : Nat) : Int), ((y : Nat) : Int)⟩ : BoxV) = rbN a b (8 * y + x + 1) from by rw [rb_ne (by omega) h3, h4]; simp only [rbS, if_pos h5, if_pos h6])) sub_nil))))
            · replace h6 := of_decide_eq_false h6
              refine T_skip' ?_
              refine p_seq ?_
              refine T_region ?_
              refine TL_q (.int .i64 ((y : Nat) : Int)) (fun _ _ hρ _ => r_move (hρ _ _ rfl)) rfl rfl rfl (w_n rfl) ?_
              refine TL_q (.pointer (some ⟨B4, 3, none⟩)) (fun _ _ hρ _ => r_fieldAddr fl33_3 sz3 (hρ _ _ rfl)) rfl rfl rfl (w_n rfl) ?_
              refine TL_store 902 (.cells #[.int .i64 ((x : Nat) : Int), .int .i64 ((y : Nat) : Int), .int .i64 ((x : Nat) : Int), .int .i64 ((y : Nat) : Int)] 33) rfl (fun _ _ hρ hm => r_store sz3 (hρ _ _ rfl) (hρ _ _ rfl) (hm.at 902 rfl) rfl rfl rfl rfl) rfl rfl (w_n rfl) ?_
              refine TL_nil ?_
              refine p_blk_n ?_
              refine p_seq ?_
              refine T_region ?_
              refine TL_q (.int .i64 ((x + 1 : Nat) : Int)) (fun _ _ hρ _ => r_as (r_add (hρ _ _ rfl) (hρ _ _ rfl)) (int_as ((wrap64 (by omega) (by omega)).trans (by omega)))) rfl rfl rfl (w_n rfl) ?_
              refine TL_q (.int .i64 ((x + 1 : Nat) : Int)) (fun _ _ hρ _ => r_move (hρ _ _ rfl)) rfl rfl rfl (w_n rfl) ?_
              refine TL_nil ?_
              exact p_at (x + 1) ⟨by omega, by omega⟩ (sub_cons rfl (sub_cons rfl (sub_cons rfl (sub_cons rfl (sub_cons rfl (sub_cons rfl (sub_cons rfl (sub_cons rfl (sub_cons rfl (sub_cons rfl (sub_cons (congrArg (fun z : Bool => some (Value.bool z)) (rs_ne h3).symm) sub_nil))))))))))) (sub_cons rfl (sub_cons rfl (sub_cons rfl (sub_cons (congrArg (fun z : BoxV => some (Res.blk B4 (.cells #[.int .i64 z.x, .int .i64 z.y, .int .i64 z.x2, .int .i64 z.y2] 33))) (show (⟨((x : Nat) : Int), ((y : Nat) : Int), ((x : Nat) : Int), ((y : Nat) : Int)⟩ : BoxV) = rbN a b (8 * y + x + 1) from by rw [rb_ne (by omega) h3, h4]; simp only [rbS, if_pos h5, if_neg h6])) sub_nil))))
          · replace h5 := of_decide_eq_false h5
            refine T_skip' ?_
            refine p_seq ?_
            refine T_seq ?_
            refine T_seq (T_region ?_)
            refine TL_q (.int .i64 ((x : Nat) : Int)) (fun _ _ hρ _ => r_move (hρ _ _ rfl)) rfl rfl rfl (w_n rfl) ?_
            refine TL_q (.pointer (some ⟨B4, 2, none⟩)) (fun _ _ hρ _ => r_fieldAddr fl33_2 sz3 (hρ _ _ rfl)) rfl rfl rfl (w_n rfl) ?_
            refine TL_q (.int .i64 ((x : Nat) : Int)) (fun _ _ hρ hm => r_load ag3 (hρ _ _ rfl) (hm.at 902 rfl) rfl) rfl rfl rfl (w_n rfl) ?_
            refine TL_q (.bool (decide (((x : Nat) : Int) < ((x : Nat) : Int)))) (fun _ _ hρ _ => r_gtr (hρ _ _ rfl) (hρ _ _ rfl)) rfl rfl rfl (w_n rfl) ?_
            refine TL_seq ?_
            refine T_cond rfl (fun h7 => ?_) (fun h7 => ?_)
            · replace h7 := of_decide_eq_true h7
              refine T_region ?_
              refine TL_q (.int .i64 ((x : Nat) : Int)) (fun _ _ hρ _ => r_move (hρ _ _ rfl)) rfl rfl rfl (w_n rfl) ?_
              refine TL_q (.pointer (some ⟨B4, 2, none⟩)) (fun _ _ hρ _ => r_fieldAddr fl33_2 sz3 (hρ _ _ rfl)) rfl rfl rfl (w_n rfl) ?_
              refine TL_store 902 (.cells #[.int .i64 ((x : Nat) : Int), .int .i64 ((y : Nat) : Int), .int .i64 ((x : Nat) : Int), .int .i64 ((y : Nat) : Int)] 33) rfl (fun _ _ hρ hm => r_store sz3 (hρ _ _ rfl) (hρ _ _ rfl) (hm.at 902 rfl) rfl rfl rfl rfl) rfl rfl (w_n rfl) ?_
              refine TL_nil ?_
              refine p_seq ?_
              refine T_region ?_
              refine TL_q (.int .i64 ((y : Nat) : Int)) (fun _ _ hρ _ => r_move (hρ _ _ rfl)) rfl rfl rfl (w_n rfl) ?_
              refine TL_q (.pointer (some ⟨B4, 3, none⟩)) (fun _ _ hρ _ => r_fieldAddr fl33_3 sz3 (hρ _ _ rfl)) rfl rfl rfl (w_n rfl) ?_
              refine TL_store 902 (.cells #[.int .i64 ((x : Nat) : Int), .int .i64 ((y : Nat) : Int), .int .i64 ((x : Nat) : Int), .int .i64 ((y : Nat) : Int)] 33) rfl (fun _ _ hρ hm => r_store sz3 (hρ _ _ rfl) (hρ _ _ rfl) (hm.at 902 rfl) rfl rfl rfl rfl) rfl rfl (w_n rfl) ?_
              refine TL_nil ?_
              refine p_blk_n ?_
              refine p_seq ?_
              refine T_region ?_
              refine TL_q (.int .i64 ((x + 1 : Nat) : Int)) (fun _ _ hρ _ => r_as (r_add (hρ _ _ rfl) (hρ _ _ rfl)) (int_as ((wrap64 (by omega) (by omega)).trans (by omega)))) rfl rfl rfl (w_n rfl) ?_
              refine TL_q (.int .i64 ((x + 1 : Nat) : Int)) (fun _ _ hρ _ => r_move (hρ _ _ rfl)) rfl rfl rfl (w_n rfl) ?_
              refine TL_nil ?_
              exact p_at (x + 1) ⟨by omega, by omega⟩ (sub_cons rfl (sub_cons rfl (sub_cons rfl (sub_cons rfl (sub_cons rfl (sub_cons rfl (sub_cons rfl (sub_cons rfl (sub_cons rfl (sub_cons rfl (sub_cons (congrArg (fun z : Bool => some (Value.bool z)) (rs_ne h3).symm) sub_nil))))))))))) (sub_cons rfl (sub_cons rfl (sub_cons rfl (sub_cons (congrArg (fun z : BoxV => some (Res.blk B4 (.cells #[.int .i64 z.x, .int .i64 z.y, .int .i64 z.x2, .int .i64 z.y2] 33))) (show (⟨((x : Nat) : Int), ((y : Nat) : Int), ((x : Nat) : Int), ((y : Nat) : Int)⟩ : BoxV) = rbN a b (8 * y + x + 1) from by rw [rb_ne (by omega) h3, h4]; simp only [rbS, if_neg h5, if_pos h7])) sub_nil))))
            · replace h7 := of_decide_eq_false h7
              refine T_skip' ?_
              refine p_seq ?_
              refine T_region ?_
              refine TL_q (.int .i64 ((y : Nat) : Int)) (fun _ _ hρ _ => r_move (hρ _ _ rfl)) rfl rfl rfl (w_n rfl) ?_
              refine TL_q (.pointer (some ⟨B4, 3, none⟩)) (fun _ _ hρ _ => r_fieldAddr fl33_3 sz3 (hρ _ _ rfl)) rfl rfl rfl (w_n rfl) ?_
              refine TL_store 902 (.cells #[.int .i64 ((x : Nat) : Int), .int .i64 ((y : Nat) : Int), .int .i64 ((x : Nat) : Int), .int .i64 ((y : Nat) : Int)] 33) rfl (fun _ _ hρ hm => r_store sz3 (hρ _ _ rfl) (hρ _ _ rfl) (hm.at 902 rfl) rfl rfl rfl rfl) rfl rfl (w_n rfl) ?_
              refine TL_nil ?_
              refine p_blk_n ?_
              refine p_seq ?_
              refine T_region ?_
              refine TL_q (.int .i64 ((x + 1 : Nat) : Int)) (fun _ _ hρ _ => r_as (r_add (hρ _ _ rfl) (hρ _ _ rfl)) (int_as ((wrap64 (by omega) (by omega)).trans (by omega)))) rfl rfl rfl (w_n rfl) ?_
              refine TL_q (.int .i64 ((x + 1 : Nat) : Int)) (fun _ _ hρ _ => r_move (hρ _ _ rfl)) rfl rfl rfl (w_n rfl) ?_
              refine TL_nil ?_
              exact p_at (x + 1) ⟨by omega, by omega⟩ (sub_cons rfl (sub_cons rfl (sub_cons rfl (sub_cons rfl (sub_cons rfl (sub_cons rfl (sub_cons rfl (sub_cons rfl (sub_cons rfl (sub_cons rfl (sub_cons (congrArg (fun z : Bool => some (Value.bool z)) (rs_ne h3).symm) sub_nil))))))))))) (sub_cons rfl (sub_cons rfl (sub_cons rfl (sub_cons (congrArg (fun z : BoxV => some (Res.blk B4 (.cells #[.int .i64 z.x, .int .i64 z.y, .int .i64 z.x2, .int .i64 z.y2] 33))) (show (⟨((x : Nat) : Int), ((y : Nat) : Int), ((x : Nat) : Int), ((y : Nat) : Int)⟩ : BoxV) = rbN a b (8 * y + x + 1) from by rw [rb_ne (by omega) h3, h4]; simp only [rbS, if_neg h5, if_neg h7])) sub_nil))))
        · replace h4 := bnot_f h4
          refine T_skip' ?_
          refine p_seq ?_
          refine T_seq ?_
          refine T_seq (T_region ?_)
          refine TL_q (.int .i64 ((x : Nat) : Int)) (fun _ _ hρ _ => r_move (hρ _ _ rfl)) rfl rfl rfl (w_n rfl) ?_
          refine TL_q (.pointer (some ⟨B4, 0, none⟩)) (fun _ _ hρ _ => r_fieldAddr fl33_0 sz3 (hρ _ _ rfl)) rfl rfl rfl (w_n rfl) ?_
          refine TL_q (.int .i64 ((rbN a b (8 * y + x)).x)) (fun _ _ hρ hm => r_load ag3 (hρ _ _ rfl) (hm.at 902 rfl) rfl) rfl rfl rfl (w_n rfl) ?_
          refine TL_q (.bool (decide (((x : Nat) : Int) < (rbN a b (8 * y + x)).x))) (fun _ _ hρ _ => r_lss (hρ _ _ rfl) (hρ _ _ rfl)) rfl rfl rfl (w_n rfl) ?_
          refine TL_seq ?_
          refine T_cond rfl (fun h8 => ?_) (fun h8 => ?_)
          · replace h8 := of_decide_eq_true h8
            refine T_region ?_
            refine TL_q (.int .i64 ((x : Nat) : Int)) (fun _ _ hρ _ => r_move (hρ _ _ rfl)) rfl rfl rfl (w_n rfl) ?_
            refine TL_q (.pointer (some ⟨B4, 0, none⟩)) (fun _ _ hρ _ => r_fieldAddr fl33_0 sz3 (hρ _ _ rfl)) rfl rfl rfl (w_n rfl) ?_
            refine TL_store 902 (.cells #[.int .i64 ((x : Nat) : Int), .int .i64 ((rbN a b (8 * y + x)).y), .int .i64 ((rbN a b (8 * y + x)).x2), .int .i64 ((rbN a b (8 * y + x)).y2)] 33) rfl (fun _ _ hρ hm => r_store sz3 (hρ _ _ rfl) (hρ _ _ rfl) (hm.at 902 rfl) rfl rfl rfl rfl) rfl rfl (w_n rfl) ?_
            refine TL_nil ?_
            refine p_seq ?_
            refine T_seq ?_
            refine T_seq (T_region ?_)
            refine TL_q (.int .i64 ((x : Nat) : Int)) (fun _ _ hρ _ => r_move (hρ _ _ rfl)) rfl rfl rfl (w_n rfl) ?_
            refine TL_q (.pointer (some ⟨B4, 2, none⟩)) (fun _ _ hρ _ => r_fieldAddr fl33_2 sz3 (hρ _ _ rfl)) rfl rfl rfl (w_n rfl) ?_
            refine TL_q (.int .i64 ((rbN a b (8 * y + x)).x2)) (fun _ _ hρ hm => r_load ag3 (hρ _ _ rfl) (hm.at 902 rfl) rfl) rfl rfl rfl (w_n rfl) ?_
            refine TL_q (.bool (decide ((rbN a b (8 * y + x)).x2 < ((x : Nat) : Int)))) (fun _ _ hρ _ => r_gtr (hρ _ _ rfl) (hρ _ _ rfl)) rfl rfl rfl (w_n rfl) ?_
            refine TL_seq ?_
            refine T_cond rfl (fun h9 => ?_) (fun h9 => ?_)
            · replace h9 := of_decide_eq_true h9
              refine T_region ?_
              refine TL_q (.int .i64 ((x : Nat) : Int)) (fun _ _ hρ _ => r_move (hρ _ _ rfl)) rfl rfl rfl (w_n rfl) ?_
              refine TL_q (.pointer (some ⟨B4, 2, none⟩)) (fun _ _ hρ _ => r_fieldAddr fl33_2 sz3 (hρ _ _ rfl)) rfl rfl rfl (w_n rfl) ?_
              refine TL_store 902 (.cells #[.int .i64 ((x : Nat) : Int), .int .i64 ((rbN a b (8 * y + x)).y), .int .i64 ((x : Nat) : Int), .int .i64 ((rbN a b (8 * y + x)).y2)] 33) rfl (fun _ _ hρ hm => r_store sz3 (hρ _ _ rfl) (hρ _ _ rfl) (hm.at 902 rfl) rfl rfl rfl rfl) rfl rfl (w_n rfl) ?_
              refine TL_nil ?_
              refine p_seq ?_
              refine T_region ?_
              refine TL_q (.int .i64 ((y : Nat) : Int)) (fun _ _ hρ _ => r_move (hρ _ _ rfl)) rfl rfl rfl (w_n rfl) ?_
              refine TL_q (.pointer (some ⟨B4, 3, none⟩)) (fun _ _ hρ _ => r_fieldAddr fl33_3 sz3 (hρ _ _ rfl)) rfl rfl rfl (w_n rfl) ?_
              refine TL_store 902 (.cells #[.int .i64 ((x : Nat) : Int), .int .i64 ((rbN a b (8 * y + x)).y), .int .i64 ((x : Nat) : Int), .int .i64 ((y : Nat) : Int)] 33) rfl (fun _ _ hρ hm => r_store sz3 (hρ _ _ rfl) (hρ _ _ rfl) (hm.at 902 rfl) rfl rfl rfl rfl) rfl rfl (w_n rfl) ?_
              refine TL_nil ?_
              refine p_blk_n ?_
              refine p_seq ?_
              refine T_region ?_
              refine TL_q (.int .i64 ((x + 1 : Nat) : Int)) (fun _ _ hρ _ => r_as (r_add (hρ _ _ rfl) (hρ _ _ rfl)) (int_as ((wrap64 (by omega) (by omega)).trans (by omega)))) rfl rfl rfl (w_n rfl) ?_
              refine TL_q (.int .i64 ((x + 1 : Nat) : Int)) (fun _ _ hρ _ => r_move (hρ _ _ rfl)) rfl rfl rfl (w_n rfl) ?_
              refine TL_nil ?_
              exact p_at (x + 1) ⟨by omega, by omega⟩ (sub_cons rfl (sub_cons rfl (sub_cons rfl (sub_cons rfl (sub_cons rfl (sub_cons rfl (sub_cons rfl (sub_cons rfl (sub_cons rfl (sub_cons rfl (sub_cons (congrArg (fun z : Bool => some (Value.bool z)) (h4.trans (rs_ne h3).symm)) sub_nil))))))))))) (sub_cons rfl (sub_cons rfl (sub_cons rfl (sub_cons (congrArg (fun z : BoxV => some (Res.blk B4 (.cells #[.int .i64 z.x, .int .i64 z.y, .int .i64 z.x2, .int .i64 z.y2] 33))) (show (⟨((x : Nat) : Int), (rbN a b (8 * y + x)).y, ((x : Nat) : Int), ((y : Nat) : Int)⟩ : BoxV) = rbN a b (8 * y + x + 1) from by rw [rb_ne (by omega) h3, h4]; simp only [rbS, if_pos h8, if_pos h9])) sub_nil))))
            · replace h9 := of_decide_eq_false h9
              refine T_skip' ?_
              refine p_seq ?_
              refine T_region ?_
              refine TL_q (.int .i64 ((y : Nat) : Int)) (fun _ _ hρ _ => r_move (hρ _ _ rfl)) rfl rfl rfl (w_n rfl) ?_
              refine TL_q (.pointer (some ⟨B4, 3, none⟩)) (fun _ _ hρ _ => r_fieldAddr fl33_3 sz3 (hρ _ _ rfl)) rfl rfl rfl (w_n rfl) ?_
              refine TL_store 902 (.cells #[.int .i64 ((x : Nat) : Int), .int .i64 ((rbN a b (8 * y + x)).y), .int .i64 ((rbN a b (8 * y + x)).x2), .int .i64 ((y : Nat) : Int)] 33) rfl (fun _ _ hρ hm => r_store sz3 (hρ _ _ rfl) (hρ _ _ rfl) (hm.at 902 rfl) rfl rfl rfl rfl) rfl rfl (w_n rfl) ?_
              refine TL_nil ?_
              refine p_blk_n ?_
              refine p_seq ?_
              refine T_region ?_
              refine TL_q (.int .i64 ((x + 1 : Nat) : Int)) (fun _ _ hρ _ => r_as (r_add (hρ _ _ rfl) (hρ _ _ rfl)) (int_as ((wrap64 (by omega) (by omega)).trans (by omega)))) rfl rfl rfl (w_n rfl) ?_
              refine TL_q (.int .i64 ((x + 1 : Nat) : Int)) (fun _ _ hρ _ => r_move (hρ _ _ rfl)) rfl rfl rfl (w_n rfl) ?_
              refine TL_nil ?_
              exact p_at (x + 1) ⟨by omega, by omega⟩ (sub_cons rfl (sub_cons rfl (sub_cons rfl (sub_cons rfl (sub_cons rfl (sub_cons rfl (sub_cons rfl (sub_cons rfl (sub_cons rfl (sub_cons rfl (sub_cons (congrArg (fun z : Bool => some (Value.bool z)) (h4.trans (rs_ne h3).symm)) sub_nil))))))))))) (sub_cons rfl (sub_cons rfl (sub_cons rfl (sub_cons (congrArg (fun z : BoxV => some (Res.blk B4 (.cells #[.int .i64 z.x, .int .i64 z.y, .int .i64 z.x2, .int .i64 z.y2] 33))) (show (⟨((x : Nat) : Int), (rbN a b (8 * y + x)).y, (rbN a b (8 * y + x)).x2, ((y : Nat) : Int)⟩ : BoxV) = rbN a b (8 * y + x + 1) from by rw [rb_ne (by omega) h3, h4]; simp only [rbS, if_pos h8, if_neg h9])) sub_nil))))
          · replace h8 := of_decide_eq_false h8
            refine T_skip' ?_
            refine p_seq ?_
            refine T_seq ?_
            refine T_seq (T_region ?_)
            refine TL_q (.int .i64 ((x : Nat) : Int)) (fun _ _ hρ _ => r_move (hρ _ _ rfl)) rfl rfl rfl (w_n rfl) ?_
            refine TL_q (.pointer (some ⟨B4, 2, none⟩)) (fun _ _ hρ _ => r_fieldAddr fl33_2 sz3 (hρ _ _ rfl)) rfl rfl rfl (w_n rfl) ?_
            refine TL_q (.int .i64 ((rbN a b (8 * y + x)).x2)) (fun _ _ hρ hm => r_load ag3 (hρ _ _ rfl) (hm.at 902 rfl) rfl) rfl rfl rfl (w_n rfl) ?_
            refine TL_q (.bool (decide ((rbN a b (8 * y + x)).x2 < ((x : Nat) : Int)))) (fun _ _ hρ _ => r_gtr (hρ _ _ rfl) (hρ _ _ rfl)) rfl rfl rfl (w_n rfl) ?_
            refine TL_seq ?_
            refine T_cond rfl (fun h10 => ?_) (fun h10 => ?_)
            · replace h10 := of_decide_eq_true h10
              refine T_region ?_
              refine TL_q (.int .i64 ((x : Nat) : Int)) (fun _ _ hρ _ => r_move (hρ _ _ rfl)) rfl rfl rfl (w_n rfl) ?_
              refine TL_q (.pointer (some ⟨B4, 2, none⟩)) (fun _ _ hρ _ => r_fieldAddr fl33_2 sz3 (hρ _ _ rfl)) rfl rfl rfl (w_n rfl) ?_
              refine TL_store 902 (.cells #[.int .i64 ((rbN a b (8 * y + x)).x), .int .i64 ((rbN a b (8 * y + x)).y), .int .i64 ((x : Nat) : Int), .int .i64 ((rbN a b (8 * y + x)).y2)] 33) rfl (fun _ _ hρ hm => r_store sz3 (hρ _ _ rfl) (hρ _ _ rfl) (hm.at 902 rfl) rfl rfl rfl rfl) rfl rfl (w_n rfl) ?_
              refine TL_nil ?_
              refine p_seq ?_
              refine T_region ?_
              refine TL_q (.int .i64 ((y : Nat) : Int)) (fun _ _ hρ _ => r_move (hρ _ _ rfl)) rfl rfl rfl (w_n rfl) ?_
              refine TL_q (.pointer (some ⟨B4, 3, none⟩)) (fun _ _ hρ _ => r_fieldAddr fl33_3 sz3 (hρ _ _ rfl)) rfl rfl rfl (w_n rfl) ?_
              refine TL_store 902 (.cells #[.int .i64 ((rbN a b (8 * y + x)).x), .int .i64 ((rbN a b (8 * y + x)).y), .int .i64 ((x : Nat) : Int), .int .i64 ((y : Nat) : Int)] 33) rfl (fun _ _ hρ hm => r_store sz3 (hρ _ _ rfl) (hρ _ _ rfl) (hm.at 902 rfl) rfl rfl rfl rfl) rfl rfl (w_n rfl) ?_
              refine TL_nil ?_
              refine p_blk_n ?_
              refine p_seq ?_
              refine T_region ?_
              refine TL_q (.int .i64 ((x + 1 : Nat) : Int)) (fun _ _ hρ _ => r_as (r_add (hρ _ _ rfl) (hρ _ _ rfl)) (int_as ((wrap64 (by omega) (by omega)).trans (by omega)))) rfl rfl rfl (w_n rfl) ?_
              refine TL_q (.int .i64 ((x + 1 : Nat) : Int)) (fun _ _ hρ _ => r_move (hρ _ _ rfl)) rfl rfl rfl (w_n rfl) ?_
              refine TL_nil ?_
              exact p_at (x + 1) ⟨by omega, by omega⟩ (sub_cons rfl (sub_cons rfl (sub_cons rfl (sub_cons rfl (sub_cons rfl (sub_cons rfl (sub_cons rfl (sub_cons rfl (sub_cons rfl (sub_cons rfl (sub_cons (congrArg (fun z : Bool => some (Value.bool z)) (h4.trans (rs_ne h3).symm)) sub_nil))))))))))) (sub_cons rfl (sub_cons rfl (sub_cons rfl (sub_cons (congrArg (fun z : BoxV => some (Res.blk B4 (.cells #[.int .i64 z.x, .int .i64 z.y, .int .i64 z.x2, .int .i64 z.y2] 33))) (show (⟨(rbN a b (8 * y + x)).x, (rbN a b (8 * y + x)).y, ((x : Nat) : Int), ((y : Nat) : Int)⟩ : BoxV) = rbN a b (8 * y + x + 1) from by rw [rb_ne (by omega) h3, h4]; simp only [rbS, if_neg h8, if_pos h10])) sub_nil))))
            · replace h10 := of_decide_eq_false h10
              refine T_skip' ?_
              refine p_seq ?_
              refine T_region ?_
              refine TL_q (.int .i64 ((y : Nat) : Int)) (fun _ _ hρ _ => r_move (hρ _ _ rfl)) rfl rfl rfl (w_n rfl) ?_
              refine TL_q (.pointer (some ⟨B4, 3, none⟩)) (fun _ _ hρ _ => r_fieldAddr fl33_3 sz3 (hρ _ _ rfl)) rfl rfl rfl (w_n rfl) ?_
              refine TL_store 902 (.cells #[.int .i64 ((rbN a b (8 * y + x)).x), .int .i64 ((rbN a b (8 * y + x)).y), .int .i64 ((rbN a b (8 * y + x)).x2), .int .i64 ((y : Nat) : Int)] 33) rfl (fun _ _ hρ hm => r_store sz3 (hρ _ _ rfl) (hρ _ _ rfl) (hm.at 902 rfl) rfl rfl rfl rfl) rfl rfl (w_n rfl) ?_
              refine TL_nil ?_
              refine p_blk_n ?_
              refine p_seq ?_
              refine T_region ?_
              refine TL_q (.int .i64 ((x + 1 : Nat) : Int)) (fun _ _ hρ _ => r_as (r_add (hρ _ _ rfl) (hρ _ _ rfl)) (int_as ((wrap64 (by omega) (by omega)).trans (by omega)))) rfl rfl rfl (w_n rfl) ?_
              refine TL_q (.int .i64 ((x + 1 : Nat) : Int)) (fun _ _ hρ _ => r_move (hρ _ _ rfl)) rfl rfl rfl (w_n rfl) ?_
              refine TL_nil ?_
              exact p_at (x + 1) ⟨by omega, by omega⟩ (sub_cons rfl (sub_cons rfl (sub_cons rfl (sub_cons rfl (sub_cons rfl (sub_cons rfl (sub_cons rfl (sub_cons rfl (sub_cons rfl (sub_cons rfl (sub_cons (congrArg (fun z : Bool => some (Value.bool z)) (h4.trans (rs_ne h3).symm)) sub_nil))))))))))) (sub_cons rfl (sub_cons rfl (sub_cons rfl (sub_cons (congrArg (fun z : BoxV => some (Res.blk B4 (.cells #[.int .i64 z.x, .int .i64 z.y, .int .i64 z.x2, .int .i64 z.y2] 33))) (show (⟨(rbN a b (8 * y + x)).x, (rbN a b (8 * y + x)).y, (rbN a b (8 * y + x)).x2, ((y : Nat) : Int)⟩ : BoxV) = rbN a b (8 * y + x + 1) from by rw [rb_ne (by omega) h3, h4]; simp only [rbS, if_neg h8, if_neg h10])) sub_nil))))
    · replace h2 := of_decide_eq_false h2
      refine T_exit' ?_
      refine p_then_x ?_
      refine p_then_x ?_
      refine p_blk_x ?_
      refine p_blk_n ?_
      refine p_seq ?_
      have hx8 : x = 8 := by omega
      subst hx8
      refine T_region ?_
      refine TL_q (.int .i64 ((y + 1 : Nat) : Int)) (fun _ _ hρ _ => r_as (r_add (hρ _ _ rfl) (hρ _ _ rfl)) (int_as ((wrap64 (by omega) (by omega)).trans (by omega)))) rfl rfl rfl (w_n rfl) ?_
      refine TL_q (.int .i64 ((y + 1 : Nat) : Int)) (fun _ _ hρ _ => r_move (hρ _ _ rfl)) rfl rfl rfl (w_n rfl) ?_
      refine TL_nil ?_
      exact p_at (y + 1) ⟨by omega, by omega⟩ (sub_cons rfl (sub_cons rfl (sub_cons rfl (sub_cons rfl (sub_cons rfl (sub_cons rfl (sub_cons rfl sub_nil))))))) (sub_cons rfl (sub_cons rfl (sub_cons rfl (sub_cons rfl sub_nil))))
  · replace h1 := of_decide_eq_false h1
    refine T_exit' ?_
    refine p_then_x ?_
    refine p_then_x ?_
    refine p_blk_x ?_
    refine p_seq ?_
    refine T_seq (T_region ?_)
    refine TL_q (.agg #[.int .i64 ((rbN a b (8 * y)).x), .int .i64 ((rbN a b (8 * y)).y), .int .i64 ((rbN a b (8 * y)).x2), .int .i64 ((rbN a b (8 * y)).y2)]) (fun _ _ hρ hm => r_loadA ag33 sz33 (hρ _ _ rfl) (hm.at 902 rfl) rfl rfl) rfl rfl rfl (w_n rfl) ?_
    refine TL_q (.bool (rsN a b (8 * y))) (fun _ _ hρ _ => r_move (hρ _ _ rfl)) rfl rfl rfl (w_n rfl) ?_
    refine TL_store 1 (.cells #[.int .i64 ((rbN a b (8 * y)).x), .int .i64 ((rbN a b (8 * y)).y), .int .i64 ((rbN a b (8 * y)).x2), .int .i64 ((rbN a b (8 * y)).y2)] 33) rfl (fun _ _ hρ hm => r_store sz33 (hρ _ _ rfl) (hρ _ _ rfl) (hm.at 1 rfl) rfl rfl rfl rfl) rfl rfl (w_n rfl) ?_
    refine TL_q (.bool (rsN a b (8 * y))) (fun _ _ hρ _ => r_assign (hρ _ _ rfl)) rfl rfl rfl (w_n rfl) ?_
    refine TL_seq ?_
    refine T_ret' ?_
    refine ret_of rfl (.tuple #[.agg #[.int .i64 ((rbN a b (8 * y)).x), .int .i64 ((rbN a b (8 * y)).y), .int .i64 ((rbN a b (8 * y)).x2), .int .i64 ((rbN a b (8 * y)).y2)], .bool (rsN a b (8 * y))]) (fun tmps w hk hm => res2 rfl (res_cell (hk 4 _ rfl) (run_loadVar_agg ag33 sz33 (hm.at 1 rfl) (Nat.le_of_ble_eq_true rfl) rfl)) (res_tmp (hk 5 _ rfl))) (fun w hm => ?_)
    have hy8 : y = 8 := by omega
    subst hy8
    exact ⟨rfl, hm.ext⟩
end Go.Proofs.Ytmlkifojbjbpcaa
