/- Texts of this seat, merged: part 2. -/
import Derived.Test.YtmihoejecpcmjaaMg1
/- marks: ids and marks (plainly). -/
namespace Go.Proofs.Ytmihoejecpcmjaa
open Go Go.RowKit
structure Tid where
  t : Int
  s : Int
  q : Int
abbrev Tid.cells (i : Tid) : List Value := [.int .u64 i.t, .int .i64 i.s, .int .u64 i.q]
theorem Tid.cells_len (i : Tid) : i.cells.length = 3 := rfl
theorem Tid.cells_one : ∀ x : Tid, ∀ u ∈ x.cells, u.oneCell' = true := fun x u hu => by
  rcases List.mem_cons.1 hu with rfl | hu
  · rfl
  rcases List.mem_cons.1 hu with rfl | hu
  · rfl
  rw [List.mem_singleton.1 hu]; rfl
abbrev Tid.v (i : Tid) : Value := .agg #[.int .u64 i.t, .int .i64 i.s, .int .u64 i.q]
instance tidDec : DecidableEq Tid := fun x y =>
  if h : x.t = y.t ∧ x.s = y.s ∧ x.q = y.q then .isTrue (by cases x; cases y; obtain ⟨h1, h2, h3⟩ := h; cases h1; cases h2; cases h3; rfl) else .isFalse fun e => h (by subst e; exact ⟨rfl, rfl, rfl⟩)
theorem eqTid (x y : Tid) : eqI #[.int .u64 x.t, .int .i64 x.s, .int .u64 x.q] #[.int .u64 y.t, .int .i64 y.s, .int .u64 y.q] [(0, .u64), (1, .i64), (2, .u64)] = decide (x = y) := by
  show (decide (x.t = y.t) && (decide (x.s = y.s) && (decide (x.q = y.q) && true))) = _
  rw [Bool.and_true, ← Bool.decide_and, ← Bool.decide_and]
  exact decide_eq_decide.2 ⟨fun ⟨h1, h2, h3⟩ => by cases x; cases y; cases h1; cases h2; cases h3; rfl, fun e => by subst e; exact ⟨rfl, rfl, rfl⟩⟩
theorem tid_ext {x y : Tid} (h1 : x.t = y.t) (h2 : x.s = y.s) (h3 : x.q = y.q) : x = y := by cases x; cases y; cases h1; cases h2; cases h3; rfl
def okI (i : Tid) : Bool := decide (1 ≤ i.t ∧ i.t ≤ 4611686018427387904 ∧ 1 ≤ i.s ∧ i.s ≤ 8 ∧ 1 ≤ i.q ∧ i.q ≤ 4611686018427387904)
def lessI (a b : Tid) : Bool := decide (a.t < b.t ∨ a.t = b.t ∧ (a.s < b.s ∨ a.s = b.s ∧ a.q < b.q))
theorem less_iff {a b : Tid} : lessI a b = true ↔ (a.t < b.t ∨ a.t = b.t ∧ (a.s < b.s ∨ a.s = b.s ∧ a.q < b.q)) := decide_eq_true_iff
theorem less_irr (a : Tid) : ¬ lessI a a = true := by rw [less_iff]; omega
theorem less_trans {a b c : Tid} (h1 : lessI a b = true) (h2 : lessI b c = true) : lessI a c = true := by rw [less_iff] at *; omega
theorem less_tri (a b : Tid) : lessI a b = true ∨ a = b ∨ lessI b a = true := by
  by_cases h1 : lessI a b = true
  · exact .inl h1
  · by_cases h2 : lessI b a = true
    · exact .inr (.inr h2)
    · rw [less_iff] at h1 h2
      exact .inr (.inl (tid_ext (by omega) (by omega) (by omega)))
def cmpI (x y : Int) : Int := if x < y then -1 else if y < x then 1 else 0
def orI (x y z : Int) : Int := if x ≠ 0 then x else if y ≠ 0 then y else z
def compI (a b : Tid) : Int := if a = b then 0 else orI (cmpI a.t b.t) (cmpI a.s b.s) (cmpI a.q b.q)
theorem less_comp (a b : Tid) : decide (compI a b < 0) = lessI a b := by
  unfold lessI
  refine decide_eq_decide.2 ?_
  unfold compI
  by_cases e : a = b
  · subst e; rw [if_pos rfl]; omega
  · rw [if_neg e]
    have hne : ¬ (a.t = b.t ∧ a.s = b.s ∧ a.q = b.q) := fun h => e (tid_ext h.1 h.2.1 h.2.2)
    unfold orI cmpI
    repeat' split
    all_goals omega
def risesB : List Tid → Bool
  | [] => true
  | a :: r => okI a && ((match r with | [] => true | b :: _ => lessI a b) && risesB r)
theorem rises_cons {a b : Tid} {r : List Tid} : risesB (a :: b :: r) = (okI a && (lessI a b && risesB (b :: r))) := rfl
theorem rises_at : ∀ {l : List Tid}, risesB l = true ↔ (∀ k x, l[k]? = some x → okI x = true ∧ ∀ y, l[k + 1]? = some y → lessI x y = true)
  | [] => ⟨fun _ k x h => by simp at h, fun _ => rfl⟩
  | [a] => by
    constructor
    · intro h k x hx
      have h1 : okI a = true := by
        unfold risesB at h
        exact (Bool.and_eq_true _ _ ▸ h).1
      cases k with
      | zero => cases hx; exact ⟨h1, fun y hy => by cases hy⟩
      | succ k => simp at hx
    · intro h
      have := (h 0 a rfl).1
      unfold risesB
      rw [this]; rfl
  | a :: b :: r => by
    rw [rises_cons, Bool.and_eq_true, Bool.and_eq_true, rises_at (l := b :: r)]
    constructor
    · rintro ⟨h1, h2, h3⟩ k x hx
      cases k with
      | zero => cases hx; exact ⟨h1, fun y hy => by cases hy; exact h2⟩
      | succ k => exact h3 k x hx
    · intro h
      exact ⟨(h 0 a rfl).1, (h 0 a rfl).2 b rfl, fun k x hx => h (k + 1) x hx⟩
theorem rises_right {l : List Tid} (h : risesB l = true) : ∀ x ∈ l, okI x = true := fun x hx => by
  obtain ⟨k, hk⟩ := List.getElem?_of_mem hx
  exact ((rises_at.1 h) k x hk).1
theorem rises_step {l : List Tid} {k : Nat} {x : Tid} (h : risesB (l.take k) = true) (hx : l[k]? = some x) (hr : okI x = true) (hl : ∀ y, 0 < k → l[k - 1]? = some y → lessI y x = true) : risesB (l.take (k + 1)) = true := by
  rw [rises_at] at h ⊢
  intro j z hz
  rw [List.getElem?_take] at hz
  split at hz
  · rename_i hj
    by_cases e : j = k
    · subst e
      rw [hx] at hz; cases hz
      refine ⟨hr, fun y hy => ?_⟩
      rw [List.getElem?_take, if_neg (by omega)] at hy; cases hy
    · have hjk : j < k := by omega
      have h1 := h j z (by rw [List.getElem?_take, if_pos hjk]; exact hz)
      refine ⟨h1.1, fun y hy => ?_⟩
      rw [List.getElem?_take] at hy
      split at hy
      · by_cases e2 : j + 1 = k
        · have : y = x := by rw [e2, hx] at hy; exact (Option.some.inj hy).symm
          subst this
          exact hl z (by omega) (by rw [show k - 1 = j by omega]; exact hz)
        · exact h1.2 y (by rw [List.getElem?_take, if_pos (by omega)]; exact hy)
      · cases hy
  · cases hz
theorem rises_less {l : List Tid} (h : risesB l = true) {k : Nat} {x y : Tid} (hk : 0 < k) (hy : l[k - 1]? = some y) (hx : l[k]? = some x) : lessI y x = true := ((rises_at.1 h) (k - 1) y hy).2 x (by rw [show k - 1 + 1 = k by omega]; exact hx)
theorem rises_pair : ∀ {l : List Tid}, risesB l = true → l.Pairwise fun x y => lessI x y = true
  | [], _ => List.Pairwise.nil
  | [a], _ => List.pairwise_singleton _ _
  | a :: b :: r, h => by
    rw [rises_cons, Bool.and_eq_true, Bool.and_eq_true] at h
    have ih := rises_pair h.2.2
    refine List.pairwise_cons.2 ⟨fun y hy => ?_, ih⟩
    rcases List.mem_cons.1 hy with rfl | hy
    · exact h.2.1
    · exact less_trans h.2.1 ((List.pairwise_cons.1 ih).1 y hy)
structure Mk where
  i : Tid
  c : Option Cv
abbrev Mk.ptr (m : Mk) : Option Addr := m.c.map fun c => ⟨c.p, 0, none⟩
abbrev Mk.cells (m : Mk) : List Value := [.int .u64 m.i.t, .int .i64 m.i.s, .int .u64 m.i.q, .pointer m.ptr]
theorem Mk.cells_len (m : Mk) : m.cells.length = 4 := rfl
theorem Mk.cells_one : ∀ x : Mk, ∀ u ∈ x.cells, u.oneCell' = true := fun x u hu => by
  rcases List.mem_cons.1 hu with rfl | hu
  · rfl
  rcases List.mem_cons.1 hu with rfl | hu
  · rfl
  rcases List.mem_cons.1 hu with rfl | hu
  · rfl
  rw [List.mem_singleton.1 hu]; rfl
abbrev Mk.v (m : Mk) : Value := .agg #[.int .u64 m.i.t, .int .i64 m.i.s, .int .u64 m.i.q, .pointer m.ptr]
theorem ptr_none (m : Mk) : m.ptr.isNone = !m.c.isSome := by cases m with | mk i c => cases c <;> rfl
abbrev idsM (l : List Mk) : List Tid := l.map Mk.i
def okM (m : Mk) : Bool := okI m.i && m.c.isSome
def marksB (l : List Mk) : Bool := risesB (idsM l) && (l.all (·.c.isSome) && decide (l.length ≤ 6))
theorem marksB_iff {l : List Mk} : marksB l = true ↔ risesB (idsM l) = true ∧ (∀ m ∈ l, m.c.isSome = true) ∧ l.length ≤ 6 := by
  unfold marksB
  rw [Bool.and_eq_true, Bool.and_eq_true, List.all_eq_true, decide_eq_true_iff]
theorem ids_at {l : List Mk} {k : Nat} {m : Mk} (h : l[k]? = some m) : (idsM l)[k]? = some m.i := by rw [List.getElem?_map, h]; rfl
theorem ids_len (l : List Mk) : (idsM l).length = l.length := List.length_map _
theorem ids_take (l : List Mk) (k : Nat) : idsM (l.take k) = (idsM l).take k := by unfold idsM; rw [List.map_take]
/-! ### putting -/
def aheadL (l : List Tid) (i : Tid) : Nat := (l.filter fun x => lessI x i).length
theorem ahead_le (l : List Tid) (i : Tid) : aheadL l i ≤ l.length := List.length_filter_le _ _
theorem ahead_step {l : List Tid} {k : Nat} {x i : Tid} (h : l[k]? = some x) : aheadL (l.take (k + 1)) i = aheadL (l.take k) i + (if lessI x i = true then 1 else 0) := by
  unfold aheadL
  rw [List.take_add_one, h, List.filter_append, List.length_append]
  congr 1
  show (List.filter _ [x]).length = _
  rw [List.filter_cons, List.filter_nil]
  split
  · rfl
  · rfl
def insG {α : Type} (key : α → Tid) (l : List α) (x : α) : List α :=
  if (l.map key)[aheadL (l.map key) (key x)]? = some (key x) then l.set (aheadL (l.map key) (key x)) x else l.take (aheadL (l.map key) (key x)) ++ x :: l.drop (aheadL (l.map key) (key x))
def longI (ts : List Int) (k : Nat) : Int := IntKind.wrap .u64 (ts.getD (k + 1) 0 - ts.getD (k - 1) 0)
def outF (ts : List Int) : Nat → Nat × Int
  | 0 => (0, 0)
  | k + 1 => if (outF ts k).1 = 0 ∨ longI ts (k + 1) < (outF ts k).2 then (k + 1, longI ts (k + 1)) else outF ts k
def outN (ts : List Int) : Nat := (outF ts (ts.length - 2)).1
def timesG {α : Type} (key : α → Tid) (l : List α) : List Int := l.map fun x => (key x).t
def putG {α : Type} (key : α → Tid) (l : List α) (x : α) : List α :=
  if (insG key l x).length ≤ 6 then insG key l x else (insG key l x).eraseIdx (outN (timesG key (insG key l x)))
theorem insG_map {α β : Type} {key : α → Tid} {key' : β → Tid} {f : α → β} (h : ∀ x, key' (f x) = key x) (l : List α) (x : α) : (insG key l x).map f = insG key' (l.map f) (f x) := by
  have e : (l.map f).map key' = l.map key := by rw [List.map_map]; exact List.map_congr_left fun y _ => h y
  unfold insG
  rw [e, h]
  split
  · rw [List.map_set]
  · rw [List.map_append, List.map_cons, List.map_take, List.map_drop]
theorem times_map {α β : Type} {key : α → Tid} {key' : β → Tid} {f : α → β} (h : ∀ x, key' (f x) = key x) (l : List α) : timesG key' (l.map f) = timesG key l := by
  unfold timesG
  rw [List.map_map]
  exact List.map_congr_left fun y _ => by show (key' (f y)).t = _; rw [h]
theorem map_erase {α β : Type} (f : α → β) : ∀ (l : List α) (i : Nat), (l.eraseIdx i).map f = (l.map f).eraseIdx i
  | [], _ => rfl
  | _ :: _, 0 => rfl
  | a :: l, i + 1 => by show f a :: (l.eraseIdx i).map f = f a :: (l.map f).eraseIdx i; rw [map_erase f l i]
theorem putG_map {α β : Type} {key : α → Tid} {key' : β → Tid} {f : α → β} (h : ∀ x, key' (f x) = key x) (l : List α) (x : α) : (putG key l x).map f = putG key' (l.map f) (f x) := by
  unfold putG
  rw [← insG_map h, List.length_map, times_map h]
  split
  · rfl
  · exact map_erase f _ _
theorem insG_len {α : Type} (key : α → Tid) (l : List α) (x : α) : l.length ≤ (insG key l x).length ∧ (insG key l x).length ≤ l.length + 1 := by
  unfold insG
  split
  · rw [List.length_set]; omega
  · rw [List.length_append, List.length_cons, List.length_take, List.length_drop]; omega
theorem out_bound (ts : List Int) : ∀ k, (outF ts k).1 ≤ k ∧ (0 < k → 1 ≤ (outF ts k).1)
  | 0 => ⟨Nat.le_refl _, fun h => absurd h (Nat.lt_irrefl _)⟩
  | k + 1 => by
    obtain ⟨h1, h2⟩ := out_bound ts k
    unfold outF
    split
    · exact ⟨Nat.le_refl _, fun _ => Nat.succ_le_succ (Nat.zero_le _)⟩
    · rename_i h
      refine ⟨by omega, fun _ => ?_⟩
      have : ¬ (outF ts k).1 = 0 := fun e => h (.inl e)
      omega
theorem putG_len {α : Type} (key : α → Tid) {l : List α} (x : α) (h : l.length ≤ 6) : (putG key l x).length ≤ 6 := by
  have := insG_len key l x
  unfold putG
  split
  · assumption
  · have ho := (out_bound (timesG key (insG key l x)) ((timesG key (insG key l x)).length - 2))
    have hl : (timesG key (insG key l x)).length = (insG key l x).length := List.length_map _
    rw [List.length_eraseIdx_of_lt (by unfold outN; omega)]
    omega
def putsG {α : Type} (key : α → Tid) (l xs : List α) : List α := xs.foldl (putG key) l
theorem putsG_map {α β : Type} {key : α → Tid} {key' : β → Tid} {f : α → β} (h : ∀ x, key' (f x) = key x) : ∀ (xs l : List α), (putsG key l xs).map f = putsG key' (l.map f) (xs.map f)
  | [], l => rfl
  | x :: xs, l => by
    show (putsG key (putG key l x) xs).map f = putsG key' (putG key' (l.map f) (f x)) (xs.map f)
    rw [putsG_map h xs, putG_map h]
theorem putsG_step {α : Type} (key : α → Tid) {l xs : List α} {k : Nat} {x : α} (h : xs[k]? = some x) : putsG key l (xs.take (k + 1)) = putG key (putsG key l (xs.take k)) x := by
  unfold putsG
  rw [List.take_add_one, h, List.foldl_append]; rfl
end Go.Proofs.Ytmihoejecpcmjaa
/- net and journal: ids compared. Printed by a program of this seat's prover. -/
namespace Go.Proofs.Ytmihoejecpcmjaa
open Go Go.RowKit
set_option maxRecDepth 10000
theorem nan_u (x : Int) (w : World) : Calls Try.prog 77 #[.int .u64 x] w fun e w' => e = .returned (.bool false) ∧ Below w.heap.size w w' := by
 refine calls_of_T (l := [.int .u64 x]) 6 Try.func77 rfl rfl rfl ?_
 show T _ _ _ [(0, .int .u64 x)] []
 refine T_seq (T_region ?_)
 refine TL_v (.bool false) (s_as rfl) rfl rfl ?_
 refine TL_seq ?_
 refine T_seq (T_region ?_)
 refine TL_v (.int .u64 x) (s_mv rfl) rfl rfl ?_
 refine TL_v (.int .u64 x) (s_mv rfl) rfl rfl ?_
 refine TL_v (.bool false) (s_op r_neq rfl rfl (bool_as (by simp))) rfl rfl ?_
 refine TL_v (.bool false) (s_as rfl) rfl rfl ?_
 refine TL_seq ?_
 refine T_ret' ?_
 refine ret_of rfl (.bool false) (fun tmps w hk hm => res1 rfl (res_tmp (hk 2 _ rfl))) (fun w hm => ?_)
 exact ⟨rfl, hm.ext⟩

theorem nan_i (x : Int) (w : World) : Calls Try.prog 78 #[.int .i64 x] w fun e w' => e = .returned (.bool false) ∧ Below w.heap.size w w' := by
 refine calls_of_T (l := [.int .i64 x]) 6 Try.func78 rfl rfl rfl ?_
 show T _ _ _ [(0, .int .i64 x)] []
 refine T_seq (T_region ?_)
 refine TL_v (.bool false) (s_as rfl) rfl rfl ?_
 refine TL_seq ?_
 refine T_seq (T_region ?_)
 refine TL_v (.int .i64 x) (s_mv rfl) rfl rfl ?_
 refine TL_v (.int .i64 x) (s_mv rfl) rfl rfl ?_
 refine TL_v (.bool false) (s_op r_neq rfl rfl (bool_as (by simp))) rfl rfl ?_
 refine TL_v (.bool false) (s_as rfl) rfl rfl ?_
 refine TL_seq ?_
 refine T_ret' ?_
 refine ret_of rfl (.bool false) (fun tmps w hk hm => res1 rfl (res_tmp (hk 2 _ rfl))) (fun w hm => ?_)
 exact ⟨rfl, hm.ext⟩

theorem cmp_u (x y : Int) (w : World) : Calls Try.prog 67 #[.int .u64 x, .int .u64 y] w fun e w' => e = .returned (.int .i64 (cmpI x y)) ∧ Below w.heap.size w w' := by
 refine calls_of_T (l := [.int .u64 x, .int .u64 y]) 20 Try.func67 rfl rfl rfl ?_
 show T _ _ _ [(0, .int .u64 x), (1, .int .u64 y)] []
 refine T_seq (T_region ?_)
 refine TL_v (.int .i64 0) (s_as rfl) rfl rfl ?_
 refine TL_seq ?_
 refine T_seq (T_region ?_)
 refine TL_v (.int .u64 x) (s_mv rfl) rfl rfl ?_
 refine TL_call (.bool false) (fun _ _ j _ => r_call (args := [.int .u64 x]) (enters_of Try.func77 (by kernel_rfl) rfl) (j _ _ rfl) ((cons2 (j _ _ rfl) rfl)) rfl) (fun w _ => nan_u x w) rfl rfl rfl (w_n rfl) ?_
 refine TL_v (.bool false) (s_as rfl) rfl rfl ?_
 refine TL_seq ?_
 refine T_seq (T_region ?_)
 refine TL_v (.int .u64 y) (s_mv rfl) rfl rfl ?_
 refine TL_call (.bool false) (fun _ _ j _ => r_call (args := [.int .u64 y]) (enters_of Try.func77 (by kernel_rfl) rfl) (j _ _ rfl) ((cons2 (j _ _ rfl) rfl)) rfl) (fun w _ => nan_u y w) rfl rfl rfl (w_n rfl) ?_
 refine TL_v (.bool false) (s_as rfl) rfl rfl ?_
 refine TL_seq ?_
 refine T_seq ?_
 refine T_seq (T_region ?_)
 refine TL_v (.bool false) (s_mv rfl) rfl rfl ?_
 refine TL_seq ?_
 refine T_cond_f rfl ?_
 refine T_skip' ?_
 refine p_seq ?_
 refine T_seq ?_
 refine T_seq (T_region ?_)
 refine TL_v (.bool false) (s_mv rfl) rfl rfl ?_
 refine TL_seq ?_
 refine T_cond_f rfl ?_
 refine T_skip' ?_
 refine p_seq ?_
 refine T_seq ?_
 refine T_seq (T_region ?_)
 refine TL_v (.int .u64 x) (s_mv rfl) rfl rfl ?_
 refine TL_v (.int .u64 y) (s_mv rfl) rfl rfl ?_
 refine TL_v (.bool (decide (x < y))) (fun _ _ j _ => r_lss (j _ _ rfl) (j _ _ rfl)) rfl rfl ?_
 refine TL_seq ?_
 refine T_cond rfl (fun h1 => ?_) (fun h1 => ?_)
 ·replace h1 := of_decide_eq_true h1
  refine T_seq (T_region ?_)
  refine TL_v (.int .i64 (-1)) (s_as rfl) rfl rfl ?_
  refine TL_seq ?_
  refine T_ret' ?_
  refine p_then_r ?_
  refine ret_of rfl (.int .i64 (-1)) (fun tmps w hk hm => res1 rfl (res_tmp (hk 4 _ rfl))) (fun w hm => ?_)
  refine ⟨congrArg (fun n : Int => Ending.returned (.int .i64 n)) (show (-1 : Int) = cmpI x y from ?_), hm.ext⟩
  unfold cmpI
  repeat' split
  all_goals omega
 ·replace h1 := of_decide_eq_false h1
  refine T_skip' ?_
  refine p_seq ?_
  refine T_seq ?_
  refine T_seq (T_region ?_)
  refine TL_v (.int .u64 x) (s_mv rfl) rfl rfl ?_
  refine TL_v (.int .u64 y) (s_mv rfl) rfl rfl ?_
  refine TL_v (.bool (decide (y < x))) (fun _ _ j _ => r_gtr (j _ _ rfl) (j _ _ rfl)) rfl rfl ?_
  refine TL_seq ?_
  refine T_cond rfl (fun h2 => ?_) (fun h2 => ?_)
  ·replace h2 := of_decide_eq_true h2
   refine T_seq (T_region ?_)
   refine TL_v (.int .i64 1) (s_as rfl) rfl rfl ?_
   refine TL_seq ?_
   refine T_ret' ?_
   refine p_then_r ?_
   refine ret_of rfl (.int .i64 1) (fun tmps w hk hm => res1 rfl (res_tmp (hk 4 _ rfl))) (fun w hm => ?_)
   refine ⟨congrArg (fun n : Int => Ending.returned (.int .i64 n)) (show (1 : Int) = cmpI x y from ?_), hm.ext⟩
   unfold cmpI
   repeat' split
   all_goals omega
  ·replace h2 := of_decide_eq_false h2
   refine T_skip' ?_
   refine p_seq ?_
   refine T_seq (T_region ?_)
   refine TL_v (.int .i64 0) (s_as rfl) rfl rfl ?_
   refine TL_seq ?_
   refine T_ret' ?_
   refine ret_of rfl (.int .i64 0) (fun tmps w hk hm => res1 rfl (res_tmp (hk 4 _ rfl))) (fun w hm => ?_)
   refine ⟨congrArg (fun n : Int => Ending.returned (.int .i64 n)) (show (0 : Int) = cmpI x y from ?_), hm.ext⟩
   unfold cmpI
   repeat' split
   all_goals omega

theorem cmp_i (x y : Int) (w : World) : Calls Try.prog 68 #[.int .i64 x, .int .i64 y] w fun e w' => e = .returned (.int .i64 (cmpI x y)) ∧ Below w.heap.size w w' := by
 refine calls_of_T (l := [.int .i64 x, .int .i64 y]) 20 Try.func68 rfl rfl rfl ?_
 show T _ _ _ [(0, .int .i64 x), (1, .int .i64 y)] []
 refine T_seq (T_region ?_)
 refine TL_v (.int .i64 0) (s_as rfl) rfl rfl ?_
 refine TL_seq ?_
 refine T_seq (T_region ?_)
 refine TL_v (.int .i64 x) (s_mv rfl) rfl rfl ?_
 refine TL_call (.bool false) (fun _ _ j _ => r_call (args := [.int .i64 x]) (enters_of Try.func78 (by kernel_rfl) rfl) (j _ _ rfl) ((cons2 (j _ _ rfl) rfl)) rfl) (fun w _ => nan_i x w) rfl rfl rfl (w_n rfl) ?_
 refine TL_v (.bool false) (s_as rfl) rfl rfl ?_
 refine TL_seq ?_
 refine T_seq (T_region ?_)
 refine TL_v (.int .i64 y) (s_mv rfl) rfl rfl ?_
 refine TL_call (.bool false) (fun _ _ j _ => r_call (args := [.int .i64 y]) (enters_of Try.func78 (by kernel_rfl) rfl) (j _ _ rfl) ((cons2 (j _ _ rfl) rfl)) rfl) (fun w _ => nan_i y w) rfl rfl rfl (w_n rfl) ?_
 refine TL_v (.bool false) (s_as rfl) rfl rfl ?_
 refine TL_seq ?_
 refine T_seq ?_
 refine T_seq (T_region ?_)
 refine TL_v (.bool false) (s_mv rfl) rfl rfl ?_
 refine TL_seq ?_
 refine T_cond_f rfl ?_
 refine T_skip' ?_
 refine p_seq ?_
 refine T_seq ?_
 refine T_seq (T_region ?_)
 refine TL_v (.bool false) (s_mv rfl) rfl rfl ?_
 refine TL_seq ?_
 refine T_cond_f rfl ?_
 refine T_skip' ?_
 refine p_seq ?_
 refine T_seq ?_
 refine T_seq (T_region ?_)
 refine TL_v (.int .i64 x) (s_mv rfl) rfl rfl ?_
 refine TL_v (.int .i64 y) (s_mv rfl) rfl rfl ?_
 refine TL_v (.bool (decide (x < y))) (fun _ _ j _ => r_lss (j _ _ rfl) (j _ _ rfl)) rfl rfl ?_
 refine TL_seq ?_
 refine T_cond rfl (fun h1 => ?_) (fun h1 => ?_)
 ·replace h1 := of_decide_eq_true h1
  refine T_seq (T_region ?_)
  refine TL_v (.int .i64 (-1)) (s_as rfl) rfl rfl ?_
  refine TL_seq ?_
  refine T_ret' ?_
  refine p_then_r ?_
  refine ret_of rfl (.int .i64 (-1)) (fun tmps w hk hm => res1 rfl (res_tmp (hk 4 _ rfl))) (fun w hm => ?_)
  refine ⟨congrArg (fun n : Int => Ending.returned (.int .i64 n)) (show (-1 : Int) = cmpI x y from ?_), hm.ext⟩
  unfold cmpI
  repeat' split
  all_goals omega
 ·replace h1 := of_decide_eq_false h1
  refine T_skip' ?_
  refine p_seq ?_
  refine T_seq ?_
  refine T_seq (T_region ?_)
  refine TL_v (.int .i64 x) (s_mv rfl) rfl rfl ?_
  refine TL_v (.int .i64 y) (s_mv rfl) rfl rfl ?_
  refine TL_v (.bool (decide (y < x))) (fun _ _ j _ => r_gtr (j _ _ rfl) (j _ _ rfl)) rfl rfl ?_
  refine TL_seq ?_
  refine T_cond rfl (fun h2 => ?_) (fun h2 => ?_)
  ·replace h2 := of_decide_eq_true h2
   refine T_seq (T_region ?_)
   refine TL_v (.int .i64 1) (s_as rfl) rfl rfl ?_
   refine TL_seq ?_
   refine T_ret' ?_
   refine p_then_r ?_
   refine ret_of rfl (.int .i64 1) (fun tmps w hk hm => res1 rfl (res_tmp (hk 4 _ rfl))) (fun w hm => ?_)
   refine ⟨congrArg (fun n : Int => Ending.returned (.int .i64 n)) (show (1 : Int) = cmpI x y from ?_), hm.ext⟩
   unfold cmpI
   repeat' split
   all_goals omega
  ·replace h2 := of_decide_eq_false h2
   refine T_skip' ?_
   refine p_seq ?_
   refine T_seq (T_region ?_)
   refine TL_v (.int .i64 0) (s_as rfl) rfl rfl ?_
   refine TL_seq ?_
   refine T_ret' ?_
   refine ret_of rfl (.int .i64 0) (fun tmps w hk hm => res1 rfl (res_tmp (hk 4 _ rfl))) (fun w hm => ?_)
   refine ⟨congrArg (fun n : Int => Ending.returned (.int .i64 n)) (show (0 : Int) = cmpI x y from ?_), hm.ext⟩
   unfold cmpI
   repeat' split
   all_goals omega

theorem or_c (b : Nat) (x y z : Int) (w : World) (hb : hp w b = some (.cells #[.int .i64 x, .int .i64 y, .int .i64 z] 3)) : Calls Try.prog 66 #[.slice (some ⟨b, 0, none⟩) 3 3] w fun e w' => e = .returned (.int .i64 (orI x y z)) ∧ Below w.heap.size w w' := by
 refine calls_of_T (l := [.slice (some ⟨b, 0, none⟩) 3 3]) 18 Try.func66 rfl rfl rfl ?_
 show T _ _ _ [(0, .slice (some ⟨b, 0, none⟩) 3 3)] []
 refine T_seq (T_region ?_)
 refine TL_v (.int .i64 0) (s_as rfl) rfl rfl ?_
 refine TL_seq ?_
 refine T_seq (T_region ?_)
 refine TL_v (.int .i64 0) (s_as rfl) rfl rfl ?_
 refine TL_seq ?_
 refine T_seq ?_
 refine T_seq (T_region ?_)
 refine TL_v (.slice (some ⟨b, 0, none⟩) 3 3) (s_mv rfl) rfl rfl ?_
 refine TL_v (.int .i64 3) (fun _ _ j _ => r_len sl43 (j _ _ rfl)) rfl rfl ?_
 refine TL_v (.int .i64 0) (s_mv rfl) rfl rfl ?_
 refine TL_seq ?_
 refine T_block ?_
 refine T_rounds 4 ?_
 refine TR_succ ?_
 refine T_seq (T_region ?_)
 refine TL_v (.bool true) (s_op r_lss rfl rfl (by rfl)) rfl rfl ?_
 refine TL_seq ?_
 refine T_seq ?_
 refine T_cond_t rfl ?_
 refine T_skip' ?_
 refine p_seq ?_
 refine T_seq ?_
 refine T_block ?_
 refine T_seq (T_region ?_)
 refine TL_v (pt b 0) (fun _ _ j _ => r_indexAddrS (i := 0) sl43 sz3 (j _ _ rfl) (j _ _ rfl) (by decide)) rfl rfl ?_
 refine TL_v (.int .i64 x) (fun _ _ j hm => r_load ag3 (j _ _ rfl) (hm.old hb) rfl) rfl rfl ?_
 refine TL_v (.int .i64 x) (s_as rfl) rfl rfl ?_
 refine TL_seq ?_
 refine T_seq (T_region ?_)
 refine TL_v (.int .i64 x) (s_mv rfl) rfl rfl ?_
 refine TL_v (.int .i64 0) (s_mv rfl) rfl rfl ?_
 refine TL_v (.bool (!decide (x = 0))) (fun _ _ j _ => r_neq (j _ _ rfl) (j _ _ rfl)) rfl rfl ?_
 refine TL_seq ?_
 refine T_cond rfl (fun h1 => ?_) (fun h1 => ?_)
 ·replace h1 := of_decide_eq_false (bnot_t h1)
  refine T_seq (T_region ?_)
  refine TL_v (.int .i64 x) (s_mv rfl) rfl rfl ?_
  refine TL_v (.int .i64 x) (s_as rfl) rfl rfl ?_
  refine TL_seq ?_
  refine T_ret' ?_
  refine p_blk_r ?_
  refine p_then_r ?_
  refine p_then_r ?_
  refine p_blk_r ?_
  refine p_then_r ?_
  refine ret_of rfl (.int .i64 x) (fun tmps w hk hm => res1 rfl (res_tmp (hk 2 _ rfl))) (fun w hm => ?_)
  refine ⟨congrArg (fun n : Int => Ending.returned (.int .i64 n)) (show (x : Int) = orI x y z from ?_), hm.ext⟩
  unfold orI
  repeat' split
  all_goals first | rfl | omega
 ·replace h1 := of_decide_eq_true (bnot_f h1)
  refine T_skip' ?_
  refine p_blk_n ?_
  refine p_seq ?_
  refine T_region ?_
  refine TL_v (.int .i64 1) (s_op r_add rfl rfl (by rfl)) rfl rfl ?_
  refine TL_v (.int .i64 1) (s_mv rfl) rfl rfl ?_
  refine TL_nil ?_
  refine p_round ?_
  refine TR_succ ?_
  refine T_seq (T_region ?_)
  refine TL_v (.bool true) (s_op r_lss rfl rfl (by rfl)) rfl rfl ?_
  refine TL_seq ?_
  refine T_seq ?_
  refine T_cond_t rfl ?_
  refine T_skip' ?_
  refine p_seq ?_
  refine T_seq ?_
  refine T_block ?_
  refine T_seq (T_region ?_)
  refine TL_v (pt b 1) (fun _ _ j _ => r_indexAddrS (i := 1) sl43 sz3 (j _ _ rfl) (j _ _ rfl) (by decide)) rfl rfl ?_
  refine TL_v (.int .i64 y) (fun _ _ j hm => r_load ag3 (j _ _ rfl) (hm.old hb) rfl) rfl rfl ?_
  refine TL_v (.int .i64 y) (s_as rfl) rfl rfl ?_
  refine TL_seq ?_
  refine T_seq (T_region ?_)
  refine TL_v (.int .i64 y) (s_mv rfl) rfl rfl ?_
  refine TL_v (.int .i64 0) (s_mv rfl) rfl rfl ?_
  refine TL_v (.bool (!decide (y = 0))) (fun _ _ j _ => r_neq (j _ _ rfl) (j _ _ rfl)) rfl rfl ?_
  refine TL_seq ?_
  refine T_cond rfl (fun h2 => ?_) (fun h2 => ?_)
  ·replace h2 := of_decide_eq_false (bnot_t h2)
   refine T_seq (T_region ?_)
   refine TL_v (.int .i64 y) (s_mv rfl) rfl rfl ?_
   refine TL_v (.int .i64 y) (s_as rfl) rfl rfl ?_
   refine TL_seq ?_
   refine T_ret' ?_
   refine p_blk_r ?_
   refine p_then_r ?_
   refine p_then_r ?_
   refine p_blk_r ?_
   refine p_then_r ?_
   refine ret_of rfl (.int .i64 y) (fun tmps w hk hm => res1 rfl (res_tmp (hk 2 _ rfl))) (fun w hm => ?_)
   refine ⟨congrArg (fun n : Int => Ending.returned (.int .i64 n)) (show (y : Int) = orI x y z from ?_), hm.ext⟩
   unfold orI
   repeat' split
   all_goals first | rfl | omega
  ·replace h2 := of_decide_eq_true (bnot_f h2)
   refine T_skip' ?_
   refine p_blk_n ?_
   refine p_seq ?_
   refine T_region ?_
   refine TL_v (.int .i64 2) (s_op r_add rfl rfl (by rfl)) rfl rfl ?_
   refine TL_v (.int .i64 2) (s_mv rfl) rfl rfl ?_
   refine TL_nil ?_
   refine p_round ?_
   refine TR_succ ?_
   refine T_seq (T_region ?_)
   refine TL_v (.bool true) (s_op r_lss rfl rfl (by rfl)) rfl rfl ?_
   refine TL_seq ?_
   refine T_seq ?_
   refine T_cond_t rfl ?_
   refine T_skip' ?_
   refine p_seq ?_
   refine T_seq ?_
   refine T_block ?_
   refine T_seq (T_region ?_)
   refine TL_v (pt b 2) (fun _ _ j _ => r_indexAddrS (i := 2) sl43 sz3 (j _ _ rfl) (j _ _ rfl) (by decide)) rfl rfl ?_
   refine TL_v (.int .i64 z) (fun _ _ j hm => r_load ag3 (j _ _ rfl) (hm.old hb) rfl) rfl rfl ?_
   refine TL_v (.int .i64 z) (s_as rfl) rfl rfl ?_
   refine TL_seq ?_
   refine T_seq (T_region ?_)
   refine TL_v (.int .i64 z) (s_mv rfl) rfl rfl ?_
   refine TL_v (.int .i64 0) (s_mv rfl) rfl rfl ?_
   refine TL_v (.bool (!decide (z = 0))) (fun _ _ j _ => r_neq (j _ _ rfl) (j _ _ rfl)) rfl rfl ?_
   refine TL_seq ?_
   refine T_sub [(2, .int .i64 0), (3, .int .i64 0), (6, .slice (some ⟨b, 0, none⟩) 3 3), (7, .int .i64 3), (16, .int .i64 2), (8, .int .i64 2), (9, .bool true), (10, pt b 2), (11, .int .i64 z), (5, .int .i64 z), (12, .int .i64 z), (13, .int .i64 0), (14, .bool (!decide (z = 0)))] [] (sc4 rfl rfl rfl rfl (sc4 rfl rfl rfl rfl (sc4 rfl rfl rfl rfl (sc rfl sub_nil)))) sub_nil ?_
   refine T_cond rfl (fun h3 => ?_) (fun h3 => ?_)
   ·replace h3 := of_decide_eq_false (bnot_t h3)
    refine T_seq (T_region ?_)
    refine TL_v (.int .i64 z) (s_mv rfl) rfl rfl ?_
    refine TL_v (.int .i64 z) (s_as rfl) rfl rfl ?_
    refine TL_seq ?_
    refine T_ret' ?_
    refine p_blk_r ?_
    refine p_then_r ?_
    refine p_then_r ?_
    refine p_blk_r ?_
    refine p_then_r ?_
    refine ret_of rfl (.int .i64 z) (fun tmps w hk hm => res1 rfl (res_tmp (hk 2 _ rfl))) (fun w hm => ?_)
    refine ⟨congrArg (fun n : Int => Ending.returned (.int .i64 n)) (show (z : Int) = orI x y z from ?_), hm.ext⟩
    unfold orI
    repeat' split
    all_goals first | rfl | omega
   ·replace h3 := of_decide_eq_true (bnot_f h3)
    refine T_skip' ?_
    refine p_blk_n ?_
    refine p_seq ?_
    refine T_region ?_
    refine TL_v (.int .i64 3) (s_op r_add rfl rfl (by rfl)) rfl rfl ?_
    refine TL_v (.int .i64 3) (s_mv rfl) rfl rfl ?_
    refine TL_nil ?_
    refine p_round ?_
    refine TR_succ ?_
    refine T_seq (T_region ?_)
    refine TL_v (.bool false) (s_op r_lss rfl rfl (by rfl)) rfl rfl ?_
    refine TL_seq ?_
    refine T_seq ?_
    refine T_cond_f rfl ?_
    refine T_exit' ?_
    refine p_then_x ?_
    refine p_then_x ?_
    refine p_blk_x ?_
    refine p_seq ?_
    refine T_seq (T_region ?_)
    refine TL_v (.int .i64 0) (s_mv rfl) rfl rfl ?_
    refine TL_v (.int .i64 0) (s_as rfl) rfl rfl ?_
    refine TL_seq ?_
    refine T_ret' ?_
    refine ret_of rfl (.int .i64 0) (fun tmps w hk hm => res1 rfl (res_tmp (hk 2 _ rfl))) (fun w hm => ?_)
    refine ⟨congrArg (fun n : Int => Ending.returned (.int .i64 n)) (show (0 : Int) = orI x y z from ?_), hm.ext⟩
    unfold orI
    repeat' split
    all_goals first | rfl | omega

theorem comp_c (a b : Tid) (w : World) : Calls Try.prog 44 #[a.v, b.v] w fun e w' => e = .returned (.int .i64 (compI a b)) ∧ Below w.heap.size w w' := by
 refine calls_of_T (l := [.agg #[.int .u64 a.t, .int .i64 a.s, .int .u64 a.q], .agg #[.int .u64 b.t, .int .i64 b.s, .int .u64 b.q]]) 25 Try.func44 rfl rfl rfl ?_
 show T _ _ _ [(0, .agg #[.int .u64 a.t, .int .i64 a.s, .int .u64 a.q]), (1, .agg #[.int .u64 b.t, .int .i64 b.s, .int .u64 b.q])] []
 refine T_seq (T_region ?_)
 refine TL_new 1 (.cells #[.int .u64 a.t, .int .i64 a.s, .int .u64 a.q] 32) (fun B => pt B 0) (fun _ _ j _ => r_box (j _ _ rfl) rfl) rfl rfl rfl (w_n rfl) ?_
 intro B1
 refine TL_new 2 (.cells #[.int .u64 b.t, .int .i64 b.s, .int .u64 b.q] 32) (fun B => pt B 0) (fun _ _ j _ => r_box (j _ _ rfl) rfl) rfl rfl rfl (w_n rfl) ?_
 intro B2
 refine TL_v (.int .i64 0) (s_as rfl) rfl rfl ?_
 refine TL_seq ?_
 refine T_seq ?_
 by_cases hab : a = b
 ·skip
  refine T_seq (T_region ?_)
  refine TL_v (.agg #[.int .u64 a.t, .int .i64 a.s, .int .u64 a.q]) (s_la ag32 sz32 rfl 1 rfl rfl rfl) rfl rfl ?_
  refine TL_v (.agg #[.int .u64 b.t, .int .i64 b.s, .int .u64 b.q]) (s_la ag32 sz32 rfl 2 rfl rfl rfl) rfl rfl ?_
  refine TL_v (.bool true) (fun _ _ j _ => r_as (r_as (r_eqlA (by kernel_rfl) (j _ _ rfl) (j _ _ rfl) (run_equalI (l := [(0, .u64), (1, .i64), (2, .u64)]) (by kernel_rfl) rfl rfl)) (bool_as (eqTid a b))) (bool_as (decide_eq_true hab))) rfl rfl ?_
  refine TL_seq ?_
  refine T_cond_t rfl ?_
  refine T_seq (T_region ?_)
  refine TL_v (.int .i64 0) (s_as rfl) rfl rfl ?_
  refine TL_seq ?_
  refine T_ret' ?_
  refine p_then_r ?_
  refine ret_of rfl (.int .i64 0) (fun tmps w hk hm => res1 rfl (res_tmp (hk 4 _ rfl))) (fun w hm => ?_)
  exact ⟨by rw [show compI a b = 0 from if_pos hab], hm.ext⟩
 ·skip
  refine T_seq (T_region ?_)
  refine TL_v (.agg #[.int .u64 a.t, .int .i64 a.s, .int .u64 a.q]) (s_la ag32 sz32 rfl 1 rfl rfl rfl) rfl rfl ?_
  refine TL_v (.agg #[.int .u64 b.t, .int .i64 b.s, .int .u64 b.q]) (s_la ag32 sz32 rfl 2 rfl rfl rfl) rfl rfl ?_
  refine TL_v (.bool false) (fun _ _ j _ => r_as (r_as (r_eqlA (by kernel_rfl) (j _ _ rfl) (j _ _ rfl) (run_equalI (l := [(0, .u64), (1, .i64), (2, .u64)]) (by kernel_rfl) rfl rfl)) (bool_as (eqTid a b))) (bool_as (decide_eq_false hab))) rfl rfl ?_
  refine TL_seq ?_
  refine T_cond_f rfl ?_
  refine T_skip' ?_
  refine p_seq ?_
  refine T_seq (T_draw (V := [(0, pt B1 0), (1, .int .u64 a.t), (2, pt B2 0), (3, .int .u64 b.t), (5, pt B1 1), (6, .int .i64 a.s), (7, pt B2 1), (8, .int .i64 b.s), (10, pt B1 2), (11, .int .u64 a.q), (12, pt B2 2), (13, .int .u64 b.q)]) [0, 1, 0, 4, 15, 0, 32, 0, 128, 511, 0, 1024, 0, 4096, 16383, 32767, 65535, 131071] [[(2, none)], [(8, some 0)], [(3, none)], [(10, some 2)], [(9, some 1), (11, some 3)], [(2, none)], [(13, some 5)], [(3, none)], [(15, some 7)], [(14, some 6), (16, some 8)], [(2, none)], [(18, some 10)], [(3, none)], [(20, some 12)], [(19, some 11), (21, some 13)], [(12, some 4), (17, some 9), (22, some 14)], [(23, some 15)], [(24, some 16)]] 115216 mixed (by kernel_rfl) ?_)
  refine G_step [0, 1, 2, 3, 5, 6, 7, 8, 10, 11, 12, 13] 4 [] (by kernel_rfl) (allM (all_cons (q_r (pt B1 0) rfl rfl rfl (s_fa fl32_0 sz30 rfl)) (all_cons (q_r (.int .u64 a.t) rfl rfl rfl (s_ld ag30 rfl 1 rfl rfl)) (all_cons (q_r (pt B2 0) rfl rfl rfl (s_fa fl32_0 sz30 rfl)) (all_cons (q_r (.int .u64 b.t) rfl rfl rfl (s_ld ag30 rfl 2 rfl rfl)) (all_cons (q_r (pt B1 1) rfl rfl rfl (s_fa fl32_1 sz3 rfl)) (all_cons (q_r (.int .i64 a.s) rfl rfl rfl (s_ld ag3 rfl 1 rfl rfl)) (all_cons (q_r (pt B2 1) rfl rfl rfl (s_fa fl32_1 sz3 rfl)) (all_cons (q_r (.int .i64 b.s) rfl rfl rfl (s_ld ag3 rfl 2 rfl rfl)) (all_cons (q_r (pt B1 2) rfl rfl rfl (s_fa fl32_2 sz30 rfl)) (all_cons (q_r (.int .u64 a.q) rfl rfl rfl (s_ld ag30 rfl 1 rfl rfl)) (all_cons (q_r (pt B2 2) rfl rfl rfl (s_fa fl32_2 sz30 rfl)) (all_cons (q_r (.int .u64 b.q) rfl rfl rfl (s_ld ag30 rfl 2 rfl rfl)) all_nil))))))))))))) (allM (all_cons ?_ all_nil))
  refine LOb_call (.int .i64 (cmpI a.t b.t)) [] rfl (wv_n rfl) rfl rfl (fun _ _ j _ => r_call (args := [.int .u64 a.t, .int .u64 b.t]) (enters_of Try.func67 (by kernel_rfl) rfl) (j _ _ rfl) ((cons2 (j _ _ rfl) (cons2 (j _ _ rfl) rfl))) rfl) (fun w _ => cmp_u a.t b.t w) (by kernel_rfl) ?_
  refine G_step [5, 6, 7, 8, 10, 11, 12, 13] 9 [] (by kernel_rfl) (allM (all_cons (q_r (pt B1 1) rfl rfl rfl (s_fa fl32_1 sz3 rfl)) (all_cons (q_r (.int .i64 a.s) rfl rfl rfl (s_ld ag3 rfl 1 rfl rfl)) (all_cons (q_r (pt B2 1) rfl rfl rfl (s_fa fl32_1 sz3 rfl)) (all_cons (q_r (.int .i64 b.s) rfl rfl rfl (s_ld ag3 rfl 2 rfl rfl)) (all_cons (q_r (pt B1 2) rfl rfl rfl (s_fa fl32_2 sz30 rfl)) (all_cons (q_r (.int .u64 a.q) rfl rfl rfl (s_ld ag30 rfl 1 rfl rfl)) (all_cons (q_r (pt B2 2) rfl rfl rfl (s_fa fl32_2 sz30 rfl)) (all_cons (q_r (.int .u64 b.q) rfl rfl rfl (s_ld ag30 rfl 2 rfl rfl)) all_nil))))))))) (allM (all_cons ?_ all_nil))
  refine LOb_call (.int .i64 (cmpI a.s b.s)) [] rfl (wv_n rfl) rfl rfl (fun _ _ j _ => r_call (args := [.int .i64 a.s, .int .i64 b.s]) (enters_of Try.func68 (by kernel_rfl) rfl) (j _ _ rfl) ((cons2 (j _ _ rfl) (cons2 (j _ _ rfl) rfl))) rfl) (fun w _ => cmp_i a.s b.s w) (by kernel_rfl) ?_
  refine G_step [10, 11, 12, 13] 14 [] (by kernel_rfl) (allM (all_cons (q_r (pt B1 2) rfl rfl rfl (s_fa fl32_2 sz30 rfl)) (all_cons (q_r (.int .u64 a.q) rfl rfl rfl (s_ld ag30 rfl 1 rfl rfl)) (all_cons (q_r (pt B2 2) rfl rfl rfl (s_fa fl32_2 sz30 rfl)) (all_cons (q_r (.int .u64 b.q) rfl rfl rfl (s_ld ag30 rfl 2 rfl rfl)) all_nil))))) (allM (all_cons ?_ all_nil))
  refine LOb_call (.int .i64 (cmpI a.q b.q)) [] rfl (wv_n rfl) rfl rfl (fun _ _ j _ => r_call (args := [.int .u64 a.q, .int .u64 b.q]) (enters_of Try.func67 (by kernel_rfl) rfl) (j _ _ rfl) ((cons2 (j _ _ rfl) (cons2 (j _ _ rfl) rfl))) rfl) (fun w _ => cmp_u a.q b.q w) (by kernel_rfl) ?_
  refine G_step [] 15 [] (by kernel_rfl) (allM all_nil) (allM (all_cons ?_ all_nil))
  refine LOb_new 3 (.cells #[.int .i64 (cmpI a.t b.t), .int .i64 (cmpI a.s b.s), .int .i64 (cmpI a.q b.q)] 3) (fun B => .slice (some ⟨B, 0, none⟩) 3 3) (fun B => []) rfl (wv_n rfl) rfl rfl (fun _ _ j _ => r_buildSlice (vs := [(0, .int .i64 (cmpI a.t b.t)), (1, .int .i64 (cmpI a.s b.s)), (2, .int .i64 (cmpI a.q b.q))]) (by kernel_rfl) (cons2 (pair2 (j _ _ rfl)) (cons2 (pair2 (j _ _ rfl)) (cons2 (pair2 (j _ _ rfl)) rfl)))) (fun B => by kernel_rfl) ?_
  intro B3
  refine G_step [] 16 [] (by kernel_rfl) (allM all_nil) (allM (all_cons ?_ all_nil))
  refine LOb_call (.int .i64 (orI (cmpI a.t b.t) (cmpI a.s b.s) (cmpI a.q b.q))) [(17, .int .i64 (orI (cmpI a.t b.t) (cmpI a.s b.s) (cmpI a.q b.q)))] rfl (wv_n rfl) rfl rfl (fun _ _ j _ => r_call (args := [.slice (some ⟨B3, 0, none⟩) 3 3]) (enters_of Try.func66 (by kernel_rfl) rfl) (j _ _ rfl) ((cons2 (j _ _ rfl) rfl)) rfl) (fun w hm => or_c B3 (cmpI a.t b.t) (cmpI a.s b.s) (cmpI a.q b.q) w (hm.at 3 rfl)) (by kernel_rfl) ?_
  refine G_last [17] [(4, .int .i64 (orI (cmpI a.t b.t) (cmpI a.s b.s) (cmpI a.q b.q)))] (by kernel_rfl) (allM (all_cons (q_r (.int .i64 (orI (cmpI a.t b.t) (cmpI a.s b.s) (cmpI a.q b.q))) rfl rfl rfl (s_as rfl)) all_nil)) (end_new 17 rfl rfl end_nil) ?_
  refine T_ret' ?_
  refine ret_of rfl (.int .i64 (orI (cmpI a.t b.t) (cmpI a.s b.s) (cmpI a.q b.q))) (fun tmps w hk hm => res1 rfl (res_tmp (hk 4 _ rfl))) (fun w hm => ?_)
  exact ⟨by rw [show compI a b = orI (cmpI a.t b.t) (cmpI a.s b.s) (cmpI a.q b.q) from if_neg hab], hm.ext⟩

theorem less_c (a b : Tid) (w : World) : Calls Try.prog 12 #[a.v, b.v] w fun e w' => e = .returned (.bool (lessI a b)) ∧ Below w.heap.size w w' := by
 refine calls_of_T (l := [.agg #[.int .u64 a.t, .int .i64 a.s, .int .u64 a.q], .agg #[.int .u64 b.t, .int .i64 b.s, .int .u64 b.q]]) 9 Try.func12 rfl rfl rfl ?_
 show T _ _ _ [(0, .agg #[.int .u64 a.t, .int .i64 a.s, .int .u64 a.q]), (1, .agg #[.int .u64 b.t, .int .i64 b.s, .int .u64 b.q])] []
 refine T_seq (T_region ?_)
 refine TL_new 1 (.cells #[.int .u64 a.t, .int .i64 a.s, .int .u64 a.q] 32) (fun B => pt B 0) (fun _ _ j _ => r_box (j _ _ rfl) rfl) rfl rfl rfl (w_n rfl) ?_
 intro B1
 refine TL_new 2 (.cells #[.int .u64 b.t, .int .i64 b.s, .int .u64 b.q] 32) (fun B => pt B 0) (fun _ _ j _ => r_box (j _ _ rfl) rfl) rfl rfl rfl (w_n rfl) ?_
 intro B2
 refine TL_v (.bool false) (s_as rfl) rfl rfl ?_
 refine TL_seq ?_
 refine T_seq (T_region ?_)
 refine TL_v (.agg #[.int .u64 a.t, .int .i64 a.s, .int .u64 a.q]) (s_la ag32 sz32 rfl 1 rfl rfl rfl) rfl rfl ?_
 refine TL_v (.agg #[.int .u64 b.t, .int .i64 b.s, .int .u64 b.q]) (s_la ag32 sz32 rfl 2 rfl rfl rfl) rfl rfl ?_
 refine TL_call (.int .i64 (compI a b)) (fun _ _ j _ => r_call (args := [.agg #[.int .u64 a.t, .int .i64 a.s, .int .u64 a.q], .agg #[.int .u64 b.t, .int .i64 b.s, .int .u64 b.q]]) (enters_of Try.func44 (by kernel_rfl) rfl) (j _ _ rfl) ((cons2 (j _ _ rfl) (cons2 (j _ _ rfl) rfl))) rfl) (fun w _ => comp_c a b w) rfl rfl rfl (w_n rfl) ?_
 refine TL_v (.bool (decide ((compI a b) < 0))) (fun _ _ j _ => r_lss (j _ _ rfl) (j _ _ rfl)) rfl rfl ?_
 refine TL_v (.bool (decide ((compI a b) < 0))) (s_as rfl) rfl rfl ?_
 refine TL_seq ?_
 refine T_ret' ?_
 refine ret_of rfl (.bool (decide ((compI a b) < 0))) (fun tmps w hk hm => res1 rfl (res_tmp (hk 4 _ rfl))) (fun w hm => ?_)
 exact ⟨congrArg Ending.returned (bool_as (less_comp a b)), hm.ext⟩

theorem site_c (x : Int) (w : World) : Calls Try.prog 48 #[.int .i64 x] w fun e w' => e = .returned (.bool (decide (1 ≤ x ∧ x ≤ 8))) ∧ Below w.heap.size w w' := by
 refine calls_of_T (l := [.int .i64 x]) 9 Try.func48 rfl rfl rfl ?_
 show T _ _ _ [(0, .int .i64 x)] []
 refine T_seq (T_region ?_)
 refine TL_v (.bool false) (s_as rfl) rfl rfl ?_
 refine TL_seq ?_
 by_cases c1 : (1 : Int) ≤ x
 ·skip
  by_cases c2 : x ≤ 8
  ·skip
   refine T_seq (T_region ?_)
   refine TL_v (.int .i64 x) (s_mv rfl) rfl rfl ?_
   refine TL_v (.bool true) (s_op r_geq rfl rfl (bool_as (decide_eq_true c1))) rfl rfl ?_
   refine TL_v (.bool true) (s_mv rfl) rfl rfl ?_
   refine TL_q (.int .i64 x) (s_mv rfl) rfl rfl rfl (want_y 5 rfl rfl rfl) ?_
   refine TL_q (.bool true) (s_op r_leq rfl rfl (bool_as (decide_eq_true c2))) rfl rfl rfl (want_y 5 rfl rfl rfl) ?_
   refine TL_v (.bool true) (s_pt rfl rfl) rfl rfl ?_
   refine TL_v (.bool true) (s_as rfl) rfl rfl ?_
   refine TL_seq ?_
   refine T_ret' ?_
   refine ret_of rfl (.bool true) (fun tmps w hk hm => res1 rfl (res_tmp (hk 2 _ rfl))) (fun w hm => ?_)
   exact ⟨congrArg Ending.returned (bool_as (decide_eq_true (by omega)).symm), hm.ext⟩
  ·skip
   refine T_seq (T_region ?_)
   refine TL_v (.int .i64 x) (s_mv rfl) rfl rfl ?_
   refine TL_v (.bool true) (s_op r_geq rfl rfl (bool_as (decide_eq_true c1))) rfl rfl ?_
   refine TL_v (.bool true) (s_mv rfl) rfl rfl ?_
   refine TL_q (.int .i64 x) (s_mv rfl) rfl rfl rfl (want_y 5 rfl rfl rfl) ?_
   refine TL_q (.bool false) (s_op r_leq rfl rfl (bool_as (decide_eq_false c2))) rfl rfl rfl (want_y 5 rfl rfl rfl) ?_
   refine TL_v (.bool false) (s_pt rfl rfl) rfl rfl ?_
   refine TL_v (.bool false) (s_as rfl) rfl rfl ?_
   refine TL_seq ?_
   refine T_ret' ?_
   refine ret_of rfl (.bool false) (fun tmps w hk hm => res1 rfl (res_tmp (hk 2 _ rfl))) (fun w hm => ?_)
   exact ⟨congrArg Ending.returned (bool_as (decide_eq_false (by omega)).symm), hm.ext⟩
 ·skip
  refine T_seq (T_region ?_)
  refine TL_v (.int .i64 x) (s_mv rfl) rfl rfl ?_
  refine TL_v (.bool false) (s_op r_geq rfl rfl (bool_as (decide_eq_false c1))) rfl rfl ?_
  refine TL_v (.bool false) (s_mv rfl) rfl rfl ?_
  refine TL_x 5 rfl rfl rfl rfl rfl ?_
  refine TL_x 5 rfl rfl rfl rfl rfl ?_
  refine TL_v (.bool false) (s_pf rfl rfl) rfl rfl ?_
  refine TL_v (.bool false) (s_as rfl) rfl rfl ?_
  refine TL_seq ?_
  refine T_ret' ?_
  refine ret_of rfl (.bool false) (fun tmps w hk hm => res1 rfl (res_tmp (hk 2 _ rfl))) (fun w hm => ?_)
  exact ⟨congrArg Ending.returned (bool_as (decide_eq_false (by omega)).symm), hm.ext⟩

theorem icheck_c (i : Tid) (w : World) : Calls Try.prog 16 #[i.v] w fun e w' => e = .returned (.int .i64 (if okI i = true then 0 else 210)) ∧ Below w.heap.size w w' := by
 refine calls_of_T (l := [.agg #[.int .u64 i.t, .int .i64 i.s, .int .u64 i.q]]) 27 Try.func16 rfl rfl rfl ?_
 show T _ _ _ [(0, .agg #[.int .u64 i.t, .int .i64 i.s, .int .u64 i.q])] []
 refine T_seq (T_region ?_)
 refine TL_new 1 (.cells #[.int .u64 i.t, .int .i64 i.s, .int .u64 i.q] 32) (fun B => pt B 0) (fun _ _ j _ => r_box (j _ _ rfl) rfl) rfl rfl rfl (w_n rfl) ?_
 intro B1
 refine TL_v (.int .i64 0) (s_as rfl) rfl rfl ?_
 refine TL_seq ?_
 refine T_seq ?_
 by_cases c1 : i.t < 1
 ·skip
  refine T_seq (T_region ?_)
  refine TL_v (pt B1 0) (s_fa fl32_0 sz30 rfl) rfl rfl ?_
  refine TL_v (.int .u64 i.t) (s_ld ag30 rfl 1 rfl rfl) rfl rfl ?_
  refine TL_v (.bool true) (s_op r_lss rfl rfl (bool_as (decide_eq_true c1))) rfl rfl ?_
  refine TL_v (.bool true) (s_mv rfl) rfl rfl ?_
  refine TL_x 6 rfl rfl rfl rfl rfl ?_
  refine TL_x 6 rfl rfl rfl rfl rfl ?_
  refine TL_x 6 rfl rfl rfl rfl rfl ?_
  refine TL_v (.bool true) (s_pt rfl rfl) rfl rfl ?_
  refine TL_v (.bool true) (s_mv rfl) rfl rfl ?_
  refine TL_x 11 rfl rfl rfl rfl rfl ?_
  refine TL_x 11 rfl rfl rfl rfl rfl ?_
  refine TL_x 11 rfl rfl rfl rfl rfl ?_
  refine TL_x 11 rfl rfl rfl rfl rfl ?_
  refine TL_v (.bool true) (s_pt rfl rfl) rfl rfl ?_
  refine TL_v (.bool true) (s_mv rfl) rfl rfl ?_
  refine TL_x 17 rfl rfl rfl rfl rfl ?_
  refine TL_x 17 rfl rfl rfl rfl rfl ?_
  refine TL_x 17 rfl rfl rfl rfl rfl ?_
  refine TL_v (.bool true) (s_pt rfl rfl) rfl rfl ?_
  refine TL_v (.bool true) (s_mv rfl) rfl rfl ?_
  refine TL_x 22 rfl rfl rfl rfl rfl ?_
  refine TL_x 22 rfl rfl rfl rfl rfl ?_
  refine TL_x 22 rfl rfl rfl rfl rfl ?_
  refine TL_v (.bool true) (s_pt rfl rfl) rfl rfl ?_
  refine TL_seq ?_
  refine T_cond_t rfl ?_
  refine T_seq (T_region ?_)
  refine TL_v (.int .i64 210) (s_as rfl) rfl rfl ?_
  refine TL_seq ?_
  refine T_ret' ?_
  refine p_then_r ?_
  refine ret_of rfl (.int .i64 210) (fun tmps w hk hm => res1 rfl (res_tmp (hk 2 _ rfl))) (fun w hm => ?_)
  exact ⟨by rw [show okI i = false from decide_eq_false (by omega)]; rfl, hm.ext⟩
 ·skip
  by_cases c2 : (4611686018427387904 : Int) < i.t
  ·skip
   refine T_seq (T_region ?_)
   refine TL_v (pt B1 0) (s_fa fl32_0 sz30 rfl) rfl rfl ?_
   refine TL_v (.int .u64 i.t) (s_ld ag30 rfl 1 rfl rfl) rfl rfl ?_
   refine TL_v (.bool false) (s_op r_lss rfl rfl (bool_as (decide_eq_false c1))) rfl rfl ?_
   refine TL_v (.bool false) (s_mv rfl) rfl rfl ?_
   refine TL_q (pt B1 0) (s_fa fl32_0 sz30 rfl) rfl rfl rfl (want_y 6 rfl rfl rfl) ?_
   refine TL_q (.int .u64 i.t) (s_ld ag30 rfl 1 rfl rfl) rfl rfl rfl (want_y 6 rfl rfl rfl) ?_
   refine TL_q (.bool true) (s_op r_gtr rfl rfl (bool_as (decide_eq_true c2))) rfl rfl rfl (want_y 6 rfl rfl rfl) ?_
   refine TL_v (.bool true) (s_pf rfl rfl) rfl rfl ?_
   refine TL_v (.bool true) (s_mv rfl) rfl rfl ?_
   refine TL_x 11 rfl rfl rfl rfl rfl ?_
   refine TL_x 11 rfl rfl rfl rfl rfl ?_
   refine TL_x 11 rfl rfl rfl rfl rfl ?_
   refine TL_x 11 rfl rfl rfl rfl rfl ?_
   refine TL_v (.bool true) (s_pt rfl rfl) rfl rfl ?_
   refine TL_v (.bool true) (s_mv rfl) rfl rfl ?_
   refine TL_x 17 rfl rfl rfl rfl rfl ?_
   refine TL_x 17 rfl rfl rfl rfl rfl ?_
   refine TL_x 17 rfl rfl rfl rfl rfl ?_
   refine TL_v (.bool true) (s_pt rfl rfl) rfl rfl ?_
   refine TL_v (.bool true) (s_mv rfl) rfl rfl ?_
   refine TL_x 22 rfl rfl rfl rfl rfl ?_
   refine TL_x 22 rfl rfl rfl rfl rfl ?_
   refine TL_x 22 rfl rfl rfl rfl rfl ?_
   refine TL_v (.bool true) (s_pt rfl rfl) rfl rfl ?_
   refine TL_seq ?_
   refine T_cond_t rfl ?_
   refine T_seq (T_region ?_)
   refine TL_v (.int .i64 210) (s_as rfl) rfl rfl ?_
   refine TL_seq ?_
   refine T_ret' ?_
   refine p_then_r ?_
   refine ret_of rfl (.int .i64 210) (fun tmps w hk hm => res1 rfl (res_tmp (hk 2 _ rfl))) (fun w hm => ?_)
   exact ⟨by rw [show okI i = false from decide_eq_false (by omega)]; rfl, hm.ext⟩
  ·skip
   by_cases c3 : 1 ≤ i.s ∧ i.s ≤ 8
   ·skip
    by_cases c4 : i.q < 1
    ·skip
     refine T_seq (T_region ?_)
     refine TL_v (pt B1 0) (s_fa fl32_0 sz30 rfl) rfl rfl ?_
     refine TL_v (.int .u64 i.t) (s_ld ag30 rfl 1 rfl rfl) rfl rfl ?_
     refine TL_v (.bool false) (s_op r_lss rfl rfl (bool_as (decide_eq_false c1))) rfl rfl ?_
     refine TL_v (.bool false) (s_mv rfl) rfl rfl ?_
     refine TL_q (pt B1 0) (s_fa fl32_0 sz30 rfl) rfl rfl rfl (want_y 6 rfl rfl rfl) ?_
     refine TL_q (.int .u64 i.t) (s_ld ag30 rfl 1 rfl rfl) rfl rfl rfl (want_y 6 rfl rfl rfl) ?_
     refine TL_q (.bool false) (s_op r_gtr rfl rfl (bool_as (decide_eq_false c2))) rfl rfl rfl (want_y 6 rfl rfl rfl) ?_
     refine TL_v (.bool false) (s_pf rfl rfl) rfl rfl ?_
     refine TL_v (.bool false) (s_mv rfl) rfl rfl ?_
     refine TL_q (pt B1 1) (s_fa fl32_1 sz3 rfl) rfl rfl rfl (want_y 11 rfl rfl rfl) ?_
     refine TL_q (.int .i64 i.s) (s_ld ag3 rfl 1 rfl rfl) rfl rfl rfl (want_y 11 rfl rfl rfl) ?_
     refine TL_call (.bool true) (fun _ _ j _ => r_call (args := [.int .i64 i.s]) (enters_of Try.func48 (by kernel_rfl) rfl) (j _ _ rfl) ((cons2 (j _ _ rfl) rfl)) rfl) (fun w _ => (site_c i.s w).mono fun _ _ h => ⟨h.1.trans (congrArg Ending.returned (bool_as (decide_eq_true c3))), h.2⟩) rfl rfl rfl (want_y 11 rfl rfl rfl) ?_
     refine TL_q (.bool false) (fun _ _ j _ => r_not (b := true) (j _ _ rfl)) rfl rfl rfl (want_y 11 rfl rfl rfl) ?_
     refine TL_v (.bool false) (s_pf rfl rfl) rfl rfl ?_
     refine TL_v (.bool false) (s_mv rfl) rfl rfl ?_
     refine TL_q (pt B1 2) (s_fa fl32_2 sz30 rfl) rfl rfl rfl (want_y 17 rfl rfl rfl) ?_
     refine TL_q (.int .u64 i.q) (s_ld ag30 rfl 1 rfl rfl) rfl rfl rfl (want_y 17 rfl rfl rfl) ?_
     refine TL_q (.bool true) (s_op r_lss rfl rfl (bool_as (decide_eq_true c4))) rfl rfl rfl (want_y 17 rfl rfl rfl) ?_
     refine TL_v (.bool true) (s_pf rfl rfl) rfl rfl ?_
     refine TL_v (.bool true) (s_mv rfl) rfl rfl ?_
     refine TL_x 22 rfl rfl rfl rfl rfl ?_
     refine TL_x 22 rfl rfl rfl rfl rfl ?_
     refine TL_x 22 rfl rfl rfl rfl rfl ?_
     refine TL_v (.bool true) (s_pt rfl rfl) rfl rfl ?_
     refine TL_seq ?_
     refine T_cond_t rfl ?_
     refine T_seq (T_region ?_)
     refine TL_v (.int .i64 210) (s_as rfl) rfl rfl ?_
     refine TL_seq ?_
     refine T_ret' ?_
     refine p_then_r ?_
     refine ret_of rfl (.int .i64 210) (fun tmps w hk hm => res1 rfl (res_tmp (hk 2 _ rfl))) (fun w hm => ?_)
     exact ⟨by rw [show okI i = false from decide_eq_false (by omega)]; rfl, hm.ext⟩
    ·skip
     by_cases c5 : (4611686018427387904 : Int) < i.q
     ·skip
      refine T_seq (T_region ?_)
      refine TL_v (pt B1 0) (s_fa fl32_0 sz30 rfl) rfl rfl ?_
      refine TL_v (.int .u64 i.t) (s_ld ag30 rfl 1 rfl rfl) rfl rfl ?_
      refine TL_v (.bool false) (s_op r_lss rfl rfl (bool_as (decide_eq_false c1))) rfl rfl ?_
      refine TL_v (.bool false) (s_mv rfl) rfl rfl ?_
      refine TL_q (pt B1 0) (s_fa fl32_0 sz30 rfl) rfl rfl rfl (want_y 6 rfl rfl rfl) ?_
      refine TL_q (.int .u64 i.t) (s_ld ag30 rfl 1 rfl rfl) rfl rfl rfl (want_y 6 rfl rfl rfl) ?_
      refine TL_q (.bool false) (s_op r_gtr rfl rfl (bool_as (decide_eq_false c2))) rfl rfl rfl (want_y 6 rfl rfl rfl) ?_
      refine TL_v (.bool false) (s_pf rfl rfl) rfl rfl ?_
      refine TL_v (.bool false) (s_mv rfl) rfl rfl ?_
      refine TL_q (pt B1 1) (s_fa fl32_1 sz3 rfl) rfl rfl rfl (want_y 11 rfl rfl rfl) ?_
      refine TL_q (.int .i64 i.s) (s_ld ag3 rfl 1 rfl rfl) rfl rfl rfl (want_y 11 rfl rfl rfl) ?_
      refine TL_call (.bool true) (fun _ _ j _ => r_call (args := [.int .i64 i.s]) (enters_of Try.func48 (by kernel_rfl) rfl) (j _ _ rfl) ((cons2 (j _ _ rfl) rfl)) rfl) (fun w _ => (site_c i.s w).mono fun _ _ h => ⟨h.1.trans (congrArg Ending.returned (bool_as (decide_eq_true c3))), h.2⟩) rfl rfl rfl (want_y 11 rfl rfl rfl) ?_
      refine TL_q (.bool false) (fun _ _ j _ => r_not (b := true) (j _ _ rfl)) rfl rfl rfl (want_y 11 rfl rfl rfl) ?_
      refine TL_v (.bool false) (s_pf rfl rfl) rfl rfl ?_
      refine TL_v (.bool false) (s_mv rfl) rfl rfl ?_
      refine TL_q (pt B1 2) (s_fa fl32_2 sz30 rfl) rfl rfl rfl (want_y 17 rfl rfl rfl) ?_
      refine TL_q (.int .u64 i.q) (s_ld ag30 rfl 1 rfl rfl) rfl rfl rfl (want_y 17 rfl rfl rfl) ?_
      refine TL_q (.bool false) (s_op r_lss rfl rfl (bool_as (decide_eq_false c4))) rfl rfl rfl (want_y 17 rfl rfl rfl) ?_
      refine TL_v (.bool false) (s_pf rfl rfl) rfl rfl ?_
      refine TL_v (.bool false) (s_mv rfl) rfl rfl ?_
      refine TL_q (pt B1 2) (s_fa fl32_2 sz30 rfl) rfl rfl rfl (want_y 22 rfl rfl rfl) ?_
      refine TL_q (.int .u64 i.q) (s_ld ag30 rfl 1 rfl rfl) rfl rfl rfl (want_y 22 rfl rfl rfl) ?_
      refine TL_q (.bool true) (s_op r_gtr rfl rfl (bool_as (decide_eq_true c5))) rfl rfl rfl (want_y 22 rfl rfl rfl) ?_
      refine TL_v (.bool true) (s_pf rfl rfl) rfl rfl ?_
      refine TL_seq ?_
      refine T_cond_t rfl ?_
      refine T_seq (T_region ?_)
      refine TL_v (.int .i64 210) (s_as rfl) rfl rfl ?_
      refine TL_seq ?_
      refine T_ret' ?_
      refine p_then_r ?_
      refine ret_of rfl (.int .i64 210) (fun tmps w hk hm => res1 rfl (res_tmp (hk 2 _ rfl))) (fun w hm => ?_)
      exact ⟨by rw [show okI i = false from decide_eq_false (by omega)]; rfl, hm.ext⟩
     ·skip
      refine T_seq (T_region ?_)
      refine TL_v (pt B1 0) (s_fa fl32_0 sz30 rfl) rfl rfl ?_
      refine TL_v (.int .u64 i.t) (s_ld ag30 rfl 1 rfl rfl) rfl rfl ?_
      refine TL_v (.bool false) (s_op r_lss rfl rfl (bool_as (decide_eq_false c1))) rfl rfl ?_
      refine TL_v (.bool false) (s_mv rfl) rfl rfl ?_
      refine TL_q (pt B1 0) (s_fa fl32_0 sz30 rfl) rfl rfl rfl (want_y 6 rfl rfl rfl) ?_
      refine TL_q (.int .u64 i.t) (s_ld ag30 rfl 1 rfl rfl) rfl rfl rfl (want_y 6 rfl rfl rfl) ?_
      refine TL_q (.bool false) (s_op r_gtr rfl rfl (bool_as (decide_eq_false c2))) rfl rfl rfl (want_y 6 rfl rfl rfl) ?_
      refine TL_v (.bool false) (s_pf rfl rfl) rfl rfl ?_
      refine TL_v (.bool false) (s_mv rfl) rfl rfl ?_
      refine TL_q (pt B1 1) (s_fa fl32_1 sz3 rfl) rfl rfl rfl (want_y 11 rfl rfl rfl) ?_
      refine TL_q (.int .i64 i.s) (s_ld ag3 rfl 1 rfl rfl) rfl rfl rfl (want_y 11 rfl rfl rfl) ?_
      refine TL_call (.bool true) (fun _ _ j _ => r_call (args := [.int .i64 i.s]) (enters_of Try.func48 (by kernel_rfl) rfl) (j _ _ rfl) ((cons2 (j _ _ rfl) rfl)) rfl) (fun w _ => (site_c i.s w).mono fun _ _ h => ⟨h.1.trans (congrArg Ending.returned (bool_as (decide_eq_true c3))), h.2⟩) rfl rfl rfl (want_y 11 rfl rfl rfl) ?_
      refine TL_q (.bool false) (fun _ _ j _ => r_not (b := true) (j _ _ rfl)) rfl rfl rfl (want_y 11 rfl rfl rfl) ?_
      refine TL_v (.bool false) (s_pf rfl rfl) rfl rfl ?_
      refine TL_v (.bool false) (s_mv rfl) rfl rfl ?_
      refine TL_q (pt B1 2) (s_fa fl32_2 sz30 rfl) rfl rfl rfl (want_y 17 rfl rfl rfl) ?_
      refine TL_q (.int .u64 i.q) (s_ld ag30 rfl 1 rfl rfl) rfl rfl rfl (want_y 17 rfl rfl rfl) ?_
      refine TL_q (.bool false) (s_op r_lss rfl rfl (bool_as (decide_eq_false c4))) rfl rfl rfl (want_y 17 rfl rfl rfl) ?_
      refine TL_v (.bool false) (s_pf rfl rfl) rfl rfl ?_
      refine TL_v (.bool false) (s_mv rfl) rfl rfl ?_
      refine TL_q (pt B1 2) (s_fa fl32_2 sz30 rfl) rfl rfl rfl (want_y 22 rfl rfl rfl) ?_
      refine TL_q (.int .u64 i.q) (s_ld ag30 rfl 1 rfl rfl) rfl rfl rfl (want_y 22 rfl rfl rfl) ?_
      refine TL_q (.bool false) (s_op r_gtr rfl rfl (bool_as (decide_eq_false c5))) rfl rfl rfl (want_y 22 rfl rfl rfl) ?_
      refine TL_v (.bool false) (s_pf rfl rfl) rfl rfl ?_
      refine TL_seq ?_
      refine T_cond_f rfl ?_
      refine T_skip' ?_
      refine p_seq ?_
      refine T_seq (T_region ?_)
      refine TL_v (.int .i64 0) (s_as rfl) rfl rfl ?_
      refine TL_seq ?_
      refine T_ret' ?_
      refine ret_of rfl (.int .i64 0) (fun tmps w hk hm => res1 rfl (res_tmp (hk 2 _ rfl))) (fun w hm => ?_)
      exact ⟨by rw [show okI i = true from decide_eq_true (by omega)]; rfl, hm.ext⟩
   ·skip
    refine T_seq (T_region ?_)
    refine TL_v (pt B1 0) (s_fa fl32_0 sz30 rfl) rfl rfl ?_
    refine TL_v (.int .u64 i.t) (s_ld ag30 rfl 1 rfl rfl) rfl rfl ?_
    refine TL_v (.bool false) (s_op r_lss rfl rfl (bool_as (decide_eq_false c1))) rfl rfl ?_
    refine TL_v (.bool false) (s_mv rfl) rfl rfl ?_
    refine TL_q (pt B1 0) (s_fa fl32_0 sz30 rfl) rfl rfl rfl (want_y 6 rfl rfl rfl) ?_
    refine TL_q (.int .u64 i.t) (s_ld ag30 rfl 1 rfl rfl) rfl rfl rfl (want_y 6 rfl rfl rfl) ?_
    refine TL_q (.bool false) (s_op r_gtr rfl rfl (bool_as (decide_eq_false c2))) rfl rfl rfl (want_y 6 rfl rfl rfl) ?_
    refine TL_v (.bool false) (s_pf rfl rfl) rfl rfl ?_
    refine TL_v (.bool false) (s_mv rfl) rfl rfl ?_
    refine TL_q (pt B1 1) (s_fa fl32_1 sz3 rfl) rfl rfl rfl (want_y 11 rfl rfl rfl) ?_
    refine TL_q (.int .i64 i.s) (s_ld ag3 rfl 1 rfl rfl) rfl rfl rfl (want_y 11 rfl rfl rfl) ?_
    refine TL_call (.bool false) (fun _ _ j _ => r_call (args := [.int .i64 i.s]) (enters_of Try.func48 (by kernel_rfl) rfl) (j _ _ rfl) ((cons2 (j _ _ rfl) rfl)) rfl) (fun w _ => (site_c i.s w).mono fun _ _ h => ⟨h.1.trans (congrArg Ending.returned (bool_as (decide_eq_false c3))), h.2⟩) rfl rfl rfl (want_y 11 rfl rfl rfl) ?_
    refine TL_q (.bool true) (fun _ _ j _ => r_not (b := false) (j _ _ rfl)) rfl rfl rfl (want_y 11 rfl rfl rfl) ?_
    refine TL_v (.bool true) (s_pf rfl rfl) rfl rfl ?_
    refine TL_v (.bool true) (s_mv rfl) rfl rfl ?_
    refine TL_x 17 rfl rfl rfl rfl rfl ?_
    refine TL_x 17 rfl rfl rfl rfl rfl ?_
    refine TL_x 17 rfl rfl rfl rfl rfl ?_
    refine TL_v (.bool true) (s_pt rfl rfl) rfl rfl ?_
    refine TL_v (.bool true) (s_mv rfl) rfl rfl ?_
    refine TL_x 22 rfl rfl rfl rfl rfl ?_
    refine TL_x 22 rfl rfl rfl rfl rfl ?_
    refine TL_x 22 rfl rfl rfl rfl rfl ?_
    refine TL_v (.bool true) (s_pt rfl rfl) rfl rfl ?_
    refine TL_seq ?_
    refine T_cond_t rfl ?_
    refine T_seq (T_region ?_)
    refine TL_v (.int .i64 210) (s_as rfl) rfl rfl ?_
    refine TL_seq ?_
    refine T_ret' ?_
    refine p_then_r ?_
    refine ret_of rfl (.int .i64 210) (fun tmps w hk hm => res1 rfl (res_tmp (hk 2 _ rfl))) (fun w hm => ?_)
    exact ⟨by rw [show okI i = false from decide_eq_false (by omega)]; rfl, hm.ext⟩

theorem right_c (m : Mk) (w : World) : Calls Try.prog 45 #[m.v] w fun e w' => e = .returned (.bool (okM m)) ∧ Below w.heap.size w w' := by
 refine calls_of_T (l := [.agg #[.int .u64 m.i.t, .int .i64 m.i.s, .int .u64 m.i.q, .pointer m.ptr]]) 12 Try.func45 rfl rfl rfl ?_
 show T _ _ _ [(0, .agg #[.int .u64 m.i.t, .int .i64 m.i.s, .int .u64 m.i.q, .pointer m.ptr])] []
 refine T_seq (T_region ?_)
 refine TL_new 1 (.cells #[.int .u64 m.i.t, .int .i64 m.i.s, .int .u64 m.i.q, .pointer m.ptr] 36) (fun B => pt B 0) (fun _ _ j _ => r_box (j _ _ rfl) rfl) rfl rfl rfl (w_n rfl) ?_
 intro B1
 refine TL_v (.bool false) (s_as rfl) rfl rfl ?_
 refine TL_seq ?_
 by_cases ho : okI m.i = true
 ·skip
  by_cases hc : m.c.isSome = true
  ·skip
   refine T_seq (T_region ?_)
   refine TL_v (pt B1 0) (s_fa fl36_0 sz32 rfl) rfl rfl ?_
   refine TL_v (.agg #[.int .u64 m.i.t, .int .i64 m.i.s, .int .u64 m.i.q]) (s_la ag32 sz32 rfl 1 rfl rfl rfl) rfl rfl ?_
   refine TL_call (.int .i64 0) (fun _ _ j _ => r_call (args := [.agg #[.int .u64 m.i.t, .int .i64 m.i.s, .int .u64 m.i.q]]) (enters_of Try.func16 (by kernel_rfl) rfl) (j _ _ rfl) ((cons2 (j _ _ rfl) rfl)) rfl) (fun w _ => (icheck_c m.i w).mono fun _ _ h => ⟨h.1.trans (congrArg Ending.returned (int_as (if_pos ho))), h.2⟩) rfl rfl rfl (w_n rfl) ?_
   refine TL_v (.bool true) (s_op r_eql rfl rfl (by rfl)) rfl rfl ?_
   refine TL_v (.bool true) (s_mv rfl) rfl rfl ?_
   refine TL_q (pt B1 3) (s_fa fl36_1 sz34 rfl) rfl rfl rfl (want_y 7 rfl rfl rfl) ?_
   refine TL_q (.pointer m.ptr) (s_ld ag34 rfl 1 rfl rfl) rfl rfl rfl (want_y 7 rfl rfl rfl) ?_
   refine TL_q (.bool true) (fun _ _ j _ => r_as (r_neqPn po34 (j _ _ rfl) (j _ _ rfl)) (bool_as (by rw [ptr_none, hc]; rfl))) rfl rfl rfl (want_y 7 rfl rfl rfl) ?_
   refine TL_v (.bool true) (s_pt rfl rfl) rfl rfl ?_
   refine TL_v (.bool true) (s_as rfl) rfl rfl ?_
   refine TL_seq ?_
   refine T_ret' ?_
   refine ret_of rfl (.bool true) (fun tmps w hk hm => res1 rfl (res_tmp (hk 2 _ rfl))) (fun w hm => ?_)
   exact ⟨congrArg Ending.returned (bool_as (by unfold okM; rw [ho, hc]; rfl)), hm.ext⟩
  ·skip
   refine T_seq (T_region ?_)
   refine TL_v (pt B1 0) (s_fa fl36_0 sz32 rfl) rfl rfl ?_
   refine TL_v (.agg #[.int .u64 m.i.t, .int .i64 m.i.s, .int .u64 m.i.q]) (s_la ag32 sz32 rfl 1 rfl rfl rfl) rfl rfl ?_
   refine TL_call (.int .i64 0) (fun _ _ j _ => r_call (args := [.agg #[.int .u64 m.i.t, .int .i64 m.i.s, .int .u64 m.i.q]]) (enters_of Try.func16 (by kernel_rfl) rfl) (j _ _ rfl) ((cons2 (j _ _ rfl) rfl)) rfl) (fun w _ => (icheck_c m.i w).mono fun _ _ h => ⟨h.1.trans (congrArg Ending.returned (int_as (if_pos ho))), h.2⟩) rfl rfl rfl (w_n rfl) ?_
   refine TL_v (.bool true) (s_op r_eql rfl rfl (by rfl)) rfl rfl ?_
   refine TL_v (.bool true) (s_mv rfl) rfl rfl ?_
   refine TL_q (pt B1 3) (s_fa fl36_1 sz34 rfl) rfl rfl rfl (want_y 7 rfl rfl rfl) ?_
   refine TL_q (.pointer m.ptr) (s_ld ag34 rfl 1 rfl rfl) rfl rfl rfl (want_y 7 rfl rfl rfl) ?_
   refine TL_q (.bool false) (fun _ _ j _ => r_as (r_neqPn po34 (j _ _ rfl) (j _ _ rfl)) (bool_as (by rw [ptr_none, eq_false_of_ne_true hc]; rfl))) rfl rfl rfl (want_y 7 rfl rfl rfl) ?_
   refine TL_v (.bool false) (s_pt rfl rfl) rfl rfl ?_
   refine TL_v (.bool false) (s_as rfl) rfl rfl ?_
   refine TL_seq ?_
   refine T_ret' ?_
   refine ret_of rfl (.bool false) (fun tmps w hk hm => res1 rfl (res_tmp (hk 2 _ rfl))) (fun w hm => ?_)
   exact ⟨congrArg Ending.returned (bool_as (by unfold okM; rw [ho, eq_false_of_ne_true hc]; rfl)), hm.ext⟩
 ·skip
  refine T_seq (T_region ?_)
  refine TL_v (pt B1 0) (s_fa fl36_0 sz32 rfl) rfl rfl ?_
  refine TL_v (.agg #[.int .u64 m.i.t, .int .i64 m.i.s, .int .u64 m.i.q]) (s_la ag32 sz32 rfl 1 rfl rfl rfl) rfl rfl ?_
  refine TL_call (.int .i64 210) (fun _ _ j _ => r_call (args := [.agg #[.int .u64 m.i.t, .int .i64 m.i.s, .int .u64 m.i.q]]) (enters_of Try.func16 (by kernel_rfl) rfl) (j _ _ rfl) ((cons2 (j _ _ rfl) rfl)) rfl) (fun w _ => (icheck_c m.i w).mono fun _ _ h => ⟨h.1.trans (congrArg Ending.returned (int_as (if_neg ho))), h.2⟩) rfl rfl rfl (w_n rfl) ?_
  refine TL_v (.bool false) (s_op r_eql rfl rfl (by rfl)) rfl rfl ?_
  refine TL_v (.bool false) (s_mv rfl) rfl rfl ?_
  refine TL_x 7 rfl rfl rfl rfl rfl ?_
  refine TL_x 7 rfl rfl rfl rfl rfl ?_
  refine TL_x 7 rfl rfl rfl rfl rfl ?_
  refine TL_v (.bool false) (s_pf rfl rfl) rfl rfl ?_
  refine TL_v (.bool false) (s_as rfl) rfl rfl ?_
  refine TL_seq ?_
  refine T_ret' ?_
  refine ret_of rfl (.bool false) (fun tmps w hk hm => res1 rfl (res_tmp (hk 2 _ rfl))) (fun w hm => ?_)
  exact ⟨congrArg Ending.returned (bool_as (by unfold okM; rw [eq_false_of_ne_true ho]; rfl)), hm.ext⟩
end Go.Proofs.Ytmihoejecpcmjaa
/- marks: rows of ids and of marks (plainly). -/
namespace Go.Proofs.Ytmihoejecpcmjaa
open Go Go.RowKit
def idxI {α : Type} (φ : α → Bool) (l : List α) : Int := match l.findIdx? φ with
  | some i => (i : Int)
  | none => -1
theorem no_step {α : Type} {φ : α → Bool} {l : List α} {k : Nat} {p : α} (h : ∀ x ∈ l.take k, φ x = false) (hp : l[k]? = some p) (hf : φ p = false) : ∀ x ∈ l.take (k + 1), φ x = false := fun x hx => by
  rw [List.take_add_one, hp] at hx
  rcases List.mem_append.1 hx with h1 | h1
  · exact h x h1
  · rw [List.mem_singleton.1 h1]; exact hf
theorem idx_none {α : Type} {φ : α → Bool} {l : List α} (h : ∀ x ∈ l, φ x = false) : idxI φ l = -1 := by
  unfold idxI
  rw [List.findIdx?_eq_none_iff.2 h]
theorem idx_some {α : Type} {φ : α → Bool} {l : List α} {k : Nat} {p : α} (hp : l[k]? = some p) (h : ∀ x ∈ l.take k, φ x = false) (hy : φ p = true) : idxI φ l = k := by
  unfold idxI
  obtain ⟨hk, he⟩ := List.getElem?_eq_some_iff.1 hp
  have : l.findIdx? φ = some k := List.findIdx?_eq_some_iff_getElem.2 ⟨hk, by rw [he]; exact hy, fun j hj => by
    have h1 := h l[j] (List.mem_take_iff_getElem.2 ⟨j, by omega, rfl⟩)
    simp [h1]⟩
  rw [this]
theorem idx_any {α : Type} (φ : α → Bool) (l : List α) : decide (0 ≤ idxI φ l) = l.any φ := by
  cases h : l.any φ with
  | true =>
    obtain ⟨x, hx, hy⟩ := List.any_eq_true.1 h
    unfold idxI
    cases e : l.findIdx? φ with
    | none => rw [List.findIdx?_eq_none_iff.1 e x hx] at hy; cases hy
    | some i => exact decide_eq_true (by show (0 : Int) ≤ (i : Int); omega)
  | false =>
    have : ∀ x ∈ l, φ x = false := fun x hx => by
      cases e : φ x with
      | false => rfl
      | true => rw [List.any_eq_true.2 ⟨x, hx, e⟩] at h; cases h
    rw [idx_none this]; rfl
theorem ixI_lt {α : Type} (φ : α → Bool) (l : List α) : idxI φ l < l.length := by
  unfold idxI
  cases e : l.findIdx? φ with
  | none => show (-1 : Int) < _; omega
  | some i =>
    have := (List.findIdx?_eq_some_iff_getElem.1 e).1
    show (i : Int) < _; omega
theorem idx_ge {α : Type} (φ : α → Bool) (l : List α) : -1 ≤ idxI φ l := by
  unfold idxI
  cases e : l.findIdx? φ with
  | none => show (-1 : Int) ≤ -1; omega
  | some i => show (-1 : Int) ≤ (i : Int); omega
theorem all_not {α : Type} (φ : α → Bool) (l : List α) : (!(l.any fun x => !φ x)) = l.all φ := by
  rw [List.any_eq_not_all_not, Bool.not_not]
  congr 1
  funext x; exact Bool.not_not _
/-! ### pairs -/
def prs (l : List Tid) : List (Tid × Tid) := l.zip (l.drop 1)
abbrev encP (x : Tid × Tid) : List Value := [x.1.v, x.2.v]
theorem prs_at {l : List Tid} {k : Nat} {x y : Tid} (hk : 0 < k) (hx : l[k - 1]? = some x) (hy : l[k]? = some y) : (prs l)[k - 1]? = some (x, y) := by
  unfold prs
  rw [List.getElem?_zip_eq_some]
  exact ⟨hx, by rw [List.getElem?_drop, show 1 + (k - 1) = k by omega]; exact hy⟩
theorem prs_len (l : List Tid) : (prs l).length = l.length - 1 := by unfold prs; rw [List.length_zip, List.length_drop]; omega
def upB (l : List Tid) : Bool := (prs l).all fun p => lessI p.1 p.2
theorem allP_step {α : Type} {φ : α → Bool} {l : List α} {k : Nat} {p : α} (h : ∀ x ∈ l.take k, φ x = true) (hp : l[k]? = some p) (hf : φ p = true) : ∀ x ∈ l.take (k + 1), φ x = true := fun x hx => by
  rw [List.take_add_one, hp] at hx
  rcases List.mem_append.1 hx with h1 | h1
  · exact h x h1
  · rw [List.mem_singleton.1 h1]; exact hf
theorem all_yes {α : Type} {φ : α → Bool} {l : List α} (h : ∀ x ∈ l.take l.length, φ x = true) : l.all φ = true := List.all_eq_true.2 fun x hx => h x (by rw [List.take_length]; exact hx)
theorem all_no {α : Type} {φ : α → Bool} {l : List α} {k : Nat} {p : α} (hp : l[k]? = some p) (h : ¬ φ p = true) : l.all φ = false := by
  rw [← Bool.not_eq_true, List.all_eq_true]
  exact fun h2 => h (h2 p (List.mem_of_getElem? hp))
def mkUp (l : List Mk) : Bool := risesB (idsM l) && l.all (·.c.isSome)
theorem marks_up (l : List Mk) : marksB l = (mkUp l && decide (l.length ≤ 6)) := by unfold marksB mkUp; rw [Bool.and_assoc]
theorem okM_iff {m : Mk} : okM m = true ↔ okI m.i = true ∧ m.c.isSome = true := by unfold okM; rw [Bool.and_eq_true]
theorem mk_step {l : List Mk} {k : Nat} {m : Mk} (h : mkUp (l.take k) = true) (hm : l[k]? = some m) (ho : okM m = true) (hl : ∀ y, 0 < k → l[k - 1]? = some y → lessI y.i m.i = true) : mkUp (l.take (k + 1)) = true := by
  unfold mkUp at h ⊢
  rw [Bool.and_eq_true] at h ⊢
  obtain ⟨h1, h2⟩ := h
  obtain ⟨ho1, ho2⟩ := okM_iff.1 ho
  rw [ids_take] at h1 ⊢
  refine ⟨rises_step h1 (ids_at hm) ho1 (fun y hk hy => ?_), ?_⟩
  · rw [List.getElem?_map] at hy
    cases e : l[k - 1]? with
    | none => rw [e] at hy; cases hy
    | some z => rw [e] at hy; cases hy; exact hl z hk e
  · rw [List.take_add_one, hm, List.all_append, h2, Option.toList_some, List.all_cons, List.all_nil, ho2]; rfl
theorem mk_no1 {l : List Mk} {k : Nat} {m : Mk} (hm : l[k]? = some m) (h : ¬ okM m = true) : marksB l = false := by
  rw [← Bool.not_eq_true, marksB_iff]
  rintro ⟨h1, h2, _⟩
  exact h (okM_iff.2 ⟨rises_right h1 _ (List.mem_of_getElem? (ids_at hm)), h2 m (List.mem_of_getElem? hm)⟩)
theorem mk_no2 {l : List Mk} {k : Nat} {m y : Mk} (hk : 0 < k) (hy : l[k - 1]? = some y) (hm : l[k]? = some m) (h : ¬ lessI y.i m.i = true) : marksB l = false := by
  rw [← Bool.not_eq_true, marksB_iff]
  rintro ⟨h1, _⟩
  exact h (rises_less h1 hk (ids_at hy) (ids_at hm))
theorem mk_no3 {l : List Mk} (h : 6 < l.length) : marksB l = false := by
  rw [← Bool.not_eq_true, marksB_iff]; omega
theorem mk_yes {l : List Mk} {k : Nat} (h : mkUp (l.take k) = true) (hk : k = l.length) (h6 : l.length ≤ 6) : marksB l = true := by
  subst hk
  rw [List.take_length] at h
  rw [marks_up, h, decide_eq_true h6]; rfl
/-! ### sifted -/
theorem sift_t {α : Type} {φ : α → Bool} {l : List α} {k : Nat} {x : α} (h : l[k]? = some x) (hf : φ x = true) : (l.take (k + 1)).filter φ = (l.take k).filter φ ++ [x] := by
  rw [List.take_add_one, h, List.filter_append, Option.toList_some, List.filter_cons, if_pos hf]; rfl
theorem sift_f {α : Type} {φ : α → Bool} {l : List α} {k : Nat} {x : α} (h : l[k]? = some x) (hf : φ x = false) : (l.take (k + 1)).filter φ = (l.take k).filter φ := by
  rw [List.take_add_one, h, List.filter_append, Option.toList_some, List.filter_cons, if_neg (by rw [hf]; exact Bool.false_ne_true), List.filter_nil, List.append_nil]
theorem map_step {α β : Type} {f : α → β} {l : List α} {k : Nat} {x : α} (h : l[k]? = some x) : (l.take (k + 1)).map f = (l.take k).map f ++ [f x] := by
  rw [List.take_add_one, h, List.map_append]; rfl
def evN {α : Type} (l : List α) (n : Nat) : Nat → List α
  | 0 => []
  | k + 1 => if (k + 1) % n = 0 then evN l n k ++ (l[k]?).toList else evN l n k
theorem ev_t {α : Type} {l : List α} {n k : Nat} {x : α} (h : l[k]? = some x) (hn : (k + 1) % n = 0) : evN l n (k + 1) = evN l n k ++ [x] := by
  show (if (k + 1) % n = 0 then _ else _) = _
  rw [if_pos hn, h]; rfl
theorem ev_f {α : Type} {l : List α} {n k : Nat} (hn : ¬ (k + 1) % n = 0) : evN l n (k + 1) = evN l n k := if_neg hn
theorem ev_len {α : Type} (l : List α) (n : Nat) : ∀ k, (evN l n k).length ≤ k
  | 0 => Nat.le_refl _
  | k + 1 => by
    have := ev_len l n k
    unfold evN
    split
    · rw [List.length_append]
      have : ((l[k]?).toList).length ≤ 1 := by cases l[k]? <;> simp
      omega
    · omega
def behI (ms : List Tid) (x : Tid) : Bool := match ms.getLast? with
  | none => true
  | some y => lessI y x
def dueI (ms l : List Tid) (n : Nat) : List Tid := evN (l.filter (behI ms)) n (l.filter (behI ms)).length
end Go.Proofs.Ytmihoejecpcmjaa
/- Slices that are read, wherever they lie. Over any program. -/
namespace Go.Proofs.Ytmihoejecpcmjaa
open Go Go.RowKit
section
variable {C : Cx} {Q : Post} {K : List (Nat × Value)} {L : Heap} {α : Type} {s : Nat} {f : α → List Value} {l : List α} {a : Option Addr} {cap : Nat}
theorem T_open {c : Code} (hs : ∀ w, MemOk C.w₀ L w → SliceAt w a cap s f l) (hl : 0 < l.length) (h : ∀ b off, a = some ⟨b, off, none⟩ → T C c Q K L) : T C c Q K L := by
  intro ac w hf hm
  obtain ⟨b, off, cs, T', fz, h1, _, _⟩ := (hs w hm).open (i := 0) hl
  exact h b off h1 ac w hf hm
end
section
variable {P : Program} {w : World} {ρ : Operand → Value} {d : Option Tmp} {ty : TypeId} {ps : String} {af : Array Edge} {g : Option (Nat × Bool)} {x : Operand} {α : Type} {s : Nat} {f : α → List Value} {l : List α} {b off cap i : Nat} {u : α} {t : TypeId}
theorem slice_in (h : SliceAt w (some ⟨b, off, none⟩) cap s f l) (hu : l[i]? = some u) : ∃ cs T fz, hp w b = some (.cells cs T fz) ∧ Row s f cs off l := by
  obtain ⟨b', off', cs, T, fz, h1, h2, h3⟩ := h.open (i := i) (List.getElem?_eq_some_iff.1 hu).1
  cases h1
  exact ⟨cs, T, fz, h2, h3⟩
theorem r_loadS1 {v : Value} (ha : aggOf P t = some false) (hx : ρ x = .pointer (some ⟨b, off + i * s, none⟩)) (h : SliceAt w (some ⟨b, off, none⟩) cap s f l) (hu : l[i]? = some u) (hv : (f u)[0]? = some v) : (execOp ρ (mk d (.load t x) ty ps af g)).run P w = .ok (.value v) w := by
  obtain ⟨cs, T, fz, h1, h2⟩ := slice_in h hu
  exact r_loadRow1 ha hx h1 h2 hu hv
end
end Go.Proofs.Ytmihoejecpcmjaa
/- Inside an iterator: a yield in a drawn region. The first cells of a row's element. -/
namespace Go.Proofs.Ytmihoejecpcmjaa
open Go Go.RowKit
section
variable {C : Cx} {R : Rg} {Q : Post} {K0 V : List (Nat × Value)} {lo : Nat} {L : Heap}
theorem LOb_yieldB {ι κ : Type} {c d l : Nat} {o : Oper} {args : Array Value} (pT : ι → Prop) (LT : ι → Heap) (pX : κ → Prop) (LX : κ → Heap) (news : ι ⊕ κ → List (Nat × Value)) (hro : C.ro = none) (ho : R.ops[c]? = some o) (hw : WantV V o true) (hd : o.dst = some d) (hn : isDefer o.op = false)
    (hr : ∀ ρ w, Rd (kOf K0 V (R.S.getD c [])) ρ → MemOk C.w₀ L w → (execOp ρ o).run C.P w = (Instr.yield l args).run C.P w)
    (hc : ∀ W, MemOk C.w₀ L W → YieldAt Fence.wide 0 C.P l args W fun e W' => (e = .returned (.bool true) ∧ ∃ i, pT i ∧ MemOk C.w₀ (LT i) W') ∨ (e = .returned (.bool false) ∧ ∃ j, pX j ∧ MemOk C.w₀ (LX j) W'))
    (hnew : ∀ x, newsOk R c (news x) = true)
    (h : ∀ x, yP pT pX x → G C R Q K0 (lo ||| 2 ^ c) (news x ++ (c, .bool x.isLeft) :: V) (yL LT LX x)) : LOb C R Q K0 lo V L c := by
  obtain ⟨P, w₀, N, CD, ro⟩ := C
  cases hro
  refine ⟨o, ho, hw, fun a w next hrd hm _ hnext => ?_⟩
  obtain ⟨fn, tmps, assign, body, hy, hR⟩ := hc w hm
  refine ⟨fun _ _ => trivial, ?_⟩
  rw [semAt_nd hn, hr _ _ hrd hm, hy, Oper.uponIn_round]
  refine ⟨fun h => (by cases h), ?_⟩
  refine RoundIn.mono (RoundIn.any hR) ?_
  rintro e W' (⟨rfl, i, hi, hm'⟩ | ⟨rfl, j, hj, hm'⟩)
  · have hnw2 := hnew (.inl i)
    simp only [newsOk, Bool.and_eq_true, Bool.not_eq_true'] at hnw2
    exact hnext _ _ _ _ (.inl (lk_app _ _ _ hnw2.2)) (extV _ _ _ hnw2.1) hm' (h (.inl i) hi)
  · have hnw2 := hnew (.inr j)
    simp only [newsOk, Bool.and_eq_true, Bool.not_eq_true'] at hnw2
    exact hnext _ _ _ _ (.inl (lk_app _ _ _ hnw2.2)) (extV _ _ _ hnw2.1) hm' (h (.inr j) hj)
end
theorem p_round_r {C : Cx} {K : List (Nat × Value)} {L : Heap} {idD idl D l : Nat} {rec : Loop} {ι : Type} {p : ι → Prop} {LI : ι → Heap} {pX : Code → ι → Prop} {LX : ι → Heap} (i : ι) (hp : pX .ret i)
    (hL : SubK L ((idD, .blk D (.deferred (some []))) :: (idl, .blk l (.loop { rec with state := .busy })) :: LX i)) : POk C (RoundQ C.w₀ idD idl D l rec p LI pX LX) .ret K L := fun _ _ _ hm => ⟨i, hp, hm.sub hL⟩
section
variable {P : Program} {w : World} {ρ : Operand → Value} {d : Option Tmp} {ty : TypeId} {ps : String} {af : Array Edge} {gd : Option (Nat × Bool)} {x : Operand}
theorem ext_take {cs : Array Value} {o s n : Nat} {xs vs : List Value} (hn : n ≤ s) (h : cs.extract o (o + s) = xs.toArray) (hv : xs.take n = vs) : cs.extract o (o + n) = vs.toArray := by
  have h1 : cs.extract o (o + n) = (cs.extract o (o + s)).extract 0 n := by
    rw [Array.extract_extract]
    congr 1
    omega
  rw [h1, h, ← hv]
  simp [List.extract_toArray]
theorem r_loadRowP {α : Type} {s n : Nat} {f : α → List Value} {l : List α} {t : TypeId} {b off i : Nat} {cs : Array Value} {T : TypeId} {fz : Nat × Nat} {u : α} {vs : List Value} (ha : aggOf P t = some true) (hs : szOf P t = some n) (hx : ρ x = .pointer (some ⟨b, off + i * s, none⟩)) (hb : hp w b = some (.cells cs T fz))
    (hr : Row s f cs off l) (hu : l[i]? = some u) (hn : Nat.ble n s = true) (hv : (f u).take n = vs) : (execOp ρ (mk d (.load t x) ty ps af gd)).run P w = .ok (.value (.agg vs.toArray)) w :=
  have hn' := Nat.le_of_ble_eq_true hn
  r_loadA ha hs hx hb (by rw [Nat.ble_eq]; have := (hr i u hu).1; omega) (ext_take hn' (hr i u hu).2 hv)
theorem r_loadOwnP {α : Type} {s m : Nat} {f : α → List Value} {l : List α} {t e : TypeId} {g i cap base n : Nat} {u : α} {xs vs : List Value} (ha : aggOf P t = some true) (hs : szOf P t = some m) (hx : ρ x = .pointer (some ⟨g, 0 + i * s, none⟩)) (hr : w.ownsRow base e s (.slice (some ⟨g, 0, none⟩) n cap) n xs)
    (hn : n = l.length) (hxs : xs = l.flatMap f) (hf : ∀ x, (f x).length = s) (hu : l[i]? = some u) (hm : Nat.ble m s = true) (hv : (f u).take m = vs) : (execOp ρ (mk d (.load t x) ty ps af gd)).run P w = .ok (.value (.agg vs.toArray)) w := by
  subst hn hxs
  obtain ⟨cur, h1, h2⟩ := row_at hr
  exact r_loadRowP ha hs hx h1 (row_of_take hf h2) hu hm hv
end
end Go.Proofs.Ytmihoejecpcmjaa
/- A range over a function whose rounds begin with new blocks. Over any program. -/
namespace Go.Proofs.Ytmihoejecpcmjaa
open Go Go.RowKit
theorem T_rangeB {C : Cx} {ζ : Type} {Q : Post} {K : List (Nat × Value)} {L : Heap} {ι α : Type} {g : Operand} {pl : List Tmp} {assign body : Code} {gf : Nat} {lb : Array Value} {encs : α → List Value} {xs : List α}
    (hro : C.ro = none) (hg : ev K g = some (.func (.func gf) #[] lb)) (eg : Enters C.P gf) (hps : ∀ x, (encs x).length = pl.length) (hpN : (pl.all fun t => Nat.blt t C.N) = true) 
    (idD idl : Nat) (hne : Nat.beq idD idl = false) (p : Nat → ι → Prop) (LI : Nat → ι → Heap) (pX : Code → ι → Prop) (LX : ι → Heap) (K1 : α → ζ → List (Nat × Value)) (E : α → ζ → Heap)
    (hit : ∀ D l rec, IterAt C.P C.w₀ gf lb encs xs p (fun k i => (idD, .blk D (.deferred (some []))) :: (idl, .blk l (.loop rec)) :: LI k i)) (hids : ∀ k i, lk (LI k i) idD = none ∧ lk (LI k i) idl = none) (hidx : ∀ i, lk (LX i) idD = none ∧ lk (LX i) idl = none)
    (i₀ : ι) (h0 : p 0 i₀) (hL : SubK L (LI 0 i₀))
    (hassign : ∀ D l rec k x i, xs[k]? = some x → p k i → T (C.round l) assign (Exit.then (At (C.round l) (fun _ : ζ => True) (fun z => K1 x z) (fun z => (idD, .blk D (.deferred (some []))) :: (idl, .blk l (.loop rec)) :: (E x z ++ LI k i))) (fun _ _ _ => False))
      (zipK pl (encs x) K) ((idD, .blk D (.deferred (some []))) :: (idl, .blk l (.loop rec)) :: LI k i))
    (hround : ∀ D l rec k x i z, xs[k]? = some x → p k i → T (C.round l) body (RoundQ C.w₀ idD idl D l rec (p (k + 1)) (LI (k + 1)) pX LX) (K1 x z) ((idD, .blk D (.deferred (some []))) :: (idl, .blk l (.loop { rec with state := .busy })) :: (E x z ++ LI k i)))
    (hdone : ∀ D i, p xs.length i → POk (C.with D) Q .normal K ((idD, .blk D (.deferred (some []))) :: LI xs.length i))
    (hstop : ∀ D c i, pX c i → T (C.with D) c Q K ((idD, .blk D (.deferred (some []))) :: LX i)) : T C (.rangeFunc g pl.toArray assign body) Q K L := by
  obtain ⟨P, w₀, N, CD, ro⟩ := C
  cases hro
  have hne' : idD ≠ idl := fun e => by subst e; rw [Nat.beq_refl] at hne; cases hne
  intro a w hf hm
  show (Code.rangeFunc g pl.toArray assign body).wpIn Fence.wide 0 P _ a w
  refine (wpIn_wide (n := 0)).2 ((wpIn_wide (n := 2)).1 (wpIn_rangeFunc ?_))
  intro fn hfn
  rw [show Fence.wide.round = none from rfl]
  have hg' := hf.rd _ _ hg
  obtain ⟨rec, hrec⟩ : ∃ rec : Loop, rec = { state := .ready, pending := none, fn, tmps := a.tmps, params := pl.toArray, assign, body, defers := w.heap.size } := ⟨_, rfl⟩
  have hm1 : MemOk w₀ ((idl, .blk (w.heap.size + 1) (.loop rec)) :: (idD, .blk w.heap.size (.deferred (some []))) :: LI 0 i₀) ((w.alloc (.deferred (some []))).alloc (.loop rec)) := by
    have h1 := (hm.sub hL).new (alloc_below w (.deferred (some []))) idD (Nat.le_refl _) (hp_new w _)
    have h2 := h1.new (alloc_below (w.alloc (.deferred (some []))) (.loop rec)) idl (Nat.le_refl _) (hp_new _ _)
    rwa [World.size_alloc] at h2
  have hm1 : MemOk w₀ ((idD, .blk w.heap.size (.deferred (some []))) :: (idl, .blk (w.heap.size + 1) (.loop rec)) :: LI 0 i₀) ((w.alloc (.deferred (some []))).alloc (.loop rec)) := by
    refine hm1.of (fun k q hk => ?_)
    by_cases e1 : idD = k
    · subst e1; rw [lk_cons_same] at hk; rw [ids_ne (Ne.symm hne')]; exact hk
    · rw [lk_cons_other _ _ e1] at hk
      by_cases e2 : idl = k
      · subst e2; rw [lk_cons_same] at hk ⊢; exact hk
      · rw [lk_cons_other _ _ e2] at hk; rw [lk_cons_other _ _ e2, lk_cons_other _ _ e1]; exact hk
  obtain ⟨W1, hW1⟩ : ∃ W1, (w.alloc (.deferred (some []))).alloc (.loop rec) = W1 := ⟨_, rfl⟩
  rw [hW1] at hm1
  refine ⟨w.heap.size + 1, [{ target := .collected w.heap.size, args := #[] }], W1, { target := .fn (.func gf) lb, args := #[.func (.yield (w.heap.size + 1)) #[] #[]] }, W1, gf,
    #[.func (.yield (w.heap.size + 1)) #[] #[]] ++ lb, W1, ?_, ?_, ?_, ?_, fun h => by simp [Fence.wide] at h, ?_⟩
  · rw [← hW1, hrec]; exact run_enterLoop_outer _ _ _ _ _
  · simp only [resolve, hg']
    simp [go_sem]
  · intro f' _; trivial
  · simp [invoke, eg _ _]
  · -- what holds at each round's head, and behind a round that left
    refine CallsIn.mono (callsIn_wide.2 (hit w.heap.size (w.heap.size + 1) rec (w.heap.size + 1) (Code × ι) (fun z => pX z.1 z.2)
      (fun z => (idD, .blk w.heap.size (.deferred (some []))) :: (idl, .blk (w.heap.size + 1) (.loop { rec with state := .done, pending := some z.1 })) :: LX z.2) ?_ i₀ W1 h0 hm1)) ?_
    · intro k x i W hx hi hmi
      have hl : W.heap[w.heap.size + 1]? = some (.loop rec) := hmi.at idl (ids_ne hne')
      have hy := run_yield (P := P) (args := (encs x).toArray) hl (by rw [hrec]; simp [hps])
      have hfr : FrOk N [] (zipK pl (encs x) K) { tmps := (pl.zip (encs x)).foldl (fun t (p, v) => t.setIfInBounds p v) a.tmps, defers := [] } :=
        FrOk.zip pl (encs x) (fun t ht => List.all_eq_true.1 hpN t ht) ⟨hf.size, rfl, hf.knows⟩
      have htm : (rec.params.zip (encs x).toArray).foldl (fun tmps (t, a) => tmps.setIfInBounds t a) rec.tmps = (pl.zip (encs x)).foldl (fun t (p, v) => t.setIfInBounds p v) a.tmps := by
        rw [hrec]; simp [List.zip_toArray]
      rw [htm] at hy
      rw [show rec.fn = fn by rw [hrec], show rec.assign = assign by rw [hrec], show rec.body = body by rw [hrec]] at hy
      refine ⟨fn, _, assign, body, hy, roundIn_of_wpIn hfn ?_⟩
      have hA := hassign w.heap.size (w.heap.size + 1) rec k x i hx hi _ W hfr hmi
      refine wpIn_mono hA ?_
      intro e a1 W2 hq
      cases e with
      | normal =>
        obtain ⟨z, _, hf1, hm2⟩ := hq
        have hl2 : W2.heap[w.heap.size + 1]? = some (.loop rec) := hm2.at idl (ids_ne hne')
        refine ⟨_, run_beginRound hl2 (by rw [hrec]), ?_⟩
        have hm3 := (hm2.putObj (.loop { rec with state := .busy }) (ids_ne hne' : lk _ idl = some (.blk (w.heap.size + 1) (.loop rec)))).second hne'
        have hB := hround w.heap.size (w.heap.size + 1) rec k x i z hx hi a1 _ hf1 hm3
        refine wpIn_mono hB ?_
        have fin : ∀ (jump : Option Code) (W3 : World) (LL : Heap), MemOk w₀ ((idD, .blk w.heap.size (.deferred (some []))) :: (idl, .blk (w.heap.size + 1) (.loop { rec with state := .busy })) :: LL) W3 →
            (Instr.endRound (w.heap.size + 1) jump).run P W3 = .ok (.bool jump.isNone) (W3.putObj (w.heap.size + 1) (.loop { rec with state := if jump.isNone then .ready else .done, pending := jump })) ∧
            MemOk w₀ ((idD, .blk w.heap.size (.deferred (some []))) :: (idl, .blk (w.heap.size + 1) (.loop { rec with state := if jump.isNone then .ready else .done, pending := jump })) :: LL) (W3.putObj (w.heap.size + 1) (.loop { rec with state := if jump.isNone then .ready else .done, pending := jump })) := fun jump W3 LL h3 => by
          have hl3 : W3.heap[w.heap.size + 1]? = some (.loop { rec with state := .busy }) := h3.at idl (ids_ne hne')
          exact ⟨run_endRound (P := P) (r := { rec with state := .busy }) jump hl3, (h3.putObj _ (ids_ne hne')).second hne'⟩
        have hrd : ({ rec with state := .ready, pending := none } : Loop) = rec := by rw [hrec]
        rintro e a3 W3 hp
        cases e with
        | normal =>
          obtain ⟨i', hi', h3⟩ := hp
          obtain ⟨hr, h4⟩ := fin none W3 _ h3
          exact ⟨_, _, hr, .inl ⟨rfl, i', hi', by simpa [hrd] using h4⟩⟩
        | ret =>
          obtain ⟨i', hi', h3⟩ := hp
          obtain ⟨hr, h4⟩ := fin (some .ret) W3 _ h3
          exact ⟨_, _, hr, .inr ⟨rfl, (.ret, i'), hi', by simpa using h4⟩⟩
        | exit id =>
          obtain ⟨i', hi', h3⟩ := hp
          obtain ⟨hr, h4⟩ := fin (some (.exit id)) W3 _ h3
          exact ⟨_, _, hr, .inr ⟨rfl, (.exit id, i'), hi', by simpa using h4⟩⟩
        | goto t =>
          obtain ⟨i', hi', h3⟩ := hp
          obtain ⟨hr, h4⟩ := fin (some (.goto t)) W3 _ h3
          exact ⟨_, _, hr, .inr ⟨rfl, (.goto t, i'), hi', by simpa using h4⟩⟩
        | panic ch => exact hp.elim
        | outgrown => exact hp.elim
      | exit id => exact hq.elim
      | goto l => exact hq.elim
      | ret => exact hq.elim
      | panic ch => exact hq.elim
      | outgrown => exact hq.elim
    · have hf' : ∀ (D : Nat), FrOk N ({ target := .collected D, args := #[] } :: CD) K { a with defers := [{ target := .collected D, args := #[] }] ++ a.defers } := fun D => ⟨hf.size, by rw [hf.defers]; rfl, hf.knows⟩
      rintro e W2 ⟨⟨v, rfl⟩, (⟨i, hi, h2⟩ | ⟨⟨c, i⟩, hi, h2⟩)⟩
      · have hl2 : W2.heap[w.heap.size + 1]? = some (.loop rec) := h2.at idl (ids_ne hne')
        refine ⟨none, _, by have := run_endLoop (P := P) hl2 (by rw [hrec]; simp); rw [this, hrec], ?_⟩
        exact hdone w.heap.size i hi _ _ (hf' _) (((h2.putObj _ (ids_ne hne')).second hne').drop2 (hids _ i).2)
      · have hl2 : W2.heap[w.heap.size + 1]? = some (.loop { rec with state := .done, pending := some c }) := h2.at idl (ids_ne hne')
        refine ⟨some c, _, by have := run_endLoop (P := P) hl2 (by simp); exact this, ?_⟩
        exact wpIn_wide.2 ((wpIn_wide (n := 0)).1 (hstop w.heap.size c i hi _ _ (hf' _) (((h2.putObj _ (ids_ne hne')).second hne').drop2 (hidx i).2)))
end Go.Proofs.Ytmihoejecpcmjaa
/- net and journal: Check, Rising. Printed by a program of this seat's prover. -/
namespace Go.Proofs.Ytmihoejecpcmjaa
open Go Go.RowKit
set_option maxRecDepth 10000
theorem check_c (ms : List Mk) (a : Option Addr) (cap : Nat) (w : World) (hv : SliceAt w a cap 4 Mk.cells ms) (hcap : cap ≤ Go.maxLen) : Calls Try.prog 14 #[.slice a ms.length cap] w fun e w' => e = .returned (.int .i64 (if marksB ms = true then 0 else 260)) ∧ Below w.heap.size w w' := by
 have hvl := hv.1
 unfold Go.maxLen at hcap
 refine calls_of_T (l := [.slice a ms.length cap]) 35 Try.func14 rfl rfl rfl ?_
 show T _ _ _ [(0, .slice a ms.length cap)] []
 refine T_seq (T_region ?_)
 refine TL_v (.int .i64 0) (s_as rfl) rfl rfl ?_
 refine TL_seq ?_
 refine T_seq ?_
 refine T_seq (T_region ?_)
 refine TL_v (.slice a ms.length cap) (s_mv rfl) rfl rfl ?_
 refine TL_v (iN ms.length) (fun _ _ j _ => r_len sl25 (j _ _ rfl)) rfl rfl ?_
 refine TL_v (.int .i64 0) (s_mv rfl) rfl rfl ?_
 refine TL_seq ?_
 refine T_block ?_
 refine T_loop (ι := Nat) (fun (k : Nat) => k ≤ ms.length ∧ mkUp (ms.take k) = true) (fun (k : Nat) => [(0, .slice a ms.length cap), (5, .slice a ms.length cap), (6, iN ms.length), (7, iN k)]) (fun (k : Nat) => []) (fun (k : Nat) => ms.length - k) 0 ⟨Nat.zero_le _, rfl⟩ (sc4 rfl rfl rfl rfl sub_nil) sub_nil ?_
 rintro k hp
 obtain ⟨hk, hup⟩ := hp
 show T _ _ _ [(0, .slice a ms.length cap), (5, .slice a ms.length cap), (6, iN ms.length), (7, iN k)] []
 refine T_seq (T_region ?_)
 refine TL_v (.bool (decide (((k : Nat) : Int) < ((ms.length : Nat) : Int)))) (fun _ _ j _ => r_lss (j _ _ rfl) (j _ _ rfl)) rfl rfl ?_
 refine TL_seq ?_
 refine T_seq ?_
 refine T_cond rfl (fun h1 => ?_) (fun h1 => ?_)
 ·replace h1 := of_decide_eq_true h1
  refine T_skip' ?_
  refine p_seq ?_
  refine T_seq ?_
  refine T_block ?_
  obtain ⟨m9, hm9⟩ : ∃ x, ms[k]? = some x := ⟨_, List.getElem?_eq_getElem (by omega)⟩
  obtain ⟨b1, of1, cs1, T1, fz1, ha1, hq1, hr1⟩ := hv.open (i := k) (by omega)
  subst ha1
  refine T_seq (T_region ?_)
  refine TL_v (iN k) (s_mv rfl) rfl rfl ?_
  refine TL_v (pt b1 (of1 + k * 4)) (fun _ _ j _ => r_indexAddrS (i := k) sl25 sz36 (j _ _ rfl) (j _ _ rfl) (by omega)) rfl rfl ?_
  refine TL_v (.agg #[.int .u64 m9.i.t, .int .i64 m9.i.s, .int .u64 m9.i.q, .pointer m9.ptr]) (fun _ _ j hm => r_loadRow (f := Mk.cells) (u := m9) ag36 sz36 (j _ _ rfl) (hm.old hq1) hr1 hm9) rfl rfl ?_
  refine TL_new 1 (.cells #[.int .u64 0, .int .i64 0, .int .u64 0, .pointer none] 36) (fun B => pt B 0) (fun _ _ _ _ => r_alloc (v := .agg #[.int .u64 0, .int .i64 0, .int .u64 0, .pointer none]) (by kernel_rfl) rfl) rfl rfl rfl (w_n rfl) ?_
  intro B2
  refine TL_v (iN k) (s_as rfl) rfl rfl ?_
  refine TL_store 1 (.cells #[.int .u64 m9.i.t, .int .i64 m9.i.s, .int .u64 m9.i.q, .pointer m9.ptr] 36) rfl (s_st sz36 rfl rfl 1 rfl rfl rfl rfl rfl) rfl rfl (w_n rfl) ?_
  refine TL_seq ?_
  by_cases ho : okM m9 = true
  ·skip
   by_cases hk0 : (0 : Int) < ((k : Nat) : Int)
   ·skip
    obtain ⟨y9, hy9⟩ : ∃ x, ms[k - 1]? = some x := ⟨_, List.getElem?_eq_getElem (by omega)⟩
    by_cases hl : lessI y9.i m9.i = true
    ·skip
     refine T_seq (T_draw (V := [(0, .agg #[.int .u64 m9.i.t, .int .i64 m9.i.s, .int .u64 m9.i.q, .pointer m9.ptr])]) [0, 1, 3, 7, 15, 31, 63, 127, 127, 383, 1023, 2047, 4095, 127, 8319, 32767, 65535, 131071, 262143] [[(4, none)], [(12, some 0)], [(13, some 1)], [(14, some 2)], [(3, none)], [(16, some 4)], [(17, some 5)], [(0, none)], [(3, none)], [(20, some 8)], [(19, some 7), (21, some 9)], [(22, some 10)], [(23, some 11)], [(4, none)], [(25, some 13)], [(24, some 12), (26, some 14)], [(27, some 15)], [(28, some 16), (18, some 6)], [(29, some 17), (15, some 3)]] 32770 mixed (by kernel_rfl) ?_)
     refine G_step [0] 1 [] (by kernel_rfl) (allM (all_cons (q_r (.agg #[.int .u64 m9.i.t, .int .i64 m9.i.s, .int .u64 m9.i.q, .pointer m9.ptr]) rfl rfl rfl (s_la ag36 sz36 rfl 1 rfl rfl rfl)) all_nil)) (allM (all_cons ?_ all_nil))
     refine LOb_call (.bool true) [(2, .bool false), (3, .bool false), (4, iN k), (5, .bool true), (6, .bool true), (7, .slice (some ⟨b1, of1, none⟩) ms.length cap), (8, iN k), (9, iN (k - 1)), (10, pt b1 (of1 + (k - 1) * 4)), (11, pt b1 (of1 + (k - 1) * 4)), (12, .agg #[.int .u64 y9.i.t, .int .i64 y9.i.s, .int .u64 y9.i.q]), (13, pt B2 0), (14, .agg #[.int .u64 m9.i.t, .int .i64 m9.i.s, .int .u64 m9.i.q])] rfl (wv_n rfl) rfl rfl (fun _ _ j _ => r_call (args := [.agg #[.int .u64 m9.i.t, .int .i64 m9.i.s, .int .u64 m9.i.q, .pointer m9.ptr]]) (enters_of Try.func45 (by kernel_rfl) rfl) (j _ _ rfl) ((cons2 (j _ _ rfl) rfl)) rfl) (fun w _ => (right_c m9 w).mono fun _ _ h => ⟨h.1.trans (congrArg Ending.returned (bool_as ho)), h.2⟩) (by kernel_rfl) ?_
     refine G_step [2, 3, 4, 5, 6, 7, 8, 9, 10, 11, 12, 13, 14] 15 [] (by kernel_rfl) (allM (all_cons (q_r (.bool false) rfl rfl rfl (fun _ _ j _ => r_not (b := true) (j _ _ rfl))) (all_cons (q_r (.bool false) rfl rfl rfl (s_mv rfl)) (all_cons (q_run (iN k) rfl rfl (wv_y rfl rfl) rfl (s_mv rfl)) (all_cons (q_run (.bool true) rfl rfl (wv_y rfl rfl) rfl (s_op r_gtr rfl rfl (bool_as (decide_eq_true hk0)))) (all_cons (q_run (.bool true) rfl rfl (wv_y rfl rfl) rfl (s_mv rfl)) (all_cons (q_run (.slice (some ⟨b1, of1, none⟩) ms.length cap) rfl rfl (wv_y rfl rfl) rfl (s_mv rfl)) (all_cons (q_run (iN k) rfl rfl (wv_y rfl rfl) rfl (s_mv rfl)) (all_cons (q_run (iN (k - 1)) rfl rfl (wv_y rfl rfl) rfl (s_op r_sub rfl rfl (iw (by omega) (by omega) (by omega)))) (all_cons (q_run (pt b1 (of1 + (k - 1) * 4)) rfl rfl (wv_y rfl rfl) rfl (fun _ _ j _ => r_indexAddrS (i := k - 1) sl25 sz36 (j _ _ rfl) (j _ _ rfl) (by omega))) (all_cons (q_run (pt b1 (of1 + (k - 1) * 4)) rfl rfl (wv_y rfl rfl) rfl (fun _ _ j _ => r_fieldAddr (off := of1 + (k - 1) * 4) fl36_0 sz32 (j _ _ rfl))) (all_cons (q_run (.agg #[.int .u64 y9.i.t, .int .i64 y9.i.s, .int .u64 y9.i.q]) rfl rfl (wv_y rfl rfl) rfl (fun _ _ j hm => r_loadRowP (f := Mk.cells) (u := y9) ag32 sz32 (j _ _ rfl) (hm.old hq1) hr1 hy9 rfl rfl)) (all_cons (q_run (pt B2 0) rfl rfl (wv_y rfl rfl) rfl (s_fa fl36_0 sz32 rfl)) (all_cons (q_run (.agg #[.int .u64 m9.i.t, .int .i64 m9.i.s, .int .u64 m9.i.q]) rfl rfl (wv_y rfl rfl) rfl (s_la ag32 sz32 rfl 1 rfl rfl rfl)) all_nil)))))))))))))) (allM (all_cons ?_ all_nil))
     refine LOb_call (.bool true) [(16, .bool false), (17, .bool false), (18, .bool false)] rfl (wv_y rfl rfl) rfl rfl (fun _ _ j _ => r_call (args := [.agg #[.int .u64 y9.i.t, .int .i64 y9.i.s, .int .u64 y9.i.q], .agg #[.int .u64 m9.i.t, .int .i64 m9.i.s, .int .u64 m9.i.q]]) (enters_of Try.func12 (by kernel_rfl) rfl) (j _ _ rfl) ((cons2 (j _ _ rfl) (cons2 (j _ _ rfl) rfl))) rfl) (fun w _ => (less_c y9.i m9.i w).mono fun _ _ h => ⟨h.1.trans (congrArg Ending.returned (bool_as hl)), h.2⟩) (by kernel_rfl) ?_
     refine G_last [16, 17, 18] [(0, .slice (some ⟨b1, of1, none⟩) ms.length cap), (5, .slice (some ⟨b1, of1, none⟩) ms.length cap), (6, iN ms.length), (7, iN k), (8, .bool (decide (((k : Nat) : Int) < ((ms.length : Nat) : Int)))), (9, iN k), (10, pt b1 (of1 + k * 4)), (11, .agg #[.int .u64 m9.i.t, .int .i64 m9.i.s, .int .u64 m9.i.q, .pointer m9.ptr]), (4, pt B2 0), (3, iN k), (12, .agg #[.int .u64 m9.i.t, .int .i64 m9.i.s, .int .u64 m9.i.q, .pointer m9.ptr]), (13, .bool true), (14, .bool false), (15, .bool false), (16, iN k), (17, .bool true), (18, .bool true), (19, .slice (some ⟨b1, of1, none⟩) ms.length cap), (20, iN k), (21, iN (k - 1)), (22, pt b1 (of1 + (k - 1) * 4)), (23, pt b1 (of1 + (k - 1) * 4)), (24, .agg #[.int .u64 y9.i.t, .int .i64 y9.i.s, .int .u64 y9.i.q]), (25, pt B2 0), (26, .agg #[.int .u64 m9.i.t, .int .i64 m9.i.s, .int .u64 m9.i.q]), (27, .bool true), (28, .bool false), (29, .bool false), (30, .bool false)] (by kernel_rfl) (allM (all_cons (q_run (.bool false) rfl rfl (wv_y rfl rfl) rfl (fun _ _ j _ => r_not (b := true) (j _ _ rfl))) (all_cons (q_run (.bool false) rfl rfl (wv_y rfl rfl) rfl (s_pt rfl rfl)) (all_cons (q_r (.bool false) rfl rfl rfl (s_pf rfl rfl)) all_nil)))) (end_old rfl rfl (end_old rfl rfl (end_old rfl rfl (end_old rfl rfl (end_old rfl rfl (end_old rfl rfl (end_old rfl rfl (end_old rfl rfl (end_old rfl rfl (end_old rfl rfl (end_new 0 rfl rfl (end_new 1 rfl rfl (end_new 2 rfl rfl (end_new 3 rfl rfl (end_new 4 rfl rfl (end_new 5 rfl rfl (end_new 6 rfl rfl (end_new 7 rfl rfl (end_new 8 rfl rfl (end_new 9 rfl rfl (end_new 10 rfl rfl (end_new 11 rfl rfl (end_new 12 rfl rfl (end_new 13 rfl rfl (end_new 14 rfl rfl (end_new 15 rfl rfl (end_new 16 rfl rfl (end_new 17 rfl rfl (end_new 18 rfl rfl end_nil))))))))))))))))))))))))))))) ?_
     refine T_cond_f rfl ?_
     refine T_skip' ?_
     refine p_blk_n ?_
     refine p_seq ?_
     refine T_region ?_
     refine TL_v (iN (k + 1)) (s_op r_add rfl rfl (iw (by omega) (by omega) (by omega))) rfl rfl ?_
     refine TL_v (iN (k + 1)) (s_mv rfl) rfl rfl ?_
     refine TL_nil ?_
     exact p_at (k + 1) ⟨⟨by omega, mk_step hup hm9 ho (fun z h9 hz9 => by rw [hy9] at hz9; cases hz9; exact hl)⟩, by omega⟩ (sc4 rfl rfl rfl rfl sub_nil) sub_nil
    ·skip
     refine T_seq (T_draw (V := [(0, .agg #[.int .u64 m9.i.t, .int .i64 m9.i.s, .int .u64 m9.i.q, .pointer m9.ptr])]) [0, 1, 3, 7, 15, 31, 63, 127, 127, 383, 1023, 2047, 4095, 127, 8319, 32767, 65535, 131071, 262143] [[(4, none)], [(12, some 0)], [(13, some 1)], [(14, some 2)], [(3, none)], [(16, some 4)], [(17, some 5)], [(0, none)], [(3, none)], [(20, some 8)], [(19, some 7), (21, some 9)], [(22, some 10)], [(23, some 11)], [(4, none)], [(25, some 13)], [(24, some 12), (26, some 14)], [(27, some 15)], [(28, some 16), (18, some 6)], [(29, some 17), (15, some 3)]] 32770 mixed (by kernel_rfl) ?_)
     refine G_step [0] 1 [] (by kernel_rfl) (allM (all_cons (q_r (.agg #[.int .u64 m9.i.t, .int .i64 m9.i.s, .int .u64 m9.i.q, .pointer m9.ptr]) rfl rfl rfl (s_la ag36 sz36 rfl 1 rfl rfl rfl)) all_nil)) (allM (all_cons ?_ all_nil))
     refine LOb_call (.bool true) [(2, .bool false), (3, .bool false), (4, iN k), (5, .bool true), (6, .bool true), (7, .slice (some ⟨b1, of1, none⟩) ms.length cap), (8, iN k), (9, iN (k - 1)), (10, pt b1 (of1 + (k - 1) * 4)), (11, pt b1 (of1 + (k - 1) * 4)), (12, .agg #[.int .u64 y9.i.t, .int .i64 y9.i.s, .int .u64 y9.i.q]), (13, pt B2 0), (14, .agg #[.int .u64 m9.i.t, .int .i64 m9.i.s, .int .u64 m9.i.q])] rfl (wv_n rfl) rfl rfl (fun _ _ j _ => r_call (args := [.agg #[.int .u64 m9.i.t, .int .i64 m9.i.s, .int .u64 m9.i.q, .pointer m9.ptr]]) (enters_of Try.func45 (by kernel_rfl) rfl) (j _ _ rfl) ((cons2 (j _ _ rfl) rfl)) rfl) (fun w _ => (right_c m9 w).mono fun _ _ h => ⟨h.1.trans (congrArg Ending.returned (bool_as ho)), h.2⟩) (by kernel_rfl) ?_
     refine G_step [2, 3, 4, 5, 6, 7, 8, 9, 10, 11, 12, 13, 14] 15 [] (by kernel_rfl) (allM (all_cons (q_r (.bool false) rfl rfl rfl (fun _ _ j _ => r_not (b := true) (j _ _ rfl))) (all_cons (q_r (.bool false) rfl rfl rfl (s_mv rfl)) (all_cons (q_run (iN k) rfl rfl (wv_y rfl rfl) rfl (s_mv rfl)) (all_cons (q_run (.bool true) rfl rfl (wv_y rfl rfl) rfl (s_op r_gtr rfl rfl (bool_as (decide_eq_true hk0)))) (all_cons (q_run (.bool true) rfl rfl (wv_y rfl rfl) rfl (s_mv rfl)) (all_cons (q_run (.slice (some ⟨b1, of1, none⟩) ms.length cap) rfl rfl (wv_y rfl rfl) rfl (s_mv rfl)) (all_cons (q_run (iN k) rfl rfl (wv_y rfl rfl) rfl (s_mv rfl)) (all_cons (q_run (iN (k - 1)) rfl rfl (wv_y rfl rfl) rfl (s_op r_sub rfl rfl (iw (by omega) (by omega) (by omega)))) (all_cons (q_run (pt b1 (of1 + (k - 1) * 4)) rfl rfl (wv_y rfl rfl) rfl (fun _ _ j _ => r_indexAddrS (i := k - 1) sl25 sz36 (j _ _ rfl) (j _ _ rfl) (by omega))) (all_cons (q_run (pt b1 (of1 + (k - 1) * 4)) rfl rfl (wv_y rfl rfl) rfl (fun _ _ j _ => r_fieldAddr (off := of1 + (k - 1) * 4) fl36_0 sz32 (j _ _ rfl))) (all_cons (q_run (.agg #[.int .u64 y9.i.t, .int .i64 y9.i.s, .int .u64 y9.i.q]) rfl rfl (wv_y rfl rfl) rfl (fun _ _ j hm => r_loadRowP (f := Mk.cells) (u := y9) ag32 sz32 (j _ _ rfl) (hm.old hq1) hr1 hy9 rfl rfl)) (all_cons (q_run (pt B2 0) rfl rfl (wv_y rfl rfl) rfl (s_fa fl36_0 sz32 rfl)) (all_cons (q_run (.agg #[.int .u64 m9.i.t, .int .i64 m9.i.s, .int .u64 m9.i.q]) rfl rfl (wv_y rfl rfl) rfl (s_la ag32 sz32 rfl 1 rfl rfl rfl)) all_nil)))))))))))))) (allM (all_cons ?_ all_nil))
     refine LOb_call (.bool false) [(16, .bool true), (17, .bool true), (18, .bool true)] rfl (wv_y rfl rfl) rfl rfl (fun _ _ j _ => r_call (args := [.agg #[.int .u64 y9.i.t, .int .i64 y9.i.s, .int .u64 y9.i.q], .agg #[.int .u64 m9.i.t, .int .i64 m9.i.s, .int .u64 m9.i.q]]) (enters_of Try.func12 (by kernel_rfl) rfl) (j _ _ rfl) ((cons2 (j _ _ rfl) (cons2 (j _ _ rfl) rfl))) rfl) (fun w _ => (less_c y9.i m9.i w).mono fun _ _ h => ⟨h.1.trans (congrArg Ending.returned (bool_as (eq_false_of_ne_true hl))), h.2⟩) (by kernel_rfl) ?_
     refine G_last [16, 17, 18] [(0, .slice (some ⟨b1, of1, none⟩) ms.length cap), (5, .slice (some ⟨b1, of1, none⟩) ms.length cap), (6, iN ms.length), (7, iN k), (8, .bool (decide (((k : Nat) : Int) < ((ms.length : Nat) : Int)))), (9, iN k), (10, pt b1 (of1 + k * 4)), (11, .agg #[.int .u64 m9.i.t, .int .i64 m9.i.s, .int .u64 m9.i.q, .pointer m9.ptr]), (4, pt B2 0), (3, iN k), (12, .agg #[.int .u64 m9.i.t, .int .i64 m9.i.s, .int .u64 m9.i.q, .pointer m9.ptr]), (13, .bool true), (14, .bool false), (15, .bool false), (16, iN k), (17, .bool true), (18, .bool true), (19, .slice (some ⟨b1, of1, none⟩) ms.length cap), (20, iN k), (21, iN (k - 1)), (22, pt b1 (of1 + (k - 1) * 4)), (23, pt b1 (of1 + (k - 1) * 4)), (24, .agg #[.int .u64 y9.i.t, .int .i64 y9.i.s, .int .u64 y9.i.q]), (25, pt B2 0), (26, .agg #[.int .u64 m9.i.t, .int .i64 m9.i.s, .int .u64 m9.i.q]), (27, .bool false), (28, .bool true), (29, .bool true), (30, .bool true)] (by kernel_rfl) (allM (all_cons (q_run (.bool true) rfl rfl (wv_y rfl rfl) rfl (fun _ _ j _ => r_not (b := false) (j _ _ rfl))) (all_cons (q_run (.bool true) rfl rfl (wv_y rfl rfl) rfl (s_pt rfl rfl)) (all_cons (q_r (.bool true) rfl rfl rfl (s_pf rfl rfl)) all_nil)))) (end_old rfl rfl (end_old rfl rfl (end_old rfl rfl (end_old rfl rfl (end_old rfl rfl (end_old rfl rfl (end_old rfl rfl (end_old rfl rfl (end_old rfl rfl (end_old rfl rfl (end_new 0 rfl rfl (end_new 1 rfl rfl (end_new 2 rfl rfl (end_new 3 rfl rfl (end_new 4 rfl rfl (end_new 5 rfl rfl (end_new 6 rfl rfl (end_new 7 rfl rfl (end_new 8 rfl rfl (end_new 9 rfl rfl (end_new 10 rfl rfl (end_new 11 rfl rfl (end_new 12 rfl rfl (end_new 13 rfl rfl (end_new 14 rfl rfl (end_new 15 rfl rfl (end_new 16 rfl rfl (end_new 17 rfl rfl (end_new 18 rfl rfl end_nil))))))))))))))))))))))))))))) ?_
     refine T_cond_t rfl ?_
     refine T_seq (T_region ?_)
     refine TL_v (.int .i64 260) (s_as rfl) rfl rfl ?_
     refine TL_seq ?_
     refine T_ret' ?_
     refine p_blk_r ?_
     refine p_then_r ?_
     refine p_then_r ?_
     refine p_blk_r ?_
     refine p_then_r ?_
     refine ret_of rfl (.int .i64 260) (fun tmps w hk hm => res1 rfl (res_tmp (hk 2 _ rfl))) (fun w hm => ?_)
     exact ⟨by rw [mk_no2 (by omega) hy9 hm9 hl]; rfl, hm.ext⟩
   ·skip
    refine T_seq (T_draw (V := [(0, .agg #[.int .u64 m9.i.t, .int .i64 m9.i.s, .int .u64 m9.i.q, .pointer m9.ptr])]) [0, 1, 3, 7, 15, 31, 63, 127, 127, 383, 1023, 2047, 4095, 127, 8319, 32767, 65535, 131071, 262143] [[(4, none)], [(12, some 0)], [(13, some 1)], [(14, some 2)], [(3, none)], [(16, some 4)], [(17, some 5)], [(0, none)], [(3, none)], [(20, some 8)], [(19, some 7), (21, some 9)], [(22, some 10)], [(23, some 11)], [(4, none)], [(25, some 13)], [(24, some 12), (26, some 14)], [(27, some 15)], [(28, some 16), (18, some 6)], [(29, some 17), (15, some 3)]] 2 mixed (by kernel_rfl) ?_)
    refine G_step [0] 1 [] (by kernel_rfl) (allM (all_cons (q_r (.agg #[.int .u64 m9.i.t, .int .i64 m9.i.s, .int .u64 m9.i.q, .pointer m9.ptr]) rfl rfl rfl (s_la ag36 sz36 rfl 1 rfl rfl rfl)) all_nil)) (allM (all_cons ?_ all_nil))
    refine LOb_call (.bool true) [(2, .bool false), (3, .bool false), (4, iN k), (5, .bool false), (6, .bool false), (7, undef), (8, undef), (9, undef), (10, undef), (11, undef), (12, undef), (13, undef), (14, undef), (15, undef), (16, undef), (17, .bool false), (18, .bool false)] rfl (wv_n rfl) rfl rfl (fun _ _ j _ => r_call (args := [.agg #[.int .u64 m9.i.t, .int .i64 m9.i.s, .int .u64 m9.i.q, .pointer m9.ptr]]) (enters_of Try.func45 (by kernel_rfl) rfl) (j _ _ rfl) ((cons2 (j _ _ rfl) rfl)) rfl) (fun w _ => (right_c m9 w).mono fun _ _ h => ⟨h.1.trans (congrArg Ending.returned (bool_as ho)), h.2⟩) (by kernel_rfl) ?_
    refine G_last [2, 3, 4, 5, 6, 7, 8, 9, 10, 11, 12, 13, 14, 15, 16, 17, 18] [(0, .slice (some ⟨b1, of1, none⟩) ms.length cap), (5, .slice (some ⟨b1, of1, none⟩) ms.length cap), (6, iN ms.length), (7, iN k), (8, .bool (decide (((k : Nat) : Int) < ((ms.length : Nat) : Int)))), (9, iN k), (10, pt b1 (of1 + k * 4)), (11, .agg #[.int .u64 m9.i.t, .int .i64 m9.i.s, .int .u64 m9.i.q, .pointer m9.ptr]), (4, pt B2 0), (3, iN k), (12, .agg #[.int .u64 m9.i.t, .int .i64 m9.i.s, .int .u64 m9.i.q, .pointer m9.ptr]), (13, .bool true), (14, .bool false), (15, .bool false), (16, iN k), (17, .bool false), (18, .bool false), (19, undef), (20, undef), (21, undef), (22, undef), (23, undef), (24, undef), (25, undef), (26, undef), (27, undef), (28, undef), (29, .bool false), (30, .bool false)] (by kernel_rfl) (allM (all_cons (q_r (.bool false) rfl rfl rfl (fun _ _ j _ => r_not (b := true) (j _ _ rfl))) (all_cons (q_r (.bool false) rfl rfl rfl (s_mv rfl)) (all_cons (q_run (iN k) rfl rfl (wv_y rfl rfl) rfl (s_mv rfl)) (all_cons (q_run (.bool false) rfl rfl (wv_y rfl rfl) rfl (s_op r_gtr rfl rfl (bool_as (decide_eq_false hk0)))) (all_cons (q_run (.bool false) rfl rfl (wv_y rfl rfl) rfl (s_mv rfl)) (all_cons (q_no rfl rfl (wv_no rfl rfl)) (all_cons (q_no rfl rfl (wv_no rfl rfl)) (all_cons (q_no rfl rfl (wv_no rfl rfl)) (all_cons (q_no rfl rfl (wv_no rfl rfl)) (all_cons (q_no rfl rfl (wv_no rfl rfl)) (all_cons (q_no rfl rfl (wv_no rfl rfl)) (all_cons (q_no rfl rfl (wv_no rfl rfl)) (all_cons (q_no rfl rfl (wv_no rfl rfl)) (all_cons (q_no rfl rfl (wv_no rfl rfl)) (all_cons (q_no rfl rfl (wv_no rfl rfl)) (all_cons (q_run (.bool false) rfl rfl (wv_y rfl rfl) rfl (s_pf rfl rfl)) (all_cons (q_r (.bool false) rfl rfl rfl (s_pf rfl rfl)) all_nil)))))))))))))))))) (end_old rfl rfl (end_old rfl rfl (end_old rfl rfl (end_old rfl rfl (end_old rfl rfl (end_old rfl rfl (end_old rfl rfl (end_old rfl rfl (end_old rfl rfl (end_old rfl rfl (end_new 0 rfl rfl (end_new 1 rfl rfl (end_new 2 rfl rfl (end_new 3 rfl rfl (end_new 4 rfl rfl (end_new 5 rfl rfl (end_new 6 rfl rfl (end_new 7 rfl rfl (end_new 8 rfl rfl (end_new 9 rfl rfl (end_new 10 rfl rfl (end_new 11 rfl rfl (end_new 12 rfl rfl (end_new 13 rfl rfl (end_new 14 rfl rfl (end_new 15 rfl rfl (end_new 16 rfl rfl (end_new 17 rfl rfl (end_new 18 rfl rfl end_nil))))))))))))))))))))))))))))) ?_
    refine T_cond_f rfl ?_
    refine T_skip' ?_
    refine p_blk_n ?_
    refine p_seq ?_
    refine T_region ?_
    refine TL_v (iN (k + 1)) (s_op r_add rfl rfl (iw (by omega) (by omega) (by omega))) rfl rfl ?_
    refine TL_v (iN (k + 1)) (s_mv rfl) rfl rfl ?_
    refine TL_nil ?_
    exact p_at (k + 1) ⟨⟨by omega, mk_step hup hm9 ho (fun z h9 hz9 => absurd h9 (by omega))⟩, by omega⟩ (sc4 rfl rfl rfl rfl sub_nil) sub_nil
  ·skip
   refine T_seq (T_draw (V := [(0, .agg #[.int .u64 m9.i.t, .int .i64 m9.i.s, .int .u64 m9.i.q, .pointer m9.ptr])]) [0, 1, 3, 7, 15, 31, 63, 127, 127, 383, 1023, 2047, 4095, 127, 8319, 32767, 65535, 131071, 262143] [[(4, none)], [(12, some 0)], [(13, some 1)], [(14, some 2)], [(3, none)], [(16, some 4)], [(17, some 5)], [(0, none)], [(3, none)], [(20, some 8)], [(19, some 7), (21, some 9)], [(22, some 10)], [(23, some 11)], [(4, none)], [(25, some 13)], [(24, some 12), (26, some 14)], [(27, some 15)], [(28, some 16), (18, some 6)], [(29, some 17), (15, some 3)]] 2 mixed (by kernel_rfl) ?_)
   refine G_step [0] 1 [] (by kernel_rfl) (allM (all_cons (q_r (.agg #[.int .u64 m9.i.t, .int .i64 m9.i.s, .int .u64 m9.i.q, .pointer m9.ptr]) rfl rfl rfl (s_la ag36 sz36 rfl 1 rfl rfl rfl)) all_nil)) (allM (all_cons ?_ all_nil))
   refine LOb_call (.bool false) [(2, .bool true), (3, .bool true), (4, undef), (5, undef), (6, undef), (7, undef), (8, undef), (9, undef), (10, undef), (11, undef), (12, undef), (13, undef), (14, undef), (15, undef), (16, undef), (17, undef), (18, .bool true)] rfl (wv_n rfl) rfl rfl (fun _ _ j _ => r_call (args := [.agg #[.int .u64 m9.i.t, .int .i64 m9.i.s, .int .u64 m9.i.q, .pointer m9.ptr]]) (enters_of Try.func45 (by kernel_rfl) rfl) (j _ _ rfl) ((cons2 (j _ _ rfl) rfl)) rfl) (fun w _ => (right_c m9 w).mono fun _ _ h => ⟨h.1.trans (congrArg Ending.returned (bool_as (eq_false_of_ne_true ho))), h.2⟩) (by kernel_rfl) ?_
   refine G_last [2, 3, 4, 5, 6, 7, 8, 9, 10, 11, 12, 13, 14, 15, 16, 17, 18] [(0, .slice (some ⟨b1, of1, none⟩) ms.length cap), (5, .slice (some ⟨b1, of1, none⟩) ms.length cap), (6, iN ms.length), (7, iN k), (8, .bool (decide (((k : Nat) : Int) < ((ms.length : Nat) : Int)))), (9, iN k), (10, pt b1 (of1 + k * 4)), (11, .agg #[.int .u64 m9.i.t, .int .i64 m9.i.s, .int .u64 m9.i.q, .pointer m9.ptr]), (4, pt B2 0), (3, iN k), (12, .agg #[.int .u64 m9.i.t, .int .i64 m9.i.s, .int .u64 m9.i.q, .pointer m9.ptr]), (13, .bool false), (14, .bool true), (15, .bool true), (16, undef), (17, undef), (18, undef), (19, undef), (20, undef), (21, undef), (22, undef), (23, undef), (24, undef), (25, undef), (26, undef), (27, undef), (28, undef), (29, undef), (30, .bool true)] (by kernel_rfl) (allM (all_cons (q_r (.bool true) rfl rfl rfl (fun _ _ j _ => r_not (b := false) (j _ _ rfl))) (all_cons (q_r (.bool true) rfl rfl rfl (s_mv rfl)) (all_cons (q_no rfl rfl (wv_no rfl rfl)) (all_cons (q_no rfl rfl (wv_no rfl rfl)) (all_cons (q_no rfl rfl (wv_no rfl rfl)) (all_cons (q_no rfl rfl (wv_u rfl rfl)) (all_cons (q_no rfl rfl (wv_u rfl rfl)) (all_cons (q_no rfl rfl (wv_u rfl rfl)) (all_cons (q_no rfl rfl (wv_u rfl rfl)) (all_cons (q_no rfl rfl (wv_u rfl rfl)) (all_cons (q_no rfl rfl (wv_u rfl rfl)) (all_cons (q_no rfl rfl (wv_u rfl rfl)) (all_cons (q_no rfl rfl (wv_u rfl rfl)) (all_cons (q_no rfl rfl (wv_u rfl rfl)) (all_cons (q_no rfl rfl (wv_u rfl rfl)) (all_cons (q_no rfl rfl (wv_no rfl rfl)) (all_cons (q_r (.bool true) rfl rfl rfl (s_pt rfl rfl)) all_nil)))))))))))))))))) (end_old rfl rfl (end_old rfl rfl (end_old rfl rfl (end_old rfl rfl (end_old rfl rfl (end_old rfl rfl (end_old rfl rfl (end_old rfl rfl (end_old rfl rfl (end_old rfl rfl (end_new 0 rfl rfl (end_new 1 rfl rfl (end_new 2 rfl rfl (end_new 3 rfl rfl (end_new 4 rfl rfl (end_new 5 rfl rfl (end_new 6 rfl rfl (end_new 7 rfl rfl (end_new 8 rfl rfl (end_new 9 rfl rfl (end_new 10 rfl rfl (end_new 11 rfl rfl (end_new 12 rfl rfl (end_new 13 rfl rfl (end_new 14 rfl rfl (end_new 15 rfl rfl (end_new 16 rfl rfl (end_new 17 rfl rfl (end_new 18 rfl rfl end_nil))))))))))))))))))))))))))))) ?_
   refine T_cond_t rfl ?_
   refine T_seq (T_region ?_)
   refine TL_v (.int .i64 260) (s_as rfl) rfl rfl ?_
   refine TL_seq ?_
   refine T_ret' ?_
   refine p_blk_r ?_
   refine p_then_r ?_
   refine p_then_r ?_
   refine p_blk_r ?_
   refine p_then_r ?_
   refine ret_of rfl (.int .i64 260) (fun tmps w hk hm => res1 rfl (res_tmp (hk 2 _ rfl))) (fun w hm => ?_)
   exact ⟨by rw [mk_no1 hm9 ho]; rfl, hm.ext⟩
 ·replace h1 := of_decide_eq_false h1
  refine T_exit' ?_
  refine p_then_x ?_
  refine p_then_x ?_
  refine p_blk_x ?_
  refine p_seq ?_
  refine T_seq ?_
  refine T_seq (T_region ?_)
  refine TL_v (.slice a ms.length cap) (s_mv rfl) rfl rfl ?_
  refine TL_v (iN ms.length) (fun _ _ j _ => r_len sl25 (j _ _ rfl)) rfl rfl ?_
  refine TL_v (.bool (decide ((6 : Int) < ((ms.length : Nat) : Int)))) (fun _ _ j _ => r_gtr (j _ _ rfl) (j _ _ rfl)) rfl rfl ?_
  refine TL_seq ?_
  refine T_cond rfl (fun h2 => ?_) (fun h2 => ?_)
  ·replace h2 := of_decide_eq_true h2
   refine T_seq (T_region ?_)
   refine TL_v (.int .i64 260) (s_as rfl) rfl rfl ?_
   refine TL_seq ?_
   refine T_ret' ?_
   refine p_then_r ?_
   refine ret_of rfl (.int .i64 260) (fun tmps w hk hm => res1 rfl (res_tmp (hk 2 _ rfl))) (fun w hm => ?_)
   exact ⟨by rw [mk_no3 (by omega)]; rfl, hm.ext⟩
  ·replace h2 := of_decide_eq_false h2
   refine T_skip' ?_
   refine p_seq ?_
   refine T_seq (T_region ?_)
   refine TL_v (.int .i64 0) (s_as rfl) rfl rfl ?_
   refine TL_seq ?_
   refine T_ret' ?_
   refine ret_of rfl (.int .i64 0) (fun tmps w hk hm => res1 rfl (res_tmp (hk 2 _ rfl))) (fun w hm => ?_)
   exact ⟨by rw [mk_yes hup (by omega) (by omega)]; rfl, hm.ext⟩

theorem pairs_iter {ι : Type} (w₀ : World) (p' : Nat → ι → Prop) (LJ : Nat → ι → Heap) (Q9 : Nat) (l : List Tid) (a : Option Addr) (cap : Nat) (hv : SliceAt w₀ a cap 3 Tid.cells l) (hcap : cap ≤ Go.maxLen)
  (hT1 : ∀ k i w, MemOk w₀ (LJ k i) w → hp w Q9 = some (.cells #[.slice a l.length cap] 22)) :
  IterAt Try.prog w₀ 79 #[.pointer (some ⟨Q9, 0, none⟩)] encP (prs l) p' LJ := by
 intro l9 κ pX LX hY i₀ W₁ hp0 hm0
 have hvl := hv.1
 unfold Go.maxLen at hcap
 show Calls _ _ #[.func (.yield l9) #[] #[], pt Q9 0] _ _
 refine ht_of_T (l := [.func (.yield l9) #[] #[], pt Q9 0]) (L := LJ 0 i₀) 26 Try.func79 rfl rfl rfl ?_ W₁ hm0
 show T _ _ _ [(0, .func (.yield l9) #[] #[]), (1, pt Q9 0)] (LJ 0 i₀)
 refine T_scope ?_
 refine T_label ?_
 refine T_seq (T_region ?_)
 refine TL_v (.slice a l.length cap) (fun _ _ j hm => r_load ag22 (j _ _ rfl) (hT1 _ _ _ hm) rfl) rfl rfl ?_
 refine TL_v (iN l.length) (fun _ _ j _ => r_len sl22 (j _ _ rfl)) rfl rfl ?_
 refine TL_v (.int .i64 0) (s_mv rfl) rfl rfl ?_
 refine TL_seq ?_
 refine T_block ?_
 refine T_loopE (ι := Nat × ι) (fun (z : Nat × ι) => match z with | (k, i) => k ≤ l.length ∧ p' (k - 1) i) (fun (z : Nat × ι) => match z with | (k, i) => [(0, .func (.yield l9) #[] #[]), (1, pt Q9 0), (5, iN l.length), (6, iN k)]) (fun (z : Nat × ι) => match z with | (k, i) => (LJ (k - 1) i)) (fun (z : Nat × ι) => match z with | (k, i) => l.length - k) (0, i₀) ⟨Nat.zero_le _, hp0⟩ (sc4 rfl rfl rfl rfl sub_nil) rfl ?_
 rintro ⟨k, i⟩ hp
 obtain ⟨hk, hpi⟩ := hp
 show T _ _ _ [(0, .func (.yield l9) #[] #[]), (1, pt Q9 0), (5, iN l.length), (6, iN k)] (LJ (k - 1) i)
 refine T_seq (T_region ?_)
 refine TL_v (.bool (decide (((k : Nat) : Int) < ((l.length : Nat) : Int)))) (fun _ _ j _ => r_lss (j _ _ rfl) (j _ _ rfl)) rfl rfl ?_
 refine TL_seq ?_
 refine T_seq ?_
 refine T_cond rfl (fun h1 => ?_) (fun h1 => ?_)
 ·replace h1 := of_decide_eq_true h1
  refine T_skip' ?_
  refine p_seq ?_
  refine T_seq ?_
  refine T_block ?_
  obtain ⟨m9, hm9⟩ : ∃ x, l[k]? = some x := ⟨_, List.getElem?_eq_getElem (by omega)⟩
  obtain ⟨b1, of1, cs1, T1, fz1, ha1, hq1, hr1⟩ := hv.open (i := k) (by omega)
  subst ha1
  refine T_seq (T_region ?_)
  refine TL_v (iN k) (s_mv rfl) rfl rfl ?_
  refine TL_v (iN k) (s_as rfl) rfl rfl ?_
  refine TL_seq ?_
  by_cases hk0 : (0 : Int) < ((k : Nat) : Int)
  ·skip
   obtain ⟨y9, hy9⟩ : ∃ x, l[k - 1]? = some x := ⟨_, List.getElem?_eq_getElem (by omega)⟩
   refine T_seq (T_draw (V := [(0, iN k), (1, .bool true), (2, .bool true), (3, .func (.yield l9) #[] #[]), (4, .slice (some ⟨b1, of1, none⟩) l.length cap), (5, iN k), (6, iN (k - 1)), (7, pt b1 (of1 + (k - 1) * 3)), (8, .agg #[.int .u64 y9.t, .int .i64 y9.s, .int .u64 y9.q]), (9, .slice (some ⟨b1, of1, none⟩) l.length cap), (10, iN k), (11, pt b1 (of1 + k * 3)), (12, .agg #[.int .u64 m9.t, .int .i64 m9.s, .int .u64 m9.q])]) [0, 1, 3, 7, 7, 7, 39, 119, 247, 7, 7, 1543, 3591, 8191, 16383, 32767] [[(3, none)], [(9, some 0)], [(10, some 1)], [(0, none)], [(1, none)], [(3, none)], [(14, some 5)], [(13, some 4), (15, some 6)], [(16, some 7)], [(1, none)], [(3, none)], [(18, some 9), (19, some 10)], [(20, some 11)], [(17, some 8), (21, some 12), (12, some 3)], [(22, some 13)], [(23, some 14), (11, some 2)]] 8192 mixed (by kernel_rfl) ?_)
   refine G_step [0, 1, 2, 3, 4, 5, 6, 7, 8, 9, 10, 11, 12] 13 [] (by kernel_rfl) (allM (all_cons (q_r (iN k) rfl rfl rfl (s_mv rfl)) (all_cons (q_r (.bool true) rfl rfl rfl (s_op r_gtr rfl rfl (bool_as (decide_eq_true hk0)))) (all_cons (q_r (.bool true) rfl rfl rfl (s_mv rfl)) (all_cons (q_run (.func (.yield l9) #[] #[]) rfl rfl (wv_y rfl rfl) rfl (s_mv rfl)) (all_cons (q_run (.slice (some ⟨b1, of1, none⟩) l.length cap) rfl rfl (wv_y rfl rfl) rfl (fun _ _ j hm => r_load ag22 (j _ _ rfl) (hT1 _ _ _ hm) rfl)) (all_cons (q_run (iN k) rfl rfl (wv_y rfl rfl) rfl (s_mv rfl)) (all_cons (q_run (iN (k - 1)) rfl rfl (wv_y rfl rfl) rfl (s_op r_sub rfl rfl (iw (by omega) (by omega) (by omega)))) (all_cons (q_run (pt b1 (of1 + (k - 1) * 3)) rfl rfl (wv_y rfl rfl) rfl (fun _ _ j _ => r_indexAddrS (i := k - 1) sl22 sz32 (j _ _ rfl) (j _ _ rfl) (by omega))) (all_cons (q_run (.agg #[.int .u64 y9.t, .int .i64 y9.s, .int .u64 y9.q]) rfl rfl (wv_y rfl rfl) rfl (fun _ _ j hm => r_loadRow (f := Tid.cells) (u := y9) ag32 sz32 (j _ _ rfl) (hm.old hq1) hr1 hy9)) (all_cons (q_run (.slice (some ⟨b1, of1, none⟩) l.length cap) rfl rfl (wv_y rfl rfl) rfl (fun _ _ j hm => r_load ag22 (j _ _ rfl) (hT1 _ _ _ hm) rfl)) (all_cons (q_run (iN k) rfl rfl (wv_y rfl rfl) rfl (s_mv rfl)) (all_cons (q_run (pt b1 (of1 + k * 3)) rfl rfl (wv_y rfl rfl) rfl (fun _ _ j _ => r_indexAddrS (i := k) sl22 sz32 (j _ _ rfl) (j _ _ rfl) (by omega))) (all_cons (q_run (.agg #[.int .u64 m9.t, .int .i64 m9.s, .int .u64 m9.q]) rfl rfl (wv_y rfl rfl) rfl (fun _ _ j hm => r_loadRow (f := Tid.cells) (u := m9) ag32 sz32 (j _ _ rfl) (hm.old hq1) hr1 hm9)) all_nil)))))))))))))) (allM (all_cons ?_ all_nil))
   refine LOb_yieldB (fun i => p' (k - 1 + 1) i) (fun i => LJ (k - 1 + 1) i) pX LX (fun yx2 => [(14, .bool (!yx2.isLeft)), (15, .bool (!yx2.isLeft))]) rfl rfl (wv_y rfl rfl) rfl rfl (fun _ _ j _ => r_yield (j _ _ rfl) ((cons2 (j _ _ rfl) (cons2 (j _ _ rfl) rfl)))) (fun W hm => hY (k - 1) (y9, m9) i W (prs_at (by omega) hy9 hm9) hpi hm) (fun _ => by kernel_rfl) ?_
   intro yx2 hyx2
   refine G_last [14, 15] [(0, .func (.yield l9) #[] #[]), (1, pt Q9 0), (5, iN l.length), (6, iN k), (7, .bool (decide (((k : Nat) : Int) < ((l.length : Nat) : Int)))), (8, iN k), (3, iN k), (9, iN k), (10, .bool true), (11, .bool true), (12, .func (.yield l9) #[] #[]), (13, .slice (some ⟨b1, of1, none⟩) l.length cap), (14, iN k), (15, iN (k - 1)), (16, pt b1 (of1 + (k - 1) * 3)), (17, .agg #[.int .u64 y9.t, .int .i64 y9.s, .int .u64 y9.q]), (18, .slice (some ⟨b1, of1, none⟩) l.length cap), (19, iN k), (20, pt b1 (of1 + k * 3)), (21, .agg #[.int .u64 m9.t, .int .i64 m9.s, .int .u64 m9.q]), (22, .bool yx2.isLeft), (23, .bool (!yx2.isLeft)), (24, .bool (!yx2.isLeft))] (by kernel_rfl) (allM (all_cons (q_run (.bool (!yx2.isLeft)) rfl rfl (wv_y rfl rfl) rfl (fun _ _ j _ => r_not (b := yx2.isLeft) (j _ _ rfl))) (all_cons (q_r (.bool (!yx2.isLeft)) rfl rfl rfl (s_pt rfl rfl)) all_nil))) (end_old rfl rfl (end_old rfl rfl (end_old rfl rfl (end_old rfl rfl (end_old rfl rfl (end_old rfl rfl (end_old rfl rfl (end_new 0 rfl rfl (end_new 1 rfl rfl (end_new 2 rfl rfl (end_new 3 rfl rfl (end_new 4 rfl rfl (end_new 5 rfl rfl (end_new 6 rfl rfl (end_new 7 rfl rfl (end_new 8 rfl rfl (end_new 9 rfl rfl (end_new 10 rfl rfl (end_new 11 rfl rfl (end_new 12 rfl rfl (end_new 13 rfl rfl (end_new 14 rfl rfl (end_new 15 rfl rfl end_nil))))))))))))))))))))))) ?_
   refine T_cond rfl (fun h2 => ?_) (fun h2 => ?_)
   ·replace h2 := bnot_t h2
    obtain ⟨j, rfl⟩ := isR (by simpa using h2)
    refine T_exit' ?_
    refine p_blk_o rfl ?_
    refine p_then_x ?_
    refine p_then_x ?_
    refine p_blk_x ?_
    refine p_ng_n ?_
    refine p_end ?_
    refine ret_of rfl (.tuple #[]) (fun tmps w hk hm => results_none rfl _ _ _) (fun w hm => ?_)
    first
     | exact ⟨⟨_, rfl⟩, .inr ⟨j, hyx2, hm⟩⟩
     | (have hk8 : k = l.length := (by omega); subst hk8; exact ⟨⟨_, rfl⟩, .inl ⟨i, by rw [prs_len]; exact hpi, by rw [prs_len]; exact hm⟩⟩)
   ·replace h2 := bnot_f h2
    obtain ⟨i1, rfl⟩ := isL (by simpa using h2)
    refine T_skip' ?_
    refine p_blk_n ?_
    refine p_seq ?_
    refine T_region ?_
    refine TL_v (iN (k + 1)) (s_op r_add rfl rfl (iw (by omega) (by omega) (by omega))) rfl rfl ?_
    refine TL_v (iN (k + 1)) (s_mv rfl) rfl rfl ?_
    refine TL_nil ?_
    exact p_atE (k + 1, i1) ⟨⟨by omega, by have h9 := hyx2; rw [show k - 1 + 1 = k + 1 - 1 by omega] at h9; exact h9⟩, by dsimp only; omega⟩ (sc4 rfl rfl rfl rfl sub_nil) (show LJ (k - 1 + 1) i1 = LJ (k + 1 - 1) i1 by rw [show k - 1 + 1 = k + 1 - 1 by omega])
  ·skip
   refine T_seq (T_draw (V := [(0, iN k), (1, .bool false), (2, .bool false), (3, undef), (4, undef), (5, undef), (6, undef), (7, undef), (8, undef), (9, undef), (10, undef), (11, undef), (12, undef), (13, undef), (14, undef), (15, .bool false)]) [0, 1, 3, 7, 7, 7, 39, 119, 247, 7, 7, 1543, 3591, 8191, 16383, 32767] [[(3, none)], [(9, some 0)], [(10, some 1)], [(0, none)], [(1, none)], [(3, none)], [(14, some 5)], [(13, some 4), (15, some 6)], [(16, some 7)], [(1, none)], [(3, none)], [(18, some 9), (19, some 10)], [(20, some 11)], [(17, some 8), (21, some 12), (12, some 3)], [(22, some 13)], [(23, some 14), (11, some 2)]] 0 mixed (by kernel_rfl) ?_)
   refine G_last [0, 1, 2, 3, 4, 5, 6, 7, 8, 9, 10, 11, 12, 13, 14, 15] [(0, .func (.yield l9) #[] #[]), (1, pt Q9 0), (5, iN l.length), (6, iN k), (7, .bool (decide (((k : Nat) : Int) < ((l.length : Nat) : Int)))), (8, iN k), (3, iN k), (9, iN k), (10, .bool false), (11, .bool false), (12, undef), (13, undef), (14, undef), (15, undef), (16, undef), (17, undef), (18, undef), (19, undef), (20, undef), (21, undef), (22, undef), (23, undef), (24, .bool false)] (by kernel_rfl) (allM (all_cons (q_r (iN k) rfl rfl rfl (s_mv rfl)) (all_cons (q_r (.bool false) rfl rfl rfl (s_op r_gtr rfl rfl (bool_as (decide_eq_false hk0)))) (all_cons (q_r (.bool false) rfl rfl rfl (s_mv rfl)) (all_cons (q_no rfl rfl (wv_no rfl rfl)) (all_cons (q_no rfl rfl (wv_no rfl rfl)) (all_cons (q_no rfl rfl (wv_no rfl rfl)) (all_cons (q_no rfl rfl (wv_no rfl rfl)) (all_cons (q_no rfl rfl (wv_no rfl rfl)) (all_cons (q_no rfl rfl (wv_no rfl rfl)) (all_cons (q_no rfl rfl (wv_no rfl rfl)) (all_cons (q_no rfl rfl (wv_no rfl rfl)) (all_cons (q_no rfl rfl (wv_no rfl rfl)) (all_cons (q_no rfl rfl (wv_no rfl rfl)) (all_cons (q_no rfl rfl (wv_no rfl rfl)) (all_cons (q_no rfl rfl (wv_no rfl rfl)) (all_cons (q_r (.bool false) rfl rfl rfl (s_pf rfl rfl)) all_nil))))))))))))))))) (end_old rfl rfl (end_old rfl rfl (end_old rfl rfl (end_old rfl rfl (end_old rfl rfl (end_old rfl rfl (end_old rfl rfl (end_new 0 rfl rfl (end_new 1 rfl rfl (end_new 2 rfl rfl (end_new 3 rfl rfl (end_new 4 rfl rfl (end_new 5 rfl rfl (end_new 6 rfl rfl (end_new 7 rfl rfl (end_new 8 rfl rfl (end_new 9 rfl rfl (end_new 10 rfl rfl (end_new 11 rfl rfl (end_new 12 rfl rfl (end_new 13 rfl rfl (end_new 14 rfl rfl (end_new 15 rfl rfl end_nil))))))))))))))))))))))) ?_
   refine T_cond_f rfl ?_
   refine T_skip' ?_
   refine p_blk_n ?_
   refine p_seq ?_
   refine T_region ?_
   refine TL_v (iN (k + 1)) (s_op r_add rfl rfl (iw (by omega) (by omega) (by omega))) rfl rfl ?_
   refine TL_v (iN (k + 1)) (s_mv rfl) rfl rfl ?_
   refine TL_nil ?_
   exact p_atE (k + 1, i) ⟨⟨by omega, by rw [show k - 1 = k + 1 - 1 by omega] at hpi; exact hpi⟩, by dsimp only; omega⟩ (sc4 rfl rfl rfl rfl sub_nil) (show LJ (k - 1) i = LJ (k + 1 - 1) i by rw [show k - 1 = k + 1 - 1 by omega])
 ·replace h1 := of_decide_eq_false h1
  refine T_exit' ?_
  refine p_then_x ?_
  refine p_then_x ?_
  refine p_blk_x ?_
  refine p_ng_n ?_
  refine p_end ?_
  refine ret_of rfl (.tuple #[]) (fun tmps w hk hm => results_none rfl _ _ _) (fun w hm => ?_)
  first
   | exact ⟨⟨_, rfl⟩, .inr ⟨j, hyx2, hm⟩⟩
   | (have hk8 : k = l.length := (by omega); subst hk8; exact ⟨⟨_, rfl⟩, .inl ⟨i, by rw [prs_len]; exact hpi, by rw [prs_len]; exact hm⟩⟩)
end Go.Proofs.Ytmihoejecpcmjaa
/- net and journal: Rising; rows gone through. Printed by a program of this seat's prover. -/
namespace Go.Proofs.Ytmihoejecpcmjaa
open Go Go.RowKit
set_option maxRecDepth 10000
theorem pairs_c (a : Option Addr) (n cap : Nat) (w : World) : Calls Try.prog 69 #[.slice a n cap] w fun e w' => ∃ q, e = .returned (.func (.func 79) #[] #[.pointer (some ⟨q, 0, none⟩)]) ∧ Below w.heap.size w w' ∧ (Res.blk q (.cells #[.slice a n cap] 22)).ok w.heap.size w' := by
 refine calls_of_T (l := [.slice a n cap]) 4 Try.func69 rfl rfl rfl ?_
 show T _ _ _ [(0, .slice a n cap)] []
 refine T_seq (T_region ?_)
 refine TL_new 1 (.cells #[.slice a n cap] 22) (fun B => pt B 0) (fun _ _ j _ => r_box (j _ _ rfl) rfl) rfl rfl rfl (w_n rfl) ?_
 intro B1
 refine TL_v (.nilFunc) (s_as rfl) rfl rfl ?_
 refine TL_seq ?_
 refine T_seq (T_region ?_)
 refine TL_v (.func (.func 79) #[] #[pt B1 0]) (fun _ _ j _ => r_makeFunc (by simp) (map_arr (cons2 (j _ _ rfl) rfl))) rfl rfl ?_
 refine TL_v (.func (.func 79) #[] #[pt B1 0]) (s_as rfl) rfl rfl ?_
 refine TL_seq ?_
 refine T_ret' ?_
 refine ret_of rfl (.func (.func 79) #[] #[pt B1 0]) (fun tmps w hk hm => res1 rfl (res_tmp (hk 2 _ rfl))) (fun w hm => ?_)
 exact ⟨B1, rfl, hm.ext, hm.own 1 _ rfl⟩

theorem rising1_c (a b : Tid) (w : World) : Calls Try.prog 47 #[a.v, b.v] w fun e w' => e = .returned (.bool (lessI a b)) ∧ Below w.heap.size w w' := by
 refine calls_of_T (l := [.agg #[.int .u64 a.t, .int .i64 a.s, .int .u64 a.q], .agg #[.int .u64 b.t, .int .i64 b.s, .int .u64 b.q]]) 8 Try.func47 rfl rfl rfl ?_
 show T _ _ _ [(0, .agg #[.int .u64 a.t, .int .i64 a.s, .int .u64 a.q]), (1, .agg #[.int .u64 b.t, .int .i64 b.s, .int .u64 b.q])] []
 refine T_seq (T_region ?_)
 refine TL_new 1 (.cells #[.int .u64 a.t, .int .i64 a.s, .int .u64 a.q] 32) (fun B => pt B 0) (fun _ _ j _ => r_box (j _ _ rfl) rfl) rfl rfl rfl (w_n rfl) ?_
 intro B1
 refine TL_new 2 (.cells #[.int .u64 b.t, .int .i64 b.s, .int .u64 b.q] 32) (fun B => pt B 0) (fun _ _ j _ => r_box (j _ _ rfl) rfl) rfl rfl rfl (w_n rfl) ?_
 intro B2
 refine TL_v (.bool false) (s_as rfl) rfl rfl ?_
 refine TL_seq ?_
 refine T_seq (T_region ?_)
 refine TL_v (.agg #[.int .u64 a.t, .int .i64 a.s, .int .u64 a.q]) (s_la ag32 sz32 rfl 1 rfl rfl rfl) rfl rfl ?_
 refine TL_v (.agg #[.int .u64 b.t, .int .i64 b.s, .int .u64 b.q]) (s_la ag32 sz32 rfl 2 rfl rfl rfl) rfl rfl ?_
 refine TL_call (.bool (lessI a b)) (fun _ _ j _ => r_call (args := [.agg #[.int .u64 a.t, .int .i64 a.s, .int .u64 a.q], .agg #[.int .u64 b.t, .int .i64 b.s, .int .u64 b.q]]) (enters_of Try.func12 (by kernel_rfl) rfl) (j _ _ rfl) ((cons2 (j _ _ rfl) (cons2 (j _ _ rfl) rfl))) rfl) (fun w _ => less_c a b w) rfl rfl rfl (w_n rfl) ?_
 refine TL_v (.bool (lessI a b)) (s_as rfl) rfl rfl ?_
 refine TL_seq ?_
 refine T_ret' ?_
 refine ret_of rfl (.bool (lessI a b)) (fun tmps w hk hm => res1 rfl (res_tmp (hk 4 _ rfl))) (fun w hm => ?_)
 exact ⟨rfl, hm.ext⟩

theorem all_c (ts : List Tid) (a : Option Addr) (cap : Nat) (w : World) (hv : SliceAt w a cap 3 Tid.cells ts) (hcap : cap ≤ Go.maxLen) : Calls Try.prog 46 #[.slice a ts.length cap, .func (.func 47) #[] #[]] w fun e w' => e = .returned (.bool (upB ts)) ∧ Below w.heap.size w w' := by
 have hvl := hv.1
 unfold Go.maxLen at hcap
 refine calls_of_T (l := [.slice a ts.length cap, .func (.func 47) #[] #[]]) 16 Try.func46 rfl rfl rfl ?_
 show T _ _ _ [(0, .slice a ts.length cap), (1, .func (.func 47) #[] #[])] []
 refine T_seq (T_region ?_)
 refine TL_new 1 (.cells #[.func (.func 47) #[] #[]] 33) (fun B => pt B 0) (fun _ _ j _ => r_box (j _ _ rfl) rfl) rfl rfl rfl (w_n rfl) ?_
 intro B1
 refine TL_new 2 (.cells #[.bool false] 4) (fun B => pt B 0) (fun _ _ _ _ => r_alloc (v := .bool false) (by kernel_rfl) rfl) rfl rfl rfl (w_n rfl) ?_
 intro B2
 refine TL_seq ?_
 refine T_seq ?_
 refine T_seq (T_region ?_)
 refine TL_v (.slice a ts.length cap) (s_mv rfl) rfl rfl ?_
 refine TL_callN (fun (_ : Nat) => True) (fun qp3 => .func (.func 79) #[] #[pt qp3 0]) (fun qp3 => [(907, .blk qp3 (.cells #[.slice a ts.length cap] 22))]) (fun _ _ j _ => r_call (args := [.slice a ts.length cap]) (enters_of Try.func69 (by kernel_rfl) rfl) (j _ _ rfl) ((cons2 (j _ _ rfl) rfl)) rfl) (fun w _ => (pairs_c a ts.length cap w).mono fun e w' ⟨q, he, hb, r1⟩ => ⟨q, trivial, he, hb, newOk1 907 r1⟩) rfl rfl rfl (w_n rfl) ?_
 rintro qp3 -
 refine TL_seq ?_
 refine T_block ?_
 refine T_sub [(3, pt B1 0), (4, pt B2 0), (8, .func (.func 79) #[] #[pt qp3 0])] [(907, .blk qp3 (.cells #[.slice a ts.length cap] 22)), (1, .blk B1 (.cells #[.func (.func 47) #[] #[]] 33)), (2, .blk B2 (.cells #[.bool false] 4))] (sc rfl (sc rfl (sc rfl sub_nil))) (sc rfl (sc rfl (sc rfl sub_nil))) ?_
 refine T_rangeB (ι := Unit) (ζ := Nat × Nat) (encs := encP) (xs := prs ts) rfl rfl (enters_of Try.func79 (by kernel_rfl) rfl) (fun _ => rfl) rfl 801 802 rfl (fun (k : Nat) (_u : Unit) => ∀ z ∈ (prs ts).take k, lessI z.1 z.2 = true) (fun (k : Nat) (_u : Unit) => [(2, .blk B2 (.cells #[.bool false] 4)), (907, .blk qp3 (.cells #[.slice a ts.length cap] 22)), (1, .blk B1 (.cells #[.func (.func 47) #[] #[]] 33))]) (fun c (_u : Unit) => c = .ret ∧ upB ts = false) (fun (_u : Unit) => [(907, .blk qp3 (.cells #[.slice a ts.length cap] 22)), (1, .blk B1 (.cells #[.func (.func 47) #[] #[]] 33)), (2, .blk B2 (.cells #[.bool false] 4))]) (fun x Bz => [(3, pt B1 0), (4, pt B2 0), (8, .func (.func 79) #[] #[pt qp3 0]), (5, pt Bz.1 0), (6, pt Bz.2 0)]) (fun x Bz => [(6, .blk Bz.1 (.cells #[.int .u64 x.1.t, .int .i64 x.1.s, .int .u64 x.1.q] 32)), (7, .blk Bz.2 (.cells #[.int .u64 x.2.t, .int .i64 x.2.s, .int .u64 x.2.q] 32))]) (fun D l rec => pairs_iter w (fun k (_ : Unit) => ∀ z ∈ (prs ts).take k, lessI z.1 z.2 = true) _ qp3 ts a cap hv hcap (fun _ _ w hm => hm.at 907 rfl)) (fun _ _ => ⟨rfl, rfl⟩) (fun _ => ⟨rfl, rfl⟩) () (fun _ h => nomatch h) (sc rfl (sc rfl (sc rfl sub_nil))) ?_ ?_ ?_ ?_
 ·intro D1 l1 rec1 k x _u hx1 hp1
  refine T_sub [(3, pt B1 0), (4, pt B2 0), (8, .func (.func 79) #[] #[pt qp3 0]), (9, .agg #[.int .u64 x.1.t, .int .i64 x.1.s, .int .u64 x.1.q]), (10, .agg #[.int .u64 x.2.t, .int .i64 x.2.s, .int .u64 x.2.q])] [(801, .blk D1 (.deferred (some []))), (802, .blk l1 (.loop rec1)), (2, .blk B2 (.cells #[.bool false] 4)), (907, .blk qp3 (.cells #[.slice a ts.length cap] 22)), (1, .blk B1 (.cells #[.func (.func 47) #[] #[]] 33))] (sc4 rfl rfl rfl rfl (sc rfl sub_nil)) (sc4 rfl rfl rfl rfl (sc rfl sub_nil)) ?_
  refine T_seq (T_region ?_)
  refine TL_new 6 (.cells #[.int .u64 0, .int .i64 0, .int .u64 0] 32) (fun B => pt B 0) (fun _ _ _ _ => r_alloc (v := .agg #[.int .u64 0, .int .i64 0, .int .u64 0]) (by kernel_rfl) rfl) rfl rfl rfl (w_n rfl) ?_
  intro B4
  refine TL_store 6 (.cells #[.int .u64 x.1.t, .int .i64 x.1.s, .int .u64 x.1.q] 32) rfl (s_st sz32 rfl rfl 6 rfl rfl rfl rfl rfl) rfl rfl (w_n rfl) ?_
  refine TL_seq ?_
  refine T_region ?_
  refine TL_new 7 (.cells #[.int .u64 0, .int .i64 0, .int .u64 0] 32) (fun B => pt B 0) (fun _ _ _ _ => r_alloc (v := .agg #[.int .u64 0, .int .i64 0, .int .u64 0]) (by kernel_rfl) rfl) rfl rfl rfl (w_n rfl) ?_
  intro B5
  refine TL_store 7 (.cells #[.int .u64 x.2.t, .int .i64 x.2.s, .int .u64 x.2.q] 32) rfl (s_st sz32 rfl rfl 7 rfl rfl rfl rfl rfl) rfl rfl (w_n rfl) ?_
  refine TL_nil ?_
  exact p_at (B4, B5) trivial (sc4 rfl rfl rfl rfl (sc rfl sub_nil)) (sc4 rfl rfl rfl rfl (sc rfl (sc rfl (sc rfl sub_nil))))
 ·intro D1 l1 rec1 k x _u Bz hx1 hp1
  obtain ⟨Ba, Bb⟩ := Bz
  show T _ _ _ [(3, pt B1 0), (4, pt B2 0), (8, .func (.func 79) #[] #[pt qp3 0]), (5, pt Ba 0), (6, pt Bb 0)] [(801, .blk D1 (.deferred (some []))), (802, .blk l1 (.loop { rec1 with state := .busy })), (6, .blk Ba (.cells #[.int .u64 x.1.t, .int .i64 x.1.s, .int .u64 x.1.q] 32)), (7, .blk Bb (.cells #[.int .u64 x.2.t, .int .i64 x.2.s, .int .u64 x.2.q] 32)), (2, .blk B2 (.cells #[.bool false] 4)), (907, .blk qp3 (.cells #[.slice a ts.length cap] 22)), (1, .blk B1 (.cells #[.func (.func 47) #[] #[]] 33))]
  refine T_block ?_
  by_cases hl : lessI x.1 x.2 = true
  ·skip
   refine T_seq (T_region ?_)
   refine TL_v (.func (.func 47) #[] #[]) (s_ld ag33 rfl 1 rfl rfl) rfl rfl ?_
   refine TL_v (.agg #[.int .u64 x.1.t, .int .i64 x.1.s, .int .u64 x.1.q]) (s_la ag32 sz32 rfl 6 rfl rfl rfl) rfl rfl ?_
   refine TL_v (.agg #[.int .u64 x.2.t, .int .i64 x.2.s, .int .u64 x.2.q]) (s_la ag32 sz32 rfl 7 rfl rfl rfl) rfl rfl ?_
   refine TL_call (.bool true) (fun _ _ j _ => r_call (args := [.agg #[.int .u64 x.1.t, .int .i64 x.1.s, .int .u64 x.1.q], .agg #[.int .u64 x.2.t, .int .i64 x.2.s, .int .u64 x.2.q]]) (enters_of Try.func47 (by kernel_rfl) rfl) (j _ _ rfl) ((cons2 (j _ _ rfl) (cons2 (j _ _ rfl) rfl))) rfl) (fun w _ => (rising1_c x.1 x.2 w).mono fun _ _ h => ⟨h.1.trans (congrArg Ending.returned (bool_as hl)), h.2⟩) rfl rfl rfl (w_n rfl) ?_
   refine TL_v (.bool false) (fun _ _ j _ => r_not (b := true) (j _ _ rfl)) rfl rfl ?_
   refine TL_seq ?_
   refine T_cond_f rfl ?_
   refine T_skip' ?_
   refine p_blk_n ?_
   exact p_round_n () (allP_step (φ := fun z : Tid × Tid => lessI z.1 z.2) hp1 hx1 hl) (sc4 rfl rfl rfl rfl (sc rfl sub_nil))
  ·skip
   refine T_seq (T_region ?_)
   refine TL_v (.func (.func 47) #[] #[]) (s_ld ag33 rfl 1 rfl rfl) rfl rfl ?_
   refine TL_v (.agg #[.int .u64 x.1.t, .int .i64 x.1.s, .int .u64 x.1.q]) (s_la ag32 sz32 rfl 6 rfl rfl rfl) rfl rfl ?_
   refine TL_v (.agg #[.int .u64 x.2.t, .int .i64 x.2.s, .int .u64 x.2.q]) (s_la ag32 sz32 rfl 7 rfl rfl rfl) rfl rfl ?_
   refine TL_call (.bool false) (fun _ _ j _ => r_call (args := [.agg #[.int .u64 x.1.t, .int .i64 x.1.s, .int .u64 x.1.q], .agg #[.int .u64 x.2.t, .int .i64 x.2.s, .int .u64 x.2.q]]) (enters_of Try.func47 (by kernel_rfl) rfl) (j _ _ rfl) ((cons2 (j _ _ rfl) (cons2 (j _ _ rfl) rfl))) rfl) (fun w _ => (rising1_c x.1 x.2 w).mono fun _ _ h => ⟨h.1.trans (congrArg Ending.returned (bool_as (eq_false_of_ne_true hl))), h.2⟩) rfl rfl rfl (w_n rfl) ?_
   refine TL_v (.bool true) (fun _ _ j _ => r_not (b := false) (j _ _ rfl)) rfl rfl ?_
   refine TL_seq ?_
   refine T_cond_t rfl ?_
   refine T_seq (T_region ?_)
   refine TL_store 2 (.cells #[.bool false] 4) rfl (s_st sz4 rfl rfl 2 rfl rfl rfl rfl rfl) rfl rfl (w_n rfl) ?_
   refine TL_seq ?_
   refine T_ret' ?_
   refine p_blk_r ?_
   exact p_round_r () ⟨rfl, all_no (φ := fun z : Tid × Tid => lessI z.1 z.2) hx1 hl⟩ (sc4 rfl rfl rfl rfl (sc rfl sub_nil))
 ·intro D1 _u hp1
  refine p_sub [(3, pt B1 0), (4, pt B2 0), (8, .func (.func 79) #[] #[pt qp3 0])] [(801, .blk D1 (.deferred (some []))), (907, .blk qp3 (.cells #[.slice a ts.length cap] 22)), (1, .blk B1 (.cells #[.func (.func 47) #[] #[]] 33)), (2, .blk B2 (.cells #[.bool false] 4))] (sc rfl (sc rfl (sc rfl sub_nil))) (sc4 rfl rfl rfl rfl sub_nil) ?_
  have hup : upB ts = true := all_yes hp1
  refine p_blk_n ?_
  refine p_seq ?_
  refine T_seq (T_region ?_)
  refine TL_store 2 (.cells #[.bool true] 4) rfl (s_st sz4 rfl rfl 2 rfl rfl rfl rfl rfl) rfl rfl (w_n rfl) ?_
  refine TL_seq ?_
  refine T_ret' ?_
  refine ret_of1 801 D1 rfl rfl (.bool true) (fun tmps w hk hm => res1 rfl (res_cell (hk 4 _ rfl) (run_loadVar_one ag4 (hm.at 2 rfl) rfl))) (fun w hm => ?_)
  exact ⟨by rw [hup], hm.ext⟩
 ·intro D1 c _u hc
  obtain ⟨rfl, hup⟩ := hc
  show T _ _ _ [(3, pt B1 0), (4, pt B2 0), (8, .func (.func 79) #[] #[pt qp3 0])] [(801, .blk D1 (.deferred (some []))), (907, .blk qp3 (.cells #[.slice a ts.length cap] 22)), (1, .blk B1 (.cells #[.func (.func 47) #[] #[]] 33)), (2, .blk B2 (.cells #[.bool false] 4))]
  refine T_ret' ?_
  refine p_blk_r ?_
  refine p_then_r ?_
  refine ret_of1 801 D1 rfl rfl (.bool false) (fun tmps w hk hm => res1 rfl (res_cell (hk 4 _ rfl) (run_loadVar_one ag4 (hm.at 2 rfl) rfl))) (fun w hm => ?_)
  exact ⟨by rw [hup], hm.ext⟩

theorem rising_c (l : List Tid) (a : Option Addr) (cap : Nat) (w : World) (hv : SliceAt w a cap 3 Tid.cells l) (hcap : cap ≤ Go.maxLen) : Calls Try.prog 15 #[.slice a l.length cap] w fun e w' => e = .returned (.bool (upB l)) ∧ Below w.heap.size w w' := by
 have hvl := hv.1
 unfold Go.maxLen at hcap
 refine calls_of_T (l := [.slice a l.length cap]) 5 Try.func15 rfl rfl rfl ?_
 show T _ _ _ [(0, .slice a l.length cap)] []
 refine T_seq (T_region ?_)
 refine TL_v (.bool false) (s_as rfl) rfl rfl ?_
 refine TL_seq ?_
 refine T_seq (T_region ?_)
 refine TL_v (.slice a l.length cap) (s_mv rfl) rfl rfl ?_
 refine TL_call (.bool (upB l)) (fun _ _ j _ => r_call (args := [.slice a l.length cap, .func (.func 47) #[] #[]]) (enters_of Try.func46 (by kernel_rfl) rfl) (j _ _ rfl) ((cons2 (j _ _ rfl) (cons2 (j _ _ rfl) rfl))) rfl) (fun w hm => all_c l a cap w (hv.keep hm.ext) hcap) rfl rfl rfl (w_n rfl) ?_
 refine TL_v (.bool (upB l)) (s_as rfl) rfl rfl ?_
 refine TL_seq ?_
 refine T_ret' ?_
 refine ret_of rfl (.bool (upB l)) (fun tmps w hk hm => res1 rfl (res_tmp (hk 2 _ rfl))) (fun w hm => ?_)
 exact ⟨rfl, hm.ext⟩

theorem iidx_c (l : List Tid) (a : Option Addr) (cap : Nat) (w : World) (hv : SliceAt w a cap 3 Tid.cells l) (hcap : cap ≤ Go.maxLen) (g : Nat) (cp : Array Value) (hE : Enters Try.prog g) (φ : Tid → Bool) (hto : ∀ w2, Below w.heap.size w w2 → ∀ x ∈ l, Calls Try.prog g (#[x.v] ++ cp) w2 fun e w3 => e = .returned (.bool (φ x)) ∧ Below w2.heap.size w2 w3) : Calls Try.prog 65 #[.slice a l.length cap, .func (.func g) #[] cp] w fun e w' => e = .returned (.int .i64 (idxI φ l)) ∧ Below w.heap.size w w' := by
 have hvl := hv.1
 unfold Go.maxLen at hcap
 refine calls_of_T (l := [.slice a l.length cap, .func (.func g) #[] cp]) 19 Try.func65 rfl rfl rfl ?_
 show T _ _ _ [(0, .slice a l.length cap), (1, .func (.func g) #[] cp)] []
 refine T_seq (T_region ?_)
 refine TL_v (.int .i64 0) (s_as rfl) rfl rfl ?_
 refine TL_seq ?_
 refine T_seq ?_
 refine T_seq (T_region ?_)
 refine TL_v (.slice a l.length cap) (s_mv rfl) rfl rfl ?_
 refine TL_v (iN l.length) (fun _ _ j _ => r_len sl22 (j _ _ rfl)) rfl rfl ?_
 refine TL_v (.int .i64 0) (s_mv rfl) rfl rfl ?_
 refine TL_seq ?_
 refine T_block ?_
 refine T_loop (ι := Nat) (fun (k : Nat) => k ≤ l.length ∧ ∀ x ∈ l.take k, φ x = false) (fun (k : Nat) => [(0, .slice a l.length cap), (1, .func (.func g) #[] cp), (7, iN l.length), (8, iN k)]) (fun (k : Nat) => []) (fun (k : Nat) => l.length - k) 0 ⟨Nat.zero_le _, fun _ h => nomatch h⟩ (sc4 rfl rfl rfl rfl sub_nil) sub_nil ?_
 rintro k hp
 obtain ⟨hk, hno⟩ := hp
 show T _ _ _ [(0, .slice a l.length cap), (1, .func (.func g) #[] cp), (7, iN l.length), (8, iN k)] []
 refine T_seq (T_region ?_)
 refine TL_v (.bool (decide (((k : Nat) : Int) < ((l.length : Nat) : Int)))) (fun _ _ j _ => r_lss (j _ _ rfl) (j _ _ rfl)) rfl rfl ?_
 refine TL_seq ?_
 refine T_seq ?_
 refine T_cond rfl (fun h1 => ?_) (fun h1 => ?_)
 ·replace h1 := of_decide_eq_true h1
  refine T_skip' ?_
  refine p_seq ?_
  refine T_seq ?_
  refine T_block ?_
  refine T_seq (T_region ?_)
  refine TL_v (iN k) (s_mv rfl) rfl rfl ?_
  refine TL_v (iN k) (s_as rfl) rfl rfl ?_
  refine TL_seq ?_
  obtain ⟨p9, hp9⟩ : ∃ x, l[k]? = some x := ⟨_, List.getElem?_eq_getElem (by omega)⟩
  obtain ⟨b1, of1, cs1, T1, fz1, ha1, hq1, hr1⟩ := hv.open (i := k) (by omega)
  subst ha1
  refine T_seq (T_region ?_)
  refine TL_v (.func (.func g) #[] cp) (s_mv rfl) rfl rfl ?_
  refine TL_v (.slice (some ⟨b1, of1, none⟩) l.length cap) (s_mv rfl) rfl rfl ?_
  refine TL_v (iN k) (s_mv rfl) rfl rfl ?_
  refine TL_v (pt b1 (of1 + k * 3)) (fun _ _ j _ => r_indexAddrS (i := k) sl22 sz32 (j _ _ rfl) (j _ _ rfl) (by omega)) rfl rfl ?_
  refine TL_v (.agg #[.int .u64 p9.t, .int .i64 p9.s, .int .u64 p9.q]) (fun _ _ j hm => r_loadRow (f := Tid.cells) (u := p9) ag32 sz32 (j _ _ rfl) (hm.old hq1) hr1 hp9) rfl rfl ?_
  refine TL_call (.bool (φ p9)) (fun _ _ j _ => r_call (args := [.agg #[.int .u64 p9.t, .int .i64 p9.s, .int .u64 p9.q]]) hE (j _ _ rfl) ((cons2 (j _ _ rfl) rfl)) (by simp)) (fun w hm => hto w hm.ext p9 (List.mem_of_getElem? hp9)) rfl rfl rfl (w_n rfl) ?_
  refine TL_seq ?_
  refine T_cond rfl (fun h2 => ?_) (fun h2 => ?_)
  ·skip
   refine T_seq (T_region ?_)
   refine TL_v (iN k) (s_mv rfl) rfl rfl ?_
   refine TL_v (iN k) (s_as rfl) rfl rfl ?_
   refine TL_seq ?_
   refine T_ret' ?_
   refine p_blk_r ?_
   refine p_then_r ?_
   refine p_then_r ?_
   refine p_blk_r ?_
   refine p_then_r ?_
   refine ret_of rfl (iN k) (fun tmps w hk hm => res1 rfl (res_tmp (hk 4 _ rfl))) (fun w hm => ?_)
   exact ⟨by rw [idx_some hp9 hno h2], hm.ext⟩
  ·skip
   refine T_skip' ?_
   refine p_blk_n ?_
   refine p_seq ?_
   refine T_region ?_
   refine TL_v (iN (k + 1)) (s_op r_add rfl rfl (iw (by omega) (by omega) (by omega))) rfl rfl ?_
   refine TL_v (iN (k + 1)) (s_mv rfl) rfl rfl ?_
   refine TL_nil ?_
   exact p_at (k + 1) ⟨⟨by omega, no_step hno hp9 h2⟩, by omega⟩ (sc4 rfl rfl rfl rfl sub_nil) sub_nil
 ·replace h1 := of_decide_eq_false h1
  refine T_exit' ?_
  refine p_then_x ?_
  refine p_then_x ?_
  refine p_blk_x ?_
  refine p_seq ?_
  refine T_seq (T_region ?_)
  refine TL_v (.int .i64 (-1)) (s_as rfl) rfl rfl ?_
  refine TL_seq ?_
  refine T_ret' ?_
  refine ret_of rfl (.int .i64 (-1)) (fun tmps w hk hm => res1 rfl (res_tmp (hk 4 _ rfl))) (fun w hm => ?_)
  have hke : k = l.length := by omega
  subst hke
  rw [List.take_length] at hno
  exact ⟨by rw [idx_none hno], hm.ext⟩

theorem icon_c (l : List Tid) (a : Option Addr) (cap : Nat) (w : World) (hv : SliceAt w a cap 3 Tid.cells l) (hcap : cap ≤ Go.maxLen) (g : Nat) (cp : Array Value) (hE : Enters Try.prog g) (φ : Tid → Bool) (hto : ∀ w2, Below w.heap.size w w2 → ∀ x ∈ l, Calls Try.prog g (#[x.v] ++ cp) w2 fun e w3 => e = .returned (.bool (φ x)) ∧ Below w2.heap.size w2 w3) : Calls Try.prog 41 #[.slice a l.length cap, .func (.func g) #[] cp] w fun e w' => e = .returned (.bool (l.any φ)) ∧ Below w.heap.size w w' := by
 have hvl := hv.1
 unfold Go.maxLen at hcap
 have hix := ixI_lt φ l
 have hiy := idx_ge φ l
 refine calls_of_T (l := [.slice a l.length cap, .func (.func g) #[] cp]) 9 Try.func41 rfl rfl rfl ?_
 show T _ _ _ [(0, .slice a l.length cap), (1, .func (.func g) #[] cp)] []
 refine T_seq (T_region ?_)
 refine TL_v (.bool false) (s_as rfl) rfl rfl ?_
 refine TL_seq ?_
 refine T_seq (T_region ?_)
 refine TL_v (.slice a l.length cap) (s_mv rfl) rfl rfl ?_
 refine TL_v (.func (.func g) #[] cp) (s_mv rfl) rfl rfl ?_
 refine TL_call (.int .i64 (idxI φ l)) (fun _ _ j _ => r_call (args := [.slice a l.length cap, .func (.func g) #[] cp]) (enters_of Try.func65 (by kernel_rfl) rfl) (j _ _ rfl) ((cons2 (j _ _ rfl) (cons2 (j _ _ rfl) rfl))) rfl) (fun w hm => iidx_c l a cap w (hv.keep hm.ext) hcap g cp hE φ (fun w2 hb2 x hx => hto w2 (hm.ext.trans (hb2.mono hm.ext.size)) x hx)) rfl rfl rfl (w_n rfl) ?_
 refine TL_v (.bool (decide ((0 : Int) ≤ (idxI φ l)))) (fun _ _ j _ => r_geq (j _ _ rfl) (j _ _ rfl)) rfl rfl ?_
 refine TL_v (.bool (decide ((0 : Int) ≤ (idxI φ l)))) (s_as rfl) rfl rfl ?_
 refine TL_seq ?_
 refine T_ret' ?_
 refine ret_of rfl (.bool (decide ((0 : Int) ≤ (idxI φ l)))) (fun tmps w hk hm => res1 rfl (res_tmp (hk 4 _ rfl))) (fun w hm => ?_)
 exact ⟨congrArg Ending.returned (bool_as (idx_any φ l)), hm.ext⟩

theorem isift_c (l : List Tid) (a : Option Addr) (cap : Nat) (w : World) (hv : SliceAt w a cap 3 Tid.cells l) (hcap : cap ≤ Go.maxLen) (g : Nat) (cp : Array Value) (hE : Enters Try.prog g) (φ : Tid → Bool) (hto : ∀ w2, Below w.heap.size w w2 → ∀ x ∈ l, Calls Try.prog g (#[x.v] ++ cp) w2 fun e w3 => e = .returned (.bool (φ x)) ∧ Below w2.heap.size w2 w3) (hlen : l.length ≤ 100000) : Calls Try.prog 42 #[.slice a l.length cap, .func (.func g) #[] cp] w fun e w' => ∃ a' cap', e = .returned (.slice a' (l.filter φ).length cap') ∧ Below w.heap.size w w' ∧ w'.ownsRow w.heap.size 32 3 (.slice a' (l.filter φ).length cap') (l.filter φ).length ((l.filter φ).flatMap Tid.cells) := by
 have hvl := hv.1
 unfold Go.maxLen at hcap
 refine calls_of_T (l := [.slice a l.length cap, .func (.func g) #[] cp]) 23 Try.func42 rfl rfl rfl ?_
 show T _ _ _ [(0, .slice a l.length cap), (1, .func (.func g) #[] cp)] []
 refine T_seq (T_region ?_)
 refine TL_v (.slice none 0 0) (s_as rfl) rfl rfl ?_
 refine TL_seq ?_
 refine T_seq (T_region ?_)
 refine TL_v (.slice none 0 0) (s_as rfl) rfl rfl ?_
 refine TL_seq ?_
 refine T_seq ?_
 refine T_mem (_ :: _) (fun _ hm => hm.nilRow 950 32 3) ?_
 refine T_seq (T_region ?_)
 refine TL_v (.slice a l.length cap) (s_mv rfl) rfl rfl ?_
 refine TL_v (iN l.length) (fun _ _ j _ => r_len sl22 (j _ _ rfl)) rfl rfl ?_
 refine TL_v (.int .i64 0) (s_mv rfl) rfl rfl ?_
 refine TL_seq ?_
 refine T_block ?_
 refine T_loop (ι := Nat × List Tid × Option Addr × Nat) (fun (z : Nat × List Tid × Option Addr × Nat) => match z with | (k, os, oa, oc) => k ≤ l.length ∧ os = (l.take k).filter φ) (fun (z : Nat × List Tid × Option Addr × Nat) => match z with | (k, os, oa, oc) => [(1, .func (.func g) #[] cp), (4, .slice none 0 0), (8, .slice a l.length cap), (9, iN l.length), (10, iN k), (5, .slice oa os.length oc)]) (fun (z : Nat × List Tid × Option Addr × Nat) => match z with | (k, os, oa, oc) => [(950, .row (.slice oa os.length oc) 32 3 os.length (os.flatMap Tid.cells))]) (fun (z : Nat × List Tid × Option Addr × Nat) => match z with | (k, os, oa, oc) => l.length - k) (0, [], none, 0) ⟨Nat.zero_le _, rfl⟩ (sc4 rfl rfl rfl rfl (sc rfl (sc rfl sub_nil))) (sc rfl sub_nil) ?_
 rintro ⟨k, os, oa, oc⟩ hp
 obtain ⟨hk, hos⟩ := hp
 have hol : os.length ≤ k := by rw [hos]; exact Nat.le_trans (List.length_filter_le _ _) (by rw [List.length_take]; omega)
 show T _ _ _ [(1, .func (.func g) #[] cp), (4, .slice none 0 0), (8, .slice a l.length cap), (9, iN l.length), (10, iN k), (5, .slice oa os.length oc)] [(950, .row (.slice oa os.length oc) 32 3 os.length (os.flatMap Tid.cells))]
 refine T_seq (T_region ?_)
 refine TL_v (.bool (decide (((k : Nat) : Int) < ((l.length : Nat) : Int)))) (fun _ _ j _ => r_lss (j _ _ rfl) (j _ _ rfl)) rfl rfl ?_
 refine TL_seq ?_
 refine T_seq ?_
 refine T_cond rfl (fun h1 => ?_) (fun h1 => ?_)
 ·replace h1 := of_decide_eq_true h1
  refine T_skip' ?_
  refine p_seq ?_
  refine T_seq ?_
  refine T_block ?_
  obtain ⟨p9, hp9⟩ : ∃ x, l[k]? = some x := ⟨_, List.getElem?_eq_getElem (by omega)⟩
  obtain ⟨b1, of1, cs1, T1, fz1, ha1, hq1, hr1⟩ := hv.open (i := k) (by omega)
  subst ha1
  refine T_seq (T_region ?_)
  refine TL_v (pt b1 (of1 + k * 3)) (fun _ _ j _ => r_indexAddrS (i := k) sl22 sz32 (j _ _ rfl) (j _ _ rfl) (by omega)) rfl rfl ?_
  refine TL_v (.agg #[.int .u64 p9.t, .int .i64 p9.s, .int .u64 p9.q]) (fun _ _ j hm => r_loadRow (f := Tid.cells) (u := p9) ag32 sz32 (j _ _ rfl) (hm.old hq1) hr1 hp9) rfl rfl ?_
  refine TL_new 1 (.cells #[.int .u64 0, .int .i64 0, .int .u64 0] 32) (fun B => pt B 0) (fun _ _ _ _ => r_alloc (v := .agg #[.int .u64 0, .int .i64 0, .int .u64 0]) (by kernel_rfl) rfl) rfl rfl rfl (w_n rfl) ?_
  intro B2
  refine TL_store 1 (.cells #[.int .u64 p9.t, .int .i64 p9.s, .int .u64 p9.q] 32) rfl (s_st sz32 rfl rfl 1 rfl rfl rfl rfl rfl) rfl rfl (w_n rfl) ?_
  refine TL_seq ?_
  by_cases hf9 : φ p9 = true
  ·skip
   refine T_seq (T_region ?_)
   refine TL_v (.func (.func g) #[] cp) (s_mv rfl) rfl rfl ?_
   refine TL_v (.agg #[.int .u64 p9.t, .int .i64 p9.s, .int .u64 p9.q]) (s_la ag32 sz32 rfl 1 rfl rfl rfl) rfl rfl ?_
   refine TL_call (.bool true) (fun _ _ j _ => r_call (args := [.agg #[.int .u64 p9.t, .int .i64 p9.s, .int .u64 p9.q]]) hE (j _ _ rfl) ((cons2 (j _ _ rfl) rfl)) (by simp)) (fun w hm => (hto w hm.ext p9 (List.mem_of_getElem? hp9)).mono fun _ _ h => ⟨h.1.trans (congrArg Ending.returned (bool_as hf9)), h.2⟩) rfl rfl rfl (w_n rfl) ?_
   refine TL_seq ?_
   refine T_cond_t rfl ?_
   refine T_region ?_
   refine TL_v (.slice oa os.length oc) (s_mv rfl) rfl rfl ?_
   refine TL_v (.agg #[.int .u64 p9.t, .int .i64 p9.s, .int .u64 p9.q]) (s_la ag32 sz32 rfl 1 rfl rfl rfl) rfl rfl ?_
   refine TL_new 2 (.cells #[.int .u64 p9.t, .int .i64 p9.s, .int .u64 p9.q] 32) (fun B => .slice (some ⟨B, 0, none⟩) 1 1) (fun _ _ j _ => r_buildSlice (vs := [(0, .agg #[.int .u64 p9.t, .int .i64 p9.s, .int .u64 p9.q])]) (by kernel_rfl) (cons2 (pair2 (j _ _ rfl)) rfl)) rfl rfl rfl (w_n rfl) ?_
   intro B3
   refine TL_append (n := os.length) (m := 1) (xs := (os.flatMap Tid.cells)) (news := [.int .u64 p9.t, .int .i64 p9.s, .int .u64 p9.q]) (z := .agg #[.int .u64 0, .int .i64 0, .int .u64 0]) 950 rfl rfl rfl sl22 sz32 by32 (by kernel_rfl) rfl rfl (.inl rfl) (fun _ hm => src_blk (news := [.int .u64 p9.t, .int .i64 p9.s, .int .u64 p9.q]) (hm.at 2 rfl) rfl) (by simp [Value.oneCell']) (by omega) (by omega) rfl (w_n rfl) ?_
   intro a4 cap4
   refine TL_v (.slice a4 (os.length + 1) cap4) (s_as rfl) rfl rfl ?_
   refine TL_nil ?_
   refine p_blk_n ?_
   refine p_seq ?_
   refine T_region ?_
   refine TL_v (iN (k + 1)) (s_op r_add rfl rfl (iw (by omega) (by omega) (by omega))) rfl rfl ?_
   refine TL_v (iN (k + 1)) (s_mv rfl) rfl rfl ?_
   refine TL_nil ?_
   have hn5 : (os.length + 1) = (os ++ [p9]).length := by simp
   have hx5 : ((os.flatMap Tid.cells) ++ [.int .u64 p9.t, .int .i64 p9.s, .int .u64 p9.q]) = (os ++ [p9]).flatMap Tid.cells := by simp [Tid.cells]
   rw [hx5, hn5]
   exact p_at (k + 1, os ++ [p9], a4, cap4) ⟨⟨by omega, by rw [sift_t hp9 hf9, ← hos]⟩, by dsimp only; omega⟩ (sc4 rfl rfl rfl rfl (sc rfl (sc rfl sub_nil))) (sc rfl sub_nil)
  ·skip
   refine T_seq (T_region ?_)
   refine TL_v (.func (.func g) #[] cp) (s_mv rfl) rfl rfl ?_
   refine TL_v (.agg #[.int .u64 p9.t, .int .i64 p9.s, .int .u64 p9.q]) (s_la ag32 sz32 rfl 1 rfl rfl rfl) rfl rfl ?_
   refine TL_call (.bool false) (fun _ _ j _ => r_call (args := [.agg #[.int .u64 p9.t, .int .i64 p9.s, .int .u64 p9.q]]) hE (j _ _ rfl) ((cons2 (j _ _ rfl) rfl)) (by simp)) (fun w hm => (hto w hm.ext p9 (List.mem_of_getElem? hp9)).mono fun _ _ h => ⟨h.1.trans (congrArg Ending.returned (bool_as (eq_false_of_ne_true hf9))), h.2⟩) rfl rfl rfl (w_n rfl) ?_
   refine TL_seq ?_
   refine T_cond_f rfl ?_
   refine T_skip' ?_
   refine p_blk_n ?_
   refine p_seq ?_
   refine T_region ?_
   refine TL_v (iN (k + 1)) (s_op r_add rfl rfl (iw (by omega) (by omega) (by omega))) rfl rfl ?_
   refine TL_v (iN (k + 1)) (s_mv rfl) rfl rfl ?_
   refine TL_nil ?_
   exact p_at (k + 1, os, oa, oc) ⟨⟨by omega, by rw [sift_f hp9 (eq_false_of_ne_true hf9)]; exact hos⟩, by dsimp only; omega⟩ (sc4 rfl rfl rfl rfl (sc rfl (sc rfl sub_nil))) (sc rfl sub_nil)
 ·replace h1 := of_decide_eq_false h1
  refine T_exit' ?_
  refine p_then_x ?_
  refine p_then_x ?_
  refine p_blk_x ?_
  refine p_seq ?_
  refine T_seq (T_region ?_)
  refine TL_v (.slice oa os.length oc) (s_mv rfl) rfl rfl ?_
  refine TL_v (.slice oa os.length oc) (s_as rfl) rfl rfl ?_
  refine TL_seq ?_
  refine T_ret' ?_
  refine ret_of rfl (.slice oa os.length oc) (fun tmps w hk hm => res1 rfl (res_tmp (hk 4 _ rfl))) (fun w hm => ?_)
  have hke : k = l.length := by omega
  subst hke
  rw [List.take_length] at hos
  subst hos
  exact ⟨oa, oc, rfl, hm.ext, hm.row 950 rfl⟩

theorem midx_c (ms : List Mk) (a : Option Addr) (cap : Nat) (w : World) (hv : SliceAt w a cap 4 Mk.cells ms) (hcap : cap ≤ Go.maxLen) (g : Nat) (cp : Array Value) (hE : Enters Try.prog g) (φ : Mk → Bool) (hto : ∀ w2, Below w.heap.size w w2 → ∀ x ∈ ms, Calls Try.prog g (#[x.v] ++ cp) w2 fun e w3 => e = .returned (.bool (φ x)) ∧ Below w2.heap.size w2 w3) : Calls Try.prog 70 #[.slice a ms.length cap, .func (.func g) #[] cp] w fun e w' => e = .returned (.int .i64 (idxI φ ms)) ∧ Below w.heap.size w w' := by
 have hvl := hv.1
 unfold Go.maxLen at hcap
 refine calls_of_T (l := [.slice a ms.length cap, .func (.func g) #[] cp]) 19 Try.func70 rfl rfl rfl ?_
 show T _ _ _ [(0, .slice a ms.length cap), (1, .func (.func g) #[] cp)] []
 refine T_seq (T_region ?_)
 refine TL_v (.int .i64 0) (s_as rfl) rfl rfl ?_
 refine TL_seq ?_
 refine T_seq ?_
 refine T_seq (T_region ?_)
 refine TL_v (.slice a ms.length cap) (s_mv rfl) rfl rfl ?_
 refine TL_v (iN ms.length) (fun _ _ j _ => r_len sl24 (j _ _ rfl)) rfl rfl ?_
 refine TL_v (.int .i64 0) (s_mv rfl) rfl rfl ?_
 refine TL_seq ?_
 refine T_block ?_
 refine T_loop (ι := Nat) (fun (k : Nat) => k ≤ ms.length ∧ ∀ x ∈ ms.take k, φ x = false) (fun (k : Nat) => [(0, .slice a ms.length cap), (1, .func (.func g) #[] cp), (7, iN ms.length), (8, iN k)]) (fun (k : Nat) => []) (fun (k : Nat) => ms.length - k) 0 ⟨Nat.zero_le _, fun _ h => nomatch h⟩ (sc4 rfl rfl rfl rfl sub_nil) sub_nil ?_
 rintro k hp
 obtain ⟨hk, hno⟩ := hp
 show T _ _ _ [(0, .slice a ms.length cap), (1, .func (.func g) #[] cp), (7, iN ms.length), (8, iN k)] []
 refine T_seq (T_region ?_)
 refine TL_v (.bool (decide (((k : Nat) : Int) < ((ms.length : Nat) : Int)))) (fun _ _ j _ => r_lss (j _ _ rfl) (j _ _ rfl)) rfl rfl ?_
 refine TL_seq ?_
 refine T_seq ?_
 refine T_cond rfl (fun h1 => ?_) (fun h1 => ?_)
 ·replace h1 := of_decide_eq_true h1
  refine T_skip' ?_
  refine p_seq ?_
  refine T_seq ?_
  refine T_block ?_
  refine T_seq (T_region ?_)
  refine TL_v (iN k) (s_mv rfl) rfl rfl ?_
  refine TL_v (iN k) (s_as rfl) rfl rfl ?_
  refine TL_seq ?_
  obtain ⟨p9, hp9⟩ : ∃ x, ms[k]? = some x := ⟨_, List.getElem?_eq_getElem (by omega)⟩
  obtain ⟨b1, of1, cs1, T1, fz1, ha1, hq1, hr1⟩ := hv.open (i := k) (by omega)
  subst ha1
  refine T_seq (T_region ?_)
  refine TL_v (.func (.func g) #[] cp) (s_mv rfl) rfl rfl ?_
  refine TL_v (.slice (some ⟨b1, of1, none⟩) ms.length cap) (s_mv rfl) rfl rfl ?_
  refine TL_v (iN k) (s_mv rfl) rfl rfl ?_
  refine TL_v (pt b1 (of1 + k * 4)) (fun _ _ j _ => r_indexAddrS (i := k) sl24 sz36 (j _ _ rfl) (j _ _ rfl) (by omega)) rfl rfl ?_
  refine TL_v (.agg #[.int .u64 p9.i.t, .int .i64 p9.i.s, .int .u64 p9.i.q, .pointer p9.ptr]) (fun _ _ j hm => r_loadRow (f := Mk.cells) (u := p9) ag36 sz36 (j _ _ rfl) (hm.old hq1) hr1 hp9) rfl rfl ?_
  refine TL_call (.bool (φ p9)) (fun _ _ j _ => r_call (args := [.agg #[.int .u64 p9.i.t, .int .i64 p9.i.s, .int .u64 p9.i.q, .pointer p9.ptr]]) hE (j _ _ rfl) ((cons2 (j _ _ rfl) rfl)) (by simp)) (fun w hm => hto w hm.ext p9 (List.mem_of_getElem? hp9)) rfl rfl rfl (w_n rfl) ?_
  refine TL_seq ?_
  refine T_cond rfl (fun h2 => ?_) (fun h2 => ?_)
  ·skip
   refine T_seq (T_region ?_)
   refine TL_v (iN k) (s_mv rfl) rfl rfl ?_
   refine TL_v (iN k) (s_as rfl) rfl rfl ?_
   refine TL_seq ?_
   refine T_ret' ?_
   refine p_blk_r ?_
   refine p_then_r ?_
   refine p_then_r ?_
   refine p_blk_r ?_
   refine p_then_r ?_
   refine ret_of rfl (iN k) (fun tmps w hk hm => res1 rfl (res_tmp (hk 4 _ rfl))) (fun w hm => ?_)
   exact ⟨by rw [idx_some hp9 hno h2], hm.ext⟩
  ·skip
   refine T_skip' ?_
   refine p_blk_n ?_
   refine p_seq ?_
   refine T_region ?_
   refine TL_v (iN (k + 1)) (s_op r_add rfl rfl (iw (by omega) (by omega) (by omega))) rfl rfl ?_
   refine TL_v (iN (k + 1)) (s_mv rfl) rfl rfl ?_
   refine TL_nil ?_
   exact p_at (k + 1) ⟨⟨by omega, no_step hno hp9 h2⟩, by omega⟩ (sc4 rfl rfl rfl rfl sub_nil) sub_nil
 ·replace h1 := of_decide_eq_false h1
  refine T_exit' ?_
  refine p_then_x ?_
  refine p_then_x ?_
  refine p_blk_x ?_
  refine p_seq ?_
  refine T_seq (T_region ?_)
  refine TL_v (.int .i64 (-1)) (s_as rfl) rfl rfl ?_
  refine TL_seq ?_
  refine T_ret' ?_
  refine ret_of rfl (.int .i64 (-1)) (fun tmps w hk hm => res1 rfl (res_tmp (hk 4 _ rfl))) (fun w hm => ?_)
  have hke : k = ms.length := by omega
  subst hke
  rw [List.take_length] at hno
  exact ⟨by rw [idx_none hno], hm.ext⟩

theorem mcon_c (ms : List Mk) (a : Option Addr) (cap : Nat) (w : World) (hv : SliceAt w a cap 4 Mk.cells ms) (hcap : cap ≤ Go.maxLen) (g : Nat) (cp : Array Value) (hE : Enters Try.prog g) (φ : Mk → Bool) (hto : ∀ w2, Below w.heap.size w w2 → ∀ x ∈ ms, Calls Try.prog g (#[x.v] ++ cp) w2 fun e w3 => e = .returned (.bool (φ x)) ∧ Below w2.heap.size w2 w3) : Calls Try.prog 51 #[.slice a ms.length cap, .func (.func g) #[] cp] w fun e w' => e = .returned (.bool (ms.any φ)) ∧ Below w.heap.size w w' := by
 have hvl := hv.1
 unfold Go.maxLen at hcap
 have hix := ixI_lt φ ms
 have hiy := idx_ge φ ms
 refine calls_of_T (l := [.slice a ms.length cap, .func (.func g) #[] cp]) 9 Try.func51 rfl rfl rfl ?_
 show T _ _ _ [(0, .slice a ms.length cap), (1, .func (.func g) #[] cp)] []
 refine T_seq (T_region ?_)
 refine TL_v (.bool false) (s_as rfl) rfl rfl ?_
 refine TL_seq ?_
 refine T_seq (T_region ?_)
 refine TL_v (.slice a ms.length cap) (s_mv rfl) rfl rfl ?_
 refine TL_v (.func (.func g) #[] cp) (s_mv rfl) rfl rfl ?_
 refine TL_call (.int .i64 (idxI φ ms)) (fun _ _ j _ => r_call (args := [.slice a ms.length cap, .func (.func g) #[] cp]) (enters_of Try.func70 (by kernel_rfl) rfl) (j _ _ rfl) ((cons2 (j _ _ rfl) (cons2 (j _ _ rfl) rfl))) rfl) (fun w hm => midx_c ms a cap w (hv.keep hm.ext) hcap g cp hE φ (fun w2 hb2 x hx => hto w2 (hm.ext.trans (hb2.mono hm.ext.size)) x hx)) rfl rfl rfl (w_n rfl) ?_
 refine TL_v (.bool (decide ((0 : Int) ≤ (idxI φ ms)))) (fun _ _ j _ => r_geq (j _ _ rfl) (j _ _ rfl)) rfl rfl ?_
 refine TL_v (.bool (decide ((0 : Int) ≤ (idxI φ ms)))) (s_as rfl) rfl rfl ?_
 refine TL_seq ?_
 refine T_ret' ?_
 refine ret_of rfl (.bool (decide ((0 : Int) ≤ (idxI φ ms)))) (fun tmps w hk hm => res1 rfl (res_tmp (hk 4 _ rfl))) (fun w hm => ?_)
 exact ⟨congrArg Ending.returned (bool_as (idx_any φ ms)), hm.ext⟩

theorem msift_c (ms : List Mk) (a : Option Addr) (cap : Nat) (w : World) (hv : SliceAt w a cap 4 Mk.cells ms) (hcap : cap ≤ Go.maxLen) (g : Nat) (cp : Array Value) (hE : Enters Try.prog g) (φ : Mk → Bool) (hto : ∀ w2, Below w.heap.size w w2 → ∀ x ∈ ms, Calls Try.prog g (#[x.v] ++ cp) w2 fun e w3 => e = .returned (.bool (φ x)) ∧ Below w2.heap.size w2 w3) (hlen : ms.length ≤ 100000) : Calls Try.prog 60 #[.slice a ms.length cap, .func (.func g) #[] cp] w fun e w' => ∃ a' cap', e = .returned (.slice a' (ms.filter φ).length cap') ∧ Below w.heap.size w w' ∧ w'.ownsRow w.heap.size 36 4 (.slice a' (ms.filter φ).length cap') (ms.filter φ).length ((ms.filter φ).flatMap Mk.cells) := by
 have hvl := hv.1
 unfold Go.maxLen at hcap
 refine calls_of_T (l := [.slice a ms.length cap, .func (.func g) #[] cp]) 23 Try.func60 rfl rfl rfl ?_
 show T _ _ _ [(0, .slice a ms.length cap), (1, .func (.func g) #[] cp)] []
 refine T_seq (T_region ?_)
 refine TL_v (.slice none 0 0) (s_as rfl) rfl rfl ?_
 refine TL_seq ?_
 refine T_seq (T_region ?_)
 refine TL_v (.slice none 0 0) (s_as rfl) rfl rfl ?_
 refine TL_seq ?_
 refine T_seq ?_
 refine T_mem (_ :: _) (fun _ hm => hm.nilRow 950 36 4) ?_
 refine T_seq (T_region ?_)
 refine TL_v (.slice a ms.length cap) (s_mv rfl) rfl rfl ?_
 refine TL_v (iN ms.length) (fun _ _ j _ => r_len sl24 (j _ _ rfl)) rfl rfl ?_
 refine TL_v (.int .i64 0) (s_mv rfl) rfl rfl ?_
 refine TL_seq ?_
 refine T_block ?_
 refine T_loop (ι := Nat × List Mk × Option Addr × Nat) (fun (z : Nat × List Mk × Option Addr × Nat) => match z with | (k, os, oa, oc) => k ≤ ms.length ∧ os = (ms.take k).filter φ) (fun (z : Nat × List Mk × Option Addr × Nat) => match z with | (k, os, oa, oc) => [(1, .func (.func g) #[] cp), (4, .slice none 0 0), (8, .slice a ms.length cap), (9, iN ms.length), (10, iN k), (5, .slice oa os.length oc)]) (fun (z : Nat × List Mk × Option Addr × Nat) => match z with | (k, os, oa, oc) => [(950, .row (.slice oa os.length oc) 36 4 os.length (os.flatMap Mk.cells))]) (fun (z : Nat × List Mk × Option Addr × Nat) => match z with | (k, os, oa, oc) => ms.length - k) (0, [], none, 0) ⟨Nat.zero_le _, rfl⟩ (sc4 rfl rfl rfl rfl (sc rfl (sc rfl sub_nil))) (sc rfl sub_nil) ?_
 rintro ⟨k, os, oa, oc⟩ hp
 obtain ⟨hk, hos⟩ := hp
 have hol : os.length ≤ k := by rw [hos]; exact Nat.le_trans (List.length_filter_le _ _) (by rw [List.length_take]; omega)
 show T _ _ _ [(1, .func (.func g) #[] cp), (4, .slice none 0 0), (8, .slice a ms.length cap), (9, iN ms.length), (10, iN k), (5, .slice oa os.length oc)] [(950, .row (.slice oa os.length oc) 36 4 os.length (os.flatMap Mk.cells))]
 refine T_seq (T_region ?_)
 refine TL_v (.bool (decide (((k : Nat) : Int) < ((ms.length : Nat) : Int)))) (fun _ _ j _ => r_lss (j _ _ rfl) (j _ _ rfl)) rfl rfl ?_
 refine TL_seq ?_
 refine T_seq ?_
 refine T_cond rfl (fun h1 => ?_) (fun h1 => ?_)
 ·replace h1 := of_decide_eq_true h1
  refine T_skip' ?_
  refine p_seq ?_
  refine T_seq ?_
  refine T_block ?_
  obtain ⟨p9, hp9⟩ : ∃ x, ms[k]? = some x := ⟨_, List.getElem?_eq_getElem (by omega)⟩
  obtain ⟨b1, of1, cs1, T1, fz1, ha1, hq1, hr1⟩ := hv.open (i := k) (by omega)
  subst ha1
  refine T_seq (T_region ?_)
  refine TL_v (pt b1 (of1 + k * 4)) (fun _ _ j _ => r_indexAddrS (i := k) sl24 sz36 (j _ _ rfl) (j _ _ rfl) (by omega)) rfl rfl ?_
  refine TL_v (.agg #[.int .u64 p9.i.t, .int .i64 p9.i.s, .int .u64 p9.i.q, .pointer p9.ptr]) (fun _ _ j hm => r_loadRow (f := Mk.cells) (u := p9) ag36 sz36 (j _ _ rfl) (hm.old hq1) hr1 hp9) rfl rfl ?_
  refine TL_new 1 (.cells #[.int .u64 0, .int .i64 0, .int .u64 0, .pointer none] 36) (fun B => pt B 0) (fun _ _ _ _ => r_alloc (v := .agg #[.int .u64 0, .int .i64 0, .int .u64 0, .pointer none]) (by kernel_rfl) rfl) rfl rfl rfl (w_n rfl) ?_
  intro B2
  refine TL_store 1 (.cells #[.int .u64 p9.i.t, .int .i64 p9.i.s, .int .u64 p9.i.q, .pointer p9.ptr] 36) rfl (s_st sz36 rfl rfl 1 rfl rfl rfl rfl rfl) rfl rfl (w_n rfl) ?_
  refine TL_seq ?_
  by_cases hf9 : φ p9 = true
  ·skip
   refine T_seq (T_region ?_)
   refine TL_v (.func (.func g) #[] cp) (s_mv rfl) rfl rfl ?_
   refine TL_v (.agg #[.int .u64 p9.i.t, .int .i64 p9.i.s, .int .u64 p9.i.q, .pointer p9.ptr]) (s_la ag36 sz36 rfl 1 rfl rfl rfl) rfl rfl ?_
   refine TL_call (.bool true) (fun _ _ j _ => r_call (args := [.agg #[.int .u64 p9.i.t, .int .i64 p9.i.s, .int .u64 p9.i.q, .pointer p9.ptr]]) hE (j _ _ rfl) ((cons2 (j _ _ rfl) rfl)) (by simp)) (fun w hm => (hto w hm.ext p9 (List.mem_of_getElem? hp9)).mono fun _ _ h => ⟨h.1.trans (congrArg Ending.returned (bool_as hf9)), h.2⟩) rfl rfl rfl (w_n rfl) ?_
   refine TL_seq ?_
   refine T_cond_t rfl ?_
   refine T_region ?_
   refine TL_v (.slice oa os.length oc) (s_mv rfl) rfl rfl ?_
   refine TL_v (.agg #[.int .u64 p9.i.t, .int .i64 p9.i.s, .int .u64 p9.i.q, .pointer p9.ptr]) (s_la ag36 sz36 rfl 1 rfl rfl rfl) rfl rfl ?_
   refine TL_new 2 (.cells #[.int .u64 p9.i.t, .int .i64 p9.i.s, .int .u64 p9.i.q, .pointer p9.ptr] 36) (fun B => .slice (some ⟨B, 0, none⟩) 1 1) (fun _ _ j _ => r_buildSlice (vs := [(0, .agg #[.int .u64 p9.i.t, .int .i64 p9.i.s, .int .u64 p9.i.q, .pointer p9.ptr])]) (by kernel_rfl) (cons2 (pair2 (j _ _ rfl)) rfl)) rfl rfl rfl (w_n rfl) ?_
   intro B3
   refine TL_append (n := os.length) (m := 1) (xs := (os.flatMap Mk.cells)) (news := [.int .u64 p9.i.t, .int .i64 p9.i.s, .int .u64 p9.i.q, .pointer p9.ptr]) (z := .agg #[.int .u64 0, .int .i64 0, .int .u64 0, .pointer none]) 950 rfl rfl rfl sl24 sz36 by36 (by kernel_rfl) rfl rfl (.inl rfl) (fun _ hm => src_blk (news := [.int .u64 p9.i.t, .int .i64 p9.i.s, .int .u64 p9.i.q, .pointer p9.ptr]) (hm.at 2 rfl) rfl) (by simp [Value.oneCell']) (by omega) (by omega) rfl (w_n rfl) ?_
   intro a4 cap4
   refine TL_v (.slice a4 (os.length + 1) cap4) (s_as rfl) rfl rfl ?_
   refine TL_nil ?_
   refine p_blk_n ?_
   refine p_seq ?_
   refine T_region ?_
   refine TL_v (iN (k + 1)) (s_op r_add rfl rfl (iw (by omega) (by omega) (by omega))) rfl rfl ?_
   refine TL_v (iN (k + 1)) (s_mv rfl) rfl rfl ?_
   refine TL_nil ?_
   have hn5 : (os.length + 1) = (os ++ [p9]).length := by simp
   have hx5 : ((os.flatMap Mk.cells) ++ [.int .u64 p9.i.t, .int .i64 p9.i.s, .int .u64 p9.i.q, .pointer p9.ptr]) = (os ++ [p9]).flatMap Mk.cells := by simp [Mk.cells]
   rw [hx5, hn5]
   exact p_at (k + 1, os ++ [p9], a4, cap4) ⟨⟨by omega, by rw [sift_t hp9 hf9, ← hos]⟩, by dsimp only; omega⟩ (sc4 rfl rfl rfl rfl (sc rfl (sc rfl sub_nil))) (sc rfl sub_nil)
  ·skip
   refine T_seq (T_region ?_)
   refine TL_v (.func (.func g) #[] cp) (s_mv rfl) rfl rfl ?_
   refine TL_v (.agg #[.int .u64 p9.i.t, .int .i64 p9.i.s, .int .u64 p9.i.q, .pointer p9.ptr]) (s_la ag36 sz36 rfl 1 rfl rfl rfl) rfl rfl ?_
   refine TL_call (.bool false) (fun _ _ j _ => r_call (args := [.agg #[.int .u64 p9.i.t, .int .i64 p9.i.s, .int .u64 p9.i.q, .pointer p9.ptr]]) hE (j _ _ rfl) ((cons2 (j _ _ rfl) rfl)) (by simp)) (fun w hm => (hto w hm.ext p9 (List.mem_of_getElem? hp9)).mono fun _ _ h => ⟨h.1.trans (congrArg Ending.returned (bool_as (eq_false_of_ne_true hf9))), h.2⟩) rfl rfl rfl (w_n rfl) ?_
   refine TL_seq ?_
   refine T_cond_f rfl ?_
   refine T_skip' ?_
   refine p_blk_n ?_
   refine p_seq ?_
   refine T_region ?_
   refine TL_v (iN (k + 1)) (s_op r_add rfl rfl (iw (by omega) (by omega) (by omega))) rfl rfl ?_
   refine TL_v (iN (k + 1)) (s_mv rfl) rfl rfl ?_
   refine TL_nil ?_
   exact p_at (k + 1, os, oa, oc) ⟨⟨by omega, by rw [sift_f hp9 (eq_false_of_ne_true hf9)]; exact hos⟩, by dsimp only; omega⟩ (sc4 rfl rfl rfl rfl (sc rfl (sc rfl sub_nil))) (sc rfl sub_nil)
 ·replace h1 := of_decide_eq_false h1
  refine T_exit' ?_
  refine p_then_x ?_
  refine p_then_x ?_
  refine p_blk_x ?_
  refine p_seq ?_
  refine T_seq (T_region ?_)
  refine TL_v (.slice oa os.length oc) (s_mv rfl) rfl rfl ?_
  refine TL_v (.slice oa os.length oc) (s_as rfl) rfl rfl ?_
  refine TL_seq ?_
  refine T_ret' ?_
  refine ret_of rfl (.slice oa os.length oc) (fun tmps w hk hm => res1 rfl (res_tmp (hk 4 _ rfl))) (fun w hm => ?_)
  have hke : k = ms.length := by omega
  subst hke
  rw [List.take_length] at hos
  subst hos
  exact ⟨oa, oc, rfl, hm.ext, hm.row 950 rfl⟩
end Go.Proofs.Ytmihoejecpcmjaa
/- net and journal: Marks gone through. Printed by a program of this seat's prover. -/
namespace Go.Proofs.Ytmihoejecpcmjaa
open Go Go.RowKit
set_option maxRecDepth 10000
theorem due1_c (i : Tid) (w : World) : Calls Try.prog 40 #[i.v] w fun e w' => e = .returned (.bool (!okI i)) ∧ Below w.heap.size w w' := by
 refine calls_of_T (l := [.agg #[.int .u64 i.t, .int .i64 i.s, .int .u64 i.q]]) 6 Try.func40 rfl rfl rfl ?_
 show T _ _ _ [(0, .agg #[.int .u64 i.t, .int .i64 i.s, .int .u64 i.q])] []
 refine T_seq (T_region ?_)
 refine TL_new 1 (.cells #[.int .u64 i.t, .int .i64 i.s, .int .u64 i.q] 32) (fun B => pt B 0) (fun _ _ j _ => r_box (j _ _ rfl) rfl) rfl rfl rfl (w_n rfl) ?_
 intro B1
 refine TL_v (.bool false) (s_as rfl) rfl rfl ?_
 refine TL_seq ?_
 by_cases ho : okI i = true
 ·skip
  refine T_seq (T_region ?_)
  refine TL_v (.agg #[.int .u64 i.t, .int .i64 i.s, .int .u64 i.q]) (s_la ag32 sz32 rfl 1 rfl rfl rfl) rfl rfl ?_
  refine TL_call (.int .i64 0) (fun _ _ j _ => r_call (args := [.agg #[.int .u64 i.t, .int .i64 i.s, .int .u64 i.q]]) (enters_of Try.func16 (by kernel_rfl) rfl) (j _ _ rfl) ((cons2 (j _ _ rfl) rfl)) rfl) (fun w _ => (icheck_c i w).mono fun _ _ h => ⟨h.1.trans (congrArg Ending.returned (int_as (if_pos ho))), h.2⟩) rfl rfl rfl (w_n rfl) ?_
  refine TL_v (.bool false) (s_op r_neq rfl rfl (by rfl)) rfl rfl ?_
  refine TL_v (.bool false) (s_as rfl) rfl rfl ?_
  refine TL_seq ?_
  refine T_ret' ?_
  refine ret_of rfl (.bool false) (fun tmps w hk hm => res1 rfl (res_tmp (hk 2 _ rfl))) (fun w hm => ?_)
  exact ⟨by rw [ho]; rfl, hm.ext⟩
 ·skip
  refine T_seq (T_region ?_)
  refine TL_v (.agg #[.int .u64 i.t, .int .i64 i.s, .int .u64 i.q]) (s_la ag32 sz32 rfl 1 rfl rfl rfl) rfl rfl ?_
  refine TL_call (.int .i64 210) (fun _ _ j _ => r_call (args := [.agg #[.int .u64 i.t, .int .i64 i.s, .int .u64 i.q]]) (enters_of Try.func16 (by kernel_rfl) rfl) (j _ _ rfl) ((cons2 (j _ _ rfl) rfl)) rfl) (fun w _ => (icheck_c i w).mono fun _ _ h => ⟨h.1.trans (congrArg Ending.returned (int_as (if_neg ho))), h.2⟩) rfl rfl rfl (w_n rfl) ?_
  refine TL_v (.bool true) (s_op r_neq rfl rfl (by rfl)) rfl rfl ?_
  refine TL_v (.bool true) (s_as rfl) rfl rfl ?_
  refine TL_seq ?_
  refine T_ret' ?_
  refine ret_of rfl (.bool true) (fun tmps w hk hm => res1 rfl (res_tmp (hk 2 _ rfl))) (fun w hm => ?_)
  exact ⟨by rw [eq_false_of_ne_true ho]; rfl, hm.ext⟩

theorem put1_c (m : Mk) (w : World) : Calls Try.prog 52 #[m.v] w fun e w' => e = .returned (.bool (!okM m)) ∧ Below w.heap.size w w' := by
 refine calls_of_T (l := [.agg #[.int .u64 m.i.t, .int .i64 m.i.s, .int .u64 m.i.q, .pointer m.ptr]]) 6 Try.func52 rfl rfl rfl ?_
 show T _ _ _ [(0, .agg #[.int .u64 m.i.t, .int .i64 m.i.s, .int .u64 m.i.q, .pointer m.ptr])] []
 refine T_seq (T_region ?_)
 refine TL_new 1 (.cells #[.int .u64 m.i.t, .int .i64 m.i.s, .int .u64 m.i.q, .pointer m.ptr] 36) (fun B => pt B 0) (fun _ _ j _ => r_box (j _ _ rfl) rfl) rfl rfl rfl (w_n rfl) ?_
 intro B1
 refine TL_v (.bool false) (s_as rfl) rfl rfl ?_
 refine TL_seq ?_
 by_cases ho : okM m = true
 ·skip
  refine T_seq (T_region ?_)
  refine TL_v (.agg #[.int .u64 m.i.t, .int .i64 m.i.s, .int .u64 m.i.q, .pointer m.ptr]) (s_la ag36 sz36 rfl 1 rfl rfl rfl) rfl rfl ?_
  refine TL_call (.bool true) (fun _ _ j _ => r_call (args := [.agg #[.int .u64 m.i.t, .int .i64 m.i.s, .int .u64 m.i.q, .pointer m.ptr]]) (enters_of Try.func45 (by kernel_rfl) rfl) (j _ _ rfl) ((cons2 (j _ _ rfl) rfl)) rfl) (fun w _ => (right_c m w).mono fun _ _ h => ⟨h.1.trans (congrArg Ending.returned (bool_as ho)), h.2⟩) rfl rfl rfl (w_n rfl) ?_
  refine TL_v (.bool false) (fun _ _ j _ => r_not (b := true) (j _ _ rfl)) rfl rfl ?_
  refine TL_v (.bool false) (s_as rfl) rfl rfl ?_
  refine TL_seq ?_
  refine T_ret' ?_
  refine ret_of rfl (.bool false) (fun tmps w hk hm => res1 rfl (res_tmp (hk 2 _ rfl))) (fun w hm => ?_)
  exact ⟨by rw [ho]; rfl, hm.ext⟩
 ·skip
  refine T_seq (T_region ?_)
  refine TL_v (.agg #[.int .u64 m.i.t, .int .i64 m.i.s, .int .u64 m.i.q, .pointer m.ptr]) (s_la ag36 sz36 rfl 1 rfl rfl rfl) rfl rfl ?_
  refine TL_call (.bool false) (fun _ _ j _ => r_call (args := [.agg #[.int .u64 m.i.t, .int .i64 m.i.s, .int .u64 m.i.q, .pointer m.ptr]]) (enters_of Try.func45 (by kernel_rfl) rfl) (j _ _ rfl) ((cons2 (j _ _ rfl) rfl)) rfl) (fun w _ => (right_c m w).mono fun _ _ h => ⟨h.1.trans (congrArg Ending.returned (bool_as (eq_false_of_ne_true ho))), h.2⟩) rfl rfl rfl (w_n rfl) ?_
  refine TL_v (.bool true) (fun _ _ j _ => r_not (b := false) (j _ _ rfl)) rfl rfl ?_
  refine TL_v (.bool true) (s_as rfl) rfl rfl ?_
  refine TL_seq ?_
  refine T_ret' ?_
  refine ret_of rfl (.bool true) (fun tmps w hk hm => res1 rfl (res_tmp (hk 2 _ rfl))) (fun w hm => ?_)
  exact ⟨by rw [eq_false_of_ne_true ho]; rfl, hm.ext⟩

theorem beh_last {ms : List Mk} {y x : _} (h : ms[ms.length - 1]? = some y) : behI (idsM ms) x = lessI y.i x := by
 unfold behI
 rw [List.getLast?_eq_getElem?, ids_len, ids_at h]
theorem due2_c (x : Tid) (Q9 : Nat) (ms : List Mk) (a : Option Addr) (cap : Nat) (w : World) (hv : SliceAt w a cap 4 Mk.cells ms) (hcap : cap ≤ Go.maxLen) (hQ : hp w Q9 = some (.cells #[.slice a ms.length cap] 25)) : Calls Try.prog 43 #[x.v, .pointer (some ⟨Q9, 0, none⟩)] w fun e w' => e = .returned (.bool (behI (idsM ms) x)) ∧ Below w.heap.size w w' := by
 have hvl := hv.1
 unfold Go.maxLen at hcap
 refine calls_of_T (l := [.agg #[.int .u64 x.t, .int .i64 x.s, .int .u64 x.q], pt Q9 0]) 18 Try.func43 rfl rfl rfl ?_
 show T _ _ _ [(0, .agg #[.int .u64 x.t, .int .i64 x.s, .int .u64 x.q]), (1, pt Q9 0)] []
 refine T_seq (T_region ?_)
 refine TL_new 1 (.cells #[.int .u64 x.t, .int .i64 x.s, .int .u64 x.q] 32) (fun B => pt B 0) (fun _ _ j _ => r_box (j _ _ rfl) rfl) rfl rfl rfl (w_n rfl) ?_
 intro B1
 refine TL_v (.bool false) (s_as rfl) rfl rfl ?_
 refine TL_seq ?_
 by_cases hz : ((ms.length : Nat) : Int) = 0
 ·skip
  refine T_seq (T_draw (V := [(0, .slice a ms.length cap), (1, iN ms.length), (2, .bool true), (3, .bool true), (4, undef), (5, undef), (6, undef), (7, undef), (8, undef), (9, undef), (10, undef), (11, undef), (12, undef), (13, .bool true), (14, .bool true)]) [0, 1, 3, 7, 15, 15, 47, 111, 255, 511, 1023, 15, 4095, 8191, 16383] [[(1, none)], [(4, some 0)], [(5, some 1)], [(6, some 2)], [(1, none)], [(1, none)], [(9, some 5)], [(10, some 6)], [(8, some 4), (11, some 7)], [(12, some 8)], [(13, some 9)], [(2, none)], [(14, some 10), (15, some 11)], [(16, some 12), (7, some 3)], [(17, some 13)]] 0 mixed (by kernel_rfl) ?_)
  refine G_last [0, 1, 2, 3, 4, 5, 6, 7, 8, 9, 10, 11, 12, 13, 14] [(3, .bool true)] (by kernel_rfl) (allM (all_cons (q_r (.slice a ms.length cap) rfl rfl rfl (fun _ _ j hm => r_load ag25 (j _ _ rfl) (hm.old hQ) rfl)) (all_cons (q_r (iN ms.length) rfl rfl rfl (fun _ _ j _ => r_len sl25 (j _ _ rfl))) (all_cons (q_r (.bool true) rfl rfl rfl (s_op r_eql rfl rfl (bool_as (decide_eq_true hz)))) (all_cons (q_r (.bool true) rfl rfl rfl (s_mv rfl)) (all_cons (q_no rfl rfl (wv_no rfl rfl)) (all_cons (q_no rfl rfl (wv_no rfl rfl)) (all_cons (q_no rfl rfl (wv_no rfl rfl)) (all_cons (q_no rfl rfl (wv_no rfl rfl)) (all_cons (q_no rfl rfl (wv_no rfl rfl)) (all_cons (q_no rfl rfl (wv_no rfl rfl)) (all_cons (q_no rfl rfl (wv_no rfl rfl)) (all_cons (q_no rfl rfl (wv_no rfl rfl)) (all_cons (q_no rfl rfl (wv_no rfl rfl)) (all_cons (q_r (.bool true) rfl rfl rfl (s_pt rfl rfl)) (all_cons (q_r (.bool true) rfl rfl rfl (s_as rfl)) all_nil)))))))))))))))) (end_new 14 rfl rfl end_nil) ?_
  refine T_ret' ?_
  refine ret_of rfl (.bool true) (fun tmps w hk hm => res1 rfl (res_tmp (hk 3 _ rfl))) (fun w hm => ?_)
  have e0 : ms = [] := List.eq_nil_of_length_eq_zero (by omega)
  subst e0
  exact ⟨rfl, hm.ext⟩
 ·skip
  obtain ⟨y9, hy9⟩ : ∃ x, ms[ms.length - 1]? = some x := ⟨_, List.getElem?_eq_getElem (by omega)⟩
  obtain ⟨b2, of2, cs2, T2, fz2, ha2, hq2, hr2⟩ := hv.open (i := ms.length - 1) (by omega)
  subst ha2
  refine T_seq (T_draw (V := [(0, .slice (some ⟨b2, of2, none⟩) ms.length cap), (1, iN ms.length), (2, .bool false), (3, .bool false), (4, .slice (some ⟨b2, of2, none⟩) ms.length cap), (5, .slice (some ⟨b2, of2, none⟩) ms.length cap), (6, iN ms.length), (7, iN (ms.length - 1)), (8, pt b2 (of2 + (ms.length - 1) * 4)), (9, pt b2 (of2 + (ms.length - 1) * 4)), (10, .agg #[.int .u64 y9.i.t, .int .i64 y9.i.s, .int .u64 y9.i.q]), (11, .agg #[.int .u64 x.t, .int .i64 x.s, .int .u64 x.q])]) [0, 1, 3, 7, 15, 15, 47, 111, 255, 511, 1023, 15, 4095, 8191, 16383] [[(1, none)], [(4, some 0)], [(5, some 1)], [(6, some 2)], [(1, none)], [(1, none)], [(9, some 5)], [(10, some 6)], [(8, some 4), (11, some 7)], [(12, some 8)], [(13, some 9)], [(2, none)], [(14, some 10), (15, some 11)], [(16, some 12), (7, some 3)], [(17, some 13)]] 4096 mixed (by kernel_rfl) ?_)
  refine G_step [0, 1, 2, 3, 4, 5, 6, 7, 8, 9, 10, 11] 12 [] (by kernel_rfl) (allM (all_cons (q_r (.slice (some ⟨b2, of2, none⟩) ms.length cap) rfl rfl rfl (fun _ _ j hm => r_load ag25 (j _ _ rfl) (hm.old hQ) rfl)) (all_cons (q_r (iN ms.length) rfl rfl rfl (fun _ _ j _ => r_len sl25 (j _ _ rfl))) (all_cons (q_r (.bool false) rfl rfl rfl (s_op r_eql rfl rfl (bool_as (decide_eq_false hz)))) (all_cons (q_r (.bool false) rfl rfl rfl (s_mv rfl)) (all_cons (q_run (.slice (some ⟨b2, of2, none⟩) ms.length cap) rfl rfl (wv_y rfl rfl) rfl (fun _ _ j hm => r_load ag25 (j _ _ rfl) (hm.old hQ) rfl)) (all_cons (q_run (.slice (some ⟨b2, of2, none⟩) ms.length cap) rfl rfl (wv_y rfl rfl) rfl (fun _ _ j hm => r_load ag25 (j _ _ rfl) (hm.old hQ) rfl)) (all_cons (q_run (iN ms.length) rfl rfl (wv_y rfl rfl) rfl (fun _ _ j _ => r_len sl25 (j _ _ rfl))) (all_cons (q_run (iN (ms.length - 1)) rfl rfl (wv_y rfl rfl) rfl (s_op r_sub rfl rfl (iw (by omega) (by omega) (by omega)))) (all_cons (q_run (pt b2 (of2 + (ms.length - 1) * 4)) rfl rfl (wv_y rfl rfl) rfl (fun _ _ j _ => r_indexAddrS (i := ms.length - 1) sl25 sz36 (j _ _ rfl) (j _ _ rfl) (by omega))) (all_cons (q_run (pt b2 (of2 + (ms.length - 1) * 4)) rfl rfl (wv_y rfl rfl) rfl (fun _ _ j _ => r_fieldAddr (off := of2 + (ms.length - 1) * 4) fl36_0 sz32 (j _ _ rfl))) (all_cons (q_run (.agg #[.int .u64 y9.i.t, .int .i64 y9.i.s, .int .u64 y9.i.q]) rfl rfl (wv_y rfl rfl) rfl (fun _ _ j hm => r_loadRowP (f := Mk.cells) (u := y9) ag32 sz32 (j _ _ rfl) (hm.old hq2) hr2 hy9 rfl rfl)) (all_cons (q_run (.agg #[.int .u64 x.t, .int .i64 x.s, .int .u64 x.q]) rfl rfl (wv_y rfl rfl) rfl (s_la ag32 sz32 rfl 1 rfl rfl rfl)) all_nil))))))))))))) (allM (all_cons ?_ all_nil))
  refine LOb_call (.bool (lessI y9.i x)) [(13, .bool (lessI y9.i x)), (14, .bool (lessI y9.i x))] rfl (wv_y rfl rfl) rfl rfl (fun _ _ j _ => r_call (args := [.agg #[.int .u64 y9.i.t, .int .i64 y9.i.s, .int .u64 y9.i.q], .agg #[.int .u64 x.t, .int .i64 x.s, .int .u64 x.q]]) (enters_of Try.func12 (by kernel_rfl) rfl) (j _ _ rfl) ((cons2 (j _ _ rfl) (cons2 (j _ _ rfl) rfl))) rfl) (fun w _ => less_c y9.i x w) (by kernel_rfl) ?_
  refine G_last [13, 14] [(3, .bool (lessI y9.i x))] (by kernel_rfl) (allM (all_cons (q_r (.bool (lessI y9.i x)) rfl rfl rfl (s_pf rfl rfl)) (all_cons (q_r (.bool (lessI y9.i x)) rfl rfl rfl (s_as rfl)) all_nil))) (end_new 14 rfl rfl end_nil) ?_
  refine T_ret' ?_
  refine ret_of rfl (.bool (lessI y9.i x)) (fun tmps w hk hm => res1 rfl (res_tmp (hk 3 _ rfl))) (fun w hm => ?_)
  exact ⟨by rw [beh_last hy9], hm.ext⟩

theorem fold1_c (m : Mk) (Q9 : Nat) (t : Int) (w : World) (hQ : hp w Q9 = some (.cells #[.int .u64 t] 30)) : Calls Try.prog 61 #[m.v, .pointer (some ⟨Q9, 0, none⟩)] w fun e w' => e = .returned (.bool (decide (t < m.i.t))) ∧ Below w.heap.size w w' := by
 refine calls_of_T (l := [.agg #[.int .u64 m.i.t, .int .i64 m.i.s, .int .u64 m.i.q, .pointer m.ptr], pt Q9 0]) 9 Try.func61 rfl rfl rfl ?_
 show T _ _ _ [(0, .agg #[.int .u64 m.i.t, .int .i64 m.i.s, .int .u64 m.i.q, .pointer m.ptr]), (1, pt Q9 0)] []
 refine T_seq (T_region ?_)
 refine TL_new 1 (.cells #[.int .u64 m.i.t, .int .i64 m.i.s, .int .u64 m.i.q, .pointer m.ptr] 36) (fun B => pt B 0) (fun _ _ j _ => r_box (j _ _ rfl) rfl) rfl rfl rfl (w_n rfl) ?_
 intro B1
 refine TL_v (.bool false) (s_as rfl) rfl rfl ?_
 refine TL_seq ?_
 refine T_seq (T_region ?_)
 refine TL_v (pt B1 0) (s_fa fl36_0 sz32 rfl) rfl rfl ?_
 refine TL_v (pt B1 0) (s_fa fl32_0 sz30 rfl) rfl rfl ?_
 refine TL_v (.int .u64 m.i.t) (s_ld ag30 rfl 1 rfl rfl) rfl rfl ?_
 refine TL_v (.int .u64 t) (fun _ _ j hm => r_load ag30 (j _ _ rfl) (hm.old hQ) rfl) rfl rfl ?_
 refine TL_v (.bool (decide (t < m.i.t))) (fun _ _ j _ => r_gtr (j _ _ rfl) (j _ _ rfl)) rfl rfl ?_
 refine TL_v (.bool (decide (t < m.i.t))) (s_as rfl) rfl rfl ?_
 refine TL_seq ?_
 refine T_ret' ?_
 refine ret_of rfl (.bool (decide (t < m.i.t))) (fun tmps w hk hm => res1 rfl (res_tmp (hk 3 _ rfl))) (fun w hm => ?_)
 exact ⟨rfl, hm.ext⟩

theorem clone_i {α : Type} (f : α → List Value) (hf : ∀ x, (f x).length = 3) (ho : ∀ x, ∀ u ∈ f x, u.oneCell' = true) (l : List α) (a : Option Addr) (cap : Nat) (w : World) (hv : SliceAt w a cap 3 f l) (hlen : l.length * 24 ≤ 140737488355328) :
  Calls Try.prog 39 #[.slice a l.length cap] w fun e w' => ∃ a' cap', e = .returned (.slice a' l.length cap') ∧ Below w.heap.size w w' ∧ w'.ownsRow w.heap.size 32 3 (.slice a' l.length cap') l.length (l.flatMap f) := by
 refine calls_of_T (l := [.slice a l.length cap]) 8 Try.func39 rfl rfl rfl ?_
 show T _ _ _ [(0, .slice a l.length cap)] []
 refine T_seq (T_region ?_)
 refine TL_v (.slice none 0 0) (s_as rfl) rfl rfl ?_
 refine TL_seq ?_
 refine T_seq ?_
 refine T_seq (T_region ?_)
 refine TL_v (.slice a l.length cap) (s_mv rfl) rfl rfl ?_
 refine TL_v (.bool a.isNone) (fun _ _ j _ => r_eqlSn sl22 (j _ _ rfl) (j _ _ rfl)) rfl rfl ?_
 refine TL_seq ?_
 refine T_cond rfl (fun h1 => ?_) (fun h1 => ?_)
 ·skip
  refine T_seq (T_region ?_)
  refine TL_v (.slice none 0 0) (s_as rfl) rfl rfl ?_
  refine TL_seq ?_
  refine T_ret' ?_
  refine p_then_r ?_
  refine ret_of rfl (.slice none 0 0) (fun tmps w hk hm => res1 rfl (res_tmp (hk 2 _ rfl))) (fun w hm => ?_)
  have e0 : a = none := Option.isNone_iff_eq_none.1 h1
  subst e0
  have e1 : l = [] := by have := hv.2.1 rfl; have := hv.1; exact List.eq_nil_of_length_eq_zero (by omega)
  subst e1
  exact ⟨none, 0, rfl, hm.ext, World.ownsRow_nil _ _ _ _⟩
 ·skip
  refine T_skip' ?_
  refine p_seq ?_
  refine T_seq (T_region ?_)
  refine TL_new 1 (.cells #[] 32) (fun B => .slice (some ⟨B, 0, none⟩) 0 0) (fun _ _ _ _ => r_buildSlice (vs := []) (by kernel_rfl) rfl) rfl rfl rfl (w_n rfl) ?_
  intro B1
  refine TL_v (.slice a l.length cap) (s_mv rfl) rfl rfl ?_
  refine TL_mem ([(1, .row (.slice (some ⟨B1, 0, none⟩) 0 0) 32 3 0 [])]) (fun _ hm => MemOk.sub (hm.toRow (n := 0) (cap := 0) (s := 3) 1 rfl rfl (by omega) rfl _ rfl) (sc rfl sub_nil)) ?_
  refine TL_append (n := 0) (m := l.length) (xs := []) (news := (l.flatMap f)) (z := .agg #[.int .u64 0, .int .i64 0, .int .u64 0]) 1 rfl rfl rfl sl22 sz32 by32 (by kernel_rfl) rfl rfl (.inl rfl) (fun _ hm => by have := src_of hf (hv.keep hm.ext); simpa using this) (by intro u hu; obtain ⟨x, _, hx⟩ := List.mem_flatMap.1 hu; exact ho x u hx) (by omega) (by omega) rfl (w_n rfl) ?_
  intro a2 cap2
  refine TL_v (.slice a2 (0 + l.length) cap2) (s_as rfl) rfl rfl ?_
  refine TL_seq ?_
  refine T_ret' ?_
  refine ret_of rfl (.slice a2 (0 + l.length) cap2) (fun tmps w hk hm => res1 rfl (res_tmp (hk 2 _ rfl))) (fun w hm => ?_)
  have hrow := hm.row 1 rfl
  simp only [Nat.zero_add, List.nil_append] at hrow ⊢
  exact ⟨a2, cap2, rfl, hm.ext, hrow⟩

theorem equal_i (l m : List Tid) (a b : Option Addr) (ca cb : Nat) (w : World) (hv : SliceAt w a ca 3 Tid.cells l) (hu : SliceAt w b cb 3 Tid.cells m) (hl : l.length ≤ 4611686018427387904) (hl' : m.length ≤ 4611686018427387904) :
  Calls Try.prog 33 #[.slice a l.length ca, .slice b m.length cb] w fun e w' => e = .returned (.bool (decide (l = m))) ∧ Below w.heap.size w w' := by
 refine calls_of_T (l := [.slice a l.length ca, .slice b m.length cb]) 26 Try.func33 rfl rfl rfl ?_
 show T _ _ _ [(0, .slice a l.length ca), (1, .slice b m.length cb)] []
 refine T_seq (T_region ?_)
 refine TL_v (.bool false) (s_as rfl) rfl rfl ?_
 refine TL_seq ?_
 refine T_seq ?_
 by_cases hlm : ((l.length : Nat) : Int) = ((m.length : Nat) : Int)
 ·skip
  refine T_seq (T_region ?_)
  refine TL_v (.slice a l.length ca) (s_mv rfl) rfl rfl ?_
  refine TL_v (iN l.length) (fun _ _ j _ => r_len sl22 (j _ _ rfl)) rfl rfl ?_
  refine TL_v (.slice b m.length cb) (s_mv rfl) rfl rfl ?_
  refine TL_v (iN m.length) (fun _ _ j _ => r_len sl22 (j _ _ rfl)) rfl rfl ?_
  refine TL_v (.bool false) (s_op r_neq rfl rfl (bool_as (by rw [decide_eq_true hlm]; rfl))) rfl rfl ?_
  refine TL_seq ?_
  refine T_cond_f rfl ?_
  refine T_skip' ?_
  refine p_seq ?_
  refine T_seq ?_
  refine T_seq (T_region ?_)
  refine TL_v (.slice a l.length ca) (s_mv rfl) rfl rfl ?_
  refine TL_v (iN l.length) (fun _ _ j _ => r_len sl22 (j _ _ rfl)) rfl rfl ?_
  refine TL_v (.int .i64 0) (s_mv rfl) rfl rfl ?_
  refine TL_seq ?_
  refine T_block ?_
  refine T_loop (ι := Nat) (fun (k : Nat) => k ≤ l.length ∧ l.take k = m.take k) (fun (k : Nat) => [(0, .slice a l.length ca), (1, .slice b m.length cb), (12, iN l.length), (13, iN k)]) (fun (k : Nat) => []) (fun (k : Nat) => l.length - k) 0 ⟨Nat.zero_le _, by simp⟩ (sc4 rfl rfl rfl rfl sub_nil) sub_nil ?_
  rintro k hp
  obtain ⟨hk1, hk2⟩ := hp
  show T _ _ _ [(0, .slice a l.length ca), (1, .slice b m.length cb), (12, iN l.length), (13, iN k)] []
  refine T_seq (T_region ?_)
  refine TL_v (.bool (decide (((k : Nat) : Int) < ((l.length : Nat) : Int)))) (fun _ _ j _ => r_lss (j _ _ rfl) (j _ _ rfl)) rfl rfl ?_
  refine TL_seq ?_
  refine T_seq ?_
  refine T_cond rfl (fun h1 => ?_) (fun h1 => ?_)
  ·replace h1 := of_decide_eq_true h1
   refine T_skip' ?_
   refine p_seq ?_
   refine T_seq ?_
   refine T_block ?_
   obtain ⟨x, hx⟩ : ∃ x, l[k]? = some x := ⟨_, List.getElem?_eq_getElem (by omega)⟩
   obtain ⟨y, hy⟩ : ∃ y, m[k]? = some y := ⟨_, List.getElem?_eq_getElem (by omega)⟩
   obtain ⟨b1, of1, cs1, T1, fz1, ha1, hq1, hr1⟩ := hv.open (i := k) (by omega)
   subst ha1
   obtain ⟨b2, of2, cs2, T2, fz2, ha2, hq2, hr2⟩ := hu.open (i := k) (by omega)
   subst ha2
   refine T_seq (T_region ?_)
   refine TL_v (iN k) (s_mv rfl) rfl rfl ?_
   refine TL_v (iN k) (s_as rfl) rfl rfl ?_
   refine TL_seq ?_
   refine T_seq (T_draw (V := [(0, .slice (some ⟨b1, of1, none⟩) l.length ca), (1, iN k), (2, pt b1 (of1 + k * 3)), (3, .agg #[.int .u64 x.t, .int .i64 x.s, .int .u64 x.q]), (4, .slice (some ⟨b2, of2, none⟩) m.length cb), (5, iN k), (6, pt b2 (of2 + k * 3)), (7, .agg #[.int .u64 y.t, .int .i64 y.s, .int .u64 y.q]), (8, .bool (!decide (x = y)))]) [0, 0, 3, 7, 0, 0, 48, 112, 255] [[(0, none)], [(5, none)], [(16, some 0), (17, some 1)], [(18, some 2)], [(1, none)], [(5, none)], [(20, some 4), (21, some 5)], [(22, some 6)], [(19, some 3), (23, some 7)]] 0 mixed (by kernel_rfl) ?_)
   refine G_last [0, 1, 2, 3, 4, 5, 6, 7, 8] [(0, .slice (some ⟨b1, of1, none⟩) l.length ca), (1, .slice (some ⟨b2, of2, none⟩) m.length cb), (12, iN l.length), (13, iN k), (14, .bool (decide (((k : Nat) : Int) < ((l.length : Nat) : Int)))), (15, iN k), (5, iN k), (16, .slice (some ⟨b1, of1, none⟩) l.length ca), (17, iN k), (18, pt b1 (of1 + k * 3)), (19, .agg #[.int .u64 x.t, .int .i64 x.s, .int .u64 x.q]), (20, .slice (some ⟨b2, of2, none⟩) m.length cb), (21, iN k), (22, pt b2 (of2 + k * 3)), (23, .agg #[.int .u64 y.t, .int .i64 y.s, .int .u64 y.q]), (24, .bool (!decide (x = y)))] (by kernel_rfl) (allM (all_cons (q_r (.slice (some ⟨b1, of1, none⟩) l.length ca) rfl rfl rfl (s_mv rfl)) (all_cons (q_r (iN k) rfl rfl rfl (s_mv rfl)) (all_cons (q_r (pt b1 (of1 + k * 3)) rfl rfl rfl (fun _ _ j _ => r_indexAddrS (i := k) sl22 sz32 (j _ _ rfl) (j _ _ rfl) (by omega))) (all_cons (q_r (.agg #[.int .u64 x.t, .int .i64 x.s, .int .u64 x.q]) rfl rfl rfl (fun _ _ j hm => r_loadRow (f := Tid.cells) (u := x) ag32 sz32 (j _ _ rfl) (hm.old hq1) hr1 hx)) (all_cons (q_r (.slice (some ⟨b2, of2, none⟩) m.length cb) rfl rfl rfl (s_mv rfl)) (all_cons (q_r (iN k) rfl rfl rfl (s_mv rfl)) (all_cons (q_r (pt b2 (of2 + k * 3)) rfl rfl rfl (fun _ _ j _ => r_indexAddrS (i := k) sl22 sz32 (j _ _ rfl) (j _ _ rfl) (by omega))) (all_cons (q_r (.agg #[.int .u64 y.t, .int .i64 y.s, .int .u64 y.q]) rfl rfl rfl (fun _ _ j hm => r_loadRow (f := Tid.cells) (u := y) ag32 sz32 (j _ _ rfl) (hm.old hq2) hr2 hy)) (all_cons (q_r (.bool (!decide (x = y))) rfl rfl rfl (fun _ _ j _ => r_as (r_neqA (by kernel_rfl) (j _ _ rfl) (j _ _ rfl) (run_equalI (l := [(0, .u64), (1, .i64), (2, .u64)]) (by kernel_rfl) rfl rfl)) (bool_as (congrArg (fun b => !b) (eqTid x y))))) all_nil)))))))))) (end_old rfl rfl (end_old rfl rfl (end_old rfl rfl (end_old rfl rfl (end_old rfl rfl (end_old rfl rfl (end_old rfl rfl (end_new 0 rfl rfl (end_new 1 rfl rfl (end_new 2 rfl rfl (end_new 3 rfl rfl (end_new 4 rfl rfl (end_new 5 rfl rfl (end_new 6 rfl rfl (end_new 7 rfl rfl (end_new 8 rfl rfl end_nil)))))))))))))))) ?_
   refine T_cond rfl (fun h2 => ?_) (fun h2 => ?_)
   ·replace h2 := of_decide_eq_false (bnot_t h2)
    have hxy : ¬ x = y := by exact h2
    refine T_seq (T_region ?_)
    refine TL_v (.bool false) (s_as rfl) rfl rfl ?_
    refine TL_seq ?_
    refine T_ret' ?_
    refine p_blk_r ?_
    refine p_then_r ?_
    refine p_then_r ?_
    refine p_blk_r ?_
    refine p_then_r ?_
    refine ret_of rfl (.bool false) (fun tmps w hk hm => res1 rfl (res_tmp (hk 4 _ rfl))) (fun w hm => ?_)
    exact ⟨congrArg Ending.returned (bool_as (decide_eq_false (fun e => hxy (by subst e; rw [hx] at hy; exact Option.some.inj hy))).symm), hm.ext⟩
   ·replace h2 := of_decide_eq_true (bnot_f h2)
    refine T_skip' ?_
    refine p_blk_n ?_
    refine p_seq ?_
    have hxy : x = y := by exact h2
    refine T_region ?_
    refine TL_v (iN (k + 1)) (s_op r_add rfl rfl (iw (by omega) (by omega) (by omega))) rfl rfl ?_
    refine TL_v (iN (k + 1)) (s_mv rfl) rfl rfl ?_
    refine TL_nil ?_
    exact p_at (k + 1) ⟨⟨by omega, by rw [List.take_add_one, List.take_add_one, hx, hy, hk2, hxy]⟩, by omega⟩ (sc4 rfl rfl rfl rfl sub_nil) sub_nil
  ·replace h1 := of_decide_eq_false h1
   refine T_exit' ?_
   refine p_then_x ?_
   refine p_then_x ?_
   refine p_blk_x ?_
   refine p_seq ?_
   refine T_seq (T_region ?_)
   refine TL_v (.bool true) (s_as rfl) rfl rfl ?_
   refine TL_seq ?_
   refine T_ret' ?_
   refine ret_of rfl (.bool true) (fun tmps w hk hm => res1 rfl (res_tmp (hk 4 _ rfl))) (fun w hm => ?_)
   exact ⟨congrArg Ending.returned (bool_as (decide_eq_true (by rw [← List.take_length (l := l), ← List.take_length (l := m), ← show k = l.length by omega, ← show k = m.length by omega]; exact hk2)).symm), hm.ext⟩
 ·skip
  refine T_seq (T_region ?_)
  refine TL_v (.slice a l.length ca) (s_mv rfl) rfl rfl ?_
  refine TL_v (iN l.length) (fun _ _ j _ => r_len sl22 (j _ _ rfl)) rfl rfl ?_
  refine TL_v (.slice b m.length cb) (s_mv rfl) rfl rfl ?_
  refine TL_v (iN m.length) (fun _ _ j _ => r_len sl22 (j _ _ rfl)) rfl rfl ?_
  refine TL_v (.bool true) (s_op r_neq rfl rfl (bool_as (by rw [decide_eq_false hlm]; rfl))) rfl rfl ?_
  refine TL_seq ?_
  refine T_cond_t rfl ?_
  refine T_seq (T_region ?_)
  refine TL_v (.bool false) (s_as rfl) rfl rfl ?_
  refine TL_seq ?_
  refine T_ret' ?_
  refine p_then_r ?_
  refine ret_of rfl (.bool false) (fun tmps w hk hm => res1 rfl (res_tmp (hk 4 _ rfl))) (fun w hm => ?_)
  exact ⟨congrArg Ending.returned (bool_as (decide_eq_false (fun e => hlm (by rw [e]))).symm), hm.ext⟩

theorem minV (a n : Nat) : (if (n : Int) < (a : Int) then (n : Int) else (a : Int)) = ((min a n : Nat) : Int) := by split <;> omega
theorem take_min {α : Type} (l : List α) (n : Nat) : l.take (min l.length n) = l.take n := by
 rw [Nat.min_def]
 split
 ·rw [List.take_length, List.take_of_length_le (by omega)]
 ·rfl

theorem few_c (l : List Tid) (a : Option Addr) (cap : Nat) (n : Nat) (w : World) (hv : SliceAt w a cap 3 Tid.cells l) (hcap : cap ≤ Go.maxLen) (hn1000 : n ≤ 1000) : Calls Try.prog 10 #[.slice a l.length cap, .int .i64 (n : Int)] w fun e w' => ∃ a' cap', e = .returned (.slice a' (l.take n).length cap') ∧ Below w.heap.size w w' ∧ w'.ownsRow w.heap.size 32 3 (.slice a' (l.take n).length cap') (l.take n).length ((l.take n).flatMap Tid.cells) := by
 have hvl := hv.1
 unfold Go.maxLen at hcap
 refine calls_of_T (l := [.slice a l.length cap, iN n]) 12 Try.func10 rfl rfl rfl ?_
 show T _ _ _ [(0, .slice a l.length cap), (1, iN n)] []
 refine T_seq (T_region ?_)
 refine TL_v (.slice none 0 0) (s_as rfl) rfl rfl ?_
 refine TL_seq ?_
 refine T_seq (T_region ?_)
 refine TL_v (.slice a l.length cap) (s_mv rfl) rfl rfl ?_
 refine TL_v (.slice a l.length cap) (s_mv rfl) rfl rfl ?_
 refine TL_v (iN l.length) (fun _ _ j _ => r_len sl22 (j _ _ rfl)) rfl rfl ?_
 refine TL_v (iN n) (s_mv rfl) rfl rfl ?_
 refine TL_v (iN (min l.length n)) (s_op r_min rfl rfl (int_as (minV _ _))) rfl rfl ?_
 obtain ⟨l1, hl1, hn1⟩ : ∃ lz, lz = l.take (min l.length n) ∧ lz.length = min l.length n := ⟨_, rfl, by rw [List.length_take]; omega⟩
 have hs1 := SliceAt.front hv (n := min l.length n) (m := cap) (by omega) (by omega) (by omega)
 rw [← hl1] at hs1
 refine TL_v (.slice a l1.length cap) (fun ρ _ j _ => r_as (r_sliceO sl22 sz32 (j _ _ rfl) (bd_none ρ _) (bd_some (n := min l.length n) (j _ _ rfl)) (bd_none ρ _) (by simp) (by omega) (by omega) (by omega)) (by rw [hn1]; exact slo_zero _ _ _ _)) rfl rfl ?_
 refine TL_callN (fun (_ : Option Addr × Nat) => True) (fun (ar2, cr2) => .slice ar2 ((l1).length) cr2) (fun (ar2, cr2) => [(1, .row (.slice ar2 ((l1).length) cr2) 32 3 ((l1).length) ((l1).flatMap Tid.cells))]) (fun _ _ j _ => r_call (args := [.slice a l1.length cap]) (enters_of Try.func39 (by kernel_rfl) rfl) (j _ _ rfl) ((cons2 (j _ _ rfl) rfl)) rfl) (fun w hm => (clone_i Tid.cells Tid.cells_len Tid.cells_one l1 a cap w (hs1.keep hm.ext) (by omega)).mono fun e w' ⟨a', cap', he, hb, hr⟩ => ⟨(a', cap'), trivial, he, hb, newOk1 1 hr⟩) rfl rfl rfl (w_n rfl) ?_
 rintro ⟨ar2, cr2⟩ -
 refine TL_v (.slice ar2 ((l1).length) cr2) (s_as rfl) rfl rfl ?_
 refine TL_seq ?_
 refine T_ret' ?_
 refine ret_of rfl (.slice ar2 ((l1).length) cr2) (fun tmps w hk hm => res1 rfl (res_tmp (hk 4 _ rfl))) (fun w hm => ?_)
 have hrow := hm.row 1 rfl
 have e9 : l1 = l.take n := by rw [hl1, take_min]
 rw [e9] at hrow
 exact ⟨_, _, congrArg (fun z : List Tid => Ending.returned (.slice _ z.length _)) e9, hm.ext, hrow⟩
end Go.Proofs.Ytmihoejecpcmjaa
/- net and journal: Ids, Drop, Below, Fold, Due. Printed by a program of this seat's prover. -/
namespace Go.Proofs.Ytmihoejecpcmjaa
open Go Go.RowKit
set_option maxRecDepth 10000
def mk0 : Mk := ⟨⟨0, 0, 0⟩, none⟩
theorem mk_ones {l : List Mk} : ∀ u ∈ l.flatMap Mk.cells, u.oneCell' = true := fun u hu => by
 obtain ⟨x, _, hx⟩ := List.mem_flatMap.1 hu
 exact Mk.cells_one x u hx

theorem ids_ok (ms : List Mk) (a : Option Addr) (cap : Nat) (w : World) (hv : SliceAt w a cap 4 Mk.cells ms) (hcap : cap ≤ Go.maxLen) (hmk : marksB ms = true) : Calls Try.prog 34 #[.slice a ms.length cap] w fun e w' => ∃ a' cap', e = .returned (.slice a' (idsM ms).length cap') ∧ Below w.heap.size w w' ∧ w'.ownsRow w.heap.size 32 3 (.slice a' (idsM ms).length cap') (idsM ms).length ((idsM ms).flatMap Tid.cells) := by
 have hvl := hv.1
 unfold Go.maxLen at hcap
 have hm6 := (marksB_iff.1 hmk).2.2
 refine calls_of_T (l := [.slice a ms.length cap]) 22 Try.func34 rfl rfl rfl ?_
 show T _ _ _ [(0, .slice a ms.length cap)] []
 refine T_seq (T_region ?_)
 refine TL_v (.slice none 0 0) (s_as rfl) rfl rfl ?_
 refine TL_seq ?_
 refine T_seq ?_
 refine T_seq (T_region ?_)
 refine TL_v (.slice a ms.length cap) (s_mv rfl) rfl rfl ?_
 refine TL_call (.int .i64 0) (fun _ _ j _ => r_call (args := [.slice a ms.length cap]) (enters_of Try.func14 (by kernel_rfl) rfl) (j _ _ rfl) ((cons2 (j _ _ rfl) rfl)) rfl) (fun w hm => (check_c ms a cap w (hv.keep hm.ext) hcap).mono fun _ _ h => ⟨h.1.trans (congrArg Ending.returned (int_as (if_pos hmk))), h.2⟩) rfl rfl rfl (w_n rfl) ?_
 refine TL_v (.bool false) (s_op r_neq rfl rfl (by rfl)) rfl rfl ?_
 refine TL_seq ?_
 refine T_cond_f rfl ?_
 refine T_skip' ?_
 refine p_seq ?_
 refine T_seq (T_region ?_)
 refine TL_v (.slice none 0 0) (s_as rfl) rfl rfl ?_
 refine TL_seq ?_
 refine T_seq ?_
 refine T_mem (_ :: _) (fun _ hm => hm.nilRow 950 32 3) ?_
 refine T_seq (T_region ?_)
 refine TL_v (.slice a ms.length cap) (s_mv rfl) rfl rfl ?_
 refine TL_v (iN ms.length) (fun _ _ j _ => r_len sl25 (j _ _ rfl)) rfl rfl ?_
 refine TL_v (.int .i64 0) (s_mv rfl) rfl rfl ?_
 refine TL_seq ?_
 refine T_block ?_
 refine T_loop (ι := Nat × List Tid × Option Addr × Nat) (fun (z : Nat × List Tid × Option Addr × Nat) => match z with | (k, os, oa, oc) => k ≤ ms.length ∧ os = idsM (ms.take k)) (fun (z : Nat × List Tid × Option Addr × Nat) => match z with | (k, os, oa, oc) => [(2, .slice none 0 0), (9, .slice a ms.length cap), (10, iN ms.length), (11, iN k), (3, .slice oa os.length oc)]) (fun (z : Nat × List Tid × Option Addr × Nat) => match z with | (k, os, oa, oc) => [(950, .row (.slice oa os.length oc) 32 3 os.length (os.flatMap Tid.cells))]) (fun (z : Nat × List Tid × Option Addr × Nat) => match z with | (k, os, oa, oc) => ms.length - k) (0, [], none, 0) ⟨Nat.zero_le _, rfl⟩ (sc4 rfl rfl rfl rfl (sc rfl sub_nil)) (sc rfl sub_nil) ?_
 rintro ⟨k, os, oa, oc⟩ hp
 obtain ⟨hk, hos⟩ := hp
 have hol : os.length ≤ k := by rw [hos, ids_len, List.length_take]; omega
 show T _ _ _ [(2, .slice none 0 0), (9, .slice a ms.length cap), (10, iN ms.length), (11, iN k), (3, .slice oa os.length oc)] [(950, .row (.slice oa os.length oc) 32 3 os.length (os.flatMap Tid.cells))]
 refine T_seq (T_region ?_)
 refine TL_v (.bool (decide (((k : Nat) : Int) < ((ms.length : Nat) : Int)))) (fun _ _ j _ => r_lss (j _ _ rfl) (j _ _ rfl)) rfl rfl ?_
 refine TL_seq ?_
 refine T_seq ?_
 refine T_cond rfl (fun h1 => ?_) (fun h1 => ?_)
 ·replace h1 := of_decide_eq_true h1
  refine T_skip' ?_
  refine p_seq ?_
  refine T_seq ?_
  refine T_block ?_
  obtain ⟨p9, hp9⟩ : ∃ x, ms[k]? = some x := ⟨_, List.getElem?_eq_getElem (by omega)⟩
  obtain ⟨b1, of1, cs1, T1, fz1, ha1, hq1, hr1⟩ := hv.open (i := k) (by omega)
  subst ha1
  refine T_seq (T_region ?_)
  refine TL_v (pt b1 (of1 + k * 4)) (fun _ _ j _ => r_indexAddrS (i := k) sl25 sz36 (j _ _ rfl) (j _ _ rfl) (by omega)) rfl rfl ?_
  refine TL_v (.agg #[.int .u64 p9.i.t, .int .i64 p9.i.s, .int .u64 p9.i.q, .pointer p9.ptr]) (fun _ _ j hm => r_loadRow (f := Mk.cells) (u := p9) ag36 sz36 (j _ _ rfl) (hm.old hq1) hr1 hp9) rfl rfl ?_
  refine TL_new 1 (.cells #[.int .u64 0, .int .i64 0, .int .u64 0, .pointer none] 36) (fun B => pt B 0) (fun _ _ _ _ => r_alloc (v := .agg #[.int .u64 0, .int .i64 0, .int .u64 0, .pointer none]) (by kernel_rfl) rfl) rfl rfl rfl (w_n rfl) ?_
  intro B2
  refine TL_store 1 (.cells #[.int .u64 p9.i.t, .int .i64 p9.i.s, .int .u64 p9.i.q, .pointer p9.ptr] 36) rfl (s_st sz36 rfl rfl 1 rfl rfl rfl rfl rfl) rfl rfl (w_n rfl) ?_
  refine TL_seq ?_
  refine T_region ?_
  refine TL_v (.slice oa os.length oc) (s_mv rfl) rfl rfl ?_
  refine TL_v (pt B2 0) (s_fa fl36_0 sz32 rfl) rfl rfl ?_
  refine TL_v (.agg #[.int .u64 p9.i.t, .int .i64 p9.i.s, .int .u64 p9.i.q]) (s_la ag32 sz32 rfl 1 rfl rfl rfl) rfl rfl ?_
  refine TL_new 2 (.cells #[.int .u64 p9.i.t, .int .i64 p9.i.s, .int .u64 p9.i.q] 32) (fun B => .slice (some ⟨B, 0, none⟩) 1 1) (fun _ _ j _ => r_buildSlice (vs := [(0, .agg #[.int .u64 p9.i.t, .int .i64 p9.i.s, .int .u64 p9.i.q])]) (by kernel_rfl) (cons2 (pair2 (j _ _ rfl)) rfl)) rfl rfl rfl (w_n rfl) ?_
  intro B3
  refine TL_append (n := os.length) (m := 1) (xs := (os.flatMap Tid.cells)) (news := [.int .u64 p9.i.t, .int .i64 p9.i.s, .int .u64 p9.i.q]) (z := .agg #[.int .u64 0, .int .i64 0, .int .u64 0]) 950 rfl rfl rfl sl22 sz32 by32 (by kernel_rfl) rfl rfl (.inl rfl) (fun _ hm => src_blk (news := [.int .u64 p9.i.t, .int .i64 p9.i.s, .int .u64 p9.i.q]) (hm.at 2 rfl) rfl) (by simp [Value.oneCell']) (by omega) (by omega) rfl (w_n rfl) ?_
  intro a4 cap4
  refine TL_v (.slice a4 (os.length + 1) cap4) (s_as rfl) rfl rfl ?_
  refine TL_nil ?_
  refine p_blk_n ?_
  refine p_seq ?_
  refine T_region ?_
  refine TL_v (iN (k + 1)) (s_op r_add rfl rfl (iw (by omega) (by omega) (by omega))) rfl rfl ?_
  refine TL_v (iN (k + 1)) (s_mv rfl) rfl rfl ?_
  refine TL_nil ?_
  have hn5 : (os.length + 1) = (os ++ [p9.i]).length := by simp
  have hx5 : ((os.flatMap Tid.cells) ++ [.int .u64 p9.i.t, .int .i64 p9.i.s, .int .u64 p9.i.q]) = (os ++ [p9.i]).flatMap Tid.cells := by simp [Tid.cells]
  rw [hx5, hn5]
  exact p_at (k + 1, os ++ [p9.i], a4, cap4) ⟨⟨by omega, by rw [hos]; exact (map_step hp9).symm⟩, by dsimp only; omega⟩ (sc4 rfl rfl rfl rfl (sc rfl sub_nil)) (sc rfl sub_nil)
 ·replace h1 := of_decide_eq_false h1
  refine T_exit' ?_
  refine p_then_x ?_
  refine p_then_x ?_
  refine p_blk_x ?_
  refine p_seq ?_
  refine T_seq (T_region ?_)
  refine TL_v (.slice oa os.length oc) (s_mv rfl) rfl rfl ?_
  refine TL_v (.slice oa os.length oc) (s_as rfl) rfl rfl ?_
  refine TL_seq ?_
  refine T_ret' ?_
  refine ret_of rfl (.slice oa os.length oc) (fun tmps w hk hm => res1 rfl (res_tmp (hk 2 _ rfl))) (fun w hm => ?_)
  have hke : k = ms.length := by omega
  subst hke
  rw [List.take_length] at hos
  subst hos
  exact ⟨oa, oc, rfl, hm.ext, hm.row 950 rfl⟩

theorem of_c (ms : List Mk) (a : Option Addr) (cap : Nat) (w : World) (hv : SliceAt w a cap 4 Mk.cells ms) (hcap : cap ≤ Go.maxLen) (hlen : ms.length ≤ 1000) : Calls Try.prog 53 #[.slice a ms.length cap] w fun e w' => ∃ q a', e = .returned (.pointer (some ⟨q, 0, none⟩)) ∧ Below w.heap.size w w' ∧ NewOk w w' [(0, .blk q (.cells #[.slice a' ms.length ms.length] 80)), (1, .row (.slice a' ms.length ms.length) 36 4 ms.length (ms.flatMap Mk.cells))] := by
 have hvl := hv.1
 unfold Go.maxLen at hcap
 refine calls_of_T (l := [.slice a ms.length cap]) 13 Try.func53 rfl rfl rfl ?_
 show T _ _ _ [(0, .slice a ms.length cap)] []
 refine T_seq (T_region ?_)
 refine TL_v (.pointer none) (s_as rfl) rfl rfl ?_
 refine TL_seq ?_
 refine T_seq (T_region ?_)
 refine TL_v (.slice a ms.length cap) (s_mv rfl) rfl rfl ?_
 refine TL_v (iN ms.length) (fun _ _ j _ => r_len sl25 (j _ _ rfl)) rfl rfl ?_
 refine TL_op (ι := Nat) (fun B => .slice (some ⟨B, 0, none⟩) ms.length ms.length) _ (fun _ _ j hm => o_make (n := ms.length) (cap := ms.length) (z := (.agg #[.int .u64 0, .int .i64 0, .int .u64 0, .pointer none] : Value)) (f := Mk.cells) (u := mk0) 940 rfl (j _ _ rfl) (j _ _ rfl) sl25 by36 sz36 rfl (by kernel_rfl) rfl Mk.cells_len (by omega) (by omega) (by omega) hm) rfl rfl rfl (w_n rfl) ?_
 intro B1
 refine TL_v (.slice (some ⟨B1, 0, none⟩) ms.length ms.length) (s_as rfl) rfl rfl ?_
 refine TL_seq ?_
 refine T_seq (T_region ?_)
 refine TL_v (.slice (some ⟨B1, 0, none⟩) ms.length ms.length) (s_mv rfl) rfl rfl ?_
 refine TL_v (.slice a ms.length cap) (s_mv rfl) rfl rfl ?_
 refine TL_op1 (iN ms.length) _ (fun _ _ j hm => o_copy (s := 4) (news := (ms.flatMap Mk.cells)) 940 rfl (j _ _ rfl) (j _ _ rfl) rfl sl25 sz36 (src_of Mk.cells_len (hv.keep hm.ext)) mk_ones hm) rfl rfl rfl (w_n rfl) ?_
 refine TL_seq ?_
 refine T_seq (T_region ?_)
 refine TL_v (.slice (some ⟨B1, 0, none⟩) ms.length ms.length) (s_mv rfl) rfl rfl ?_
 refine TL_v (.agg #[.slice (some ⟨B1, 0, none⟩) ms.length ms.length]) (fun _ _ j _ => r_build (vs := [(0, .slice (some ⟨B1, 0, none⟩) ms.length ms.length)]) (by kernel_rfl) (cons2 (pair2 (j _ _ rfl)) rfl)) rfl rfl ?_
 refine TL_new 1 (.cells #[.slice (some ⟨B1, 0, none⟩) ms.length ms.length] 80) (fun B => pt B 0) (fun _ _ j _ => r_box (j _ _ rfl) rfl) rfl rfl rfl (w_n rfl) ?_
 intro B3
 refine TL_v (pt B3 0) (s_as rfl) rfl rfl ?_
 refine TL_seq ?_
 refine T_ret' ?_
 refine ret_of rfl (pt B3 0) (fun tmps w hk hm => res1 rfl (res_tmp (hk 2 _ rfl))) (fun w hm => ?_)
 refine ⟨B3, _, rfl, hm.ext, newOk2 0 1 (hm.own 1 _ rfl) (hm.own 940 _ rfl) (hm.sep 1 940 _ _ rfl rfl (by decide))⟩

theorem ahead_c (ms : List Mk) (a : Option Addr) (cap : Nat) (i : Tid) (Q9 : Nat) (w : World) (hv : SliceAt w a cap 4 Mk.cells ms) (hcap : cap ≤ Go.maxLen) (hQ : hp w Q9 = some (.cells #[.slice a ms.length cap] 80)) : Calls Try.prog 59 #[.pointer (some ⟨Q9, 0, none⟩), i.v] w fun e w' => e = .returned (.int .i64 ((aheadL (idsM ms) i : Nat) : Int)) ∧ Below w.heap.size w w' := by
 have hvl := hv.1
 unfold Go.maxLen at hcap
 refine calls_of_T (l := [pt Q9 0, .agg #[.int .u64 i.t, .int .i64 i.s, .int .u64 i.q]]) 25 Try.func59 rfl rfl rfl ?_
 show T _ _ _ [(0, pt Q9 0), (1, .agg #[.int .u64 i.t, .int .i64 i.s, .int .u64 i.q])] []
 refine T_seq (T_region ?_)
 refine TL_new 1 (.cells #[.int .u64 i.t, .int .i64 i.s, .int .u64 i.q] 32) (fun B => pt B 0) (fun _ _ j _ => r_box (j _ _ rfl) rfl) rfl rfl rfl (w_n rfl) ?_
 intro B1
 refine TL_v (.int .i64 0) (s_as rfl) rfl rfl ?_
 refine TL_seq ?_
 refine T_seq (T_region ?_)
 refine TL_v (.int .i64 0) (s_as rfl) rfl rfl ?_
 refine TL_seq ?_
 refine T_seq ?_
 refine T_seq (T_region ?_)
 refine TL_v (pt Q9 0) (s_mv rfl) rfl rfl ?_
 refine TL_v (pt Q9 0) (s_nc rfl rfl) rfl rfl ?_
 refine TL_v (pt Q9 0) (s_fa fl80_0 sz25 rfl) rfl rfl ?_
 refine TL_v (.slice a ms.length cap) (fun _ _ j hm => r_load ag25 (j _ _ rfl) (hm.old hQ) rfl) rfl rfl ?_
 refine TL_v (iN ms.length) (fun _ _ j _ => r_len sl25 (j _ _ rfl)) rfl rfl ?_
 refine TL_v (.int .i64 0) (s_mv rfl) rfl rfl ?_
 refine TL_seq ?_
 refine T_block ?_
 refine T_loop (ι := Nat × Nat) (fun (z : Nat × Nat) => match z with | (k, c) => k ≤ ms.length ∧ c = aheadL ((idsM ms).take k) i) (fun (z : Nat × Nat) => match z with | (k, c) => [(3, pt B1 0), (4, .int .i64 0), (11, .slice a ms.length cap), (12, iN ms.length), (13, iN k), (5, iN c)]) (fun (z : Nat × Nat) => match z with | (k, c) => [(1, .blk B1 (.cells #[.int .u64 i.t, .int .i64 i.s, .int .u64 i.q] 32))]) (fun (z : Nat × Nat) => match z with | (k, c) => ms.length - k) (0, 0) ⟨Nat.zero_le _, rfl⟩ (sc4 rfl rfl rfl rfl (sc rfl (sc rfl sub_nil))) (sc rfl sub_nil) ?_
 rintro ⟨k, c⟩ hp
 obtain ⟨hk, hc⟩ := hp
 have hck : c ≤ k := by rw [hc]; exact Nat.le_trans (ahead_le _ _) (by rw [List.length_take]; omega)
 show T _ _ _ [(3, pt B1 0), (4, .int .i64 0), (11, .slice a ms.length cap), (12, iN ms.length), (13, iN k), (5, iN c)] [(1, .blk B1 (.cells #[.int .u64 i.t, .int .i64 i.s, .int .u64 i.q] 32))]
 refine T_seq (T_region ?_)
 refine TL_v (.bool (decide (((k : Nat) : Int) < ((ms.length : Nat) : Int)))) (fun _ _ j _ => r_lss (j _ _ rfl) (j _ _ rfl)) rfl rfl ?_
 refine TL_seq ?_
 refine T_seq ?_
 refine T_cond rfl (fun h1 => ?_) (fun h1 => ?_)
 ·replace h1 := of_decide_eq_true h1
  refine T_skip' ?_
  refine p_seq ?_
  refine T_seq ?_
  refine T_block ?_
  obtain ⟨p9, hp9⟩ : ∃ x, ms[k]? = some x := ⟨_, List.getElem?_eq_getElem (by omega)⟩
  obtain ⟨b2, of2, cs2, T2, fz2, ha2, hq2, hr2⟩ := hv.open (i := k) (by omega)
  subst ha2
  refine T_seq (T_region ?_)
  refine TL_v (pt b2 (of2 + k * 4)) (fun _ _ j _ => r_indexAddrS (i := k) sl25 sz36 (j _ _ rfl) (j _ _ rfl) (by omega)) rfl rfl ?_
  refine TL_v (.agg #[.int .u64 p9.i.t, .int .i64 p9.i.s, .int .u64 p9.i.q, .pointer p9.ptr]) (fun _ _ j hm => r_loadRow (f := Mk.cells) (u := p9) ag36 sz36 (j _ _ rfl) (hm.old hq2) hr2 hp9) rfl rfl ?_
  refine TL_new 2 (.cells #[.int .u64 0, .int .i64 0, .int .u64 0, .pointer none] 36) (fun B => pt B 0) (fun _ _ _ _ => r_alloc (v := .agg #[.int .u64 0, .int .i64 0, .int .u64 0, .pointer none]) (by kernel_rfl) rfl) rfl rfl rfl (w_n rfl) ?_
  intro B3
  refine TL_store 2 (.cells #[.int .u64 p9.i.t, .int .i64 p9.i.s, .int .u64 p9.i.q, .pointer p9.ptr] 36) rfl (s_st sz36 rfl rfl 2 rfl rfl rfl rfl rfl) rfl rfl (w_n rfl) ?_
  refine TL_seq ?_
  by_cases hl9 : lessI p9.i i = true
  ·skip
   refine T_seq (T_region ?_)
   refine TL_v (pt B3 0) (s_fa fl36_0 sz32 rfl) rfl rfl ?_
   refine TL_v (.agg #[.int .u64 p9.i.t, .int .i64 p9.i.s, .int .u64 p9.i.q]) (s_la ag32 sz32 rfl 2 rfl rfl rfl) rfl rfl ?_
   refine TL_v (.agg #[.int .u64 i.t, .int .i64 i.s, .int .u64 i.q]) (s_la ag32 sz32 rfl 1 rfl rfl rfl) rfl rfl ?_
   refine TL_call (.bool true) (fun _ _ j _ => r_call (args := [.agg #[.int .u64 p9.i.t, .int .i64 p9.i.s, .int .u64 p9.i.q], .agg #[.int .u64 i.t, .int .i64 i.s, .int .u64 i.q]]) (enters_of Try.func12 (by kernel_rfl) rfl) (j _ _ rfl) ((cons2 (j _ _ rfl) (cons2 (j _ _ rfl) rfl))) rfl) (fun w _ => (less_c p9.i i w).mono fun _ _ h => ⟨h.1.trans (congrArg Ending.returned (bool_as hl9)), h.2⟩) rfl rfl rfl (w_n rfl) ?_
   refine TL_seq ?_
   refine T_cond_t rfl ?_
   refine T_region ?_
   refine TL_v (iN c) (s_mv rfl) rfl rfl ?_
   refine TL_v (iN (c + 1)) (s_op r_add rfl rfl (iw (by omega) (by omega) (by omega))) rfl rfl ?_
   refine TL_v (iN (c + 1)) (s_as rfl) rfl rfl ?_
   refine TL_nil ?_
   refine p_blk_n ?_
   refine p_seq ?_
   refine T_region ?_
   refine TL_v (iN (k + 1)) (s_op r_add rfl rfl (iw (by omega) (by omega) (by omega))) rfl rfl ?_
   refine TL_v (iN (k + 1)) (s_mv rfl) rfl rfl ?_
   refine TL_nil ?_
   exact p_at (k + 1, c + 1) ⟨⟨by omega, by rw [ahead_step (ids_at hp9), if_pos hl9, ← hc]⟩, by dsimp only; omega⟩ (sc4 rfl rfl rfl rfl (sc rfl (sc rfl sub_nil))) (sc rfl sub_nil)
  ·skip
   refine T_seq (T_region ?_)
   refine TL_v (pt B3 0) (s_fa fl36_0 sz32 rfl) rfl rfl ?_
   refine TL_v (.agg #[.int .u64 p9.i.t, .int .i64 p9.i.s, .int .u64 p9.i.q]) (s_la ag32 sz32 rfl 2 rfl rfl rfl) rfl rfl ?_
   refine TL_v (.agg #[.int .u64 i.t, .int .i64 i.s, .int .u64 i.q]) (s_la ag32 sz32 rfl 1 rfl rfl rfl) rfl rfl ?_
   refine TL_call (.bool false) (fun _ _ j _ => r_call (args := [.agg #[.int .u64 p9.i.t, .int .i64 p9.i.s, .int .u64 p9.i.q], .agg #[.int .u64 i.t, .int .i64 i.s, .int .u64 i.q]]) (enters_of Try.func12 (by kernel_rfl) rfl) (j _ _ rfl) ((cons2 (j _ _ rfl) (cons2 (j _ _ rfl) rfl))) rfl) (fun w _ => (less_c p9.i i w).mono fun _ _ h => ⟨h.1.trans (congrArg Ending.returned (bool_as (eq_false_of_ne_true hl9))), h.2⟩) rfl rfl rfl (w_n rfl) ?_
   refine TL_seq ?_
   refine T_cond_f rfl ?_
   refine T_skip' ?_
   refine p_blk_n ?_
   refine p_seq ?_
   refine T_region ?_
   refine TL_v (iN (k + 1)) (s_op r_add rfl rfl (iw (by omega) (by omega) (by omega))) rfl rfl ?_
   refine TL_v (iN (k + 1)) (s_mv rfl) rfl rfl ?_
   refine TL_nil ?_
   exact p_at (k + 1, c) ⟨⟨by omega, by rw [ahead_step (ids_at hp9), if_neg hl9, Nat.add_zero, ← hc]⟩, by dsimp only; omega⟩ (sc4 rfl rfl rfl rfl (sc rfl (sc rfl sub_nil))) (sc rfl sub_nil)
 ·replace h1 := of_decide_eq_false h1
  refine T_exit' ?_
  refine p_then_x ?_
  refine p_then_x ?_
  refine p_blk_x ?_
  refine p_seq ?_
  refine T_seq (T_region ?_)
  refine TL_v (iN c) (s_mv rfl) rfl rfl ?_
  refine TL_v (iN c) (s_as rfl) rfl rfl ?_
  refine TL_seq ?_
  refine T_ret' ?_
  refine ret_of rfl (iN c) (fun tmps w hk hm => res1 rfl (res_tmp (hk 4 _ rfl))) (fun w hm => ?_)
  have hke : k = ms.length := by omega
  subst hke
  rw [← ids_len, List.take_length] at hc
  exact ⟨by rw [hc], hm.ext⟩

theorem newOk_at {w w' : World} {r s : Res} (i j : Nat) (hij : ¬ i = j) (h : NewOk w w' [(0, r), (1, s)]) : NewOk w w' [(i, r), (j, s)] :=
 newOk2 i j (h.1 0 _ rfl) (h.1 1 _ rfl) (h.2 0 1 _ _ rfl rfl (by decide))

theorem drop_ok (ms : List Mk) (a : Option Addr) (cap : Nat) (i : Tid) (w : World) (hv : SliceAt w a cap 4 Mk.cells ms) (hcap : cap ≤ Go.maxLen) (hmk : marksB ms = true) : Calls Try.prog 27 #[.slice a ms.length cap, i.v] w fun e w' => ∃ a' cap', e = .returned (.slice a' (ms.take (aheadL (idsM ms) i)).length cap') ∧ Below w.heap.size w w' ∧ w'.ownsRow w.heap.size 36 4 (.slice a' (ms.take (aheadL (idsM ms) i)).length cap') (ms.take (aheadL (idsM ms) i)).length ((ms.take (aheadL (idsM ms) i)).flatMap Mk.cells) := by
 have hvl := hv.1
 unfold Go.maxLen at hcap
 have hm6 := (marksB_iff.1 hmk).2.2
 have hah := ahead_le (idsM ms) i
 rw [ids_len] at hah
 refine calls_of_T (l := [.slice a ms.length cap, .agg #[.int .u64 i.t, .int .i64 i.s, .int .u64 i.q]]) 22 Try.func27 rfl rfl rfl ?_
 show T _ _ _ [(0, .slice a ms.length cap), (1, .agg #[.int .u64 i.t, .int .i64 i.s, .int .u64 i.q])] []
 refine T_seq (T_region ?_)
 refine TL_new 1 (.cells #[.int .u64 i.t, .int .i64 i.s, .int .u64 i.q] 32) (fun B => pt B 0) (fun _ _ j _ => r_box (j _ _ rfl) rfl) rfl rfl rfl (w_n rfl) ?_
 intro B1
 refine TL_v (.slice none 0 0) (s_as rfl) rfl rfl ?_
 refine TL_seq ?_
 refine T_seq ?_
 refine T_seq (T_region ?_)
 refine TL_v (.slice a ms.length cap) (s_mv rfl) rfl rfl ?_
 refine TL_call (.int .i64 0) (fun _ _ j _ => r_call (args := [.slice a ms.length cap]) (enters_of Try.func14 (by kernel_rfl) rfl) (j _ _ rfl) ((cons2 (j _ _ rfl) rfl)) rfl) (fun w hm => (check_c ms a cap w (hv.keep hm.ext) hcap).mono fun _ _ h => ⟨h.1.trans (congrArg Ending.returned (int_as (if_pos hmk))), h.2⟩) rfl rfl rfl (w_n rfl) ?_
 refine TL_v (.bool false) (s_op r_neq rfl rfl (by rfl)) rfl rfl ?_
 refine TL_seq ?_
 refine T_cond_f rfl ?_
 refine T_skip' ?_
 refine p_seq ?_
 refine T_seq (T_region ?_)
 refine TL_v (.slice a ms.length cap) (s_mv rfl) rfl rfl ?_
 refine TL_v (.agg #[.slice a ms.length cap]) (fun _ _ j _ => r_build (vs := [(0, .slice a ms.length cap)]) (by kernel_rfl) (cons2 (pair2 (j _ _ rfl)) rfl)) rfl rfl ?_
 refine TL_new 2 (.cells #[.slice a ms.length cap] 80) (fun B => pt B 0) (fun _ _ j _ => r_box (j _ _ rfl) rfl) rfl rfl rfl (w_n rfl) ?_
 intro B2
 refine TL_v (.agg #[.int .u64 i.t, .int .i64 i.s, .int .u64 i.q]) (s_la ag32 sz32 rfl 1 rfl rfl rfl) rfl rfl ?_
 refine TL_call (iN (aheadL (idsM ms) i)) (fun _ _ j _ => r_call (args := [pt B2 0, .agg #[.int .u64 i.t, .int .i64 i.s, .int .u64 i.q]]) (enters_of Try.func59 (by kernel_rfl) rfl) (j _ _ rfl) ((cons2 (j _ _ rfl) (cons2 (j _ _ rfl) rfl))) rfl) (fun w hm => ahead_c ms a cap i B2 w (hv.keep hm.ext) hcap (hm.at 2 rfl)) rfl rfl rfl (w_n rfl) ?_
 refine TL_v (iN (aheadL (idsM ms) i)) (s_as rfl) rfl rfl ?_
 refine TL_seq ?_
 refine T_seq (T_region ?_)
 refine TL_v (.slice a ms.length cap) (s_mv rfl) rfl rfl ?_
 refine TL_v (iN (aheadL (idsM ms) i)) (s_mv rfl) rfl rfl ?_
 refine TL_v (iN (aheadL (idsM ms) i)) (s_mv rfl) rfl rfl ?_
 obtain ⟨l3, hl3, hn3⟩ : ∃ lz, lz = ms.take (aheadL (idsM ms) i) ∧ lz.length = aheadL (idsM ms) i := ⟨_, rfl, by rw [List.length_take]; omega⟩
 have hs3 := SliceAt.front hv (n := aheadL (idsM ms) i) (m := aheadL (idsM ms) i) (by omega) (by omega) (by omega)
 rw [← hl3] at hs3
 refine TL_v (.slice a l3.length (aheadL (idsM ms) i)) (fun ρ _ j _ => r_as (r_sliceO sl25 sz36 (j _ _ rfl) (bd_some (n := aheadL (idsM ms) i) (j _ _ rfl)) (bd_some (n := aheadL (idsM ms) i) (j _ _ rfl)) (bd_none ρ _) (by simp) (by omega) (by omega) (by omega)) (by rw [hn3]; exact slo_zero _ _ _ _)) rfl rfl ?_
 refine TL_callN (fun (_ : Nat × Option Addr) => True) (fun (qo4, ao4) => pt qo4 0) (fun (qo4, ao4) => [(956, .blk qo4 (.cells #[.slice ao4 ((l3).length) ((l3).length)] 80)), (957, .row (.slice ao4 ((l3).length) ((l3).length)) 36 4 ((l3).length) ((l3).flatMap Mk.cells))]) (fun _ _ j _ => r_call (args := [.slice a l3.length (aheadL (idsM ms) i)]) (enters_of Try.func53 (by kernel_rfl) rfl) (j _ _ rfl) ((cons2 (j _ _ rfl) rfl)) rfl) (fun w hm => (of_c l3 a (aheadL (idsM ms) i) w (hs3.keep hm.ext) (by unfold Go.maxLen; omega) (by omega)).mono fun e w' ⟨q, a', he, hb, hn⟩ => ⟨(q, a'), trivial, he, hb, newOk_at 956 957 (by decide) hn⟩) rfl rfl rfl (w_n rfl) ?_
 rintro ⟨qo4, ao4⟩ -
 refine TL_v (pt qo4 0) (s_nc rfl rfl) rfl rfl ?_
 refine TL_v (pt qo4 0) (s_fa fl80_0 sz25 rfl) rfl rfl ?_
 refine TL_v (.slice ao4 ((l3).length) ((l3).length)) (s_ld ag25 rfl 956 rfl rfl) rfl rfl ?_
 refine TL_v (.slice ao4 ((l3).length) ((l3).length)) (s_as rfl) rfl rfl ?_
 refine TL_seq ?_
 refine T_ret' ?_
 refine ret_of rfl (.slice ao4 ((l3).length) ((l3).length)) (fun tmps w hk hm => res1 rfl (res_tmp (hk 4 _ rfl))) (fun w hm => ?_)
 have e9 : l3 = ms.take (aheadL (idsM ms) i) := hl3
 have hrow := hm.row 957 rfl
 rw [e9] at hrow
 exact ⟨_, _, congrArg (fun z : List Mk => Ending.returned (.slice _ z.length z.length)) e9, hm.ext, hrow⟩

def belM (ms : List Mk) (i : Tid) : Mk := ((ms.take (aheadL (idsM ms) i))[(ms.take (aheadL (idsM ms) i)).length - 1]?).getD mk0
theorem bel_some {ms : List Mk} {i : Tid} {y : Mk} (h : (ms.take (aheadL (idsM ms) i))[(ms.take (aheadL (idsM ms) i)).length - 1]? = some y) : belM ms i = y := by unfold belM; rw [h]; rfl
theorem bel_zero {ms : List Mk} {i : Tid} (h : (ms.take (aheadL (idsM ms) i)).length = 0) : belM ms i = mk0 := by unfold belM; rw [List.eq_nil_of_length_eq_zero h]; rfl
theorem bel_none {ms : List Mk} {i : Tid} (h : (ms.take (aheadL (idsM ms) i)).length = 0) : (Ending.returned (.tuple #[(belM ms i).v, .bool (decide (0 < (ms.take (aheadL (idsM ms) i)).length))]) : Ending) = .returned (.tuple #[mk0.v, .bool false]) := by rw [bel_zero h, h]; rfl
theorem dec_pos {p : Prop} [Decidable p] (h : p) : decide p = true := decide_eq_true h

theorem below_ok (ms : List Mk) (a : Option Addr) (cap : Nat) (i : Tid) (w : World) (hv : SliceAt w a cap 4 Mk.cells ms) (hcap : cap ≤ Go.maxLen) (hmk : marksB ms = true) : Calls Try.prog 26 #[.slice a ms.length cap, i.v] w fun e w' => e = .returned (.tuple #[(belM ms i).v, .bool (decide (0 < (ms.take (aheadL (idsM ms) i)).length))]) ∧ Below w.heap.size w w' := by
 have hvl := hv.1
 unfold Go.maxLen at hcap
 have hm6 := (marksB_iff.1 hmk).2.2
 have htl : (ms.take (aheadL (idsM ms) i)).length ≤ 6 := by rw [List.length_take]; omega
 refine calls_of_T (l := [.slice a ms.length cap, .agg #[.int .u64 i.t, .int .i64 i.s, .int .u64 i.q]]) 20 Try.func26 rfl rfl rfl ?_
 show T _ _ _ [(0, .slice a ms.length cap), (1, .agg #[.int .u64 i.t, .int .i64 i.s, .int .u64 i.q])] []
 refine T_seq (T_region ?_)
 refine TL_new 1 (.cells #[.int .u64 i.t, .int .i64 i.s, .int .u64 i.q] 32) (fun B => pt B 0) (fun _ _ j _ => r_box (j _ _ rfl) rfl) rfl rfl rfl (w_n rfl) ?_
 intro B1
 refine TL_new 2 (.cells #[.int .u64 0, .int .i64 0, .int .u64 0, .pointer none] 36) (fun B => pt B 0) (fun _ _ _ _ => r_alloc (v := .agg #[.int .u64 0, .int .i64 0, .int .u64 0, .pointer none]) (by kernel_rfl) rfl) rfl rfl rfl (w_n rfl) ?_
 intro B2
 refine TL_v (.bool false) (s_as rfl) rfl rfl ?_
 refine TL_seq ?_
 refine T_seq (T_region ?_)
 refine TL_v (.slice a ms.length cap) (s_mv rfl) rfl rfl ?_
 refine TL_v (.agg #[.int .u64 i.t, .int .i64 i.s, .int .u64 i.q]) (s_la ag32 sz32 rfl 1 rfl rfl rfl) rfl rfl ?_
 refine TL_callN (fun (_ : Option Addr × Nat) => True) (fun (ar3, cr3) => .slice ar3 ((ms.take (aheadL (idsM ms) i)).length) cr3) (fun (ar3, cr3) => [(3, .row (.slice ar3 ((ms.take (aheadL (idsM ms) i)).length) cr3) 36 4 ((ms.take (aheadL (idsM ms) i)).length) ((ms.take (aheadL (idsM ms) i)).flatMap Mk.cells))]) (fun _ _ j _ => r_call (args := [.slice a ms.length cap, .agg #[.int .u64 i.t, .int .i64 i.s, .int .u64 i.q]]) (enters_of Try.func27 (by kernel_rfl) rfl) (j _ _ rfl) ((cons2 (j _ _ rfl) (cons2 (j _ _ rfl) rfl))) rfl) (fun w hm => (drop_ok ms a cap i w (hv.keep hm.ext) hcap hmk).mono fun e w' ⟨a', cap', he, hb, hr⟩ => ⟨(a', cap'), trivial, he, hb, newOk1 3 hr⟩) rfl rfl rfl (w_n rfl) ?_
 rintro ⟨ar3, cr3⟩ -
 refine TL_v (.slice ar3 ((ms.take (aheadL (idsM ms) i)).length) cr3) (s_as rfl) rfl rfl ?_
 refine TL_seq ?_
 refine T_seq ?_
 by_cases hz : (((ms.take (aheadL (idsM ms) i)).length : Nat) : Int) = 0
 ·skip
  refine T_seq (T_region ?_)
  refine TL_v (.slice ar3 ((ms.take (aheadL (idsM ms) i)).length) cr3) (s_mv rfl) rfl rfl ?_
  refine TL_v (iN ((ms.take (aheadL (idsM ms) i)).length)) (fun _ _ j _ => r_len sl25 (j _ _ rfl)) rfl rfl ?_
  refine TL_v (.bool true) (s_op r_eql rfl rfl (bool_as (decide_eq_true hz))) rfl rfl ?_
  refine TL_seq ?_
  refine T_cond_t rfl ?_
  refine T_seq (T_region ?_)
  refine TL_v (.agg #[.int .u64 0, .int .i64 0, .int .u64 0, .pointer none]) (fun _ _ _ _ => r_build (vs := []) (by kernel_rfl) rfl) rfl rfl ?_
  refine TL_store 2 (.cells #[.int .u64 0, .int .i64 0, .int .u64 0, .pointer none] 36) rfl (s_st sz36 rfl rfl 2 rfl rfl rfl rfl rfl) rfl rfl (w_n rfl) ?_
  refine TL_v (.bool false) (s_as rfl) rfl rfl ?_
  refine TL_seq ?_
  refine T_ret' ?_
  refine p_then_r ?_
  refine ret_of rfl (.tuple #[.agg #[.int .u64 0, .int .i64 0, .int .u64 0, .pointer none], .bool false]) (fun tmps w hk hm => res2 rfl (res_cell (hk 4 _ rfl) (run_loadVar_agg ag36 sz36 (hm.at 2 rfl) (Nat.le_of_ble_eq_true rfl) rfl)) (res_tmp (hk 5 _ rfl))) (fun w hm => ?_)
  exact ⟨by rw [bel_none (by omega)]; rfl, hm.ext⟩
 ·skip
  obtain ⟨y9, hy9⟩ : ∃ x, (ms.take (aheadL (idsM ms) i))[(ms.take (aheadL (idsM ms) i)).length - 1]? = some x := ⟨_, List.getElem?_eq_getElem (by omega)⟩
  refine T_row 3 rfl (by omega) (fun g4 ha4 => ?_)
  subst ha4
  refine T_rowcap 3 rfl (fun hrc4 => ?_)
  refine T_seq (T_region ?_)
  refine TL_v (.slice (some ⟨g4, 0, none⟩) ((ms.take (aheadL (idsM ms) i)).length) cr3) (s_mv rfl) rfl rfl ?_
  refine TL_v (iN ((ms.take (aheadL (idsM ms) i)).length)) (fun _ _ j _ => r_len sl25 (j _ _ rfl)) rfl rfl ?_
  refine TL_v (.bool false) (s_op r_eql rfl rfl (bool_as (decide_eq_false hz))) rfl rfl ?_
  refine TL_seq ?_
  refine T_cond_f rfl ?_
  refine T_skip' ?_
  refine p_seq ?_
  refine T_seq (T_region ?_)
  refine TL_v (.slice (some ⟨g4, 0, none⟩) ((ms.take (aheadL (idsM ms) i)).length) cr3) (s_mv rfl) rfl rfl ?_
  refine TL_v (.slice (some ⟨g4, 0, none⟩) ((ms.take (aheadL (idsM ms) i)).length) cr3) (s_mv rfl) rfl rfl ?_
  refine TL_v (iN ((ms.take (aheadL (idsM ms) i)).length)) (fun _ _ j _ => r_len sl25 (j _ _ rfl)) rfl rfl ?_
  refine TL_v (.int .i64 ((((ms.take (aheadL (idsM ms) i)).length) - 1 : Nat) : Int)) (s_op r_sub rfl rfl (iw (by omega) (by omega) (by omega))) rfl rfl ?_
  refine TL_v (pt g4 (0 + (((ms.take (aheadL (idsM ms) i)).length) - 1) * 4)) (fun _ _ j _ => r_indexAddrS (i := ((ms.take (aheadL (idsM ms) i)).length) - 1) sl25 sz36 (j _ _ rfl) (j _ _ rfl) (by omega)) rfl rfl ?_
  refine TL_v (.agg #[.int .u64 y9.i.t, .int .i64 y9.i.s, .int .u64 y9.i.q, .pointer y9.ptr]) (fun _ _ j hm => r_loadOwn (f := Mk.cells) (u := y9) (l := (ms.take (aheadL (idsM ms) i))) ag36 sz36 (j _ _ rfl) (hm.row 3 rfl) rfl rfl Mk.cells_len hy9) rfl rfl ?_
  refine TL_store 2 (.cells #[.int .u64 y9.i.t, .int .i64 y9.i.s, .int .u64 y9.i.q, .pointer y9.ptr] 36) rfl (s_st sz36 rfl rfl 2 rfl rfl rfl rfl rfl) rfl rfl (w_n rfl) ?_
  refine TL_v (.bool true) (s_as rfl) rfl rfl ?_
  refine TL_seq ?_
  refine T_ret' ?_
  refine ret_of rfl (.tuple #[.agg #[.int .u64 y9.i.t, .int .i64 y9.i.s, .int .u64 y9.i.q, .pointer y9.ptr], .bool true]) (fun tmps w hk hm => res2 rfl (res_cell (hk 4 _ rfl) (run_loadVar_agg ag36 sz36 (hm.at 2 rfl) (Nat.le_of_ble_eq_true rfl) rfl)) (res_tmp (hk 5 _ rfl))) (fun w hm => ?_)
  exact ⟨by rw [bel_some hy9, dec_pos (by omega)], hm.ext⟩

theorem fold_ok (ms : List Mk) (a : Option Addr) (cap : Nat) (t : Int) (w : World) (hv : SliceAt w a cap 4 Mk.cells ms) (hcap : cap ≤ Go.maxLen) (hmk : marksB ms = true) : Calls Try.prog 28 #[.slice a ms.length cap, .int .u64 t] w fun e w' => ∃ a' cap', e = .returned (.slice a' (ms.filter (fun x : Mk => decide (t < x.i.t))).length cap') ∧ Below w.heap.size w w' ∧ w'.ownsRow w.heap.size 36 4 (.slice a' (ms.filter (fun x : Mk => decide (t < x.i.t))).length cap') (ms.filter (fun x : Mk => decide (t < x.i.t))).length ((ms.filter (fun x : Mk => decide (t < x.i.t))).flatMap Mk.cells) := by
 have hvl := hv.1
 unfold Go.maxLen at hcap
 have hm6 := (marksB_iff.1 hmk).2.2
 refine calls_of_T (l := [.slice a ms.length cap, .int .u64 t]) 11 Try.func28 rfl rfl rfl ?_
 show T _ _ _ [(0, .slice a ms.length cap), (1, .int .u64 t)] []
 refine T_seq (T_region ?_)
 refine TL_new 1 (.cells #[.int .u64 t] 30) (fun B => pt B 0) (fun _ _ j _ => r_box (j _ _ rfl) rfl) rfl rfl rfl (w_n rfl) ?_
 intro B1
 refine TL_v (.slice none 0 0) (s_as rfl) rfl rfl ?_
 refine TL_seq ?_
 refine T_seq ?_
 refine T_seq (T_region ?_)
 refine TL_v (.slice a ms.length cap) (s_mv rfl) rfl rfl ?_
 refine TL_call (.int .i64 0) (fun _ _ j _ => r_call (args := [.slice a ms.length cap]) (enters_of Try.func14 (by kernel_rfl) rfl) (j _ _ rfl) ((cons2 (j _ _ rfl) rfl)) rfl) (fun w hm => (check_c ms a cap w (hv.keep hm.ext) hcap).mono fun _ _ h => ⟨h.1.trans (congrArg Ending.returned (int_as (if_pos hmk))), h.2⟩) rfl rfl rfl (w_n rfl) ?_
 refine TL_v (.bool false) (s_op r_neq rfl rfl (by rfl)) rfl rfl ?_
 refine TL_seq ?_
 refine T_cond_f rfl ?_
 refine T_skip' ?_
 refine p_seq ?_
 refine T_seq (T_region ?_)
 refine TL_v (.slice a ms.length cap) (s_mv rfl) rfl rfl ?_
 refine TL_v (.func (.func 61) #[] #[pt B1 0]) (fun _ _ j _ => r_makeFunc (by simp) (map_arr (cons2 (j _ _ rfl) rfl))) rfl rfl ?_
 refine TL_callN (fun (_ : Option Addr × Nat) => True) (fun (ar2, cr2) => .slice ar2 ((ms.filter (fun x : Mk => decide (t < x.i.t))).length) cr2) (fun (ar2, cr2) => [(2, .row (.slice ar2 ((ms.filter (fun x : Mk => decide (t < x.i.t))).length) cr2) 36 4 ((ms.filter (fun x : Mk => decide (t < x.i.t))).length) ((ms.filter (fun x : Mk => decide (t < x.i.t))).flatMap Mk.cells))]) (fun _ _ j _ => r_call (args := [.slice a ms.length cap, .func (.func 61) #[] #[pt B1 0]]) (enters_of Try.func60 (by kernel_rfl) rfl) (j _ _ rfl) ((cons2 (j _ _ rfl) (cons2 (j _ _ rfl) rfl))) rfl) (fun w hm => (msift_c ms a cap w (hv.keep hm.ext) hcap 61 #[pt B1 0] (enters_of Try.func61 (by kernel_rfl) rfl) (fun x : Mk => decide (t < x.i.t)) (fun w2 hb2 x hx => fold1_c x B1 t w2 (kept hb2 (hm.at 1 rfl))) (by omega)).mono fun e w' ⟨a', cap', he, hb, hr⟩ => ⟨(a', cap'), trivial, he, hb, newOk1 2 hr⟩) rfl rfl rfl (w_n rfl) ?_
 rintro ⟨ar2, cr2⟩ -
 refine TL_v (.slice ar2 ((ms.filter (fun x : Mk => decide (t < x.i.t))).length) cr2) (s_as rfl) rfl rfl ?_
 refine TL_seq ?_
 refine T_ret' ?_
 refine ret_of rfl (.slice ar2 ((ms.filter (fun x : Mk => decide (t < x.i.t))).length) cr2) (fun tmps w hk hm => res1 rfl (res_tmp (hk 4 _ rfl))) (fun w hm => ?_)
 exact ⟨ar2, cr2, rfl, hm.ext, hm.row 2 rfl⟩

theorem due_ok (n : Nat) (ms : List Mk) (a : Option Addr) (cap : Nat) (l : List Tid) (b : Option Addr) (capb : Nat) (w : World) (hv : SliceAt w a cap 4 Mk.cells ms) (hcap : cap ≤ Go.maxLen) (hu : SliceAt w b capb 3 Tid.cells l) (hcapb : capb ≤ Go.maxLen) (hlen : l.length ≤ 100000) (hmk : marksB ms = true) (hn1 : 1 ≤ n) (hn63 : n ≤ 9223372036854775807) (hup : upB l = true) (hok : l.all okI = true) : Calls Try.prog 11 #[.slice a ms.length cap, .slice b l.length capb, .int .i64 (n : Int)] w fun e w' => ∃ a' cap', e = .returned (.slice a' (dueI (idsM ms) l n).length cap') ∧ Below w.heap.size w w' ∧ w'.ownsRow w.heap.size 32 3 (.slice a' (dueI (idsM ms) l n).length cap') (dueI (idsM ms) l n).length ((dueI (idsM ms) l n).flatMap Tid.cells) := by
 have hvl := hv.1
 unfold Go.maxLen at hcap
 have hm6 := (marksB_iff.1 hmk).2.2
 have hul := hu.1
 unfold Go.maxLen at hcapb
 have han : ¬ (l.any (fun x : Tid => !okI x)) = true := fun e => by have := all_not okI l; rw [hok, e] at this; cases this
 have hbl : (l.filter (behI (idsM ms))).length ≤ l.length := List.length_filter_le _ _
 refine calls_of_T (l := [.slice a ms.length cap, .slice b l.length capb, iN n]) 50 Try.func11 rfl rfl rfl ?_
 show T _ _ _ [(0, .slice a ms.length cap), (1, .slice b l.length capb), (2, iN n)] []
 refine T_seq (T_region ?_)
 refine TL_new 904 (.cells #[.slice a ms.length cap] 25) (fun B => pt B 0) (fun _ _ j _ => r_box (j _ _ rfl) rfl) rfl rfl rfl (w_n rfl) ?_
 intro B1
 refine TL_v (.slice none 0 0) (s_as rfl) rfl rfl ?_
 refine TL_seq ?_
 refine T_seq (T_region ?_)
 refine TL_v (.func (.func 40) #[] #[]) (s_as rfl) rfl rfl ?_
 refine TL_seq ?_
 refine T_seq ?_
 refine T_seq (T_region ?_)
 refine TL_v (.slice a ms.length cap) (s_ld ag25 rfl 904 rfl rfl) rfl rfl ?_
 refine TL_call (.int .i64 0) (fun _ _ j _ => r_call (args := [.slice a ms.length cap]) (enters_of Try.func14 (by kernel_rfl) rfl) (j _ _ rfl) ((cons2 (j _ _ rfl) rfl)) rfl) (fun w hm => (check_c ms a cap w (hv.keep hm.ext) hcap).mono fun _ _ h => ⟨h.1.trans (congrArg Ending.returned (int_as (if_pos hmk))), h.2⟩) rfl rfl rfl (w_n rfl) ?_
 refine TL_v (.bool false) (s_op r_neq rfl rfl (by rfl)) rfl rfl ?_
 refine TL_v (.bool false) (s_mv rfl) rfl rfl ?_
 refine TL_q (iN n) (s_mv rfl) rfl rfl rfl (want_y 15 rfl rfl rfl) ?_
 refine TL_q (.bool false) (s_op r_lss rfl rfl (bool_as (decide_eq_false (by omega)))) rfl rfl rfl (want_y 15 rfl rfl rfl) ?_
 refine TL_v (.bool false) (s_pf rfl rfl) rfl rfl ?_
 refine TL_v (.bool false) (s_mv rfl) rfl rfl ?_
 refine TL_q (.slice b l.length capb) (s_mv rfl) rfl rfl rfl (want_y 19 rfl rfl rfl) ?_
 refine TL_call (.bool true) (fun _ _ j _ => r_call (args := [.slice b l.length capb]) (enters_of Try.func15 (by kernel_rfl) rfl) (j _ _ rfl) ((cons2 (j _ _ rfl) rfl)) rfl) (fun w hm => (rising_c l b capb w (hu.keep hm.ext) hcapb).mono fun _ _ h => ⟨h.1.trans (congrArg Ending.returned (bool_as hup)), h.2⟩) rfl rfl rfl (want_y 19 rfl rfl rfl) ?_
 refine TL_q (.bool false) (fun _ _ j _ => r_not (b := true) (j _ _ rfl)) rfl rfl rfl (want_y 19 rfl rfl rfl) ?_
 refine TL_v (.bool false) (s_pf rfl rfl) rfl rfl ?_
 refine TL_v (.bool false) (s_mv rfl) rfl rfl ?_
 refine TL_q (.slice b l.length capb) (s_mv rfl) rfl rfl rfl (want_y 24 rfl rfl rfl) ?_
 refine TL_q (.func (.func 40) #[] #[]) (s_mv rfl) rfl rfl rfl (want_y 24 rfl rfl rfl) ?_
 refine TL_call (.bool false) (fun _ _ j _ => r_call (args := [.slice b l.length capb, .func (.func 40) #[] #[]]) (enters_of Try.func41 (by kernel_rfl) rfl) (j _ _ rfl) ((cons2 (j _ _ rfl) (cons2 (j _ _ rfl) rfl))) rfl) (fun w hm => (icon_c l b capb w (hu.keep hm.ext) hcapb 40 #[] (enters_of Try.func40 (by kernel_rfl) rfl) (fun x : Tid => !okI x) (fun w2 hb2 x hx => due1_c x w2)).mono fun _ _ h => ⟨h.1.trans (congrArg Ending.returned (bool_as (eq_false_of_ne_true han))), h.2⟩) rfl rfl rfl (want_y 24 rfl rfl rfl) ?_
 refine TL_v (.bool false) (s_pf rfl rfl) rfl rfl ?_
 refine TL_seq ?_
 refine T_cond_f rfl ?_
 refine T_skip' ?_
 refine p_seq ?_
 refine T_seq (T_region ?_)
 refine TL_v (.slice b l.length capb) (s_mv rfl) rfl rfl ?_
 refine TL_v (.func (.func 43) #[] #[pt B1 0]) (fun _ _ j _ => r_makeFunc (by simp) (map_arr (cons2 (j _ _ rfl) rfl))) rfl rfl ?_
 refine TL_callN (fun (_ : Option Addr × Nat) => True) (fun (ar2, cr2) => .slice ar2 ((l.filter (behI (idsM ms))).length) cr2) (fun (ar2, cr2) => [(1, .row (.slice ar2 ((l.filter (behI (idsM ms))).length) cr2) 32 3 ((l.filter (behI (idsM ms))).length) ((l.filter (behI (idsM ms))).flatMap Tid.cells))]) (fun _ _ j _ => r_call (args := [.slice b l.length capb, .func (.func 43) #[] #[pt B1 0]]) (enters_of Try.func42 (by kernel_rfl) rfl) (j _ _ rfl) ((cons2 (j _ _ rfl) (cons2 (j _ _ rfl) rfl))) rfl) (fun w hm => (isift_c l b capb w (hu.keep hm.ext) hcapb 43 #[pt B1 0] (enters_of Try.func43 (by kernel_rfl) rfl) (behI (idsM ms)) (fun w2 hb2 x hx => due2_c x B1 ms a cap w2 (SliceAt.keep (hv.keep hm.ext) hb2) hcap (kept hb2 (hm.at 904 rfl))) (by omega)).mono fun e w' ⟨a', cap', he, hb, hr⟩ => ⟨(a', cap'), trivial, he, hb, newOk1 1 hr⟩) rfl rfl rfl (w_n rfl) ?_
 rintro ⟨ar2, cr2⟩ -
 refine TL_v (.slice ar2 ((l.filter (behI (idsM ms))).length) cr2) (s_as rfl) rfl rfl ?_
 refine TL_seq ?_
 refine T_seq (T_region ?_)
 refine TL_v (.slice none 0 0) (s_as rfl) rfl rfl ?_
 refine TL_seq ?_
 refine T_seq ?_
 refine T_mem (_ :: _) (fun _ hm => hm.nilRow 950 32 3) ?_
 refine T_seq (T_region ?_)
 refine TL_v (.slice ar2 ((l.filter (behI (idsM ms))).length) cr2) (s_mv rfl) rfl rfl ?_
 refine TL_v (iN ((l.filter (behI (idsM ms))).length)) (fun _ _ j _ => r_len sl22 (j _ _ rfl)) rfl rfl ?_
 refine TL_v (.int .i64 0) (s_mv rfl) rfl rfl ?_
 refine TL_seq ?_
 refine T_block ?_
 refine T_loop (ι := Nat × List Tid × Option Addr × Nat) (fun (z : Nat × List Tid × Option Addr × Nat) => match z with | (k, os, oa, oc) => k ≤ (l.filter (behI (idsM ms))).length ∧ os = evN (l.filter (behI (idsM ms))) n k) (fun (z : Nat × List Tid × Option Addr × Nat) => match z with | (k, os, oa, oc) => [(2, iN n), (6, .slice none 0 0), (32, .slice ar2 ((l.filter (behI (idsM ms))).length) cr2), (33, iN ((l.filter (behI (idsM ms))).length)), (34, iN k), (9, .slice oa os.length oc)]) (fun (z : Nat × List Tid × Option Addr × Nat) => match z with | (k, os, oa, oc) => [(1, .row (.slice ar2 ((l.filter (behI (idsM ms))).length) cr2) 32 3 ((l.filter (behI (idsM ms))).length) ((l.filter (behI (idsM ms))).flatMap Tid.cells)), (904, .blk B1 (.cells #[.slice a ms.length cap] 25)), (950, .row (.slice oa os.length oc) 32 3 os.length (os.flatMap Tid.cells))]) (fun (z : Nat × List Tid × Option Addr × Nat) => match z with | (k, os, oa, oc) => (l.filter (behI (idsM ms))).length - k) (0, [], none, 0) ⟨Nat.zero_le _, rfl⟩ (sc4 rfl rfl rfl rfl (sc rfl (sc rfl sub_nil))) (sc rfl (sc rfl (sc rfl sub_nil))) ?_
 rintro ⟨k, os, oa, oc⟩ hp
 obtain ⟨hk, hos⟩ := hp
 have hol : os.length ≤ k := by rw [hos]; exact ev_len _ _ _
 show T _ _ _ [(2, iN n), (6, .slice none 0 0), (32, .slice ar2 ((l.filter (behI (idsM ms))).length) cr2), (33, iN ((l.filter (behI (idsM ms))).length)), (34, iN k), (9, .slice oa os.length oc)] [(1, .row (.slice ar2 ((l.filter (behI (idsM ms))).length) cr2) 32 3 ((l.filter (behI (idsM ms))).length) ((l.filter (behI (idsM ms))).flatMap Tid.cells)), (904, .blk B1 (.cells #[.slice a ms.length cap] 25)), (950, .row (.slice oa os.length oc) 32 3 os.length (os.flatMap Tid.cells))]
 refine T_seq (T_region ?_)
 refine TL_v (.bool (decide (((k : Nat) : Int) < (((l.filter (behI (idsM ms))).length : Nat) : Int)))) (fun _ _ j _ => r_lss (j _ _ rfl) (j _ _ rfl)) rfl rfl ?_
 refine TL_seq ?_
 refine T_seq ?_
 refine T_cond rfl (fun h1 => ?_) (fun h1 => ?_)
 ·replace h1 := of_decide_eq_true h1
  refine T_skip' ?_
  refine p_seq ?_
  refine T_seq ?_
  refine T_block ?_
  obtain ⟨p9, hp9⟩ : ∃ x, (l.filter (behI (idsM ms)))[k]? = some x := ⟨_, List.getElem?_eq_getElem (by omega)⟩
  refine T_row 1 rfl (by omega) (fun g3 ha3 => ?_)
  subst ha3
  refine T_rowcap 1 rfl (fun hrc3 => ?_)
  refine T_seq (T_region ?_)
  refine TL_v (iN k) (s_mv rfl) rfl rfl ?_
  refine TL_v (pt g3 (0 + k * 3)) (fun _ _ j _ => r_indexAddrS (i := k) sl22 sz32 (j _ _ rfl) (j _ _ rfl) (by omega)) rfl rfl ?_
  refine TL_v (.agg #[.int .u64 p9.t, .int .i64 p9.s, .int .u64 p9.q]) (fun _ _ j hm => r_loadOwn (f := Tid.cells) (u := p9) (l := (l.filter (behI (idsM ms)))) ag32 sz32 (j _ _ rfl) (hm.row 1 rfl) rfl rfl Tid.cells_len hp9) rfl rfl ?_
  refine TL_new 2 (.cells #[.int .u64 0, .int .i64 0, .int .u64 0] 32) (fun B => pt B 0) (fun _ _ _ _ => r_alloc (v := .agg #[.int .u64 0, .int .i64 0, .int .u64 0]) (by kernel_rfl) rfl) rfl rfl rfl (w_n rfl) ?_
  intro B4
  refine TL_v (iN k) (s_as rfl) rfl rfl ?_
  refine TL_store 2 (.cells #[.int .u64 p9.t, .int .i64 p9.s, .int .u64 p9.q] 32) rfl (s_st sz32 rfl rfl 2 rfl rfl rfl rfl rfl) rfl rfl (w_n rfl) ?_
  refine TL_seq ?_
  by_cases hz : (((k + 1) % n : Nat) : Int) = 0
  ·skip
   refine T_seq (T_region ?_)
   refine TL_v (iN k) (s_mv rfl) rfl rfl ?_
   refine TL_v (iN (k + 1)) (s_op r_add rfl rfl (iw (by omega) (by omega) (by omega))) rfl rfl ?_
   refine TL_v (iN n) (s_mv rfl) rfl rfl ?_
   refine TL_v (iN ((k + 1) % n)) (fun _ _ j _ => r_as (r_rem (j _ _ rfl) (j _ _ rfl) (by omega)) (int_as (Int.ofNat_tmod _ _).symm)) rfl rfl ?_
   refine TL_v (.bool true) (s_op r_eql rfl rfl (bool_as (decide_eq_true hz))) rfl rfl ?_
   refine TL_seq ?_
   refine T_cond_t rfl ?_
   refine T_region ?_
   refine TL_v (.slice oa os.length oc) (s_mv rfl) rfl rfl ?_
   refine TL_v (.agg #[.int .u64 p9.t, .int .i64 p9.s, .int .u64 p9.q]) (s_la ag32 sz32 rfl 2 rfl rfl rfl) rfl rfl ?_
   refine TL_new 3 (.cells #[.int .u64 p9.t, .int .i64 p9.s, .int .u64 p9.q] 32) (fun B => .slice (some ⟨B, 0, none⟩) 1 1) (fun _ _ j _ => r_buildSlice (vs := [(0, .agg #[.int .u64 p9.t, .int .i64 p9.s, .int .u64 p9.q])]) (by kernel_rfl) (cons2 (pair2 (j _ _ rfl)) rfl)) rfl rfl rfl (w_n rfl) ?_
   intro B5
   refine TL_append (n := os.length) (m := 1) (xs := (os.flatMap Tid.cells)) (news := [.int .u64 p9.t, .int .i64 p9.s, .int .u64 p9.q]) (z := .agg #[.int .u64 0, .int .i64 0, .int .u64 0]) 950 rfl rfl rfl sl22 sz32 by32 (by kernel_rfl) rfl rfl (.inl rfl) (fun _ hm => src_blk (news := [.int .u64 p9.t, .int .i64 p9.s, .int .u64 p9.q]) (hm.at 3 rfl) rfl) (by simp [Value.oneCell']) (by omega) (by omega) rfl (w_n rfl) ?_
   intro a6 cap6
   refine TL_v (.slice a6 (os.length + 1) cap6) (s_as rfl) rfl rfl ?_
   refine TL_nil ?_
   refine p_blk_n ?_
   refine p_seq ?_
   refine T_region ?_
   refine TL_v (iN (k + 1)) (s_op r_add rfl rfl (iw (by omega) (by omega) (by omega))) rfl rfl ?_
   refine TL_v (iN (k + 1)) (s_mv rfl) rfl rfl ?_
   refine TL_nil ?_
   have hn7 : (os.length + 1) = (os ++ [p9]).length := by simp
   have hx7 : ((os.flatMap Tid.cells) ++ [.int .u64 p9.t, .int .i64 p9.s, .int .u64 p9.q]) = (os ++ [p9]).flatMap Tid.cells := by simp [Tid.cells]
   rw [hx7, hn7]
   exact p_at (k + 1, os ++ [p9], a6, cap6) ⟨⟨by omega, by rw [ev_t hp9 (Int.natCast_eq_zero.1 hz), ← hos]⟩, by dsimp only; omega⟩ (sc4 rfl rfl rfl rfl (sc rfl (sc rfl sub_nil))) (sc rfl (sc rfl (sc rfl sub_nil)))
  ·skip
   refine T_seq (T_region ?_)
   refine TL_v (iN k) (s_mv rfl) rfl rfl ?_
   refine TL_v (iN (k + 1)) (s_op r_add rfl rfl (iw (by omega) (by omega) (by omega))) rfl rfl ?_
   refine TL_v (iN n) (s_mv rfl) rfl rfl ?_
   refine TL_v (iN ((k + 1) % n)) (fun _ _ j _ => r_as (r_rem (j _ _ rfl) (j _ _ rfl) (by omega)) (int_as (Int.ofNat_tmod _ _).symm)) rfl rfl ?_
   refine TL_v (.bool false) (s_op r_eql rfl rfl (bool_as (decide_eq_false hz))) rfl rfl ?_
   refine TL_seq ?_
   refine T_cond_f rfl ?_
   refine T_skip' ?_
   refine p_blk_n ?_
   refine p_seq ?_
   refine T_region ?_
   refine TL_v (iN (k + 1)) (s_op r_add rfl rfl (iw (by omega) (by omega) (by omega))) rfl rfl ?_
   refine TL_v (iN (k + 1)) (s_mv rfl) rfl rfl ?_
   refine TL_nil ?_
   exact p_at (k + 1, os, oa, oc) ⟨⟨by omega, by rw [ev_f (fun e => hz (Int.natCast_eq_zero.2 e))]; exact hos⟩, by dsimp only; omega⟩ (sc4 rfl rfl rfl rfl (sc rfl (sc rfl sub_nil))) (sc rfl (sc rfl (sc rfl sub_nil)))
 ·replace h1 := of_decide_eq_false h1
  refine T_exit' ?_
  refine p_then_x ?_
  refine p_then_x ?_
  refine p_blk_x ?_
  refine p_seq ?_
  refine T_seq (T_region ?_)
  refine TL_v (.slice oa os.length oc) (s_mv rfl) rfl rfl ?_
  refine TL_v (.slice oa os.length oc) (s_as rfl) rfl rfl ?_
  refine TL_seq ?_
  refine T_ret' ?_
  refine ret_of rfl (.slice oa os.length oc) (fun tmps w hk hm => res1 rfl (res_tmp (hk 6 _ rfl))) (fun w hm => ?_)
  have hke : k = (l.filter (behI (idsM ms))).length := by omega
  subst hke
  subst hos
  exact ⟨oa, oc, rfl, hm.ext, hm.row 950 rfl⟩

end Go.Proofs.Ytmihoejecpcmjaa
/- marks: what becomes of a row's cells when something is put in or taken out (plainly). -/
namespace Go.Proofs.Ytmihoejecpcmjaa
open Go Go.RowKit
section
variable {α : Type} {f : α → List Value}
theorem copy_at {A B C X : List Value} {n : Nat} (h1 : A.length = n) (h2 : B.length = X.length) : (A ++ B ++ C).take n ++ X ++ (A ++ B ++ C).drop (n + X.length) = A ++ X ++ C := by
  subst h1
  have e1 : (A ++ B ++ C).take A.length = A := by rw [List.append_assoc, List.take_left' rfl]
  have e2 : (A ++ B ++ C).drop (A.length + X.length) = C := by rw [← h2, ← List.length_append, List.drop_left' rfl]
  rw [e1, e2]
theorem flat_take {s : Nat} (hf : ∀ x, (f x).length = s) (l : List α) {i : Nat} (hi : i ≤ l.length) : (l.flatMap f).take (i * s) = (l.take i).flatMap f := by
  have h : (l.take i).flatMap f ++ (l.drop i).flatMap f = l.flatMap f := by rw [← List.flatMap_append, List.take_append_drop]
  rw [← h]
  exact List.take_left' (by rw [flat_length hf, List.length_take, Nat.min_eq_left hi])
theorem flat_cut (l : List α) (i : Nat) : l.flatMap f = (l.take i).flatMap f ++ (l.drop i).flatMap f := by rw [← List.flatMap_append, List.take_append_drop]
theorem zs_len {s : Nat} (z : List Value) (hz : z.length = s) : ∀ k, ((List.replicate k z).flatten).length = k * s
  | 0 => by simp
  | k + 1 => by rw [List.replicate_succ, List.flatten_cons, List.length_append, zs_len z hz k, hz, Nat.add_mul, Nat.one_mul, Nat.add_comm]
variable {m : α} {ms : List α} {i : Nat} {z ys : List Value}
theorem grow1 (hf : ∀ x, (f x).length = 4) (hz : z.length = 4) (hi : i ≤ ms.length) :
    ((ms.flatMap f).take (i * 4) ++ (List.replicate ((ms.length + 1) - i) z).flatten).take (i * 4) ++ f m ++ ((ms.flatMap f).take (i * 4) ++ (List.replicate ((ms.length + 1) - i) z).flatten).drop (i * 4 + (f m).length) = (ms.take i).flatMap f ++ f m ++ (List.replicate (ms.length - i) z).flatten := by
  rw [show (ms.length + 1) - i = (ms.length - i) + 1 by omega, List.replicate_succ, List.flatten_cons, ← List.append_assoc, flat_take hf ms hi]
  exact copy_at (by rw [flat_length hf, List.length_take, Nat.min_eq_left hi]) (by rw [hz, hf])
theorem grow2 (hf : ∀ x, (f x).length = 4) (hz : z.length = 4) (hi : i ≤ ms.length) :
    ((ms.take i).flatMap f ++ f m ++ (List.replicate (ms.length - i) z).flatten).take ((i + 1) * 4) ++ (ms.drop i).flatMap f ++ ((ms.take i).flatMap f ++ f m ++ (List.replicate (ms.length - i) z).flatten).drop ((i + 1) * 4 + ((ms.drop i).flatMap f).length) = (ms.take i ++ m :: ms.drop i).flatMap f := by
  have h := copy_at (A := (ms.take i).flatMap f ++ f m) (B := (List.replicate (ms.length - i) z).flatten) (C := []) (X := (ms.drop i).flatMap f) (n := (i + 1) * 4)
    (by rw [List.length_append, flat_length hf, List.length_take, Nat.min_eq_left hi, hf]; omega) (by rw [zs_len z hz, flat_length hf, List.length_drop])
  rw [List.append_nil, List.append_nil] at h
  rw [h, List.flatMap_append, List.flatMap_cons, List.append_assoc]
theorem room1 (hf : ∀ x, (f x).length = 4) (hy : ys.length = 4) (hi : i ≤ ms.length) :
    (ms.flatMap f ++ ys).take ((i + 1) * 4) ++ (ms.drop i).flatMap f ++ (ms.flatMap f ++ ys).drop ((i + 1) * 4 + ((ms.drop i).flatMap f).length) = (ms.take i).flatMap f ++ ((ms.drop i).flatMap f ++ ys).take 4 ++ (ms.drop i).flatMap f := by
  have hl : ((ms.drop i).flatMap f).length = (ms.length - i) * 4 := by rw [flat_length hf, List.length_drop]
  have hA : ((ms.take i).flatMap f).length = i * 4 := by rw [flat_length hf, List.length_take, Nat.min_eq_left hi]
  have e0 : ms.flatMap f ++ ys = (ms.take i).flatMap f ++ ((ms.drop i).flatMap f ++ ys) := by rw [flat_cut ms i, List.append_assoc]
  have e1 : ((ms.take i).flatMap f ++ ((ms.drop i).flatMap f ++ ys)).take ((i + 1) * 4) = (ms.take i).flatMap f ++ ((ms.drop i).flatMap f ++ ys).take 4 := by
    rw [List.take_append, List.take_of_length_le (l := (ms.take i).flatMap f) (by omega), hA, show (i + 1) * 4 - i * 4 = 4 by omega]
  have e2 : ((ms.take i).flatMap f ++ ((ms.drop i).flatMap f ++ ys)).drop ((i + 1) * 4 + ((ms.drop i).flatMap f).length) = [] := List.drop_of_length_le (by rw [List.length_append, List.length_append, hA, hl, hy]; omega)
  rw [e0, e1, e2, List.append_nil]
theorem room2 (hf : ∀ x, (f x).length = 4) (hy : ys.length = 4) (hi : i ≤ ms.length) :
    ((ms.take i).flatMap f ++ ((ms.drop i).flatMap f ++ ys).take 4 ++ (ms.drop i).flatMap f).take (i * 4) ++ f m ++ ((ms.take i).flatMap f ++ ((ms.drop i).flatMap f ++ ys).take 4 ++ (ms.drop i).flatMap f).drop (i * 4 + (f m).length) = (ms.take i ++ m :: ms.drop i).flatMap f := by
  have h := copy_at (A := (ms.take i).flatMap f) (B := ((ms.drop i).flatMap f ++ ys).take 4) (C := (ms.drop i).flatMap f) (X := f m) (n := i * 4)
    (by rw [flat_length hf, List.length_take, Nat.min_eq_left hi]) (by rw [hf, List.length_take, List.length_append, hy]; omega)
  rw [h, List.flatMap_append, List.flatMap_cons, List.append_assoc]
theorem del1 (hf : ∀ x, (f x).length = 4) {j : Nat} (hj : j < ms.length) : (ms.flatMap f).take (j * 4) ++ (ms.flatMap f).drop ((j + 1) * 4) = (ms.eraseIdx j).flatMap f := by
  rw [flat_take hf ms (Nat.le_of_lt hj), flat_drop hf, List.eraseIdx_eq_take_drop_succ, List.flatMap_append]
theorem app_left {l r : List Value} {k : Nat} {u : Value} (h : l[k]? = some u) : (l ++ r)[k]? = some u := by
  rw [List.getElem?_append_left (List.getElem?_eq_some_iff.1 h).1]; exact h
theorem ins_len (hi : i ≤ ms.length) : (ms.take i ++ m :: ms.drop i).length = ms.length + 1 := by
  rw [List.length_append, List.length_cons, List.length_take, List.length_drop]; omega
theorem ins_end : ms.take ms.length ++ m :: ms.drop ms.length = ms ++ [m] := by rw [List.take_length, List.drop_length]
end
end Go.Proofs.Ytmihoejecpcmjaa
