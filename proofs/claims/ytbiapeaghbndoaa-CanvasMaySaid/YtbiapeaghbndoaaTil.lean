/- tile: colours, tiles, plainly. -/
import Derived.Test.YtbiapeaghbndoaaLst
import Derived.Test.YtbiapeaghbndoaaTy
namespace Go.Proofs.Ytbiapeaghbndoaa
open Go Go.RowKit
structure C4 where
  r : Int
  g : Int
  b : Int
  a : Int
abbrev C4.v (c : C4) : Value := .agg #[.int .u8 c.r, .int .u8 c.g, .int .u8 c.b, .int .u8 c.a]
abbrev C4.cells (c : C4) : List Value := [.int .u8 c.r, .int .u8 c.g, .int .u8 c.b, .int .u8 c.a]
theorem C4.cells_len (c : C4) : c.cells.length = 4 := rfl
theorem C4.cells_one (c : C4) : ∀ u ∈ c.cells, u.oneCell' = true := by simp [C4.cells, Value.oneCell']
theorem C4.cells_all (c : C4) : c.cells.all isOne = true := rfl
theorem c4_ext {x y : C4} (h1 : x.r = y.r) (h2 : x.g = y.g) (h3 : x.b = y.b) (h4 : x.a = y.a) : x = y := by
  cases x; cases y; simp_all
instance : DecidableEq C4 := fun x y => decidable_of_iff (x.r = y.r ∧ x.g = y.g ∧ x.b = y.b ∧ x.a = y.a) ⟨fun ⟨h1, h2, h3, h4⟩ => c4_ext h1 h2 h3 h4, fun e => by subst e; exact ⟨rfl, rfl, rfl, rfl⟩⟩
abbrev zeroC : C4 := ⟨0, 0, 0, 0⟩
abbrev til (l : List C4) : Value := .agg (lst C4.cells l)
def zero64 : List C4 := List.replicate 64 zeroC
theorem zero64_len : zero64.length = 64 := by simp [zero64]
def get (l : List C4) (i : Nat) : C4 := l.getD i zeroC
theorem get_some {l : List C4} {i : Nat} (hl : l.length = 64) (hi : i < 64) : l[i]? = some (get l i) := by
  have h : i < l.length := by omega
  unfold get
  rw [List.getElem?_eq_getElem h, List.getD_eq_getElem?_getD, List.getElem?_eq_getElem h]; rfl
theorem lt64 {l : List C4} {i : Nat} (hl : l.length = 64) (hi : i < 64) : i < l.length := by omega
theorem tsz {l : List C4} (hl : l.length = 64) : (lst C4.cells l).size = 256 := by rw [lst_size C4.cells_len, hl]
theorem le64 {l : List C4} (hl : l.length = 64) : 0 + 256 ≤ (lst C4.cells l).size := by rw [tsz hl]; decide
theorem ex64 {l : List C4} (hl : l.length = 64) : (lst C4.cells l).extract 0 (0 + 256) = lst C4.cells l := by rw [Nat.zero_add, ← tsz hl]; simp
theorem len_set {l : List C4} {i : Nat} {c : C4} (hl : l.length = 64) : (l.set i c).length = 64 := by rw [List.length_set, hl]
/-- Which points are in a tile. -/
def isP (x y : Int) : Bool := decide (0 ≤ x ∧ x < 8 ∧ 0 ≤ y ∧ y < 8)
theorem isP_nat {x y : Int} (h : isP x y = true) : ∃ px py : Nat, x = px ∧ y = py ∧ px < 8 ∧ py < 8 := by
  have h := of_decide_eq_true h
  exact ⟨x.toNat, y.toNat, by omega, by omega, by omega, by omega⟩
/-- One point is put, if it is one. -/
def putL (m : List C4) (x y : Int) (c : C4) : List C4 := if isP x y then m.set (8 * y + x).toNat c else m
theorem putL_no {m : List C4} {x y : Int} {c : C4} (h : isP x y = false) : putL m x y c = m := by unfold putL; rw [if_neg (by rw [h]; decide)]
theorem putL_at {m : List C4} {px py : Nat} {c : C4} (hx : px < 8) (hy : py < 8) : putL m px py c = m.set (py * 8 + px) c := by
  unfold putL
  rw [if_pos (show isP px py = true from decide_eq_true ⟨by omega, by omega, by omega, by omega⟩), show (8 * (py : Int) + px).toNat = py * 8 + px by omega]
theorem putL_len (m : List C4) (x y : Int) (c : C4) : (putL m x y c).length = m.length := by
  unfold putL; split
  · exact List.length_set
  · rfl
/-- A tile as a whole. -/
structure T64 where
  l : List C4
  h : l.length = 64
theorem t64_ext {x y : T64} (h : x.l = y.l) : x = y := by cases x; cases y; cases h; rfl
instance : DecidableEq T64 := fun x y => decidable_of_iff (x.l = y.l) ⟨t64_ext, fun e => by rw [e]⟩
theorem t64_dec (x y : T64) : decide (x.l = y.l) = decide (x = y) := by
  by_cases h : x = y
  · rw [decide_eq_true h, decide_eq_true (by rw [h])]
  · rw [decide_eq_false h, decide_eq_false (fun e => h (t64_ext e))]
abbrev T64.cells (t : T64) : List Value := t.l.flatMap C4.cells
theorem T64.cells_len (t : T64) : t.cells.length = 256 := by rw [flat_len C4.cells_len, t.h]
theorem T64.cells_all (t : T64) : t.cells.all isOne = true := by
  rw [List.all_flatMap]; exact List.all_eq_true.2 fun x _ => C4.cells_all x
theorem T64.cells_one (t : T64) : ∀ u ∈ t.cells, u.oneCell' = true := by
  intro u hu
  obtain ⟨x, _, hx⟩ := List.mem_flatMap.1 hu
  exact C4.cells_one x u hx
abbrev zeroT : T64 := ⟨zero64, zero64_len⟩
/-- With another colour at a place. -/
def T64.set (t : T64) (i : Nat) (c : C4) : T64 := ⟨t.l.set i c, len_set t.h⟩
theorem eqC (x y : C4) : (decide (x.r = y.r) && (decide (x.g = y.g) && (decide (x.b = y.b) && (decide (x.a = y.a) && true)))) = decide (x = y) := by
  by_cases h : x = y
  · subst h; simp
  · rw [decide_eq_false h]
    refine Bool.eq_false_iff.2 fun e => h ?_
    simp only [Bool.and_true, Bool.and_eq_true, decide_eq_true_eq] at e
    exact c4_ext e.1 e.2.1 e.2.2.1 e.2.2.2
theorem eq_til {l m : List C4} (hl : l.length = 64) (hm : m.length = 64) (w : World) : (Op.equal 39 (til l) (til m)).run Try.prog w = .ok (decide (l = m)) w :=
  run_equalLst (il := [(0, .u8), (1, .u8), (2, .u8), (3, .u8)]) ar39 sz37 ag37 (by kernel_rfl) C4.cells_len hl hm (fun _ => rfl) fun x y h => of_decide_eq_true ((eqC x y).symm.trans h)
theorem eq_t64 (x y : T64) (w : World) : (Op.equal 39 (til x.l) (til y.l)).run Try.prog w = .ok (decide (x = y)) w := by rw [eq_til x.h y.h, t64_dec]
end Go.Proofs.Ytbiapeaghbndoaa
