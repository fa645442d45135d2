/- canvas: the walk of CanvasTells. Printed by a program of this seat's prover. -/
import Derived.Test.YtbiapeaghbndoaaCanP
namespace Go.Proofs.Ytbiapeaghbndoaa
open Go Go.RowKit
set_option maxRecDepth 10000
abbrev ptV (x : NP) : Value := .agg (ptn x).toArray
abbrev cntV (n : Nat) : Value := .int .i64 n
theorem eqNP (x y : NP) : (decide ((x.1 : Int) = (y.1 : Int)) && (decide ((x.2 : Int) = (y.2 : Int)) && true)) = decide (x = y) := eqSz x.1 x.2 y.1 y.2
theorem keyP : KeyOk Try.prog 47 ptV where
  und := ⟨_, rfl, .inl fun _ _ => rfl⟩
  eq x y w := (run_equalI (l := [(0, .i64), (1, .i64)]) (by kernel_rfl) rfl rfl).trans (congrArg (fun b => Result.ok b w) (eqNP x y))
  chk b x w := by kernel_rfl
  same x := by
    show ((#[Value.int .i64 x.1, .int .i64 x.2].toList.zip [Value.int .i64 x.1, .int .i64 x.2]).all fun (x, y) => Instr.sameBits 9999 x y) = true
    simp [Instr.sameBits]
abbrev til8 (p : NP) : NP := (p.1 / 8, p.2 / 8)
/-- The tiles' places that were met. -/
structure KeysOk (mm : List (NP × Nat)) (ps : List NP) : Prop where
  nodup : (mm.map (·.1)).Nodup
  mem : ∀ c, c ∈ mm.map (·.1) ↔ ∃ p ∈ ps, til8 p = c
  le : ∀ c, getM 0 c mm ≤ ps.length
theorem keys_put (c : NP) (u : Nat) : ∀ l : List (NP × Nat), (putM c u l).map (·.1) = if c ∈ l.map (·.1) then l.map (·.1) else l.map (·.1) ++ [c]
  | [] => rfl
  | (k, v) :: l => by
    unfold putM
    by_cases h : c = k
    · subst h
      rw [if_pos rfl, List.map_cons, List.map_cons, if_pos List.mem_cons_self]
    · rw [if_neg h, List.map_cons, List.map_cons, keys_put c u l]
      by_cases h2 : c ∈ l.map (·.1)
      · rw [if_pos h2, if_pos (List.mem_cons_of_mem _ h2)]
      · rw [if_neg h2, if_neg (fun e => by rcases List.mem_cons.1 e with e | e; exact h e; exact h2 e)]; rfl
theorem keys_nil : KeysOk [] [] := ⟨List.nodup_nil, fun c => ⟨(fun h => nomatch h), fun ⟨p, hp, _⟩ => nomatch hp⟩, fun _ => Nat.le_refl _⟩
theorem keys_step {mm : List (NP × Nat)} {ds : List NP} {k : Nat} {p : NP} (h : KeysOk mm (ds.take k)) (hp : ds[k]? = some p) : KeysOk (putM (til8 p) (getM 0 (til8 p) mm + 1) mm) (ds.take (k + 1)) := by
  have hk := (List.getElem?_eq_some_iff.1 hp).1
  have ht : ds.take (k + 1) = ds.take k ++ [p] := by rw [List.take_add_one, hp]; rfl
  refine ⟨?_, fun c => ?_, fun c => ?_⟩
  · rw [keys_put]
    split
    · exact h.nodup
    · rename_i hn
      exact List.nodup_append.2 ⟨h.nodup, List.nodup_cons.2 ⟨(fun h => nomatch h), List.nodup_nil⟩, fun a ha b hb => by rw [List.mem_singleton.1 hb]; exact fun e => hn (e ▸ ha)⟩
  · rw [keys_put, ht]
    have key : c ∈ (if til8 p ∈ mm.map (·.1) then mm.map (·.1) else mm.map (·.1) ++ [til8 p]) ↔ c ∈ mm.map (·.1) ∨ c = til8 p := by
      split
      · rename_i hin
        exact ⟨.inl, fun e => e.elim id fun e => e ▸ hin⟩
      · rw [List.mem_append, List.mem_singleton]
    rw [key, h.mem]
    constructor
    · rintro (⟨q, hq, rfl⟩ | rfl)
      · exact ⟨q, List.mem_append_left _ hq, rfl⟩
      · exact ⟨p, List.mem_append_right _ (List.mem_singleton.2 rfl), rfl⟩
    · rintro ⟨q, hq, rfl⟩
      rcases List.mem_append.1 hq with h1 | h1
      · exact .inl ⟨q, h1, rfl⟩
      · rw [List.mem_singleton.1 h1]; exact .inr rfl
  · rw [get_put, ht, List.length_append, List.length_singleton]
    have h1 := h.le c
    have h2 := h.le (til8 p)
    split <;> omega
theorem dif_in {wd hg : Nat} {ts us : List T64} {k : Nat} {p : NP} (h : (difC wd hg ts us)[k]? = some p) : p.1 < 8 * wd ∧ p.2 < 8 * hg ∧ ¬ colAt wd ts p.1 p.2 = colAt wd us p.1 p.2 := by
  have h1 := List.mem_of_getElem? h
  unfold difC at h1
  obtain ⟨h3, h4⟩ := List.mem_filter.1 h1
  obtain ⟨i, hi⟩ := List.getElem?_of_mem h3
  have := ptsC_in hi
  exact ⟨this.1, this.2, of_decide_eq_true h4⟩
theorem difC_le (wd hg : Nat) (ts us : List T64) (hwd : 1 ≤ wd ∧ wd ≤ 4) (hhg : 1 ≤ hg ∧ hg ≤ 4) : (difC wd hg ts us).length ≤ 1024 := by
  rw [← dif_all]; exact dif_le wd hg ts us _ hwd hhg
/-- What is told at the end. -/
theorem tells_end {c d : Cv} {w w1 w2 : World} {ds : List Dt} {mm : List (NP × Nat)} (hc : CvAt w c) (hd : CvNew w1 w2 [c] d) (hw : d.wd = c.wd) (hh : d.hg = c.hg) {n : Nat} (hs : Shares n c d) (ht : d.ts = putDs c.wd c.hg c.ts ds) (h : KeysOk mm (difC c.wd c.hg c.ts d.ts)) :
    shN c.ps d.ps c.ps.length + mm.length = c.ts.length ∧ (mm.length = 0 ↔ c.ts = d.ts) := by
  have hl1 : c.ts.length = c.wd * c.hg := hc.len2.trans hc.len
  have hl2 : d.ts.length = c.wd * c.hg := by rw [ht, putDs_len]; exact hl1
  have hk := keys_count (ts := c.ts) (us := d.ts) (ks := mm.map (·.1)) hc.wd4.1 hl1 hl2 h.nodup h.mem
  rw [List.length_map] at hk
  have e : shN c.ps d.ps c.ps.length = shN c.ts d.ts (c.wd * c.hg) := by rw [shares_sh hs hc.len2 _ (Nat.le_refl _), hc.len]
  have e2 := sh_all hl1 hl2
  refine ⟨by rw [e, hl1]; exact hk, ?_⟩
  rw [← e2]
  omega
theorem tell_eq {n : Nat} {p : Prop} [Decidable p] (h : n = 0 ↔ p) : (decide ((n : Int) = 0) == decide p) = true := by
  by_cases hp : p
  · rw [decide_eq_true hp, decide_eq_true (by have := h.2 hp; omega)]; rfl
  · rw [decide_eq_false hp, decide_eq_false (fun e => hp (h.1 (by omega)))]; rfl
/-- The last dot so far, and whether there is one. -/
theorem last_none {ds : List Dt} {k : Nat} {d : Dt} {u v : Nat} (h : ds[k]? = some d) (hn : ¬ (d.x = (u : Int) ∧ d.y = (v : Int))) : lastD (ds.take (k + 1)) u v = lastD (ds.take k) u v := by rw [last_step h, if_neg hn]
theorem last_some {ds : List Dt} {k : Nat} {d : Dt} {u v : Nat} (h : ds[k]? = some d) (h1 : d.x = (u : Int)) (h2 : d.y = (v : Int)) : lastD (ds.take (k + 1)) u v = some d.c := by rw [last_step h, if_pos ⟨h1, h2⟩]

theorem tells_no (x y : Int) (ts : List T64) (a : Option Addr) (cap : Nat) (ys : List Dt) (ay : Option Addr) (cy : Nat) (w : World) (hv : SliceAt w a cap 256 T64.cells ts) (hcap : cap ≤ Go.maxLen) (hys : SliceAt w ay cy 6 Dt.cells ys) (hcys : cy ≤ Go.maxLen) (hno : ¬ rightI x y (ts.take 17).length = true) : Calls Try.prog 4 #[.agg #[.int .i64 x, .int .i64 y, .slice a ts.length cap], .slice ay ys.length cy] w fun e w' => e = .returned (.bool true) ∧ Below w.heap.size w w' := by
  have hvl := hv.1
  unfold Go.maxLen at hcap
  refine calls_of_T (l := [.agg #[.int .i64 x, .int .i64 y, .slice a ts.length cap], .slice ay ys.length cy]) 140 Try.func4 rfl rfl rfl ?_
  show T _ _ _ [(0, .agg #[.int .i64 x, .int .i64 y, .slice a ts.length cap]), (1, .slice ay ys.length cy)] []
  refine T_seq (T_region ?_)
  refine TL_new 1 (.cells #[.int .i64 x, .int .i64 y, .slice a ts.length cap] 24) (fun B => .pointer (some ⟨B, 0, none⟩)) (fun _ _ hρ _ => r_box (hρ _ _ rfl) rfl) rfl rfl rfl (w_n rfl) ?_
  intro B1
  refine TL_q (.bool false) (fun _ _ hρ _ => r_assign (hρ _ _ rfl)) rfl rfl rfl (w_n rfl) ?_
  refine TL_seq ?_
  refine T_seq ?_
  refine T_mem (_ :: _) (fun _ hm => hm.cvs0 960) ?_
  refine T_seq (T_region ?_)
  refine TL_call (.bool true) (fun _ _ hρ _ => r_call (args := []) (enters_of Try.func13 (by kernel_rfl) rfl) (hρ _ _ rfl) (by rfl) rfl) (fun w _ => wakes_c w) rfl rfl rfl (w_n rfl) ?_
  refine TL_q (.bool false) (fun _ _ hρ _ => r_not (b := true) (hρ _ _ rfl)) rfl rfl rfl (w_n rfl) ?_
  refine TL_seq ?_
  refine T_cond_f rfl ?_
  refine T_skip' ?_
  refine p_seq ?_
  refine T_seq (T_region ?_)
  refine TL_q (.agg #[.int .i64 x, .int .i64 y, .slice a ts.length cap]) (fun _ _ hρ hm => r_loadA ag24 sz24 (hρ _ _ rfl) (hm.at 1 rfl) rfl rfl) rfl rfl rfl (w_n rfl) ?_
  refine TL_callN (fun (_ : Option Addr × Nat) => True) (fun (ar2, cr2) => .agg #[.int .i64 x, .int .i64 y, .slice ar2 ((ts.take 17).length) cr2]) (fun (ar2, cr2) => [(2, .row (.slice ar2 ((ts.take 17).length) cr2) 39 256 ((ts.take 17).length) ((ts.take 17).flatMap T64.cells))]) (fun _ _ hρ _ => r_call (args := [.agg #[.int .i64 x, .int .i64 y, .slice a ts.length cap]]) (enters_of Try.func14 (by kernel_rfl) rfl) (hρ _ _ rfl) ((cons2 (hρ _ _ rfl) rfl)) rfl) (fun w hm => (own_c x y ts a cap w (hv.keep hm.ext) hcap).mono fun e w' ⟨a', cap', he, hb, hr⟩ => ⟨(a', cap'), trivial, he, hb, newOk1 2 hr⟩) rfl rfl rfl (w_n rfl) ?_
  rintro ⟨ar2, cr2⟩ -
  refine TL_call (.tuple #[.pointer none, .int .i64 150]) (fun _ _ hρ _ => r_call (args := [.agg #[.int .i64 x, .int .i64 y, .slice ar2 ((ts.take 17).length) cr2]]) (enters_of Try.func15 (by kernel_rfl) rfl) (hρ _ _ rfl) ((cons2 (hρ _ _ rfl) rfl)) rfl) (fun w _ => of_no x y ar2 ((ts.take 17).length) cr2 w hno) rfl rfl rfl (w_n rfl) ?_
  refine TL_q (.tuple #[.pointer none, .int .i64 150]) (fun _ _ hρ _ => r_move (hρ _ _ rfl)) rfl rfl rfl (w_n rfl) ?_
  refine TL_q (.pointer none) (fun _ _ hρ _ => r_extract (hρ _ _ rfl) rfl) rfl rfl rfl (w_n rfl) ?_
  refine TL_q (.int .i64 150) (fun _ _ hρ _ => r_extract (hρ _ _ rfl) rfl) rfl rfl rfl (w_n rfl) ?_
  refine TL_q (.pointer none) (fun _ _ hρ _ => r_assign (hρ _ _ rfl)) rfl rfl rfl (w_n rfl) ?_
  refine TL_q (.int .i64 150) (fun _ _ hρ _ => r_assign (hρ _ _ rfl)) rfl rfl rfl (w_n rfl) ?_
  refine TL_seq ?_
  refine T_seq ?_
  refine T_seq (T_region ?_)
  refine TL_q (.int .i64 150) (fun _ _ hρ _ => r_move (hρ _ _ rfl)) rfl rfl rfl (w_n rfl) ?_
  refine TL_q (.bool true) (fun _ _ hρ _ => r_as (r_neq (hρ _ _ rfl) (hρ _ _ rfl)) (by rfl)) rfl rfl rfl (w_n rfl) ?_
  refine TL_seq ?_
  refine T_cond_t rfl ?_
  refine T_seq (T_region ?_)
  refine TL_q (.pointer none) (fun _ _ hρ _ => r_move (hρ _ _ rfl)) rfl rfl rfl (w_n rfl) ?_
  refine TL_q (.bool true) (fun _ _ hρ _ => r_as (r_eqlPn po28 (hρ _ _ rfl) (hρ _ _ rfl)) (by rfl)) rfl rfl rfl (w_n rfl) ?_
  refine TL_q (.bool true) (fun _ _ hρ _ => r_assign (hρ _ _ rfl)) rfl rfl rfl (w_n rfl) ?_
  refine TL_seq ?_
  refine T_ret' ?_
  refine p_then_r ?_
  refine ret_of rfl (.bool true) (fun tmps w hk hm => res1 rfl (res_tmp (hk 4 _ rfl))) (fun w hm => ?_)
  exact ⟨rfl, hm.ext⟩

set_option maxHeartbeats 2000000 in
theorem tells_ok (wd hg : Nat) (ts : List T64) (a : Option Addr) (cap : Nat) (ys : List Dt) (ay : Option Addr) (cy : Nat) (w : World) (hv : SliceAt w a cap 256 T64.cells ts) (hcap : cap ≤ Go.maxLen) (hys : SliceAt w ay cy 6 Dt.cells ys) (hcys : cy ≤ Go.maxLen) (hwd : 1 ≤ wd ∧ wd ≤ 4) (hhg : 1 ≤ hg ∧ hg ≤ 4) (hlen : (ts.take 17).length = wd * hg) : Calls Try.prog 4 #[.agg #[.int .i64 (wd : Int), .int .i64 (hg : Int), .slice a ts.length cap], .slice ay ys.length cy] w fun e w' => e = .returned (.bool true) ∧ Below w.heap.size w w' := by
  have hvl := hv.1
  unfold Go.maxLen at hcap
  have h16 := size4 hwd hhg
  have h17 : (ts.take 17).length ≤ 17 := by rw [List.length_take]; omega
  have h30 : (ys.take 30).length ≤ 30 := by rw [List.length_take]; omega
  refine calls_of_T (l := [.agg #[.int .i64 ((wd : Nat) : Int), .int .i64 ((hg : Nat) : Int), .slice a ts.length cap], .slice ay ys.length cy]) 140 Try.func4 rfl rfl rfl ?_
  show T _ _ _ [(0, .agg #[.int .i64 ((wd : Nat) : Int), .int .i64 ((hg : Nat) : Int), .slice a ts.length cap]), (1, .slice ay ys.length cy)] []
  refine T_seq (T_region ?_)
  refine TL_new 1 (.cells #[.int .i64 ((wd : Nat) : Int), .int .i64 ((hg : Nat) : Int), .slice a ts.length cap] 24) (fun B => .pointer (some ⟨B, 0, none⟩)) (fun _ _ hρ _ => r_box (hρ _ _ rfl) rfl) rfl rfl rfl (w_n rfl) ?_
  intro B1
  refine TL_q (.bool false) (fun _ _ hρ _ => r_assign (hρ _ _ rfl)) rfl rfl rfl (w_n rfl) ?_
  refine TL_seq ?_
  refine T_seq ?_
  refine T_mem (_ :: _) (fun _ hm => hm.cvs0 960) ?_
  refine T_seq (T_region ?_)
  refine TL_call (.bool true) (fun _ _ hρ _ => r_call (args := []) (enters_of Try.func13 (by kernel_rfl) rfl) (hρ _ _ rfl) (by rfl) rfl) (fun w _ => wakes_c w) rfl rfl rfl (w_n rfl) ?_
  refine TL_q (.bool false) (fun _ _ hρ _ => r_not (b := true) (hρ _ _ rfl)) rfl rfl rfl (w_n rfl) ?_
  refine TL_seq ?_
  refine T_cond_f rfl ?_
  refine T_skip' ?_
  refine p_seq ?_
  refine T_seq (T_region ?_)
  refine TL_q (.agg #[.int .i64 ((wd : Nat) : Int), .int .i64 ((hg : Nat) : Int), .slice a ts.length cap]) (fun _ _ hρ hm => r_loadA ag24 sz24 (hρ _ _ rfl) (hm.at 1 rfl) rfl rfl) rfl rfl rfl (w_n rfl) ?_
  refine TL_callN (fun (_ : Option Addr × Nat) => True) (fun (ar2, cr2) => .agg #[.int .i64 ((wd : Nat) : Int), .int .i64 ((hg : Nat) : Int), .slice ar2 ((ts.take 17).length) cr2]) (fun (ar2, cr2) => [(2, .row (.slice ar2 ((ts.take 17).length) cr2) 39 256 ((ts.take 17).length) ((ts.take 17).flatMap T64.cells))]) (fun _ _ hρ _ => r_call (args := [.agg #[.int .i64 ((wd : Nat) : Int), .int .i64 ((hg : Nat) : Int), .slice a ts.length cap]]) (enters_of Try.func14 (by kernel_rfl) rfl) (hρ _ _ rfl) ((cons2 (hρ _ _ rfl) rfl)) rfl) (fun w hm => (own_c ((wd : Nat) : Int) ((hg : Nat) : Int) ts a cap w (hv.keep hm.ext) hcap).mono fun e w' ⟨a', cap', he, hb, hr⟩ => ⟨(a', cap'), trivial, he, hb, newOk1 2 hr⟩) rfl rfl rfl (w_n rfl) ?_
  rintro ⟨ar2, cr2⟩ -
  refine TL_callX (ι := Cv) (fun (c1 : Cv) e w w' => e = .returned (.tuple #[.pointer (some ⟨c1.p, 0, none⟩), .int .i64 0]) ∧ CvNew w w' [] c1 ∧ (∀ x ∈ ([] : List Cv), ∀ q ∈ x.ps, q < w.heap.size) ∧ c1.wd = wd ∧ c1.hg = hg ∧ c1.ts = (ts.take 17)) (fun c1 => .tuple #[.pointer (some ⟨c1.p, 0, none⟩), .int .i64 0]) _ (fun _ _ hρ _ => r_call (args := [.agg #[.int .i64 ((wd : Nat) : Int), .int .i64 ((hg : Nat) : Int), .slice ar2 ((ts.take 17).length) cr2]]) (enters_of Try.func15 (by kernel_rfl) rfl) (hρ _ _ rfl) ((cons2 (hρ _ _ rfl) rfl)) rfl) (fun w hm => (of_ok wd hg (ts.take 17) ar2 cr2 w (SliceAt.own T64.cells_len (hm.row 2 rfl) rfl rfl) hwd hhg hlen).mono fun e w' ⟨d, he, hn, hf⟩ => ⟨d, he, hn, hm.cvUnder 960 rfl, hf⟩) (fun _ e w w' hm h => ⟨h.1, hm.cvGet 960 rfl h.2.1 (fun _ hx => nomatch hx)⟩) rfl rfl rfl (w_n rfl) ?_
  rintro c1 ⟨_, w1_c1, w2_c1, _, hn_c1, hu_c1, hwd_c1, hhg_c1, hts_c1⟩
  refine TL_q (.tuple #[.pointer (some ⟨c1.p, 0, none⟩), .int .i64 0]) (fun _ _ hρ _ => r_move (hρ _ _ rfl)) rfl rfl rfl (w_n rfl) ?_
  refine TL_q (.pointer (some ⟨c1.p, 0, none⟩)) (fun _ _ hρ _ => r_extract (hρ _ _ rfl) rfl) rfl rfl rfl (w_n rfl) ?_
  refine TL_q (.int .i64 0) (fun _ _ hρ _ => r_extract (hρ _ _ rfl) rfl) rfl rfl rfl (w_n rfl) ?_
  refine TL_q (.pointer (some ⟨c1.p, 0, none⟩)) (fun _ _ hρ _ => r_assign (hρ _ _ rfl)) rfl rfl rfl (w_n rfl) ?_
  refine TL_q (.int .i64 0) (fun _ _ hρ _ => r_assign (hρ _ _ rfl)) rfl rfl rfl (w_n rfl) ?_
  refine TL_seq ?_
  refine T_seq ?_
  refine T_seq (T_region ?_)
  refine TL_q (.int .i64 0) (fun _ _ hρ _ => r_move (hρ _ _ rfl)) rfl rfl rfl (w_n rfl) ?_
  refine TL_q (.bool false) (fun _ _ hρ _ => r_as (r_neq (hρ _ _ rfl) (hρ _ _ rfl)) (by rfl)) rfl rfl rfl (w_n rfl) ?_
  refine TL_seq ?_
  refine T_cond_f rfl ?_
  refine T_skip' ?_
  refine p_seq ?_
  refine T_seq (T_region ?_)
  refine TL_q (.slice ay ys.length cy) (fun _ _ hρ _ => r_move (hρ _ _ rfl)) rfl rfl rfl (w_n rfl) ?_
  refine TL_callN (fun (_ : Option Addr × Nat) => True) (fun (ar3, cr3) => .slice ar3 ((ys.take 30).length) cr3) (fun (ar3, cr3) => [(3, .row (.slice ar3 ((ys.take 30).length) cr3) 51 6 ((ys.take 30).length) ((ys.take 30).flatMap Dt.cells))]) (fun _ _ hρ _ => r_call (args := [.slice ay ys.length cy]) (enters_of Try.func18 (by kernel_rfl) rfl) (hρ _ _ rfl) ((cons2 (hρ _ _ rfl) rfl)) rfl) (fun w hm => (few_c ys ay cy w (hys.keep hm.ext) hcys).mono fun e w' ⟨a', cap', he, hb, hr⟩ => ⟨(a', cap'), trivial, he, hb, newOk1 3 hr⟩) rfl rfl rfl (w_n rfl) ?_
  rintro ⟨ar3, cr3⟩ -
  refine TL_q (.slice ar3 ((ys.take 30).length) cr3) (fun _ _ hρ _ => r_assign (hρ _ _ rfl)) rfl rfl rfl (w_n rfl) ?_
  refine TL_seq ?_
  refine T_seq (T_region ?_)
  refine TL_q (.pointer (some ⟨c1.p, 0, none⟩)) (fun _ _ hρ _ => r_move (hρ _ _ rfl)) rfl rfl rfl (w_n rfl) ?_
  refine TL_q (.slice ar3 ((ys.take 30).length) cr3) (fun _ _ hρ _ => r_move (hρ _ _ rfl)) rfl rfl rfl (w_n rfl) ?_
  refine TL_callX (ι := Cv) (fun (d1 : Cv) e w w' => e = .returned (.pointer (some ⟨d1.p, 0, none⟩)) ∧ CvNew w w' [c1] d1 ∧ (∀ x ∈ [c1], ∀ q ∈ x.ps, q < w.heap.size) ∧ d1.wd = c1.wd ∧ d1.hg = c1.hg ∧ d1.ts = putDs c1.wd c1.hg c1.ts (ys.take 30) ∧ Shares w.heap.size c1 d1) (fun d1 => .pointer (some ⟨d1.p, 0, none⟩)) _ (fun _ _ hρ _ => r_call (args := [.pointer (some ⟨c1.p, 0, none⟩), .slice ar3 ((ys.take 30).length) cr3]) (enters_of Try.func17 (by kernel_rfl) rfl) (hρ _ _ rfl) ((cons2 (hρ _ _ rfl) (cons2 (hρ _ _ rfl) rfl))) rfl) (fun w hm => (with_canvas c1 (ys.take 30) ar3 cr3 w (hm.cv 960 rfl (List.Mem.head _)) (SliceAt.own Dt.cells_len (hm.row 3 rfl) rfl rfl) (row_cap (hm.row 3 rfl))).mono fun e w' ⟨d, he, hn, hf⟩ => ⟨d, he, hn, hm.cvUnder 960 rfl, hf⟩) (fun _ e w w' hm h => ⟨h.1, hm.cvGet 960 rfl h.2.1 (fun x hx => by rw [List.mem_singleton.1 hx]; exact (List.Mem.head _))⟩) rfl rfl rfl (w_n rfl) ?_
  rintro d1 ⟨_, w1_d1, w2_d1, _, hn_d1, hu_d1, hwd_d1, hhg_d1, hts_d1, hsh_d1⟩
  refine TL_q (.pointer (some ⟨d1.p, 0, none⟩)) (fun _ _ hρ _ => r_assign (hρ _ _ rfl)) rfl rfl rfl (w_n rfl) ?_
  refine TL_seq ?_
  refine T_seq (T_region ?_)
  refine TL_new 4 ((mapO ptV cntV [])) (fun B => .map (some B)) (fun _ _ _ _ => r_makeMap) rfl rfl rfl (w_n rfl) ?_
  intro B4
  refine TL_q (.map (some B4)) (fun _ _ hρ _ => r_assign (hρ _ _ rfl)) rfl rfl rfl (w_n rfl) ?_
  refine TL_seq ?_
  refine T_seq ?_
  refine T_seq (T_region ?_)
  refine TL_q (.pointer (some ⟨c1.p, 0, none⟩)) (fun _ _ hρ _ => r_move (hρ _ _ rfl)) rfl rfl rfl (w_n rfl) ?_
  refine TL_q (.pointer (some ⟨d1.p, 0, none⟩)) (fun _ _ hρ _ => r_move (hρ _ _ rfl)) rfl rfl rfl (w_n rfl) ?_
  refine TL_callN (fun (_ : Option Addr × Nat) => True) (fun (ar5, cr5) => .slice ar5 ((difC c1.wd c1.hg c1.ts d1.ts).length) cr5) (fun (ar5, cr5) => [(5, .row (.slice ar5 ((difC c1.wd c1.hg c1.ts d1.ts).length) cr5) 47 2 ((difC c1.wd c1.hg c1.ts d1.ts).length) ((difC c1.wd c1.hg c1.ts d1.ts).flatMap ptn))]) (fun _ _ hρ _ => r_call (args := [.pointer (some ⟨c1.p, 0, none⟩), .pointer (some ⟨d1.p, 0, none⟩)]) (enters_of Try.func22 (by kernel_rfl) rfl) (hρ _ _ rfl) ((cons2 (hρ _ _ rfl) (cons2 (hρ _ _ rfl) rfl))) rfl) (fun w hm => (differ_eq c1 d1 w (hm.cv 960 rfl (List.Mem.tail _ (List.Mem.head _))) (hm.cv 960 rfl (List.Mem.head _)) hwd_d1.symm hhg_d1.symm).mono fun e w' ⟨a', cap', he, hb, hr⟩ => ⟨(a', cap'), trivial, he, hb, newOk1 5 hr⟩) rfl rfl rfl (w_n rfl) ?_
  rintro ⟨ar5, cr5⟩ -
  refine TL_q (.int .i64 (((difC c1.wd c1.hg c1.ts d1.ts).length : Nat) : Int)) (fun _ _ hρ _ => r_len sl44 (hρ _ _ rfl)) rfl rfl rfl (w_n rfl) ?_
  refine TL_q (.int .i64 0) (fun _ _ hρ _ => r_move (hρ _ _ rfl)) rfl rfl rfl (w_n rfl) ?_
  refine TL_seq ?_
  refine T_block ?_
  have hdl := difC_le c1.wd c1.hg c1.ts d1.ts hn_c1.at'.wd4 hn_c1.at'.hg4
  refine T_loop (ι := Nat × List (NP × Nat)) (fun (z : Nat × List (NP × Nat)) => match z with | (k, mm) => k ≤ (difC c1.wd c1.hg c1.ts d1.ts).length ∧ KeysOk mm ((difC c1.wd c1.hg c1.ts d1.ts).take k)) (fun (z : Nat × List (NP × Nat)) => match z with | (k, mm) => [(5, .pointer (some ⟨c1.p, 0, none⟩)), (1, .slice ar3 ((ys.take 30).length) cr3), (7, .pointer (some ⟨d1.p, 0, none⟩)), (8, .map (some B4)), (40, .slice ar5 ((difC c1.wd c1.hg c1.ts d1.ts).length) cr5), (41, .int .i64 (((difC c1.wd c1.hg c1.ts d1.ts).length : Nat) : Int)), (42, .int .i64 ((k : Nat) : Int))]) (fun (z : Nat × List (NP × Nat)) => match z with | (k, mm) => [(5, .row (.slice ar5 ((difC c1.wd c1.hg c1.ts d1.ts).length) cr5) 47 2 ((difC c1.wd c1.hg c1.ts d1.ts).length) ((difC c1.wd c1.hg c1.ts d1.ts).flatMap ptn)), (960, .cvs [d1, c1]), (3, .row (.slice ar3 ((ys.take 30).length) cr3) 51 6 ((ys.take 30).length) ((ys.take 30).flatMap Dt.cells)), (2, .row (.slice ar2 ((ts.take 17).length) cr2) 39 256 ((ts.take 17).length) ((ts.take 17).flatMap T64.cells)), (1, .blk B1 (.cells #[.int .i64 ((wd : Nat) : Int), .int .i64 ((hg : Nat) : Int), .slice a ts.length cap] 24)), (4, .blk B4 ((mapO ptV cntV mm)))]) (fun (z : Nat × List (NP × Nat)) => match z with | (k, mm) => (difC c1.wd c1.hg c1.ts d1.ts).length - k) (0, []) ⟨Nat.zero_le _, keys_nil⟩ (sub_cons rfl (sub_cons rfl (sub_cons rfl (sub_cons rfl (sub_cons rfl (sub_cons rfl (sub_cons rfl sub_nil))))))) (sub_cons rfl (sub_cons rfl (sub_cons rfl (sub_cons rfl (sub_cons rfl (sub_cons rfl sub_nil)))))) ?_
  rintro ⟨k, mm⟩ hp
  obtain ⟨hk, hko⟩ := hp
  show T _ _ _ [(5, .pointer (some ⟨c1.p, 0, none⟩)), (1, .slice ar3 ((ys.take 30).length) cr3), (7, .pointer (some ⟨d1.p, 0, none⟩)), (8, .map (some B4)), (40, .slice ar5 ((difC c1.wd c1.hg c1.ts d1.ts).length) cr5), (41, .int .i64 (((difC c1.wd c1.hg c1.ts d1.ts).length : Nat) : Int)), (42, .int .i64 ((k : Nat) : Int))] [(5, .row (.slice ar5 ((difC c1.wd c1.hg c1.ts d1.ts).length) cr5) 47 2 ((difC c1.wd c1.hg c1.ts d1.ts).length) ((difC c1.wd c1.hg c1.ts d1.ts).flatMap ptn)), (960, .cvs [d1, c1]), (3, .row (.slice ar3 ((ys.take 30).length) cr3) 51 6 ((ys.take 30).length) ((ys.take 30).flatMap Dt.cells)), (2, .row (.slice ar2 ((ts.take 17).length) cr2) 39 256 ((ts.take 17).length) ((ts.take 17).flatMap T64.cells)), (1, .blk B1 (.cells #[.int .i64 ((wd : Nat) : Int), .int .i64 ((hg : Nat) : Int), .slice a ts.length cap] 24)), (4, .blk B4 ((mapO ptV cntV mm)))]
  refine T_seq (T_region ?_)
  refine TL_q (.bool (decide (((k : Nat) : Int) < (((difC c1.wd c1.hg c1.ts d1.ts).length : Nat) : Int)))) (fun _ _ hρ _ => r_lss (hρ _ _ rfl) (hρ _ _ rfl)) rfl rfl rfl (w_n rfl) ?_
  refine TL_seq ?_
  refine T_seq ?_
  refine T_cond rfl (fun h1 => ?_) (fun h1 => ?_)
  · replace h1 := of_decide_eq_true h1
    refine T_skip' ?_
    refine p_seq ?_
    refine T_seq ?_
    refine T_block ?_
    obtain ⟨p, hpp⟩ : ∃ x, (difC c1.wd c1.hg c1.ts d1.ts)[k]? = some x := ⟨_, List.getElem?_eq_getElem (by omega)⟩
    obtain ⟨hpx, hpy, hpn⟩ := dif_in hpp
    have hpx2 : p.1 < 8 * d1.wd := by rw [hwd_d1]; exact hpx
    have hpy2 : p.2 < 8 * d1.hg := by rw [hhg_d1]; exact hpy
    have h8 := hn_c1.at'.wd4
    have h9 := hn_c1.at'.hg4
    have hle := hko.le (((p.1) / 8, (p.2) / 8) : NP)
    rw [List.length_take] at hle
    refine T_row 5 rfl (by omega) (fun g6 ha6 => ?_)
    subst ha6
    refine T_rowcap 5 rfl (fun hrc6 => ?_)
    refine T_seq (T_region ?_)
    refine TL_q (.pointer (some ⟨g6, 0 + k * 2, none⟩)) (fun _ _ hρ _ => r_indexAddrS (i := k) sl44 sz47 (hρ _ _ rfl) (hρ _ _ rfl) (by omega)) rfl rfl rfl (w_n rfl) ?_
    refine TL_q (.agg #[.int .i64 ((p.1 : Nat) : Int), .int .i64 ((p.2 : Nat) : Int)]) (fun _ _ hρ hm => r_loadOwn (f := ptn) (u := p) (l := (difC c1.wd c1.hg c1.ts d1.ts)) ag47 sz47 (hρ _ _ rfl) (hm.row 5 rfl) rfl rfl ptn_len hpp) rfl rfl rfl (w_n rfl) ?_
    refine TL_new 6 (.cells #[.int .i64 0, .int .i64 0] 47) (fun B => .pointer (some ⟨B, 0, none⟩)) (fun _ _ _ _ => r_alloc (v := .agg #[.int .i64 0, .int .i64 0]) (by kernel_rfl) rfl) rfl rfl rfl (w_n rfl) ?_
    intro B7
    refine TL_store 6 (.cells #[.int .i64 ((p.1 : Nat) : Int), .int .i64 ((p.2 : Nat) : Int)] 47) rfl (fun _ _ hρ hm => r_store sz47 (hρ _ _ rfl) (hρ _ _ rfl) (hm.at 6 rfl) rfl rfl rfl rfl) rfl rfl (w_n rfl) ?_
    refine TL_seq ?_
    refine T_seq (T_draw (V := [(0, .map (some B4)), (1, .pointer (some ⟨B7, 0, none⟩)), (2, .int .i64 ((p.1 : Nat) : Int)), (3, .int .i64 ((p.1 / 8 : Nat) : Int)), (4, .pointer (some ⟨B7, 1, none⟩)), (5, .int .i64 ((p.2 : Nat) : Int)), (6, .int .i64 ((p.2 / 8 : Nat) : Int)), (7, .agg #[.int .i64 ((p.1 / 8 : Nat) : Int), .int .i64 ((p.2 / 8 : Nat) : Int)]), (8, .int .i64 ((getM 0 ((p.1 / 8, p.2 / 8) : NP) mm : Nat) : Int)), (9, .int .i64 (((getM 0 ((p.1 / 8, p.2 / 8) : NP) mm) + 1 : Nat) : Int))]) [0, 0, 2, 6, 0, 16, 48, 126, 255, 511, 255, 1279, 4095] [[(8, none)], [(10, none)], [(47, some 1)], [(48, some 2)], [(10, none)], [(50, some 4)], [(51, some 5)], [(49, some 3), (52, some 6)], [(46, some 0), (53, some 7)], [(54, some 8)], [(46, some 0), (53, some 7)], [(56, some 10)], [(46, some 0), (57, some 11), (55, some 9)]] 5120 mixed (by kernel_rfl) ?_)
    refine G_step [0, 1, 2, 3, 4, 5, 6, 7, 8, 9] 10 [] (by kernel_rfl) (allM (all_cons (q_run (.map (some B4)) rfl rfl (wv_n rfl) rfl (fun _ _ hρ _ => r_move (hρ _ _ rfl))) (all_cons (q_run (.pointer (some ⟨B7, 0, none⟩)) rfl rfl (wv_n rfl) rfl (fun _ _ hρ _ => r_fieldAddr fl47_0 sz3 (hρ _ _ rfl))) (all_cons (q_run (.int .i64 ((p.1 : Nat) : Int)) rfl rfl (wv_n rfl) rfl (fun _ _ hρ hm => r_load ag3 (hρ _ _ rfl) (hm.at 6 rfl) rfl)) (all_cons (q_run (.int .i64 ((p.1 / 8 : Nat) : Int)) rfl rfl (wv_n rfl) rfl (fun _ _ hρ _ => r_as (r_quo (hρ _ _ rfl) (hρ _ _ rfl) (by omega)) (int_as ((quo_i64 (by omega) (by omega) (by omega)).trans (by omega))))) (all_cons (q_run (.pointer (some ⟨B7, 1, none⟩)) rfl rfl (wv_n rfl) rfl (fun _ _ hρ _ => r_fieldAddr fl47_1 sz3 (hρ _ _ rfl))) (all_cons (q_run (.int .i64 ((p.2 : Nat) : Int)) rfl rfl (wv_n rfl) rfl (fun _ _ hρ hm => r_load ag3 (hρ _ _ rfl) (hm.at 6 rfl) rfl)) (all_cons (q_run (.int .i64 ((p.2 / 8 : Nat) : Int)) rfl rfl (wv_n rfl) rfl (fun _ _ hρ _ => r_as (r_quo (hρ _ _ rfl) (hρ _ _ rfl) (by omega)) (int_as ((quo_i64 (by omega) (by omega) (by omega)).trans (by omega))))) (all_cons (q_run (.agg #[.int .i64 ((p.1 / 8 : Nat) : Int), .int .i64 ((p.2 / 8 : Nat) : Int)]) rfl rfl (wv_n rfl) rfl (fun _ _ hρ _ => r_build (vs := [(0, .int .i64 ((p.1 / 8 : Nat) : Int)), (1, .int .i64 ((p.2 / 8 : Nat) : Int))]) (by kernel_rfl) (cons2 (pair2 (hρ _ _ rfl)) (cons2 (pair2 (hρ _ _ rfl)) rfl)))) (all_cons (q_run (.int .i64 ((getM 0 ((p.1 / 8, p.2 / 8) : NP) mm : Nat) : Int)) rfl rfl (wv_n rfl) rfl (fun _ _ hρ hm => r_lookup (fk := ptV) (fv := cntV) (c := ((p.1 / 8, p.2 / 8) : NP)) (z := 0) (l := mm) keyP mp43 rfl (hρ _ _ rfl) (hρ _ _ rfl) (hm.at 4 rfl))) (all_cons (q_run (.int .i64 (((getM 0 ((p.1 / 8, p.2 / 8) : NP) mm) + 1 : Nat) : Int)) rfl rfl (wv_n rfl) rfl (fun _ _ hρ _ => r_as (r_add (hρ _ _ rfl) (hρ _ _ rfl)) (int_as ((wrap64 (by omega) (by omega)).trans (by omega))))) all_nil))))))))))) (allM (all_cons ?_ all_nil))
    refine LOb_upd 4 (.tuple #[(cntV (getM 0 ((p.1 / 8, p.2 / 8) : NP) mm)), .int .i64 ((idxM ((p.1 / 8, p.2 / 8) : NP) mm : Nat) : Int)]) ((mapO ptV cntV (entM 0 ((p.1 / 8, p.2 / 8) : NP) mm))) [(11, .int .i64 ((idxM ((p.1 / 8, p.2 / 8) : NP) mm : Nat) : Int))] rfl (wv_n rfl) rfl rfl rfl (fun _ _ hρ hm => r_mapEntry (fk := ptV) (fv := cntV) (c := ((p.1 / 8, p.2 / 8) : NP)) (z := 0) (l := mm) keyP mp43 rfl (hρ _ _ rfl) (hρ _ _ rfl) (hm.at 4 rfl)) (by kernel_rfl) ?_
    refine G_step [8, 9, 11] 12 [] (by kernel_rfl) (allM (all_cons (q_run (.int .i64 ((getM 0 ((p.1 / 8, p.2 / 8) : NP) mm : Nat) : Int)) rfl rfl (wv_n rfl) rfl (fun _ _ hρ hm => r_as (r_lookup (fk := ptV) (fv := cntV) (c := ((p.1 / 8, p.2 / 8) : NP)) (z := 0) (l := (entM 0 ((p.1 / 8, p.2 / 8) : NP) mm)) keyP mp43 rfl (hρ _ _ rfl) (hρ _ _ rfl) (hm.at 4 rfl)) (congrArg cntV (get_ent _ _ _ _)))) (all_cons (q_run (.int .i64 (((getM 0 ((p.1 / 8, p.2 / 8) : NP) mm) + 1 : Nat) : Int)) rfl rfl (wv_n rfl) rfl (fun _ _ hρ _ => r_as (r_add (hρ _ _ rfl) (hρ _ _ rfl)) (int_as ((wrap64 (by omega) (by omega)).trans (by omega))))) (all_cons (q_run (.int .i64 ((idxM ((p.1 / 8, p.2 / 8) : NP) mm : Nat) : Int)) rfl rfl (wv_n rfl) rfl (fun _ _ hρ _ => r_extract (hρ _ _ rfl) rfl)) all_nil)))) (allM (all_cons ?_ all_nil))
    refine LOb_store 4 ((mapO ptV cntV (putM ((p.1 / 8, p.2 / 8) : NP) ((getM 0 ((p.1 / 8, p.2 / 8) : NP) mm) + 1) mm))) [] rfl (wv_n rfl) rfl rfl rfl (fun _ _ hρ hm => r_entryPut (fk := ptV) (fv := cntV) (c := ((p.1 / 8, p.2 / 8) : NP)) (z := 0) (u := ((getM 0 ((p.1 / 8, p.2 / 8) : NP) mm) + 1)) (l := mm) (hρ _ _ rfl) (hρ _ _ rfl) (hρ _ _ rfl) (hm.at 4 rfl)) (by kernel_rfl) ?_
    refine G_last [] [(5, .pointer (some ⟨c1.p, 0, none⟩)), (1, .slice ar3 ((ys.take 30).length) cr3), (7, .pointer (some ⟨d1.p, 0, none⟩)), (8, .map (some B4)), (40, .slice (some ⟨g6, 0, none⟩) ((difC c1.wd c1.hg c1.ts d1.ts).length) cr5), (41, .int .i64 (((difC c1.wd c1.hg c1.ts d1.ts).length : Nat) : Int)), (42, .int .i64 ((k : Nat) : Int)), (43, .bool (decide (((k : Nat) : Int) < (((difC c1.wd c1.hg c1.ts d1.ts).length : Nat) : Int)))), (44, .pointer (some ⟨g6, 0 + k * 2, none⟩)), (45, .agg #[.int .i64 ((p.1 : Nat) : Int), .int .i64 ((p.2 : Nat) : Int)]), (10, .pointer (some ⟨B7, 0, none⟩)), (46, .map (some B4)), (47, .pointer (some ⟨B7, 0, none⟩)), (48, .int .i64 ((p.1 : Nat) : Int)), (49, .int .i64 ((p.1 / 8 : Nat) : Int)), (50, .pointer (some ⟨B7, 1, none⟩)), (51, .int .i64 ((p.2 : Nat) : Int)), (52, .int .i64 ((p.2 / 8 : Nat) : Int)), (53, .agg #[.int .i64 ((p.1 / 8 : Nat) : Int), .int .i64 ((p.2 / 8 : Nat) : Int)]), (54, .int .i64 ((getM 0 ((p.1 / 8, p.2 / 8) : NP) mm : Nat) : Int)), (55, .int .i64 (((getM 0 ((p.1 / 8, p.2 / 8) : NP) mm) + 1 : Nat) : Int)), (56, .tuple #[(cntV (getM 0 ((p.1 / 8, p.2 / 8) : NP) mm)), .int .i64 ((idxM ((p.1 / 8, p.2 / 8) : NP) mm : Nat) : Int)]), (57, .int .i64 ((idxM ((p.1 / 8, p.2 / 8) : NP) mm : Nat) : Int))] (by kernel_rfl) (allM all_nil) (end_old rfl rfl (end_old rfl rfl (end_old rfl rfl (end_old rfl rfl (end_old rfl rfl (end_old rfl rfl (end_old rfl rfl (end_old rfl rfl (end_old rfl rfl (end_old rfl rfl (end_old rfl rfl (end_new 0 rfl rfl (end_new 1 rfl rfl (end_new 2 rfl rfl (end_new 3 rfl rfl (end_new 4 rfl rfl (end_new 5 rfl rfl (end_new 6 rfl rfl (end_new 7 rfl rfl (end_new 8 rfl rfl (end_new 9 rfl rfl (end_new 10 rfl rfl (end_new 11 rfl rfl end_nil))))))))))))))))))))))) ?_
    refine T_seq (T_region ?_)
    refine TL_q (.pointer (some ⟨c1.p, 0, none⟩)) (fun _ _ hρ _ => r_move (hρ _ _ rfl)) rfl rfl rfl (w_n rfl) ?_
    refine TL_q (.pointer (some ⟨B7, 0, none⟩)) (fun _ _ hρ _ => r_fieldAddr fl47_0 sz3 (hρ _ _ rfl)) rfl rfl rfl (w_n rfl) ?_
    refine TL_q (.int .i64 ((p.1 : Nat) : Int)) (fun _ _ hρ hm => r_load ag3 (hρ _ _ rfl) (hm.at 6 rfl) rfl) rfl rfl rfl (w_n rfl) ?_
    refine TL_q (.pointer (some ⟨B7, 1, none⟩)) (fun _ _ hρ _ => r_fieldAddr fl47_1 sz3 (hρ _ _ rfl)) rfl rfl rfl (w_n rfl) ?_
    refine TL_q (.int .i64 ((p.2 : Nat) : Int)) (fun _ _ hρ hm => r_load ag3 (hρ _ _ rfl) (hm.at 6 rfl) rfl) rfl rfl rfl (w_n rfl) ?_
    refine TL_call (.tuple #[.agg #[.int .u8 ((colAt c1.wd c1.ts p.1 p.2).r), .int .u8 ((colAt c1.wd c1.ts p.1 p.2).g), .int .u8 ((colAt c1.wd c1.ts p.1 p.2).b), .int .u8 ((colAt c1.wd c1.ts p.1 p.2).a)], .bool true]) (fun _ _ hρ _ => r_call (args := [.pointer (some ⟨c1.p, 0, none⟩), .int .i64 ((p.1 : Nat) : Int), .int .i64 ((p.2 : Nat) : Int)]) (enters_of Try.func23 (by kernel_rfl) rfl) (hρ _ _ rfl) ((cons2 (hρ _ _ rfl) (cons2 (hρ _ _ rfl) (cons2 (hρ _ _ rfl) rfl)))) rfl) (fun w hm => cat_in c1 p.1 p.2 w (hm.cv 960 rfl (List.Mem.tail _ (List.Mem.head _))) hpx hpy) rfl rfl rfl (w_n rfl) ?_
    refine TL_q (.tuple #[.agg #[.int .u8 ((colAt c1.wd c1.ts p.1 p.2).r), .int .u8 ((colAt c1.wd c1.ts p.1 p.2).g), .int .u8 ((colAt c1.wd c1.ts p.1 p.2).b), .int .u8 ((colAt c1.wd c1.ts p.1 p.2).a)], .bool true]) (fun _ _ hρ _ => r_move (hρ _ _ rfl)) rfl rfl rfl (w_n rfl) ?_
    refine TL_q (.agg #[.int .u8 ((colAt c1.wd c1.ts p.1 p.2).r), .int .u8 ((colAt c1.wd c1.ts p.1 p.2).g), .int .u8 ((colAt c1.wd c1.ts p.1 p.2).b), .int .u8 ((colAt c1.wd c1.ts p.1 p.2).a)]) (fun _ _ hρ _ => r_extract (hρ _ _ rfl) rfl) rfl rfl rfl (w_n rfl) ?_
    refine TL_q (.bool true) (fun _ _ hρ _ => r_extract (hρ _ _ rfl) rfl) rfl rfl rfl (w_n rfl) ?_
    refine TL_new 7 (.cells #[.int .u8 0, .int .u8 0, .int .u8 0, .int .u8 0] 37) (fun B => .pointer (some ⟨B, 0, none⟩)) (fun _ _ _ _ => r_alloc (v := .agg #[.int .u8 0, .int .u8 0, .int .u8 0, .int .u8 0]) (by kernel_rfl) rfl) rfl rfl rfl (w_n rfl) ?_
    intro B8
    refine TL_store 7 (.cells #[.int .u8 ((colAt c1.wd c1.ts p.1 p.2).r), .int .u8 ((colAt c1.wd c1.ts p.1 p.2).g), .int .u8 ((colAt c1.wd c1.ts p.1 p.2).b), .int .u8 ((colAt c1.wd c1.ts p.1 p.2).a)] 37) rfl (fun _ _ hρ hm => r_store sz37 (hρ _ _ rfl) (hρ _ _ rfl) (hm.at 7 rfl) rfl rfl rfl rfl) rfl rfl (w_n rfl) ?_
    refine TL_q (.bool true) (fun _ _ hρ _ => r_assign (hρ _ _ rfl)) rfl rfl rfl (w_n rfl) ?_
    refine TL_seq ?_
    refine T_seq (T_region ?_)
    refine TL_q (.pointer (some ⟨d1.p, 0, none⟩)) (fun _ _ hρ _ => r_move (hρ _ _ rfl)) rfl rfl rfl (w_n rfl) ?_
    refine TL_q (.pointer (some ⟨B7, 0, none⟩)) (fun _ _ hρ _ => r_fieldAddr fl47_0 sz3 (hρ _ _ rfl)) rfl rfl rfl (w_n rfl) ?_
    refine TL_q (.int .i64 ((p.1 : Nat) : Int)) (fun _ _ hρ hm => r_load ag3 (hρ _ _ rfl) (hm.at 6 rfl) rfl) rfl rfl rfl (w_n rfl) ?_
    refine TL_q (.pointer (some ⟨B7, 1, none⟩)) (fun _ _ hρ _ => r_fieldAddr fl47_1 sz3 (hρ _ _ rfl)) rfl rfl rfl (w_n rfl) ?_
    refine TL_q (.int .i64 ((p.2 : Nat) : Int)) (fun _ _ hρ hm => r_load ag3 (hρ _ _ rfl) (hm.at 6 rfl) rfl) rfl rfl rfl (w_n rfl) ?_
    refine TL_call (.tuple #[.agg #[.int .u8 ((colAt d1.wd d1.ts p.1 p.2).r), .int .u8 ((colAt d1.wd d1.ts p.1 p.2).g), .int .u8 ((colAt d1.wd d1.ts p.1 p.2).b), .int .u8 ((colAt d1.wd d1.ts p.1 p.2).a)], .bool true]) (fun _ _ hρ _ => r_call (args := [.pointer (some ⟨d1.p, 0, none⟩), .int .i64 ((p.1 : Nat) : Int), .int .i64 ((p.2 : Nat) : Int)]) (enters_of Try.func23 (by kernel_rfl) rfl) (hρ _ _ rfl) ((cons2 (hρ _ _ rfl) (cons2 (hρ _ _ rfl) (cons2 (hρ _ _ rfl) rfl)))) rfl) (fun w hm => cat_in d1 p.1 p.2 w (hm.cv 960 rfl (List.Mem.head _)) hpx2 hpy2) rfl rfl rfl (w_n rfl) ?_
    refine TL_q (.tuple #[.agg #[.int .u8 ((colAt d1.wd d1.ts p.1 p.2).r), .int .u8 ((colAt d1.wd d1.ts p.1 p.2).g), .int .u8 ((colAt d1.wd d1.ts p.1 p.2).b), .int .u8 ((colAt d1.wd d1.ts p.1 p.2).a)], .bool true]) (fun _ _ hρ _ => r_move (hρ _ _ rfl)) rfl rfl rfl (w_n rfl) ?_
    refine TL_q (.agg #[.int .u8 ((colAt d1.wd d1.ts p.1 p.2).r), .int .u8 ((colAt d1.wd d1.ts p.1 p.2).g), .int .u8 ((colAt d1.wd d1.ts p.1 p.2).b), .int .u8 ((colAt d1.wd d1.ts p.1 p.2).a)]) (fun _ _ hρ _ => r_extract (hρ _ _ rfl) rfl) rfl rfl rfl (w_n rfl) ?_
    refine TL_q (.bool true) (fun _ _ hρ _ => r_extract (hρ _ _ rfl) rfl) rfl rfl rfl (w_n rfl) ?_
    refine TL_new 8 (.cells #[.int .u8 0, .int .u8 0, .int .u8 0, .int .u8 0] 37) (fun B => .pointer (some ⟨B, 0, none⟩)) (fun _ _ _ _ => r_alloc (v := .agg #[.int .u8 0, .int .u8 0, .int .u8 0, .int .u8 0]) (by kernel_rfl) rfl) rfl rfl rfl (w_n rfl) ?_
    intro B9
    refine TL_store 8 (.cells #[.int .u8 ((colAt d1.wd d1.ts p.1 p.2).r), .int .u8 ((colAt d1.wd d1.ts p.1 p.2).g), .int .u8 ((colAt d1.wd d1.ts p.1 p.2).b), .int .u8 ((colAt d1.wd d1.ts p.1 p.2).a)] 37) rfl (fun _ _ hρ hm => r_store sz37 (hρ _ _ rfl) (hρ _ _ rfl) (hm.at 8 rfl) rfl rfl rfl rfl) rfl rfl (w_n rfl) ?_
    refine TL_q (.bool true) (fun _ _ hρ _ => r_assign (hρ _ _ rfl)) rfl rfl rfl (w_n rfl) ?_
    refine TL_seq ?_
    refine T_seq (T_region ?_)
    refine TL_q (.agg #[.int .u8 0, .int .u8 0, .int .u8 0, .int .u8 0]) (fun _ _ _ _ => r_build (vs := []) (by kernel_rfl) rfl) rfl rfl rfl (w_n rfl) ?_
    refine TL_new 9 (.cells #[.int .u8 0, .int .u8 0, .int .u8 0, .int .u8 0] 37) (fun B => .pointer (some ⟨B, 0, none⟩)) (fun _ _ _ _ => r_alloc (v := .agg #[.int .u8 0, .int .u8 0, .int .u8 0, .int .u8 0]) (by kernel_rfl) rfl) rfl rfl rfl (w_n rfl) ?_
    intro B10
    refine TL_store 9 (.cells #[.int .u8 0, .int .u8 0, .int .u8 0, .int .u8 0] 37) rfl (fun _ _ hρ hm => r_store sz37 (hρ _ _ rfl) (hρ _ _ rfl) (hm.at 9 rfl) rfl rfl rfl rfl) rfl rfl (w_n rfl) ?_
    refine TL_q (.bool false) (fun _ _ hρ _ => r_assign (hρ _ _ rfl)) rfl rfl rfl (w_n rfl) ?_
    refine TL_seq ?_
    refine T_seq ?_
    refine T_seq (T_region ?_)
    refine TL_q (.slice ar3 ((ys.take 30).length) cr3) (fun _ _ hρ _ => r_move (hρ _ _ rfl)) rfl rfl rfl (w_n rfl) ?_
    refine TL_q (.int .i64 (((ys.take 30).length : Nat) : Int)) (fun _ _ hρ _ => r_len sl25 (hρ _ _ rfl)) rfl rfl rfl (w_n rfl) ?_
    refine TL_q (.int .i64 0) (fun _ _ hρ _ => r_move (hρ _ _ rfl)) rfl rfl rfl (w_n rfl) ?_
    refine TL_seq ?_
    refine T_block ?_
    refine T_loop (ι := Nat) (fun (j : Nat) => j ≤ (ys.take 30).length) (fun (j : Nat) => [(5, .pointer (some ⟨c1.p, 0, none⟩)), (1, .slice ar3 ((ys.take 30).length) cr3), (7, .pointer (some ⟨d1.p, 0, none⟩)), (8, .map (some B4)), (40, .slice (some ⟨g6, 0, none⟩) ((difC c1.wd c1.hg c1.ts d1.ts).length) cr5), (41, .int .i64 (((difC c1.wd c1.hg c1.ts d1.ts).length : Nat) : Int)), (42, .int .i64 ((k : Nat) : Int)), (43, .bool (decide (((k : Nat) : Int) < (((difC c1.wd c1.hg c1.ts d1.ts).length : Nat) : Int)))), (44, .pointer (some ⟨g6, 0 + k * 2, none⟩)), (45, .agg #[.int .i64 ((p.1 : Nat) : Int), .int .i64 ((p.2 : Nat) : Int)]), (10, .pointer (some ⟨B7, 0, none⟩)), (46, .map (some B4)), (47, .pointer (some ⟨B7, 0, none⟩)), (48, .int .i64 ((p.1 : Nat) : Int)), (49, .int .i64 ((p.1 / 8 : Nat) : Int)), (50, .pointer (some ⟨B7, 1, none⟩)), (51, .int .i64 ((p.2 : Nat) : Int)), (52, .int .i64 ((p.2 / 8 : Nat) : Int)), (53, .agg #[.int .i64 ((p.1 / 8 : Nat) : Int), .int .i64 ((p.2 / 8 : Nat) : Int)]), (54, .int .i64 ((getM 0 ((p.1 / 8, p.2 / 8) : NP) mm : Nat) : Int)), (55, .int .i64 (((getM 0 ((p.1 / 8, p.2 / 8) : NP) mm) + 1 : Nat) : Int)), (56, .tuple #[(cntV (getM 0 ((p.1 / 8, p.2 / 8) : NP) mm)), .int .i64 ((idxM ((p.1 / 8, p.2 / 8) : NP) mm : Nat) : Int)]), (57, .int .i64 ((idxM ((p.1 / 8, p.2 / 8) : NP) mm : Nat) : Int)), (59, .pointer (some ⟨c1.p, 0, none⟩)), (60, .pointer (some ⟨B7, 0, none⟩)), (61, .int .i64 ((p.1 : Nat) : Int)), (62, .pointer (some ⟨B7, 1, none⟩)), (63, .int .i64 ((p.2 : Nat) : Int)), (64, .tuple #[.agg #[.int .u8 ((colAt c1.wd c1.ts p.1 p.2).r), .int .u8 ((colAt c1.wd c1.ts p.1 p.2).g), .int .u8 ((colAt c1.wd c1.ts p.1 p.2).b), .int .u8 ((colAt c1.wd c1.ts p.1 p.2).a)], .bool true]), (58, .tuple #[.agg #[.int .u8 ((colAt c1.wd c1.ts p.1 p.2).r), .int .u8 ((colAt c1.wd c1.ts p.1 p.2).g), .int .u8 ((colAt c1.wd c1.ts p.1 p.2).b), .int .u8 ((colAt c1.wd c1.ts p.1 p.2).a)], .bool true]), (65, .agg #[.int .u8 ((colAt c1.wd c1.ts p.1 p.2).r), .int .u8 ((colAt c1.wd c1.ts p.1 p.2).g), .int .u8 ((colAt c1.wd c1.ts p.1 p.2).b), .int .u8 ((colAt c1.wd c1.ts p.1 p.2).a)]), (66, .bool true), (11, .pointer (some ⟨B8, 0, none⟩)), (12, .bool true), (68, .pointer (some ⟨d1.p, 0, none⟩)), (69, .pointer (some ⟨B7, 0, none⟩)), (70, .int .i64 ((p.1 : Nat) : Int)), (71, .pointer (some ⟨B7, 1, none⟩)), (72, .int .i64 ((p.2 : Nat) : Int)), (73, .tuple #[.agg #[.int .u8 ((colAt d1.wd d1.ts p.1 p.2).r), .int .u8 ((colAt d1.wd d1.ts p.1 p.2).g), .int .u8 ((colAt d1.wd d1.ts p.1 p.2).b), .int .u8 ((colAt d1.wd d1.ts p.1 p.2).a)], .bool true]), (67, .tuple #[.agg #[.int .u8 ((colAt d1.wd d1.ts p.1 p.2).r), .int .u8 ((colAt d1.wd d1.ts p.1 p.2).g), .int .u8 ((colAt d1.wd d1.ts p.1 p.2).b), .int .u8 ((colAt d1.wd d1.ts p.1 p.2).a)], .bool true]), (74, .agg #[.int .u8 ((colAt d1.wd d1.ts p.1 p.2).r), .int .u8 ((colAt d1.wd d1.ts p.1 p.2).g), .int .u8 ((colAt d1.wd d1.ts p.1 p.2).b), .int .u8 ((colAt d1.wd d1.ts p.1 p.2).a)]), (75, .bool true), (13, .pointer (some ⟨B9, 0, none⟩)), (14, .bool true), (76, .agg #[.int .u8 0, .int .u8 0, .int .u8 0, .int .u8 0]), (15, .pointer (some ⟨B10, 0, none⟩)), (77, .slice ar3 ((ys.take 30).length) cr3), (78, .int .i64 (((ys.take 30).length : Nat) : Int)), (79, .int .i64 ((j : Nat) : Int)), (16, .bool ((lastD ((ys.take 30).take j) p.1 p.2).isSome))]) (fun (j : Nat) => [(5, .row (.slice (some ⟨g6, 0, none⟩) ((difC c1.wd c1.hg c1.ts d1.ts).length) cr5) 47 2 ((difC c1.wd c1.hg c1.ts d1.ts).length) ((difC c1.wd c1.hg c1.ts d1.ts).flatMap ptn)), (960, .cvs [d1, c1]), (3, .row (.slice ar3 ((ys.take 30).length) cr3) 51 6 ((ys.take 30).length) ((ys.take 30).flatMap Dt.cells)), (2, .row (.slice ar2 ((ts.take 17).length) cr2) 39 256 ((ts.take 17).length) ((ts.take 17).flatMap T64.cells)), (1, .blk B1 (.cells #[.int .i64 ((wd : Nat) : Int), .int .i64 ((hg : Nat) : Int), .slice a ts.length cap] 24)), (6, .blk B7 (.cells #[.int .i64 ((p.1 : Nat) : Int), .int .i64 ((p.2 : Nat) : Int)] 47)), (4, .blk B4 ((mapO ptV cntV (putM ((p.1 / 8, p.2 / 8) : NP) ((getM 0 ((p.1 / 8, p.2 / 8) : NP) mm) + 1) mm)))), (7, .blk B8 (.cells #[.int .u8 ((colAt c1.wd c1.ts p.1 p.2).r), .int .u8 ((colAt c1.wd c1.ts p.1 p.2).g), .int .u8 ((colAt c1.wd c1.ts p.1 p.2).b), .int .u8 ((colAt c1.wd c1.ts p.1 p.2).a)] 37)), (8, .blk B9 (.cells #[.int .u8 ((colAt d1.wd d1.ts p.1 p.2).r), .int .u8 ((colAt d1.wd d1.ts p.1 p.2).g), .int .u8 ((colAt d1.wd d1.ts p.1 p.2).b), .int .u8 ((colAt d1.wd d1.ts p.1 p.2).a)] 37)), (9, .blk B10 (.cells #[.int .u8 (((lastD ((ys.take 30).take j) p.1 p.2).getD zeroC).r), .int .u8 (((lastD ((ys.take 30).take j) p.1 p.2).getD zeroC).g), .int .u8 (((lastD ((ys.take 30).take j) p.1 p.2).getD zeroC).b), .int .u8 (((lastD ((ys.take 30).take j) p.1 p.2).getD zeroC).a)] 37))]) (fun (j : Nat) => (ys.take 30).length - j) 0 (Nat.zero_le _) (sub_cons rfl (sub_cons rfl (sub_cons rfl (sub_cons rfl (sub_cons rfl (sub_cons rfl (sub_cons rfl (sub_cons rfl (sub_cons rfl (sub_cons rfl (sub_cons rfl (sub_cons rfl (sub_cons rfl (sub_cons rfl (sub_cons rfl (sub_cons rfl (sub_cons rfl (sub_cons rfl (sub_cons rfl (sub_cons rfl (sub_cons rfl (sub_cons rfl (sub_cons rfl (sub_cons rfl (sub_cons rfl (sub_cons rfl (sub_cons rfl (sub_cons rfl (sub_cons rfl (sub_cons rfl (sub_cons rfl (sub_cons rfl (sub_cons rfl (sub_cons rfl (sub_cons rfl (sub_cons rfl (sub_cons rfl (sub_cons rfl (sub_cons rfl (sub_cons rfl (sub_cons rfl (sub_cons rfl (sub_cons rfl (sub_cons rfl (sub_cons rfl (sub_cons rfl (sub_cons rfl (sub_cons rfl (sub_cons rfl (sub_cons rfl (sub_cons rfl sub_nil))))))))))))))))))))))))))))))))))))))))))))))))))) (sub_cons rfl (sub_cons rfl (sub_cons rfl (sub_cons rfl (sub_cons rfl (sub_cons rfl (sub_cons rfl (sub_cons rfl (sub_cons rfl (sub_cons rfl sub_nil)))))))))) ?_
    rintro j hp
    show T _ _ _ [(5, .pointer (some ⟨c1.p, 0, none⟩)), (1, .slice ar3 ((ys.take 30).length) cr3), (7, .pointer (some ⟨d1.p, 0, none⟩)), (8, .map (some B4)), (40, .slice (some ⟨g6, 0, none⟩) ((difC c1.wd c1.hg c1.ts d1.ts).length) cr5), (41, .int .i64 (((difC c1.wd c1.hg c1.ts d1.ts).length : Nat) : Int)), (42, .int .i64 ((k : Nat) : Int)), (43, .bool (decide (((k : Nat) : Int) < (((difC c1.wd c1.hg c1.ts d1.ts).length : Nat) : Int)))), (44, .pointer (some ⟨g6, 0 + k * 2, none⟩)), (45, .agg #[.int .i64 ((p.1 : Nat) : Int), .int .i64 ((p.2 : Nat) : Int)]), (10, .pointer (some ⟨B7, 0, none⟩)), (46, .map (some B4)), (47, .pointer (some ⟨B7, 0, none⟩)), (48, .int .i64 ((p.1 : Nat) : Int)), (49, .int .i64 ((p.1 / 8 : Nat) : Int)), (50, .pointer (some ⟨B7, 1, none⟩)), (51, .int .i64 ((p.2 : Nat) : Int)), (52, .int .i64 ((p.2 / 8 : Nat) : Int)), (53, .agg #[.int .i64 ((p.1 / 8 : Nat) : Int), .int .i64 ((p.2 / 8 : Nat) : Int)]), (54, .int .i64 ((getM 0 ((p.1 / 8, p.2 / 8) : NP) mm : Nat) : Int)), (55, .int .i64 (((getM 0 ((p.1 / 8, p.2 / 8) : NP) mm) + 1 : Nat) : Int)), (56, .tuple #[(cntV (getM 0 ((p.1 / 8, p.2 / 8) : NP) mm)), .int .i64 ((idxM ((p.1 / 8, p.2 / 8) : NP) mm : Nat) : Int)]), (57, .int .i64 ((idxM ((p.1 / 8, p.2 / 8) : NP) mm : Nat) : Int)), (59, .pointer (some ⟨c1.p, 0, none⟩)), (60, .pointer (some ⟨B7, 0, none⟩)), (61, .int .i64 ((p.1 : Nat) : Int)), (62, .pointer (some ⟨B7, 1, none⟩)), (63, .int .i64 ((p.2 : Nat) : Int)), (64, .tuple #[.agg #[.int .u8 ((colAt c1.wd c1.ts p.1 p.2).r), .int .u8 ((colAt c1.wd c1.ts p.1 p.2).g), .int .u8 ((colAt c1.wd c1.ts p.1 p.2).b), .int .u8 ((colAt c1.wd c1.ts p.1 p.2).a)], .bool true]), (58, .tuple #[.agg #[.int .u8 ((colAt c1.wd c1.ts p.1 p.2).r), .int .u8 ((colAt c1.wd c1.ts p.1 p.2).g), .int .u8 ((colAt c1.wd c1.ts p.1 p.2).b), .int .u8 ((colAt c1.wd c1.ts p.1 p.2).a)], .bool true]), (65, .agg #[.int .u8 ((colAt c1.wd c1.ts p.1 p.2).r), .int .u8 ((colAt c1.wd c1.ts p.1 p.2).g), .int .u8 ((colAt c1.wd c1.ts p.1 p.2).b), .int .u8 ((colAt c1.wd c1.ts p.1 p.2).a)]), (66, .bool true), (11, .pointer (some ⟨B8, 0, none⟩)), (12, .bool true), (68, .pointer (some ⟨d1.p, 0, none⟩)), (69, .pointer (some ⟨B7, 0, none⟩)), (70, .int .i64 ((p.1 : Nat) : Int)), (71, .pointer (some ⟨B7, 1, none⟩)), (72, .int .i64 ((p.2 : Nat) : Int)), (73, .tuple #[.agg #[.int .u8 ((colAt d1.wd d1.ts p.1 p.2).r), .int .u8 ((colAt d1.wd d1.ts p.1 p.2).g), .int .u8 ((colAt d1.wd d1.ts p.1 p.2).b), .int .u8 ((colAt d1.wd d1.ts p.1 p.2).a)], .bool true]), (67, .tuple #[.agg #[.int .u8 ((colAt d1.wd d1.ts p.1 p.2).r), .int .u8 ((colAt d1.wd d1.ts p.1 p.2).g), .int .u8 ((colAt d1.wd d1.ts p.1 p.2).b), .int .u8 ((colAt d1.wd d1.ts p.1 p.2).a)], .bool true]), (74, .agg #[.int .u8 ((colAt d1.wd d1.ts p.1 p.2).r), .int .u8 ((colAt d1.wd d1.ts p.1 p.2).g), .int .u8 ((colAt d1.wd d1.ts p.1 p.2).b), .int .u8 ((colAt d1.wd d1.ts p.1 p.2).a)]), (75, .bool true), (13, .pointer (some ⟨B9, 0, none⟩)), (14, .bool true), (76, .agg #[.int .u8 0, .int .u8 0, .int .u8 0, .int .u8 0]), (15, .pointer (some ⟨B10, 0, none⟩)), (77, .slice ar3 ((ys.take 30).length) cr3), (78, .int .i64 (((ys.take 30).length : Nat) : Int)), (79, .int .i64 ((j : Nat) : Int)), (16, .bool ((lastD ((ys.take 30).take j) p.1 p.2).isSome))] [(5, .row (.slice (some ⟨g6, 0, none⟩) ((difC c1.wd c1.hg c1.ts d1.ts).length) cr5) 47 2 ((difC c1.wd c1.hg c1.ts d1.ts).length) ((difC c1.wd c1.hg c1.ts d1.ts).flatMap ptn)), (960, .cvs [d1, c1]), (3, .row (.slice ar3 ((ys.take 30).length) cr3) 51 6 ((ys.take 30).length) ((ys.take 30).flatMap Dt.cells)), (2, .row (.slice ar2 ((ts.take 17).length) cr2) 39 256 ((ts.take 17).length) ((ts.take 17).flatMap T64.cells)), (1, .blk B1 (.cells #[.int .i64 ((wd : Nat) : Int), .int .i64 ((hg : Nat) : Int), .slice a ts.length cap] 24)), (6, .blk B7 (.cells #[.int .i64 ((p.1 : Nat) : Int), .int .i64 ((p.2 : Nat) : Int)] 47)), (4, .blk B4 ((mapO ptV cntV (putM ((p.1 / 8, p.2 / 8) : NP) ((getM 0 ((p.1 / 8, p.2 / 8) : NP) mm) + 1) mm)))), (7, .blk B8 (.cells #[.int .u8 ((colAt c1.wd c1.ts p.1 p.2).r), .int .u8 ((colAt c1.wd c1.ts p.1 p.2).g), .int .u8 ((colAt c1.wd c1.ts p.1 p.2).b), .int .u8 ((colAt c1.wd c1.ts p.1 p.2).a)] 37)), (8, .blk B9 (.cells #[.int .u8 ((colAt d1.wd d1.ts p.1 p.2).r), .int .u8 ((colAt d1.wd d1.ts p.1 p.2).g), .int .u8 ((colAt d1.wd d1.ts p.1 p.2).b), .int .u8 ((colAt d1.wd d1.ts p.1 p.2).a)] 37)), (9, .blk B10 (.cells #[.int .u8 (((lastD ((ys.take 30).take j) p.1 p.2).getD zeroC).r), .int .u8 (((lastD ((ys.take 30).take j) p.1 p.2).getD zeroC).g), .int .u8 (((lastD ((ys.take 30).take j) p.1 p.2).getD zeroC).b), .int .u8 (((lastD ((ys.take 30).take j) p.1 p.2).getD zeroC).a)] 37))]
    refine T_seq (T_region ?_)
    refine TL_q (.bool (decide (((j : Nat) : Int) < (((ys.take 30).length : Nat) : Int)))) (fun _ _ hρ _ => r_lss (hρ _ _ rfl) (hρ _ _ rfl)) rfl rfl rfl (w_n rfl) ?_
    refine TL_seq ?_
    refine T_seq ?_
    refine T_cond rfl (fun h2 => ?_) (fun h2 => ?_)
    · replace h2 := of_decide_eq_true h2
      refine T_skip' ?_
      refine p_seq ?_
      refine T_seq ?_
      refine T_block ?_
      obtain ⟨u, hu⟩ : ∃ x, (ys.take 30)[j]? = some x := ⟨_, List.getElem?_eq_getElem (by omega)⟩
      refine T_row 3 rfl (by omega) (fun g11 ha11 => ?_)
      subst ha11
      refine T_rowcap 3 rfl (fun hrc11 => ?_)
      refine T_seq (T_region ?_)
      refine TL_q (.pointer (some ⟨g11, 0 + j * 6, none⟩)) (fun _ _ hρ _ => r_indexAddrS (i := j) sl25 sz51 (hρ _ _ rfl) (hρ _ _ rfl) (by omega)) rfl rfl rfl (w_n rfl) ?_
      refine TL_q (.agg #[.int .i64 u.x, .int .i64 u.y, .int .u8 u.c.r, .int .u8 u.c.g, .int .u8 u.c.b, .int .u8 u.c.a]) (fun _ _ hρ hm => r_loadOwn (f := Dt.cells) (u := u) (l := (ys.take 30)) ag51 sz51 (hρ _ _ rfl) (hm.row 3 rfl) rfl rfl Dt.cells_len hu) rfl rfl rfl (w_n rfl) ?_
      refine TL_new 10 (.cells #[.int .i64 0, .int .i64 0, .int .u8 0, .int .u8 0, .int .u8 0, .int .u8 0] 51) (fun B => .pointer (some ⟨B, 0, none⟩)) (fun _ _ _ _ => r_alloc (v := .agg #[.int .i64 0, .int .i64 0, .int .u8 0, .int .u8 0, .int .u8 0, .int .u8 0]) (by kernel_rfl) rfl) rfl rfl rfl (w_n rfl) ?_
      intro B12
      refine TL_store 10 (.cells #[.int .i64 u.x, .int .i64 u.y, .int .u8 u.c.r, .int .u8 u.c.g, .int .u8 u.c.b, .int .u8 u.c.a] 51) rfl (fun _ _ hρ hm => r_store sz51 (hρ _ _ rfl) (hρ _ _ rfl) (hm.at 10 rfl) rfl rfl rfl rfl) rfl rfl (w_n rfl) ?_
      refine TL_seq ?_
      by_cases e1 : u.x = ((p.1 : Nat) : Int)
      · skip
        by_cases e2 : u.y = ((p.2 : Nat) : Int)
        · skip
          refine T_seq (T_region ?_)
          refine TL_q (.pointer (some ⟨B12, 0, none⟩)) (fun _ _ hρ _ => r_fieldAddr fl51_0 sz3 (hρ _ _ rfl)) rfl rfl rfl (w_n rfl) ?_
          refine TL_q (.int .i64 u.x) (fun _ _ hρ hm => r_load ag3 (hρ _ _ rfl) (hm.at 10 rfl) rfl) rfl rfl rfl (w_n rfl) ?_
          refine TL_q (.pointer (some ⟨B7, 0, none⟩)) (fun _ _ hρ _ => r_fieldAddr fl47_0 sz3 (hρ _ _ rfl)) rfl rfl rfl (w_n rfl) ?_
          refine TL_q (.int .i64 ((p.1 : Nat) : Int)) (fun _ _ hρ hm => r_load ag3 (hρ _ _ rfl) (hm.at 6 rfl) rfl) rfl rfl rfl (w_n rfl) ?_
          refine TL_q (.bool true) (fun _ _ hρ _ => r_as (r_eql (hρ _ _ rfl) (hρ _ _ rfl)) (bool_as (decide_eq_true e1))) rfl rfl rfl (w_n rfl) ?_
          refine TL_q (.bool true) (fun _ _ hρ _ => r_move (hρ _ _ rfl)) rfl rfl rfl (w_n rfl) ?_
          refine TL_q (.pointer (some ⟨B12, 1, none⟩)) (fun _ _ hρ _ => r_fieldAddr fl51_1 sz3 (hρ _ _ rfl)) rfl rfl rfl (want_y 88 rfl rfl rfl) ?_
          refine TL_q (.int .i64 u.y) (fun _ _ hρ hm => r_load ag3 (hρ _ _ rfl) (hm.at 10 rfl) rfl) rfl rfl rfl (want_y 88 rfl rfl rfl) ?_
          refine TL_q (.pointer (some ⟨B7, 1, none⟩)) (fun _ _ hρ _ => r_fieldAddr fl47_1 sz3 (hρ _ _ rfl)) rfl rfl rfl (want_y 88 rfl rfl rfl) ?_
          refine TL_q (.int .i64 ((p.2 : Nat) : Int)) (fun _ _ hρ hm => r_load ag3 (hρ _ _ rfl) (hm.at 6 rfl) rfl) rfl rfl rfl (want_y 88 rfl rfl rfl) ?_
          refine TL_q (.bool true) (fun _ _ hρ _ => r_as (r_eql (hρ _ _ rfl) (hρ _ _ rfl)) (bool_as (decide_eq_true e2))) rfl rfl rfl (want_y 88 rfl rfl rfl) ?_
          refine TL_q (.bool true) (fun _ _ hρ _ => r_pick_t (hρ _ _ rfl) (hρ _ _ rfl)) rfl rfl rfl (w_n rfl) ?_
          refine TL_seq ?_
          refine T_cond_t rfl ?_
          refine T_region ?_
          refine TL_q (.pointer (some ⟨B12, 2, none⟩)) (fun _ _ hρ _ => r_fieldAddr fl51_2 sz37 (hρ _ _ rfl)) rfl rfl rfl (w_n rfl) ?_
          refine TL_q (.agg #[.int .u8 u.c.r, .int .u8 u.c.g, .int .u8 u.c.b, .int .u8 u.c.a]) (fun _ _ hρ hm => r_loadA ag37 sz37 (hρ _ _ rfl) (hm.at 10 rfl) rfl rfl) rfl rfl rfl (w_n rfl) ?_
          refine TL_store 9 (.cells #[.int .u8 u.c.r, .int .u8 u.c.g, .int .u8 u.c.b, .int .u8 u.c.a] 37) rfl (fun _ _ hρ hm => r_store sz37 (hρ _ _ rfl) (hρ _ _ rfl) (hm.at 9 rfl) rfl rfl rfl rfl) rfl rfl (w_n rfl) ?_
          refine TL_q (.bool true) (fun _ _ hρ _ => r_assign (hρ _ _ rfl)) rfl rfl rfl (w_n rfl) ?_
          refine TL_nil ?_
          refine p_blk_n ?_
          refine p_seq ?_
          refine T_region ?_
          refine TL_q (.int .i64 ((j + 1 : Nat) : Int)) (fun _ _ hρ _ => r_as (r_add (hρ _ _ rfl) (hρ _ _ rfl)) (int_as ((wrap64 (by omega) (by omega)).trans (by omega)))) rfl rfl rfl (w_n rfl) ?_
          refine TL_q (.int .i64 ((j + 1 : Nat) : Int)) (fun _ _ hρ _ => r_move (hρ _ _ rfl)) rfl rfl rfl (w_n rfl) ?_
          refine TL_nil ?_
          exact p_at (j + 1) ⟨by omega, by omega⟩ (sub_cons rfl (sub_cons rfl (sub_cons rfl (sub_cons rfl (sub_cons rfl (sub_cons rfl (sub_cons rfl (sub_cons rfl (sub_cons rfl (sub_cons rfl (sub_cons rfl (sub_cons rfl (sub_cons rfl (sub_cons rfl (sub_cons rfl (sub_cons rfl (sub_cons rfl (sub_cons rfl (sub_cons rfl (sub_cons rfl (sub_cons rfl (sub_cons rfl (sub_cons rfl (sub_cons rfl (sub_cons rfl (sub_cons rfl (sub_cons rfl (sub_cons rfl (sub_cons rfl (sub_cons rfl (sub_cons rfl (sub_cons rfl (sub_cons rfl (sub_cons rfl (sub_cons rfl (sub_cons rfl (sub_cons rfl (sub_cons rfl (sub_cons rfl (sub_cons rfl (sub_cons rfl (sub_cons rfl (sub_cons rfl (sub_cons rfl (sub_cons rfl (sub_cons rfl (sub_cons rfl (sub_cons rfl (sub_cons rfl (sub_cons rfl (sub_cons (by rw [last_some hu e1 e2]; rfl) sub_nil))))))))))))))))))))))))))))))))))))))))))))))))))) (sub_cons rfl (sub_cons rfl (sub_cons rfl (sub_cons rfl (sub_cons rfl (sub_cons rfl (sub_cons rfl (sub_cons rfl (sub_cons rfl (sub_cons (by rw [last_some hu e1 e2]; rfl) sub_nil))))))))))
        · skip
          refine T_seq (T_region ?_)
          refine TL_q (.pointer (some ⟨B12, 0, none⟩)) (fun _ _ hρ _ => r_fieldAddr fl51_0 sz3 (hρ _ _ rfl)) rfl rfl rfl (w_n rfl) ?_
          refine TL_q (.int .i64 u.x) (fun _ _ hρ hm => r_load ag3 (hρ _ _ rfl) (hm.at 10 rfl) rfl) rfl rfl rfl (w_n rfl) ?_
          refine TL_q (.pointer (some ⟨B7, 0, none⟩)) (fun _ _ hρ _ => r_fieldAddr fl47_0 sz3 (hρ _ _ rfl)) rfl rfl rfl (w_n rfl) ?_
          refine TL_q (.int .i64 ((p.1 : Nat) : Int)) (fun _ _ hρ hm => r_load ag3 (hρ _ _ rfl) (hm.at 6 rfl) rfl) rfl rfl rfl (w_n rfl) ?_
          refine TL_q (.bool true) (fun _ _ hρ _ => r_as (r_eql (hρ _ _ rfl) (hρ _ _ rfl)) (bool_as (decide_eq_true e1))) rfl rfl rfl (w_n rfl) ?_
          refine TL_q (.bool true) (fun _ _ hρ _ => r_move (hρ _ _ rfl)) rfl rfl rfl (w_n rfl) ?_
          refine TL_q (.pointer (some ⟨B12, 1, none⟩)) (fun _ _ hρ _ => r_fieldAddr fl51_1 sz3 (hρ _ _ rfl)) rfl rfl rfl (want_y 88 rfl rfl rfl) ?_
          refine TL_q (.int .i64 u.y) (fun _ _ hρ hm => r_load ag3 (hρ _ _ rfl) (hm.at 10 rfl) rfl) rfl rfl rfl (want_y 88 rfl rfl rfl) ?_
          refine TL_q (.pointer (some ⟨B7, 1, none⟩)) (fun _ _ hρ _ => r_fieldAddr fl47_1 sz3 (hρ _ _ rfl)) rfl rfl rfl (want_y 88 rfl rfl rfl) ?_
          refine TL_q (.int .i64 ((p.2 : Nat) : Int)) (fun _ _ hρ hm => r_load ag3 (hρ _ _ rfl) (hm.at 6 rfl) rfl) rfl rfl rfl (want_y 88 rfl rfl rfl) ?_
          refine TL_q (.bool false) (fun _ _ hρ _ => r_as (r_eql (hρ _ _ rfl) (hρ _ _ rfl)) (bool_as (decide_eq_false e2))) rfl rfl rfl (want_y 88 rfl rfl rfl) ?_
          refine TL_q (.bool false) (fun _ _ hρ _ => r_pick_t (hρ _ _ rfl) (hρ _ _ rfl)) rfl rfl rfl (w_n rfl) ?_
          refine TL_seq ?_
          refine T_cond_f rfl ?_
          refine T_skip' ?_
          refine p_blk_n ?_
          refine p_seq ?_
          refine T_region ?_
          refine TL_q (.int .i64 ((j + 1 : Nat) : Int)) (fun _ _ hρ _ => r_as (r_add (hρ _ _ rfl) (hρ _ _ rfl)) (int_as ((wrap64 (by omega) (by omega)).trans (by omega)))) rfl rfl rfl (w_n rfl) ?_
          refine TL_q (.int .i64 ((j + 1 : Nat) : Int)) (fun _ _ hρ _ => r_move (hρ _ _ rfl)) rfl rfl rfl (w_n rfl) ?_
          refine TL_nil ?_
          exact p_at (j + 1) ⟨by omega, by omega⟩ (sub_cons rfl (sub_cons rfl (sub_cons rfl (sub_cons rfl (sub_cons rfl (sub_cons rfl (sub_cons rfl (sub_cons rfl (sub_cons rfl (sub_cons rfl (sub_cons rfl (sub_cons rfl (sub_cons rfl (sub_cons rfl (sub_cons rfl (sub_cons rfl (sub_cons rfl (sub_cons rfl (sub_cons rfl (sub_cons rfl (sub_cons rfl (sub_cons rfl (sub_cons rfl (sub_cons rfl (sub_cons rfl (sub_cons rfl (sub_cons rfl (sub_cons rfl (sub_cons rfl (sub_cons rfl (sub_cons rfl (sub_cons rfl (sub_cons rfl (sub_cons rfl (sub_cons rfl (sub_cons rfl (sub_cons rfl (sub_cons rfl (sub_cons rfl (sub_cons rfl (sub_cons rfl (sub_cons rfl (sub_cons rfl (sub_cons rfl (sub_cons rfl (sub_cons rfl (sub_cons rfl (sub_cons rfl (sub_cons rfl (sub_cons rfl (sub_cons (by rw [last_none hu (fun e => e2 e.2)]; rfl) sub_nil))))))))))))))))))))))))))))))))))))))))))))))))))) (sub_cons rfl (sub_cons rfl (sub_cons rfl (sub_cons rfl (sub_cons rfl (sub_cons rfl (sub_cons rfl (sub_cons rfl (sub_cons rfl (sub_cons (by rw [last_none hu (fun e => e2 e.2)]; rfl) sub_nil))))))))))
      · skip
        refine T_seq (T_region ?_)
        refine TL_q (.pointer (some ⟨B12, 0, none⟩)) (fun _ _ hρ _ => r_fieldAddr fl51_0 sz3 (hρ _ _ rfl)) rfl rfl rfl (w_n rfl) ?_
        refine TL_q (.int .i64 u.x) (fun _ _ hρ hm => r_load ag3 (hρ _ _ rfl) (hm.at 10 rfl) rfl) rfl rfl rfl (w_n rfl) ?_
        refine TL_q (.pointer (some ⟨B7, 0, none⟩)) (fun _ _ hρ _ => r_fieldAddr fl47_0 sz3 (hρ _ _ rfl)) rfl rfl rfl (w_n rfl) ?_
        refine TL_q (.int .i64 ((p.1 : Nat) : Int)) (fun _ _ hρ hm => r_load ag3 (hρ _ _ rfl) (hm.at 6 rfl) rfl) rfl rfl rfl (w_n rfl) ?_
        refine TL_q (.bool false) (fun _ _ hρ _ => r_as (r_eql (hρ _ _ rfl) (hρ _ _ rfl)) (bool_as (decide_eq_false e1))) rfl rfl rfl (w_n rfl) ?_
        refine TL_q (.bool false) (fun _ _ hρ _ => r_move (hρ _ _ rfl)) rfl rfl rfl (w_n rfl) ?_
        refine TL_no rfl rfl (want_n 88 rfl rfl rfl) ?_
        refine TL_no rfl rfl (want_n 88 rfl rfl rfl) ?_
        refine TL_no rfl rfl (want_n 88 rfl rfl rfl) ?_
        refine TL_no rfl rfl (want_n 88 rfl rfl rfl) ?_
        refine TL_no rfl rfl (want_n 88 rfl rfl rfl) ?_
        refine TL_q (.bool false) (fun _ _ hρ _ => r_pick_f (hρ _ _ rfl) (hρ _ _ rfl)) rfl rfl rfl (w_n rfl) ?_
        refine TL_seq ?_
        refine T_cond_f rfl ?_
        refine T_skip' ?_
        refine p_blk_n ?_
        refine p_seq ?_
        refine T_region ?_
        refine TL_q (.int .i64 ((j + 1 : Nat) : Int)) (fun _ _ hρ _ => r_as (r_add (hρ _ _ rfl) (hρ _ _ rfl)) (int_as ((wrap64 (by omega) (by omega)).trans (by omega)))) rfl rfl rfl (w_n rfl) ?_
        refine TL_q (.int .i64 ((j + 1 : Nat) : Int)) (fun _ _ hρ _ => r_move (hρ _ _ rfl)) rfl rfl rfl (w_n rfl) ?_
        refine TL_nil ?_
        exact p_at (j + 1) ⟨by omega, by omega⟩ (sub_cons rfl (sub_cons rfl (sub_cons rfl (sub_cons rfl (sub_cons rfl (sub_cons rfl (sub_cons rfl (sub_cons rfl (sub_cons rfl (sub_cons rfl (sub_cons rfl (sub_cons rfl (sub_cons rfl (sub_cons rfl (sub_cons rfl (sub_cons rfl (sub_cons rfl (sub_cons rfl (sub_cons rfl (sub_cons rfl (sub_cons rfl (sub_cons rfl (sub_cons rfl (sub_cons rfl (sub_cons rfl (sub_cons rfl (sub_cons rfl (sub_cons rfl (sub_cons rfl (sub_cons rfl (sub_cons rfl (sub_cons rfl (sub_cons rfl (sub_cons rfl (sub_cons rfl (sub_cons rfl (sub_cons rfl (sub_cons rfl (sub_cons rfl (sub_cons rfl (sub_cons rfl (sub_cons rfl (sub_cons rfl (sub_cons rfl (sub_cons rfl (sub_cons rfl (sub_cons rfl (sub_cons rfl (sub_cons rfl (sub_cons rfl (sub_cons (by rw [last_none hu (fun e => e1 e.1)]; rfl) sub_nil))))))))))))))))))))))))))))))))))))))))))))))))))) (sub_cons rfl (sub_cons rfl (sub_cons rfl (sub_cons rfl (sub_cons rfl (sub_cons rfl (sub_cons rfl (sub_cons rfl (sub_cons rfl (sub_cons (by rw [last_none hu (fun e => e1 e.1)]; rfl) sub_nil))))))))))
    · replace h2 := of_decide_eq_false h2
      refine T_exit' ?_
      refine p_then_x ?_
      refine p_then_x ?_
      refine p_blk_x ?_
      refine p_seq ?_
      have hj : j = (ys.take 30).length := by omega
      subst hj
      rw [List.take_length]
      have hcd : colAt c1.wd d1.ts p.1 p.2 = (lastD (ys.take 30) p.1 p.2).getD (colAt c1.wd c1.ts p.1 p.2) := by rw [hts_d1]; have := colAt_putDs (hn_c1.at'.len2.trans hn_c1.at'.len) hpx hpy (ys.take 30) _ (Nat.le_refl _); rwa [List.take_length] at this
      obtain ⟨cl, hcl⟩ : ∃ cl, (lastD (ys.take 30) p.1 p.2) = some cl := by cases h : (lastD (ys.take 30) p.1 p.2) with | none => (rw [h] at hcd; exact absurd hcd.symm hpn) | some cl => exact ⟨cl, rfl⟩
      have g1 : (lastD (ys.take 30) p.1 p.2).isSome = true := by rw [hcl]; rfl
      have g2 : ¬ (colAt c1.wd c1.ts p.1 p.2) = (colAt d1.wd d1.ts p.1 p.2) := by rw [hwd_d1]; exact hpn
      have g3 : (colAt d1.wd d1.ts p.1 p.2) = ((lastD (ys.take 30) p.1 p.2).getD zeroC) := by rw [hwd_d1, hcd, hcl]; rfl
      rw [g1]
      refine T_seq (T_region ?_)
      refine TL_q (.bool true) (fun _ _ hρ _ => r_move (hρ _ _ rfl)) rfl rfl rfl (w_n rfl) ?_
      refine TL_q (.bool false) (fun _ _ hρ _ => r_not (b := true) (hρ _ _ rfl)) rfl rfl rfl (w_n rfl) ?_
      refine TL_q (.bool false) (fun _ _ hρ _ => r_move (hρ _ _ rfl)) rfl rfl rfl (w_n rfl) ?_
      refine TL_q (.bool true) (fun _ _ hρ _ => r_move (hρ _ _ rfl)) rfl rfl rfl (want_y 100 rfl rfl rfl) ?_
      refine TL_q (.bool false) (fun _ _ hρ _ => r_not (b := true) (hρ _ _ rfl)) rfl rfl rfl (want_y 100 rfl rfl rfl) ?_
      refine TL_q (.bool false) (fun _ _ hρ _ => r_pick_f (hρ _ _ rfl) (hρ _ _ rfl)) rfl rfl rfl (w_n rfl) ?_
      refine TL_q (.bool false) (fun _ _ hρ _ => r_move (hρ _ _ rfl)) rfl rfl rfl (w_n rfl) ?_
      refine TL_q (.agg #[.int .u8 ((colAt c1.wd c1.ts p.1 p.2).r), .int .u8 ((colAt c1.wd c1.ts p.1 p.2).g), .int .u8 ((colAt c1.wd c1.ts p.1 p.2).b), .int .u8 ((colAt c1.wd c1.ts p.1 p.2).a)]) (fun _ _ hρ hm => r_loadA ag37 sz37 (hρ _ _ rfl) (hm.at 7 rfl) rfl rfl) rfl rfl rfl (want_y 104 rfl rfl rfl) ?_
      refine TL_q (.agg #[.int .u8 ((colAt d1.wd d1.ts p.1 p.2).r), .int .u8 ((colAt d1.wd d1.ts p.1 p.2).g), .int .u8 ((colAt d1.wd d1.ts p.1 p.2).b), .int .u8 ((colAt d1.wd d1.ts p.1 p.2).a)]) (fun _ _ hρ hm => r_loadA ag37 sz37 (hρ _ _ rfl) (hm.at 8 rfl) rfl rfl) rfl rfl rfl (want_y 104 rfl rfl rfl) ?_
      refine TL_q (.bool false) (fun _ _ hρ _ => r_as (r_as (r_eqlA (by kernel_rfl) (hρ _ _ rfl) (hρ _ _ rfl) (run_equalI (l := [(0, .u8), (1, .u8), (2, .u8), (3, .u8)]) (by kernel_rfl) rfl rfl)) (bool_as (eqC (colAt c1.wd c1.ts p.1 p.2) (colAt d1.wd d1.ts p.1 p.2)))) (bool_as (decide_eq_false g2))) rfl rfl rfl (want_y 104 rfl rfl rfl) ?_
      refine TL_q (.bool false) (fun _ _ hρ _ => r_pick_f (hρ _ _ rfl) (hρ _ _ rfl)) rfl rfl rfl (w_n rfl) ?_
      refine TL_q (.bool false) (fun _ _ hρ _ => r_move (hρ _ _ rfl)) rfl rfl rfl (w_n rfl) ?_
      refine TL_q (.bool true) (fun _ _ hρ _ => r_move (hρ _ _ rfl)) rfl rfl rfl (want_y 109 rfl rfl rfl) ?_
      refine TL_q (.bool false) (fun _ _ hρ _ => r_not (b := true) (hρ _ _ rfl)) rfl rfl rfl (want_y 109 rfl rfl rfl) ?_
      refine TL_q (.bool false) (fun _ _ hρ _ => r_pick_f (hρ _ _ rfl) (hρ _ _ rfl)) rfl rfl rfl (w_n rfl) ?_
      refine TL_q (.bool false) (fun _ _ hρ _ => r_move (hρ _ _ rfl)) rfl rfl rfl (w_n rfl) ?_
      refine TL_q (.agg #[.int .u8 ((colAt d1.wd d1.ts p.1 p.2).r), .int .u8 ((colAt d1.wd d1.ts p.1 p.2).g), .int .u8 ((colAt d1.wd d1.ts p.1 p.2).b), .int .u8 ((colAt d1.wd d1.ts p.1 p.2).a)]) (fun _ _ hρ hm => r_loadA ag37 sz37 (hρ _ _ rfl) (hm.at 8 rfl) rfl rfl) rfl rfl rfl (want_y 113 rfl rfl rfl) ?_
      refine TL_q (.agg #[.int .u8 (((lastD (ys.take 30) p.1 p.2).getD zeroC).r), .int .u8 (((lastD (ys.take 30) p.1 p.2).getD zeroC).g), .int .u8 (((lastD (ys.take 30) p.1 p.2).getD zeroC).b), .int .u8 (((lastD (ys.take 30) p.1 p.2).getD zeroC).a)]) (fun _ _ hρ hm => r_loadA ag37 sz37 (hρ _ _ rfl) (hm.at 9 rfl) rfl rfl) rfl rfl rfl (want_y 113 rfl rfl rfl) ?_
      refine TL_q (.bool false) (fun _ _ hρ _ => r_as (r_as (r_neqA (by kernel_rfl) (hρ _ _ rfl) (hρ _ _ rfl) (run_equalI (l := [(0, .u8), (1, .u8), (2, .u8), (3, .u8)]) (by kernel_rfl) rfl rfl)) (bool_as (congrArg (fun b => !b) (eqC (colAt d1.wd d1.ts p.1 p.2) ((lastD (ys.take 30) p.1 p.2).getD zeroC))))) (bool_as (by rw [decide_eq_true g3]; rfl))) rfl rfl rfl (want_y 113 rfl rfl rfl) ?_
      refine TL_q (.bool false) (fun _ _ hρ _ => r_pick_f (hρ _ _ rfl) (hρ _ _ rfl)) rfl rfl rfl (w_n rfl) ?_
      refine TL_seq ?_
      refine T_cond_f rfl ?_
      refine T_skip' ?_
      refine p_blk_n ?_
      refine p_seq ?_
      refine T_region ?_
      refine TL_q (.int .i64 ((k + 1 : Nat) : Int)) (fun _ _ hρ _ => r_as (r_add (hρ _ _ rfl) (hρ _ _ rfl)) (int_as ((wrap64 (by omega) (by omega)).trans (by omega)))) rfl rfl rfl (w_n rfl) ?_
      refine TL_q (.int .i64 ((k + 1 : Nat) : Int)) (fun _ _ hρ _ => r_move (hρ _ _ rfl)) rfl rfl rfl (w_n rfl) ?_
      refine TL_nil ?_
      exact p_at (k + 1, putM ((p.1 / 8, p.2 / 8) : NP) ((getM 0 ((p.1 / 8, p.2 / 8) : NP) mm) + 1) mm) ⟨⟨by omega, keys_step hko hpp⟩, by dsimp only; omega⟩ (sub_cons rfl (sub_cons rfl (sub_cons rfl (sub_cons rfl (sub_cons rfl (sub_cons rfl (sub_cons rfl sub_nil))))))) (sub_cons rfl (sub_cons rfl (sub_cons rfl (sub_cons rfl (sub_cons rfl (sub_cons rfl sub_nil))))))
  · replace h1 := of_decide_eq_false h1
    refine T_exit' ?_
    refine p_then_x ?_
    refine p_then_x ?_
    refine p_blk_x ?_
    refine p_seq ?_
    refine T_seq (T_region ?_)
    refine TL_q (.pointer (some ⟨c1.p, 0, none⟩)) (fun _ _ hρ _ => r_move (hρ _ _ rfl)) rfl rfl rfl (w_n rfl) ?_
    refine TL_callN (fun (_ : Option Addr × Nat) => True) (fun (ar13, cr13) => .agg #[.int .i64 ((c1.wd : Nat) : Int), .int .i64 ((c1.hg : Nat) : Int), .slice ar13 ((c1.ts).length) cr13]) (fun (ar13, cr13) => [(11, .row (.slice ar13 ((c1.ts).length) cr13) 39 256 ((c1.ts).length) ((c1.ts).flatMap T64.cells))]) (fun _ _ hρ _ => r_call (args := [.pointer (some ⟨c1.p, 0, none⟩)]) (enters_of Try.func24 (by kernel_rfl) rfl) (hρ _ _ rfl) ((cons2 (hρ _ _ rfl) rfl)) rfl) (fun w hm => (show_c c1 w (hm.cv 960 rfl (List.Mem.tail _ (List.Mem.head _)))).mono fun e w' ⟨a', cap', he, hb, hr⟩ => ⟨(a', cap'), trivial, he, hb, newOk1 11 hr⟩) rfl rfl rfl (w_n rfl) ?_
    rintro ⟨ar13, cr13⟩ -
    refine TL_q (.slice ar13 ((c1.ts).length) cr13) (fun _ _ hρ _ => r_field fl24_2 (hρ _ _ rfl) (run_part_one ag22 rfl)) rfl rfl rfl (w_n rfl) ?_
    refine TL_q (.int .i64 (((c1.ts).length : Nat) : Int)) (fun _ _ hρ _ => r_len sl22 (hρ _ _ rfl)) rfl rfl rfl (w_n rfl) ?_
    refine TL_q (.int .i64 (((c1.ts).length : Nat) : Int)) (fun _ _ hρ _ => r_assign (hρ _ _ rfl)) rfl rfl rfl (w_n rfl) ?_
    refine TL_seq ?_
    have hk : k = (difC c1.wd c1.hg c1.ts d1.ts).length := by omega
    subst hk
    rw [List.take_length] at hko
    obtain ⟨z1, z2⟩ := tells_end hn_c1.at' hn_d1 hwd_d1 hhg_d1 hsh_d1 hts_d1 hko
    have hlm : mm.length ≤ c1.ts.length := by omega
    have m3 : c1.ts.length ≤ 64 := by rw [hts_c1]; omega
    have z3 : ((shN c1.ps d1.ps c1.ps.length : Nat) : Int) = (((c1.ts.length) - mm.length : Nat) : Int) := by omega
    refine T_seq (T_region ?_)
    refine TL_q (.pointer (some ⟨c1.p, 0, none⟩)) (fun _ _ hρ _ => r_move (hρ _ _ rfl)) rfl rfl rfl (w_n rfl) ?_
    refine TL_q (.pointer (some ⟨d1.p, 0, none⟩)) (fun _ _ hρ _ => r_move (hρ _ _ rfl)) rfl rfl rfl (w_n rfl) ?_
    refine TL_call (.int .i64 ((shN c1.ps d1.ps c1.ps.length : Nat) : Int)) (fun _ _ hρ _ => r_call (args := [.pointer (some ⟨c1.p, 0, none⟩), .pointer (some ⟨d1.p, 0, none⟩)]) (enters_of Try.func20 (by kernel_rfl) rfl) (hρ _ _ rfl) ((cons2 (hρ _ _ rfl) (cons2 (hρ _ _ rfl) rfl))) rfl) (fun w hm => shared_eq c1 d1 w (hm.cv 960 rfl (List.Mem.tail _ (List.Mem.head _))) (hm.cv 960 rfl (List.Mem.head _)) hwd_d1.symm hhg_d1.symm) rfl rfl rfl (w_n rfl) ?_
    refine TL_q (.int .i64 (((c1.ts).length : Nat) : Int)) (fun _ _ hρ _ => r_move (hρ _ _ rfl)) rfl rfl rfl (w_n rfl) ?_
    refine TL_q (.map (some B4)) (fun _ _ hρ _ => r_move (hρ _ _ rfl)) rfl rfl rfl (w_n rfl) ?_
    refine TL_q (.int .i64 ((mm.length : Nat) : Int)) (fun _ _ hρ hm => r_lenM (fk := ptV) (fv := cntV) (l := mm) mp43 (hρ _ _ rfl) (hm.at 4 rfl)) rfl rfl rfl (w_n rfl) ?_
    refine TL_q (.int .i64 ((((c1.ts).length) - mm.length : Nat) : Int)) (fun _ _ hρ _ => r_as (r_sub (hρ _ _ rfl) (hρ _ _ rfl)) (int_as ((wrap64 (by omega) (by omega)).trans (by omega)))) rfl rfl rfl (w_n rfl) ?_
    refine TL_q (.bool true) (fun _ _ hρ _ => r_as (r_eql (hρ _ _ rfl) (hρ _ _ rfl)) (bool_as (decide_eq_true z3))) rfl rfl rfl (w_n rfl) ?_
    refine TL_q (.bool true) (fun _ _ hρ _ => r_move (hρ _ _ rfl)) rfl rfl rfl (w_n rfl) ?_
    refine TL_q (.map (some B4)) (fun _ _ hρ _ => r_move (hρ _ _ rfl)) rfl rfl rfl (want_y 131 rfl rfl rfl) ?_
    refine TL_q (.int .i64 ((mm.length : Nat) : Int)) (fun _ _ hρ hm => r_lenM (fk := ptV) (fv := cntV) (l := mm) mp43 (hρ _ _ rfl) (hm.at 4 rfl)) rfl rfl rfl (want_y 131 rfl rfl rfl) ?_
    refine TL_q (.bool (decide (((mm.length : Nat) : Int) = 0))) (fun _ _ hρ _ => r_eql (hρ _ _ rfl) (hρ _ _ rfl)) rfl rfl rfl (want_y 131 rfl rfl rfl) ?_
    refine TL_q (.pointer (some ⟨c1.p, 0, none⟩)) (fun _ _ hρ _ => r_move (hρ _ _ rfl)) rfl rfl rfl (want_y 131 rfl rfl rfl) ?_
    refine TL_q (.pointer (some ⟨d1.p, 0, none⟩)) (fun _ _ hρ _ => r_move (hρ _ _ rfl)) rfl rfl rfl (want_y 131 rfl rfl rfl) ?_
    refine TL_call (.bool (decide (c1.ts = d1.ts))) (fun _ _ hρ _ => r_call (args := [.pointer (some ⟨c1.p, 0, none⟩), .pointer (some ⟨d1.p, 0, none⟩)]) (enters_of Try.func25 (by kernel_rfl) rfl) (hρ _ _ rfl) ((cons2 (hρ _ _ rfl) (cons2 (hρ _ _ rfl) rfl))) rfl) (fun w hm => same_eq c1 d1 w (hm.cv 960 rfl (List.Mem.tail _ (List.Mem.head _))) (hm.cv 960 rfl (List.Mem.head _)) hwd_d1.symm hhg_d1.symm) rfl rfl rfl (want_y 131 rfl rfl rfl) ?_
    refine TL_q (.bool ((decide (((mm.length : Nat) : Int) = 0)) == (decide (c1.ts = d1.ts)))) (fun _ _ hρ _ => r_eqlB (by kernel_rfl) (hρ _ _ rfl) (hρ _ _ rfl)) rfl rfl rfl (want_y 131 rfl rfl rfl) ?_
    refine TL_q (.bool ((decide (((mm.length : Nat) : Int) = 0)) == (decide (c1.ts = d1.ts)))) (fun _ _ hρ _ => r_pick_t (hρ _ _ rfl) (hρ _ _ rfl)) rfl rfl rfl (w_n rfl) ?_
    refine TL_q (.bool ((decide (((mm.length : Nat) : Int) = 0)) == (decide (c1.ts = d1.ts)))) (fun _ _ hρ _ => r_assign (hρ _ _ rfl)) rfl rfl rfl (w_n rfl) ?_
    refine TL_seq ?_
    refine T_ret' ?_
    refine ret_of rfl (.bool ((decide (((mm.length : Nat) : Int) = 0)) == (decide (c1.ts = d1.ts)))) (fun tmps w hk hm => res1 rfl (res_tmp (hk 4 _ rfl))) (fun w hm => ?_)
    exact ⟨congrArg Ending.returned (bool_as (tell_eq z2)), hm.ext⟩

theorem tells_any (x y : Int) (ts : List T64) (a : Option Addr) (cap : Nat) (ys : List Dt) (ay : Option Addr) (cy : Nat) (w : World) (hv : SliceAt w a cap 256 T64.cells ts) (hcap : cap ≤ Go.maxLen) (hys : SliceAt w ay cy 6 Dt.cells ys) (hcys : cy ≤ Go.maxLen) : Calls Try.prog 4 #[.agg #[.int .i64 x, .int .i64 y, .slice a ts.length cap], .slice ay ys.length cy] w fun e w' => e = .returned (.bool true) ∧ Below w.heap.size w w' := by
  by_cases h : rightI x y (ts.take 17).length = true
  · obtain ⟨p, q, rfl, rfl, h1, h2, h3⟩ := rightI_nat h
    exact tells_ok p q ts a cap ys ay cy w hv hcap hys hcys h1 h2 h3
  · exact tells_no x y ts a cap ys ay cy w hv hcap hys hcys h
end Go.Proofs.Ytbiapeaghbndoaa
