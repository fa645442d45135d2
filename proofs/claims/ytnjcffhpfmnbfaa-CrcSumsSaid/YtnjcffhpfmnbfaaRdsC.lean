/- crc: arguments of the laws, read. -/
import Derived.Test.YtnjcffhpfmnbfaaArg
import Derived.Test.YtnjcffhpfmnbfaaLawA
namespace Go.Proofs.Ytnjcffhpfmnbfaa
open Go Go.RowKit Go.ChangeShapes Go.WideShapes
theorem Rds.mapIf {P : Program} {t : TypeId} {α β : Type} {f : α → List Value} {ok : α → Prop} (h : Rds P t f ok) (g : α → β) {f' : β → List Value} (hf : ∀ a, ok a → f a = f' (g a)) : Rds P t f' (fun _ => True) := by
  intro H enc w base spare held fuel cs x hx
  obtain ⟨a, h1, h2⟩ := h H enc w base spare held fuel cs x hx
  exact ⟨g a, by rw [h1, hf a h2], trivial⟩
theorem byte_back {n : Int} (h : (Lit.int .u8 n).wf = true) : ((BitVec.ofNat 8 n.toNat).toNat : Int) = n := by
  have := wf_u8 h
  rw [BitVec.toNat_ofNat]; omega
theorem word_back {n : Int} (h : (Lit.int .u32 n).wf = true) : ((BitVec.ofNat 32 n.toNat).toNat : Int) = n := by
  have := wf_u32 h
  rw [BitVec.toNat_ofNat]; omega
theorem rds_byte : Rds Try.prog 5 byc (fun _ => True) := (rds_int io5).mapIf (fun n => BitVec.ofNat 8 n.toNat) (fun n h => by show [Value.int .u8 n] = [Value.int .u8 _]; rw [byte_back h])
theorem rds_word : Rds Try.prog 24 wc (fun _ => True) := (rds_int io24).mapIf (fun n => BitVec.ofNat 32 n.toNat) (fun n h => by show [Value.int .u32 n] = [Value.int .u32 _]; rw [word_back h])
theorem rds_pw : Rds Try.prog 25 PW.cells (fun _ => True) := (rds_arr ar25 sz24 (by kernel_rfl) wc_len rds_word).mapIf (fun l => (l.getD 0 0#32, l.getD 1 0#32)) (fun l h => by
  match l, h.1 with
  | [a, b], _ => rfl)
abbrev B4 := By × By × By × By
abbrev B4.cells (p : B4) : List Value := [.int .u8 (p.1.toNat : Int), .int .u8 (p.2.1.toNat : Int), .int .u8 (p.2.2.1.toNat : Int), .int .u8 (p.2.2.2.toNat : Int)]
theorem rds_b4 : Rds Try.prog 26 B4.cells (fun _ => True) := (rds_arr ar26 sz5 (by kernel_rfl) byc_len rds_byte).mapIf (fun l => (l.getD 0 0#8, l.getD 1 0#8, l.getD 2 0#8, l.getD 3 0#8)) (fun l h => by
  match l, h.1 with
  | [a, b, c, d], _ => rfl)
section
variable {w : World} {r : Reach} {b0 : Nat} {t : TypeId} {v : Value} {H : Type} {enc : TypeId × Value → H} {base : Nat} {spare : Nat → Bool} {held : Bool} {d : DataW H} {ps : List MemPlace}
theorem param_word {P : Program} (ht : intOf? P t = some .u32) (hv : Value.okWide P w r b0 t v) (h : DataW.Trod enc P w base spare held t v d ps) : ∃ x : Wd, v = .int .u32 (x.toNat : Int) := by
  obtain ⟨n, rfl, hw⟩ := param_int ht hv h
  exact ⟨BitVec.ofNat 32 n.toNat, by rw [word_back hw]⟩
theorem param_byte {P : Program} (ht : intOf? P t = some .u8) (hv : Value.okWide P w r b0 t v) (h : DataW.Trod enc P w base spare held t v d ps) : ∃ x : By, v = .int .u8 (x.toNat : Int) := by
  obtain ⟨n, rfl, hw⟩ := param_int ht hv h
  exact ⟨BitVec.ofNat 8 n.toNat, by rw [byte_back hw]⟩
end
end Go.Proofs.Ytnjcffhpfmnbfaa
