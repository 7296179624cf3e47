/-
  Contracts of functions that the claim reaches, or the logic and the plain laws that they rest on, or the row over them. (Conditions: none beyond the statement.)
-/
import Derived.Test.YthkchjcodibaeaaTrArg
set_option linter.all false
/-
  What is handed in: an index. (Conditions: none; generic over the program.)
-/
namespace Go.ShM
open Go.SL Go.RowKit Go.ChangeShapes Go.WideShapes
section
variable {H : Type} {enc : TypeId × Value → H} {P : Program} {W : World} {base : Nat} {sp : Nat → Bool} {hd : Bool}
theorem el_bs {q : Nat} {m : DataW H → Nat} (hm : Meas m) {t : TypeId} {n : Nat} (hk : cks P n t = some [.ints .u8 q]) : ∀ n' c y, DataW.trod enc P W base sp hd n' t c = some y → ∃ l : List B8, c = l.flatMap (eU .u8 (w := 8)) ∧ l.length = q := fun n' c y h => by
  have hf := cks_fits (N := m y.1) hm n t _ n' c y hk h (Nat.le_refl _)
  simp only [Fits] at hf
  obtain ⟨l, cs', rfl, ⟨hl, hw⟩, rfl⟩ := hf
  refine ⟨l.map (BitVec.ofInt 8), ?_, by simpa using hl⟩
  rw [List.append_nil]
  exact words_of l hw
theorem open_bs {q : Nat} {m : DataW H → Nat} (hm : Meas m) {t e : TypeId} {k : Nat} {v : Value} {d : DataW H} {ps : List MemPlace} {r : Reach} {b0 : Nat} (ht : P.underlying t = some (.array k e)) (hval : Value.okWide P W r b0 t v) (h : DataW.Trod enc P W base sp hd t v d ps)
    {n : Nat} (hk : cks P n t = some [.ints .u8 q]) : ∃ x : List B8, v = aU .u8 x ∧ x.length = q := by
  obtain ⟨cs, rfl, _⟩ := okWide_arr ht hval
  obtain ⟨fuel, hf⟩ := h
  obtain ⟨x, hx, hl⟩ := el_bs hm hk fuel _ _ hf
  refine ⟨x, ?_, hl⟩
  unfold aU
  rw [← hx]; simp [Value.cells]
end
end Go.ShM
