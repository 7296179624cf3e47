/-
  Contracts of functions that the claim reaches, or the logic and the plain laws that they rest on, or the row over them. (Conditions: none beyond the statement.)
-/
import Derived.Test.YtgkpbeikcpecbaaTrArg
import Derived.Test.YtgkpbeikcpecbaaPfL
set_option linter.all false
/-
  What is handed in: lists of nodes. (Conditions: none; generic over the program.)
-/
set_option linter.all false
namespace Go.ShM
open Go.SL Go.RowKit Go.ChangeShapes Go.WideShapes
section
variable {H : Type} {enc : TypeId × Value → H} {P : Program} {W : World} {base : Nat} {sp : Nat → Bool} {hd : Bool}
def okN (x : Nd) : Prop := -9223372036854775808 ≤ x.1 ∧ x.1 ≤ 9223372036854775807
theorem el_nd {m : DataW H → Nat} (hm : Meas m) {t : TypeId} {n : Nat} (hk : cks P n t = some [.int .i64, .ints .u8 32]) : ∀ n' c y, DataW.trod enc P W base sp hd n' t c = some y → ∃ x : Nd, c = eND x ∧ okN x := fun n' c y h => by
  have hf := cks_fits (N := m y.1) hm n t _ n' c y hk h (Nat.le_refl _)
  simp only [Fits] at hf
  obtain ⟨i, cs1, rfl, hi, l, cs', rfl, ⟨hl, hw⟩, rfl⟩ := hf
  refine ⟨(i, ⟨l.map (BitVec.ofInt 8), by simpa using hl⟩), ?_, ?_⟩
  · rw [List.append_nil]
    show _ = Value.int .i64 i :: fD _
    rw [words_of l hw]; rfl
  · simp [Lit.wf, IntKind.min, IntKind.max, IntKind.signed, IntKind.bits] at hi
    exact ⟨by show _ ≤ i; omega, by show i ≤ _; omega⟩
end
end Go.ShM
