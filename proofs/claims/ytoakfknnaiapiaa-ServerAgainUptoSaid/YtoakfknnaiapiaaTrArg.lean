/-
  Contracts of functions that the claim reaches, or the logic and the plain laws that they rest on, or the row over them. (Conditions: none beyond the statement.)
-/
import Derived.Test.YtoakfknnaiapiaaShA
import Derived.Test.YtoakfknnaiapiaaLibD
set_option linter.all false
/-
  What is handed in: lists of digests. (Conditions: none; generic over the program.)
-/
namespace Go.ShM
open Go.SL Go.RowKit Go.ChangeShapes Go.WideShapes
section
variable {H : Type} {enc : TypeId × Value → H} {P : Program} {W : World} {base : Nat} {sp : Nat → Bool} {hd : Bool}
theorem words_of : ∀ l : List Int, (∀ i ∈ l, (Lit.int .u8 i).wf = true) → l.map (Value.int .u8) = (l.map (BitVec.ofInt 8)).flatMap (eU .u8)
  | [], _ => rfl
  | i :: l, h => by
    have h0 := h i (by simp)
    rw [List.map_cons, List.map_cons, List.flatMap_cons, ← words_of l (fun j hj => h j (by simp [hj]))]
    have hb : 0 ≤ i ∧ i < 256 := by simp [Lit.wf, IntKind.min, IntKind.max, IntKind.signed, IntKind.bits] at h0; omega
    have e2 : ((BitVec.ofInt 8 i).toNat : Int) = i := by rw [BitVec.toNat_ofInt]; omega
    unfold eU
    rw [e2]; rfl
end
end Go.ShM
