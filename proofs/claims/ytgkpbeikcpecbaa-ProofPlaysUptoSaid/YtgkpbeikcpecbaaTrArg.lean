/-
  Contracts of functions that the claim reaches, or the logic and the plain laws that they rest on, or the row over them. (Conditions: none beyond the statement.)
-/
import Derived.Test.YtgkpbeikcpecbaaShA
import Derived.Test.YtgkpbeikcpecbaaLibD
set_option linter.all false
/-
  What is handed in: lists of digests. (Conditions: none; generic over the program.)
-/
namespace Go.ShM
open Go.SL Go.RowKit Go.ChangeShapes Go.WideShapes
section
variable {H : Type} {enc : TypeId × Value → H} {P : Program} {W : World} {base : Nat} {sp : Nat → Bool} {hd : Bool}
theorem okWide_arr {r : Reach} {b0 k : Nat} {t e : TypeId} {v : Value} (ht : P.underlying t = some (.array k e)) (h : Value.okWide P W r b0 t v) : ∃ cs, v = .agg cs ∧ cs.size = P.cellsOf t := by
  simp only [Value.okWide, ht] at h
  obtain ⟨cs, h1, h2, _⟩ := h
  exact ⟨cs, h1, h2⟩
theorem words_of : ∀ l : List Int, (∀ i ∈ l, (Lit.int .u8 i).wf = true) → l.map (Value.int .u8) = (l.map (BitVec.ofInt 8)).flatMap (eU .u8)
  | [], _ => rfl
  | i :: l, h => by
    have h0 := h i (by simp)
    rw [List.map_cons, List.map_cons, List.flatMap_cons, ← words_of l (fun j hj => h j (by simp [hj]))]
    have hb : 0 ≤ i ∧ i < 256 := by simp [Lit.wf, IntKind.min, IntKind.max, IntKind.signed, IntKind.bits] at h0; omega
    have e2 : ((BitVec.ofInt 8 i).toNat : Int) = i := by rw [BitVec.toNat_ofInt]; omega
    unfold eU
    rw [e2]; rfl
theorem el_dg {m : DataW H → Nat} (hm : Meas m) {t : TypeId} {n : Nat} (hk : cks P n t = some [.ints .u8 32]) : ∀ n' c y, DataW.trod enc P W base sp hd n' t c = some y → ∃ d : Dg, c = fD d ∧ True := fun n' c y h => by
  have hf := cks_fits (N := m y.1) hm n t _ n' c y hk h (Nat.le_refl _)
  simp only [Fits] at hf
  obtain ⟨l, cs', rfl, ⟨hl, hw⟩, rfl⟩ := hf
  refine ⟨⟨l.map (BitVec.ofInt 8), by simpa using hl⟩, ?_, trivial⟩
  rw [List.append_nil]
  exact words_of l hw
theorem open_dg {m : DataW H → Nat} (hm : Meas m) {t e : TypeId} {k : Nat} {v : Value} {d : DataW H} {ps : List MemPlace} {r : Reach} {b0 : Nat} (ht : P.underlying t = some (.array k e)) (hval : Value.okWide P W r b0 t v) (h : DataW.Trod enc P W base sp hd t v d ps)
    {n : Nat} (hk : cks P n t = some [.ints .u8 32]) : ∃ x : Dg, v = aU .u8 x.1 := by
  obtain ⟨cs, rfl, _⟩ := okWide_arr ht hval
  obtain ⟨fuel, hf⟩ := h
  obtain ⟨x, hx, _⟩ := el_dg hm hk fuel _ _ hf
  exact ⟨x, by rw [← fD_agg, ← hx]; simp [Value.cells]⟩
end
end Go.ShM
