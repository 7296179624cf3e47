/-
  Lists written out, and what is looked up in a map of numbers where it is known what stands there. (Conditions: none; generic over the program.)
-/
import Derived.Test.YtcemkpiopijbmaaSlPut
import Derived.Test.YtcemkpiopijbmaaSlMap
set_option linter.all false
namespace Go.SL
open Go.RowKit
section
variable {P : Program} {n : Nat} {L : List (Nat × Value)} {A : List Asn} {d : Option Tmp} {ty : TypeId} {pos' : String} {af : Array Edge} {g : Option (Nat × Bool)}
theorem Ac.mono {o : Oper} {R R' : Value → List Asn → Prop} (h : Ac P n o L A R) (hR : ∀ v A', R v A' → ∃ A'', R' v A'' ∧ ∀ w, sat w A' → sat w A'') : Ac P n o L A R' := fun a w K Q hf hs hk =>
  h a w K Q hf hs fun v A' w' hv hs' hkk => let ⟨A'', h1, h2⟩ := hR v A' hv; hk v A'' w' h1 (h2 w' hs') hkk
/-- a block of cells as a list -/
theorem arr_of_cl {α : Type} {b e : Nat} {T : TypeId} {f : α → List Value} {l : List α} {R : List Asn} {w : World} (hf : ∀ x, (f x).length = e) (hm : l.length ≤ maxLen) (h : sat w (cl b T (l.flatMap f) :: R)) : sat w (arr (some b) l.length e T f l :: R) := by
  unfold arr
  refine sat_ex.2 ⟨l.flatMap f, sat_and.2 ⟨⟨hf, flat_len hf l, Nat.le_refl _, hm, ?_⟩, h⟩⟩
  rw [← flat_len hf l, List.take_length]
/-- a list written out -/
theorem Ac_bsL {α : Type} {t et : TypeId} {k : Nat} {len : Nat} {zs bs : List Value} {qs : Array (Nat × Operand)} {parts : List (Nat × Value)} {f : α → List Value} (l : List α) (hE : Enc f k) (hu : P.underlying t = some (.slice et)) (hz : zr P et = some zs) (hk : sz P et = some k) (hq : evp L qs.toList = some parts)
    (hb : ((Array.range (len * k)).map (zs.toArray[· % zs.toArray.size]!)).toList = bs) (hf : fillL ((List.range len).map fun i => (i * k, k)) parts bs = some (l.flatMap f)) (hs : Nat.ble (len * k) 16777216 = true) (hl : l.length = len) (hm : Nat.ble len maxLen = true) :
    Ac P n ⟨d, .buildSlice t len qs, ty, pos', af, g⟩ L A (fun v A' => ∃ b, v = sl (some b) len len ∧ A' = arr (some b) len k et f l :: A) :=
  (Ac_buildSlice hu hz hk hq hb hf hs).mono fun v A' ⟨b, hv, hA⟩ => ⟨_, ⟨b, hv, rfl⟩, fun w h => by
    subst hA; subst hl
    exact arr_of_cl hE.len (Nat.le_of_ble_eq_true hm) h⟩
/-- v, ok := m[k] of a key that is there -/
theorem Rd_lookup2s {t kt et : TypeId} {ik : IntKind} {x y : Operand} {m : Nat} {φ : Int → Option Value} {k : Int} {z v : Value} (hx : ev L x = some (.map (some m))) (hy : ev L y = some (.int .i64 k)) (hu : P.underlying t = some (.map kt et)) (hk : P.underlying kt = some (.int ik))
    (hz : ∀ w, (zeroValue et).run P w = .ok z w) (hA : Has A (mpI m φ) := by repeat (first | with_reducible exact Has.here | with_reducible refine Has.there ?_)) (hv : φ k = some v) : Rd P n ⟨d, .lookup t x y true, ty, pos', af, g⟩ L A (.tuple #[v, .bool true]) := by
  have h := Rd_lookup2 (n := n) (d := d) (ty := ty) (pos' := pos') (af := af) (g := g) hx hy hu hk hz hA
  rw [hv] at h; exact h
/-- .. of a key that is not -/
theorem Rd_lookup2n {t kt et : TypeId} {ik : IntKind} {x y : Operand} {m : Nat} {φ : Int → Option Value} {k : Int} {z : Value} (hx : ev L x = some (.map (some m))) (hy : ev L y = some (.int .i64 k)) (hu : P.underlying t = some (.map kt et)) (hk : P.underlying kt = some (.int ik))
    (hz : ∀ w, (zeroValue et).run P w = .ok z w) (hA : Has A (mpI m φ) := by repeat (first | with_reducible exact Has.here | with_reducible refine Has.there ?_)) (hv : φ k = none) : Rd P n ⟨d, .lookup t x y true, ty, pos', af, g⟩ L A (.tuple #[z, .bool false]) := by
  have h := Rd_lookup2 (n := n) (d := d) (ty := ty) (pos' := pos') (af := af) (g := g) hx hy hu hk hz hA
  rw [hv] at h; exact h
end
end Go.SL
