/-
  More rules: a place of an array that is a value, or that lies in memory. (Conditions: none; generic over the program.)
-/
import Derived.Test.YtcemkpiopijbmaaSlLit
set_option linter.all false
namespace Go.SL
open Go.RowKit Sem
variable {P : Program} {n : Nat} {L : List (Nat × Value)} {A : List Asn} {d : Option Tmp} {ty : TypeId} {pos : String} {af : Array Edge} {g : Option (Nat × Bool)}
/-- a place of an array that is a value -/
theorem Rd_indexAgg {t et : TypeId} {x y : Operand} {kk : IntKind} {j : Int} {cs : List Value} {v : Value} {len : Nat} (i : Nat) (hx : ev L x = some (.agg cs.toArray)) (hy : ev L y = some (.int kk j)) (hu : P.underlying t = some (.array len et)) (hz : tk P et = some none) (hj : j = i) (hi : i < len) (hs : sz P et = some 1)
    (hv : cs[i]? = some v) : Rd P n ⟨d, .index t x y, ty, pos, af, g⟩ L A v := fun a w hf _ => by
  subst hj
  have h0 : (0 : Int) ≤ (i : Int) ∧ (i : Int) < (len : Int) := by omega
  simp [execOp, hf.eval hx, hf.eval hy, Instr.index, asIntOf, run_und hu, run_size hs, hi, part, tk_sc hz, hv]
/-- the address of a place of an array in memory -/
theorem Rd_indexA {t et : TypeId} {x y : Operand} {kk : IntKind} {j : Int} {b o e : Nat} {len : Nat} (i : Nat) (hx : ev L x = some (.pointer (some ⟨b, o, none⟩))) (hy : ev L y = some (.int kk j)) (hu : P.underlying t = some (.array len et)) (hz : sz P et = some e) (hj : j = i) (hi : i < len) :
    Rd P n ⟨d, .indexAddr t x y, ty, pos, af, g⟩ L A (.pointer (some ⟨b, o + i * e, none⟩)) := fun a w hf _ => by
  subst hj
  have h0 : (0 : Int) ≤ (i : Int) ∧ (i : Int) < (len : Int) := by omega
  simp [execOp, hf.eval hx, hf.eval hy, Instr.indexAt, Instr.sureAddr, asIntOf, run_und hu, run_size hz, hi, add_off]
/-- a contract told in other words: what is owned is laid open, and shut again -/
theorem Ct_way {f : FuncId} {args : List Value} {pre' : List Asn} {ρ' : Type} {val' : ρ' → Value} {post' : ρ' → List Asn}
    (h : ∀ F w, sat w (pre' ++ F) → ∃ (ρ : Type) (pre : List Asn) (val : ρ → Value) (post : ρ → List Asn), Ct P f args pre val post ∧ sat w (pre ++ F) ∧ ∀ r w', sat w' (post r ++ F) → ∃ r', val r = val' r' ∧ sat w' (post' r' ++ F)) : Ct P f args pre' val' post' :=
  ⟨fun F w hs => by
    obtain ⟨ρ, pre, val, post, hc, hs', hp⟩ := h F w hs
    refine (hc.out F w hs').mono ?_
    rintro e w' ⟨r, rfl, hw, hk⟩
    obtain ⟨r', e', hw'⟩ := hp r w' hw
    exact ⟨r', by rw [e'], hw', hk⟩⟩
end Go.SL
