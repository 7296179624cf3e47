/-
  Contracts of functions that the claim reaches, or the logic and the plain laws that they rest on, or the row over them. (Conditions: none beyond the statement.)
-/
import Derived.Test.YthkchjcodibaeaaSlRf
set_option linter.all false
/-
  Naturals in int slots: exclusive or; the encoding of a list of naturals. (Conditions: none; generic over the program.)
-/
namespace Go.SL
open Go.RowKit
def eN (x : Nat) : List Value := [.int .i64 (x : Int)]
theorem encN : Enc eN 1 := ⟨fun _ => rfl, fun x v hv => by simp [eN] at hv; subst hv; rfl⟩
section
variable {P : Program} {n : Nat} {L : List (Nat × Value)} {A : List Asn} {d : Option Tmp} {ty : TypeId} {pos' : String} {af : Array Edge} {g : Option (Nat × Bool)} {t t' : TypeId} {x y : Operand}
theorem Rd_xorN {i j : Nat} (hi : i < 2 ^ 62) (hj : j < 2 ^ 62) (hx : ev L x = some (.int .i64 (i : Int))) (hy : ev L y = some (.int .i64 (j : Int))) : Rd P n ⟨d, .binOp .xor t x y t', ty, pos', af, g⟩ L A (.int .i64 ((i ^^^ j : Nat) : Int)) :=
  Rd_int hx hy fun W => by
    have h1 : i ^^^ j < 2 ^ 62 := Nat.xor_lt_two_pow hi hj
    have e : (BitVec.ofInt 64 (i : Int) ^^^ BitVec.ofInt 64 (j : Int)).toNat = i ^^^ j := by
      rw [BitVec.ofInt_natCast, BitVec.ofInt_natCast, BitVec.toNat_xor, BitVec.toNat_ofNat, BitVec.toNat_ofNat, Nat.mod_eq_of_lt (by omega), Nat.mod_eq_of_lt (by omega)]
    have e2 : IntKind.i64.wrap (((BitVec.ofInt IntKind.i64.bits (i : Int) ^^^ BitVec.ofInt IntKind.i64.bits (j : Int)).toNat : Nat) : Int) = ((i ^^^ j : Nat) : Int) := by
      have : (BitVec.ofInt IntKind.i64.bits (i : Int) ^^^ BitVec.ofInt IntKind.i64.bits (j : Int)).toNat = i ^^^ j := e
      rw [this]
      exact wr64 rfl (by omega) (by omega)
    simp only [binOp, if_true, ne_eq, not_true_eq_false, if_false, Op.intBits, e2, Sem.run_pure]
end
theorem xor1 (x : Nat) : x ^^^ 1 = if x % 2 = 0 then x + 1 else x - 1 := by
  have h1 := Nat.xor_div_two (a := x) (b := 1)
  have h2 := Nat.xor_mod_two_eq_one (a := x) (b := 1)
  have e : x / 2 ^^^ 1 / 2 = x / 2 := by simp
  rw [e] at h1
  by_cases hx : x % 2 = 0
  · rw [if_pos hx]
    have : (x ^^^ 1) % 2 = 1 := by rw [h2]; omega
    omega
  · rw [if_neg hx]
    have : ¬ (x ^^^ 1) % 2 = 1 := by rw [h2]; omega
    omega
end Go.SL
