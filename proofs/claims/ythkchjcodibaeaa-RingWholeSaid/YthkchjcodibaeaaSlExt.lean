/-
  Contracts of functions that the claim reaches, or the logic and the plain laws that they rest on, or the row over them. (Conditions: none beyond the statement.)
-/
import Derived.Test.YthkchjcodibaeaaLibS
import Derived.Lib.BytesEntry
set_option linter.all false
/-
  Two lists of bytes held against one another by the library's own entry. (Conditions: none; generic over the program.)
-/
set_option maxRecDepth 20000
namespace Go.ShM
open Go.SL Go.RowKit
def bz (l : List B8) : List Int := l.map fun x => (x.toNat : Int)
def ba (l : List B8) : ByteArray := ⟨(Lib.bytesOf (bz l)).toArray⟩
theorem ba_size (l : List B8) : (ba l).size = l.length := by
  simp [ba, bz, Lib.bytesOf, ByteArray.size]
theorem ba_at {l : List B8} {i : Nat} {x : B8} (h : l[i]? = some x) : (ba l)[i]! = x.toNat.toUInt8 := by
  obtain ⟨h1, e1⟩ := List.getElem?_eq_some_iff.1 h
  have hs : i < (ba l).size := by rw [ba_size]; exact h1
  rw [getElem!_pos (ba l) i hs]
  subst e1
  simp [ba, bz, Lib.bytesOf, ByteArray.getElem_eq_getElem_data]
theorem u8_lt {x y : B8} : (x.toNat.toUInt8 < y.toNat.toUInt8) ↔ x.toNat < y.toNat := by
  have hx : x.toNat < 256 := x.isLt
  have hy : y.toNat < 256 := y.isLt
  rw [UInt8.lt_iff_toNat_lt]
  simp [Nat.mod_eq_of_lt hx, Nat.mod_eq_of_lt hy]
theorem u8_eq {x y : B8} : (x.toNat.toUInt8 = y.toNat.toUInt8) ↔ x = y := by
  have hx : x.toNat < 256 := x.isLt
  have hy : y.toNat < 256 := y.isLt
  constructor
  · intro h
    have := congrArg UInt8.toNat h
    simp [Nat.mod_eq_of_lt hx, Nat.mod_eq_of_lt hy] at this
    exact BitVec.eq_of_toNat_eq this
  · intro h; rw [h]
theorem at_b {l : List B8} {i : Nat} (h : i < l.length) : ∃ x, l[i]? = some x := ⟨_, List.getElem?_eq_getElem h⟩
theorem diff_pre {l l' : List B8} (he : l.length = l'.length) : ∀ k, k ≤ l.length → (∀ j, j < k → ∀ x y, l[j]? = some x → l'[j]? = some y → x = y) → diffL (l.drop k) (l'.drop k) = diffL l l'
  | 0, _, _ => rfl
  | k + 1, hk, h => by
    have ih := diff_pre he k (by omega) fun j hj => h j (by omega)
    obtain ⟨x, hx⟩ := at_b (l := l) (i := k) (by omega)
    obtain ⟨y, hy⟩ := at_b (l := l') (i := k) (by omega)
    rw [diffL_step hx hy, if_pos (h k (by omega) x y hx hy)] at ih
    exact ih
theorem cmp_lt {l l' : List B8} (he : l.length = l'.length) : Extern.BytealgCompare.cmp (ba l) (ba l') < 0 ↔ diffL l l' < 0 := by
  unfold Extern.BytealgCompare.cmp
  rw [ba_size, ba_size, ← he, Nat.min_self]
  split
  · rename_i i hi
    obtain ⟨h1, h2, h3⟩ := List.find?_range_eq_some.1 hi
    have hil : i < l.length := List.mem_range.1 h2
    have hp := diff_pre he i (by omega) fun j hj x y hx hy => by
      have := h3 j hj
      rw [ba_at hx, ba_at hy] at this
      simp only [Bool.not_eq_true', bne_eq_false_iff_eq] at this
      exact u8_eq.1 this
    obtain ⟨x, hx⟩ := at_b (l := l) (i := i) hil
    obtain ⟨y, hy⟩ := at_b (l := l') (i := i) (by omega)
    rw [ba_at hx, ba_at hy] at h1
    have hne : ¬ x = y := fun e => by subst e; simp at h1
    rw [diffL_step hx hy, if_neg hne] at hp
    rw [ba_at hx, ba_at hy, ← hp]
    have hn : x.toNat ≠ y.toNat := fun e => hne (BitVec.eq_of_toNat_eq e)
    by_cases hlt : x.toNat < y.toNat
    · rw [if_pos (u8_lt.2 hlt)]; omega
    · rw [if_neg (fun e => hlt (u8_lt.1 e))]; omega
  · rename_i hn
    have hp := diff_pre he l.length (Nat.le_refl _) fun j hj x y hx hy => by
      have := List.find?_range_eq_none.1 hn j hj
      rw [ba_at hx, ba_at hy] at this
      simp only [Bool.not_eq_true', bne_eq_false_iff_eq] at this
      exact u8_eq.1 this
    rw [diffL_end (Nat.le_refl _)] at hp
    rw [← hp, if_neg (Nat.lt_irrefl _), if_neg (Nat.lt_irrefl _)]
theorem run_bytesOf_sv {P : Program} {B : List Asn} {v : Value} {l : List B8} {ao : Option Addr} {cap : Nat} {w : World} (hS : Sv B v 1 (eU .u8 (w := 8)) l ao cap) (hs : sat w B) : (Extern.Bytes.bytesOf v).run P w = .ok (ba l) w := by
  rw [hS.val]
  by_cases hl : l = []
  · subst hl
    cases ao with
    | none => rfl
    | some a => rfl
  · obtain ⟨b, o, hao⟩ := hS.adr hl
    have hc := hS.cell w hs
    rw [hao] at hc ⊢
    have hr := Lib.run_loadBytesX (P := P) w (bz l) ⟨b, o, none⟩ .empty (fun j x hj => by
      unfold bz at hj
      rw [List.getElem?_map] at hj
      cases hlj : l[j]? with
      | none => rw [hlj] at hj; cases hj
      | some y =>
        rw [hlj] at hj
        have hx : ((y.toNat : Nat) : Int) = x := by simpa using hj
        have h1 := hc j y hlj 0 (.int .u8 ((y.toNat : Nat) : Int)) rfl
        rw [Nat.mul_one, Nat.add_zero] at h1
        have e : (⟨b, o, none⟩ : Addr).add j = ⟨b, o + j, none⟩ := by unfold Addr.add; split <;> simp_all
        rw [e, ← hx]
        exact h1)
    have hlen : (bz l).length = l.length := by simp [bz]
    rw [hlen] at hr
    show (Extern.Bytes.loadBytes ⟨b, o, none⟩ l.length .empty).run P w = _
    rw [hr]
    congr 1
    apply ByteArray.ext
    show (#[] : Array UInt8) ++ (Lib.bytesOf (bz l)).toArray = (Lib.bytesOf (bz l)).toArray
    simp
section
variable {P : Program} {n : Nat} {L : List (Nat × Value)} {A : List Asn} {d : Option Tmp} {ty : TypeId} {pos' : String} {af : Array Edge} {g : Option (Nat × Bool)}
theorem Ac_cmpB {f : FuncId} {xs : Array Operand} {ts : Array TypeId} {v v' : Value} {l l' : List B8} {ao ao' : Option Addr} {cap cap' : Nat} {B B' : List Asn} (hcf : ∀ (args : Array Value) (w : World), (callFunc f args).run P w = ((Extern.BytealgCompare.compare args).run P w).andThen fun v w' => .ok (.value v) w') (ha : evs L xs.toList = some [v, v'])
    (hS : Sv B v 1 (eU .u8 (w := 8)) l ao cap := by assumption) (hS' : Sv B' v' 1 (eU .u8 (w := 8)) l' ao' cap' := by assumption) (hB : Sub A B := by repeat (first | with_reducible exact Sub.refl | with_reducible exact Sub.nil | with_reducible refine Sub.cons (by repeat (first | with_reducible exact Ext.here | with_reducible apply Ext.there)) ?_ | with_reducible refine Sub.tail ?_)) (hB' : Sub A B' := by repeat (first | with_reducible exact Sub.refl | with_reducible exact Sub.nil | with_reducible refine Sub.cons (by repeat (first | with_reducible exact Ext.here | with_reducible apply Ext.there)) ?_ | with_reducible refine Sub.tail ?_)) :
    Ac P n ⟨d, .call ⟨.value (.func f), xs, ts⟩, ty, pos', af, g⟩ L A (fun r A' => r = .int .i64 (Extern.BytealgCompare.cmp (ba l) (ba l')) ∧ A' = A) :=
  Ac_run fun a w hfr hs => by
    refine ⟨_, w, A, .inl ?_, ⟨rfl, rfl⟩, hs, .refl _⟩
    have h1 := run_bytesOf_sv (P := P) hS (hB.sat hs)
    have h2 := run_bytesOf_sv (P := P) hS' (hB'.sat hs)
    have h3 : (Extern.BytealgCompare.compare #[v, v']).run P w = .ok (.int .i64 (Extern.BytealgCompare.cmp (ba l) (ba l'))) w := by
      show ((do pure (goInt (Extern.BytealgCompare.cmp (← Extern.Bytes.bytesOf v) (← Extern.Bytes.bytesOf v')))) : Sem Value).run P w = _
      simp [h1, h2, goInt]
    have e := hfr.evals ha
    have e' : xs.map a.eval = #[v, v'] := by apply Array.ext'; simp [e]
    simp [execOp, resolve, Act.eval, Deferred.ofValue, invoke, e', hcf, h3]
end
end Go.ShM
