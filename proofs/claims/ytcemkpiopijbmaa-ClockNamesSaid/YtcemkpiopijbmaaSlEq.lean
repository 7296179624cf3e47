/-
  What '==' and '!=' tell: of a pointer, a function value, a slice, a map against nil; of bools; of strings. (Conditions: none; generic over the program.)
-/
import Derived.Test.YtcemkpiopijbmaaSlCall
set_option linter.all false
namespace Go.SL
open Go.RowKit
section
variable {P : Program} {n : Nat} {L : List (Nat × Value)} {A : List Asn} {d : Option Tmp} {ty : TypeId} {pos : String} {af : Array Edge} {g : Option (Nat × Bool)} {t t' : TypeId} {x y : Operand}
theorem und_ok {P : Program} {t : TypeId} {D : TypeDesc} (h : P.underlying t = some D) (w : World) : Sem.run P (underlying t) w = .ok D w := run_und h w
theorem eq_step {t : TypeId} {u v : Value} : Op.equal t u v = Op.equalIn (9999 + 1) t u v := rfl
/-- pointer == nil -/
theorem Rd_peq {p : Option Addr} {e : TypeId} (hx : ev L x = some (.pointer p)) (hy : ev L y = some (.pointer none)) (hu : P.underlying t = some (.pointer e)) : Rd P n ⟨d, .binOp .eql t x y t', ty, pos, af, g⟩ L A (.bool p.isNone) :=
  Rd_eq hx hy (fun w => by cases p <;> rfl) fun w => by
    have : binOp .eql t (.pointer p) (.pointer none) = (do pure (.bool (← Op.equal t (.pointer p) (.pointer none)))) := rfl
    rw [this, eq_step, Op.equalIn]; simp only [Sem.run_bind, run_und hu, Result.andThen_ok, Sem.run_pure]; cases p <;> rfl
theorem Rd_pne {p : Option Addr} {e : TypeId} (hx : ev L x = some (.pointer p)) (hy : ev L y = some (.pointer none)) (hu : P.underlying t = some (.pointer e)) : Rd P n ⟨d, .binOp .neq t x y t', ty, pos, af, g⟩ L A (.bool p.isSome) :=
  Rd_ne hx hy (fun w => by cases p <;> rfl) fun w => by
    have : binOp .neq t (.pointer p) (.pointer none) = (do pure (.bool (!(← Op.equal t (.pointer p) (.pointer none))))) := rfl
    rw [this, eq_step, Op.equalIn]; simp only [Sem.run_bind, run_und hu, Result.andThen_ok, Sem.run_pure]; cases p <;> rfl
/-- function == nil -/
theorem Rd_feq {f : Fn} {us vs : Array Value} {ps rs : Array TypeId} {va : Bool} (hx : ev L x = some (.func f us vs)) (hy : ev L y = some .nilFunc) (hu : P.underlying t = some (.func ps rs va)) : Rd P n ⟨d, .binOp .eql t x y t', ty, pos, af, g⟩ L A (.bool false) :=
  Rd_eq hx hy (fun w => rfl) fun w => by
    have : binOp .eql t (.func f us vs) .nilFunc = (do pure (.bool (← Op.equal t (.func f us vs) .nilFunc))) := rfl
    rw [this, eq_step, Op.equalIn]; simp only [Sem.run_bind, run_und hu, Result.andThen_ok, Sem.run_pure]
theorem Rd_fne {f : Fn} {us vs : Array Value} {ps rs : Array TypeId} {va : Bool} (hx : ev L x = some (.func f us vs)) (hy : ev L y = some .nilFunc) (hu : P.underlying t = some (.func ps rs va)) : Rd P n ⟨d, .binOp .neq t x y t', ty, pos, af, g⟩ L A (.bool true) :=
  Rd_ne hx hy (fun w => rfl) fun w => by
    have : binOp .neq t (.func f us vs) .nilFunc = (do pure (.bool (!(← Op.equal t (.func f us vs) .nilFunc)))) := rfl
    rw [this, eq_step, Op.equalIn]; simp only [Sem.run_bind, run_und hu, Result.andThen_ok, Sem.run_pure, Bool.not_false]
theorem Rd_feq0 {ps rs : Array TypeId} {va : Bool} (hx : ev L x = some .nilFunc) (hy : ev L y = some .nilFunc) (hu : P.underlying t = some (.func ps rs va)) : Rd P n ⟨d, .binOp .eql t x y t', ty, pos, af, g⟩ L A (.bool true) :=
  Rd_eq hx hy (fun w => rfl) fun w => by
    have : binOp .eql t .nilFunc .nilFunc = (do pure (.bool (← Op.equal t .nilFunc .nilFunc))) := rfl
    rw [this, eq_step, Op.equalIn]; simp only [Sem.run_bind, run_und hu, Result.andThen_ok, Sem.run_pure]
theorem Rd_fne0 {ps rs : Array TypeId} {va : Bool} (hx : ev L x = some .nilFunc) (hy : ev L y = some .nilFunc) (hu : P.underlying t = some (.func ps rs va)) : Rd P n ⟨d, .binOp .neq t x y t', ty, pos, af, g⟩ L A (.bool false) :=
  Rd_ne hx hy (fun w => rfl) fun w => by
    have : binOp .neq t .nilFunc .nilFunc = (do pure (.bool (!(← Op.equal t .nilFunc .nilFunc)))) := rfl
    rw [this, eq_step, Op.equalIn]; simp only [Sem.run_bind, run_und hu, Result.andThen_ok, Sem.run_pure, Bool.not_true]
/-- slice == nil -/
theorem Rd_seq {a : Option Addr} {k c : Nat} {e : TypeId} (hx : ev L x = some (.slice a k c)) (hy : ev L y = some (.slice none 0 0)) (hu : P.underlying t = some (.slice e)) : Rd P n ⟨d, .binOp .eql t x y t', ty, pos, af, g⟩ L A (.bool a.isNone) :=
  Rd_eq hx hy (fun w => rfl) fun w => by
    have : binOp .eql t (.slice a k c) (.slice none 0 0) = (do pure (.bool (← Op.equal t (.slice a k c) (.slice none 0 0)))) := rfl
    rw [this, eq_step, Op.equalIn]; simp only [Sem.run_bind, run_und hu, Result.andThen_ok, Sem.run_pure]; cases a <;> rfl
theorem Rd_sne {a : Option Addr} {k c : Nat} {e : TypeId} (hx : ev L x = some (.slice a k c)) (hy : ev L y = some (.slice none 0 0)) (hu : P.underlying t = some (.slice e)) : Rd P n ⟨d, .binOp .neq t x y t', ty, pos, af, g⟩ L A (.bool a.isSome) :=
  Rd_ne hx hy (fun w => rfl) fun w => by
    have : binOp .neq t (.slice a k c) (.slice none 0 0) = (do pure (.bool (!(← Op.equal t (.slice a k c) (.slice none 0 0))))) := rfl
    rw [this, eq_step, Op.equalIn]; simp only [Sem.run_bind, run_und hu, Result.andThen_ok, Sem.run_pure]; cases a <;> rfl
/-- bools -/
theorem Rd_beq {p q : Bool} (hx : ev L x = some (.bool p)) (hy : ev L y = some (.bool q)) (hu : P.underlying t = some .bool) : Rd P n ⟨d, .binOp .eql t x y t', ty, pos, af, g⟩ L A (.bool (p == q)) :=
  Rd_eq hx hy (fun w => rfl) fun w => by
    have : binOp .eql t (.bool p) (.bool q) = (do pure (.bool (← Op.equal t (.bool p) (.bool q)))) := rfl
    rw [this, eq_step, Op.equalIn]; simp only [Sem.run_bind, run_und hu, Result.andThen_ok, Sem.run_pure]
theorem Rd_bne {p q : Bool} (hx : ev L x = some (.bool p)) (hy : ev L y = some (.bool q)) (hu : P.underlying t = some .bool) : Rd P n ⟨d, .binOp .neq t x y t', ty, pos, af, g⟩ L A (.bool (!(p == q))) :=
  Rd_ne hx hy (fun w => rfl) fun w => by
    have : binOp .neq t (.bool p) (.bool q) = (do pure (.bool (!(← Op.equal t (.bool p) (.bool q))))) := rfl
    rw [this, eq_step, Op.equalIn]; simp only [Sem.run_bind, run_und hu, Result.andThen_ok, Sem.run_pure]
/-- strings -/
theorem Rd_streq {p q : ByteArray} (hx : ev L x = some (.string p)) (hy : ev L y = some (.string q)) : Rd P n ⟨d, .binOp .eql t x y t', ty, pos, af, g⟩ L A (.bool (p.toList == q.toList)) :=
  Rd_eq hx hy (fun w => rfl) fun w => by simp [binOp, Op.stringOp]
theorem Rd_strne {p q : ByteArray} (hx : ev L x = some (.string p)) (hy : ev L y = some (.string q)) : Rd P n ⟨d, .binOp .neq t x y t', ty, pos, af, g⟩ L A (.bool (!(p.toList == q.toList))) :=
  Rd_ne hx hy (fun w => rfl) fun w => by simp [binOp, Op.stringOp]
end
/-- numbers that are natural: the test as one of natural numbers -/
theorem Rd_lssN {P : Program} {n : Nat} {L : List (Nat × Value)} {A : List Asn} {d : Option Tmp} {ty : TypeId} {pos : String} {af : Array Edge} {g : Option (Nat × Bool)} {t t' : TypeId} {x y : Operand} {k : IntKind} {i j : Nat} (hx : ev L x = some (.int k (i : Int))) (hy : ev L y = some (.int k (j : Int))) :
    Rd P n ⟨d, .binOp .lss t x y t', ty, pos, af, g⟩ L A (.bool (decide (i < j))) := by
  have := Rd_lss (P := P) (n := n) (A := A) (d := d) (ty := ty) (pos := pos) (af := af) (g := g) (t := t) (t' := t') hx hy
  rwa [show decide ((i : Int) < (j : Int)) = decide (i < j) by by_cases h : i < j <;> simp [h]] at this
/-- a slot's Bool, by cases -/
theorem Wk.bool {L : List (Nat × Value)} {x : Nat} {b c : Bool} (h : look L x = some (.bool b)) (e : b = c) : Wk L ((x, .bool c) :: L) := Wk.cons (by rw [h, e]) Wk.refl
theorem WL_bool {P : Program} {ops : Array Oper} {Q : Exit → Act → World → Prop} {w0 : World} {n : Nat} {rest : List Oper} {L : List (Nat × Value)} {A : List Asn} {b : Bool} (x : Nat) (h : look L x = some (.bool b))
    (h1 : b = true → WL P ops Q w0 n rest ((x, .bool true) :: L) A) (h2 : b = false → WL P ops Q w0 n rest ((x, .bool false) :: L) A) : WL P ops Q w0 n rest L A := by
  cases hb : b with
  | true => exact WL_wk (Wk.bool h hb) Sub.refl (h1 hb)
  | false => exact WL_wk (Wk.bool h hb) Sub.refl (h2 hb)
theorem WJ_bool {P : Program} {ops : Array Oper} {Q : Exit → Act → World → Prop} {w0 : World} {n : Nat} {S : List Asn} {J : Nat → Nat} {fuel : Nat} {is : List Nat} {L : List (Nat × Value)} {A : List Asn} {b : Bool} (x : Nat) (h : look L x = some (.bool b))
    (h1 : b = true → WJ P ops Q w0 n S J fuel is ((x, .bool true) :: L) A) (h2 : b = false → WJ P ops Q w0 n S J fuel is ((x, .bool false) :: L) A) : WJ P ops Q w0 n S J fuel is L A := by
  cases hb : b with
  | true => exact WJ_wk (Wk.bool h hb) Sub.refl (h1 hb)
  | false => exact WJ_wk (Wk.bool h hb) Sub.refl (h2 hb)
theorem Sub.tail {A B : List Asn} {X : Asn} (h : Sub A B) : Sub (X :: A) B := let ⟨R, p⟩ := h; ⟨X :: R, (p.cons X).trans List.perm_middle.symm⟩
/-- an address that is not written out -/
theorem Rd_fieldAddrG {P : Program} {n : Nat} {L : List (Nat × Value)} {A : List Asn} {d : Option Tmp} {ty : TypeId} {pos : String} {af : Array Edge} {g : Option (Nat × Bool)} {t : TypeId} {x : Operand} {f k : Nat} {p : Addr} {u : TypeId} (hx : ev L x = some (.pointer (some p))) (h : fo P t f = some (k, u)) : Rd P n ⟨d, .fieldAddr t x f, ty, pos, af, g⟩ L A (.pointer (some (p.add k))) := fun a w hf _ => by
  unfold fo at h
  split at h
  · rename_i fs hu
    cases hfs : fs[f]? with
    | none => rw [hfs] at h; cases h
    | some x' =>
      rw [hfs] at h
      simp only [Option.bind_some] at h
      split at h
      · rename_i m hs
        simp only [Option.some.injEq, Prod.mk.injEq] at h
        obtain ⟨rfl, rfl⟩ := h
        simp [execOp, hf.eval hx, Instr.fieldAt, run_und hu, hfs, Instr.sureAddr, fieldPlace, run_size hs]
      · cases h
  · cases h
theorem tdiv_nat (a b : Nat) : ((a : Int).tdiv (b : Int)) = ((a / b : Nat) : Int) := by rw [Int.tdiv_eq_ediv_of_nonneg (by omega)]; rfl
/-- no wrap -/
theorem wr64 {x r : Int} (h : x = r) (lo : -9223372036854775808 ≤ x) (hi : x ≤ 9223372036854775807) : IntKind.i64.wrap x = r := by
  subst h
  rw [IntKind.wrap_i64]
  omega
/-- no wrap, the bounds on the result -/
theorem wr64r {x r : Int} (h : x = r) (lo : -9223372036854775808 ≤ r) (hi : r ≤ 9223372036854775807) : IntKind.i64.wrap x = r := wr64 h (h ▸ lo) (h ▸ hi)
end Go.SL
