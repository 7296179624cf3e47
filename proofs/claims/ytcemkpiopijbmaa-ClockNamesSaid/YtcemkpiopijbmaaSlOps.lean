/-
  The operations of the model, one by one, as rules of the logic. (Conditions: none; generic over the program; a type's facts are asked as closed equations.)
-/
import Derived.Test.YtcemkpiopijbmaaSlDraw
set_option linter.all false
namespace Go.SL
open Go.RowKit

/-! ### What the table of types says -/
/-- none: no such type; some none: one cell; some (some k): a struct or an array of k cells. -/
def tk (P : Program) (t : TypeId) : Option (Option Nat) :=
  match P.underlying t with
  | some (.struct _) | some (.array _ _) => (P.info? t).map fun i => some i.size
  | some _ => (P.info? t).map fun _ => none
  | none => none
/-- cells of a variable -/
def sz (P : Program) (t : TypeId) : Option Nat := (P.info? t).map (·.size)
/-- the offset of a field (of a type that has cells), the field's type -/
def fo (P : Program) (t : TypeId) (f : Nat) : Option (Nat × TypeId) :=
  match P.underlying t with
  | some (.struct fs) => (fs[f]?).bind fun x => match sz P x.type with | some (_ + 1) => some (x.offset, x.type) | _ => none
  | _ => none
theorem run_und {P : Program} {t : TypeId} {d : TypeDesc} (h : P.underlying t = some d) (w : World) : (underlying t).run P w = .ok d w := by simp [underlying, h]
theorem run_info {P : Program} {t : TypeId} {i : TypeInfo} (h : P.info? t = some i) (w : World) : (typeInfo t).run P w = .ok i w := by simp [typeInfo, h]
theorem run_size {P : Program} {t : TypeId} {k : Nat} (h : sz P t = some k) (w : World) : (sizeOf t).run P w = .ok k w := by
  unfold sz at h
  cases hi : P.info? t with
  | none => rw [hi] at h; cases h
  | some i => rw [hi] at h; simp at h; simp [sizeOf, run_info hi, h]
theorem tk_sc {P : Program} {t : TypeId} (h : tk P t = some none) : (∀ w, (isAgg t).run P w = .ok false w) := by
  intro w
  unfold tk at h
  split at h
  · cases hi : P.info? t <;> rw [hi] at h <;> simp at h
  · cases hi : P.info? t <;> rw [hi] at h <;> simp at h
  · rename_i d h1 h2 hd
    simp only [isAgg, Sem.run_bind, run_und hd, Result.andThen_ok]
    cases d <;> first | rfl | (exact absurd rfl (h1 _)) | (exact absurd rfl (h2 _ _))
  · cases h
theorem tk_ag {P : Program} {t : TypeId} {k : Nat} (h : tk P t = some (some k)) : (∀ w, (isAgg t).run P w = .ok true w) ∧ sz P t = some k := by
  unfold tk at h
  split at h
  · rename_i fs hd
    refine ⟨fun w => by simp [isAgg, run_und hd], ?_⟩
    unfold sz
    cases hi : P.info? t with
    | none => rw [hi] at h; simp at h
    | some i => rw [hi] at h; simp at h; simp [h]
  · rename_i l e hd
    refine ⟨fun w => by simp [isAgg, run_und hd], ?_⟩
    unfold sz
    cases hi : P.info? t with
    | none => rw [hi] at h; simp at h
    | some i => rw [hi] at h; simp at h; simp [h]
  · cases hi : P.info? t <;> rw [hi] at h <;> simp at h
  · cases h
theorem cell_of {w : World} {b i : Nat} {cs : Array Value} {T : TypeId} {fr : Nat × Nat} {v : Value} (hb : w.heap[b]? = some (.cells cs T fr)) (hc : cs[i]? = some v) : w.cell? ⟨b, i, none⟩ = some v := by
  simp [World.cell?, hb, hc]
theorem run_load_cell {P : Program} {w : World} {a : Addr} {v : Value} (h : w.cell? a = some v) (m : Mode) : (load a m).run P w = .ok v w := by simp [h]
theorem add_off (b i k : Nat) : (⟨b, i, none⟩ : Addr).add k = ⟨b, i + k, none⟩ := by unfold Addr.add; split <;> simp_all
theorem run_loadCells {P : Program} {w : World} {b i : Nat} {cs : Array Value} {T : TypeId} {fr : Nat × Nat} (hb : w.heap[b]? = some (.cells cs T fr)) :
    ∀ (k j : Nat) (acc : Array Value), i + j + k ≤ cs.size → (loadCellsFrom ⟨b, i, none⟩ j k acc).run P w = .ok (acc ++ ((cs.toList.drop (i + j)).take k).toArray) w
  | 0, j, acc, _ => by simp [loadCellsFrom]
  | k + 1, j, acc, h => by
    have hlt : i + j < cs.size := by omega
    have hc : w.cell? ((⟨b, i, none⟩ : Addr).add j) = some cs[i + j] := by rw [add_off]; exact cell_of hb (by simp [hlt])
    simp only [loadCellsFrom, Sem.run_bind, run_load_cell hc, Result.andThen_ok]
    rw [run_loadCells hb k (j + 1) _ (by omega)]
    congr 1
    have hd : cs.toList.drop (i + j) = cs[i + j] :: cs.toList.drop (i + j + 1) := by
      rw [List.drop_eq_getElem_cons (by simpa using hlt)]; simp
    rw [hd, List.take_succ_cons, ← Nat.add_assoc]
    apply Array.ext'; simp
theorem run_loadVar_sc {P : Program} {w : World} {t : TypeId} (ht : tk P t = some none) {a : Addr} {v : Value} (h : w.cell? a = some v) : (loadVar t a).run P w = .ok v w := by
  simp only [loadVar, Sem.run_bind, tk_sc ht, Result.andThen_ok]
  simpa using run_load_cell h .plain
theorem run_loadVar_ag {P : Program} {w : World} {t : TypeId} {k : Nat} (ht : tk P t = some (some k)) {b i : Nat} {cs : Array Value} {T : TypeId} {fr : Nat × Nat} (hb : w.heap[b]? = some (.cells cs T fr)) (hk : i + k ≤ cs.size) :
    (loadVar t ⟨b, i, none⟩).run P w = .ok (.agg ((cs.toList.drop i).take k).toArray) w := by
  have h := run_loadCells (P := P) hb k 0 #[] (by omega)
  simp only [loadVar, Sem.run_bind, (tk_ag ht).1, Result.andThen_ok, if_true, loadCells, run_size (tk_ag ht).2]
  rw [h]; simp
/-! stores -/
theorem run_storeCells {P : Program} {b i : Nat} {T : TypeId} : ∀ (vs : List Value) (j : Nat) (cs : List Value) (w : World), w.heap[b]? = some (.cells cs.toArray T (0, 0)) → i + j + vs.length ≤ cs.length → (∀ v ∈ vs, v.oneCell' = true) →
    ∃ w', (storeCells ⟨b, i, none⟩ vs j).run P w = .ok () w' ∧ w'.heap[b]? = some (.cells (cs.take (i + j) ++ vs ++ cs.drop (i + j + vs.length)).toArray T (0, 0)) ∧ (∀ c, c ≠ b → w'.heap[c]? = w.heap[c]?) ∧ Kept w w'
  | [], j, cs, w, hb, hl, h1 => ⟨w, by simp [storeCells], by simpa using hb, fun _ _ => rfl, .refl _⟩
  | v :: vs, j, cs, w, hb, hl, h1 => by
    have hlt : i + j < cs.length := by simp at hl; omega
    have hc : w.cell? ⟨b, i + j, none⟩ = some cs[i + j] := cell_of hb (by simp [hlt])
    have hb' : (w.setCell ⟨b, i + j, none⟩ v).heap[b]? = some (.cells (cs.set (i + j) v).toArray T (0, 0)) := by
      simp [World.setCell, Array.getElem?_modify, hb]
    obtain ⟨w', hr, hh, ho, hk⟩ := run_storeCells (P := P) (i := i) vs (j + 1) (cs.set (i + j) v) (w.setCell ⟨b, i + j, none⟩ v) hb' (by simp at hl ⊢; omega) (fun u hu => h1 u (by simp [hu]))
    refine ⟨w', ?_, ?_, fun c hc' => ?_, ?_⟩
    · have hfz : w.frozen? ⟨b, i + j, none⟩ = false := by simp [World.frozen?, hb]
      simp only [storeCells, Sem.run_bind, add_off]
      rw [run_store P w _ v _ (h1 v (by simp))]
      simp only [hc, hfz]
      simpa using hr
    · rw [hh]
      congr 2
      apply Array.ext'
      simp only [List.set_eq_take_append_cons_drop, hlt, if_true, List.append_assoc, List.cons_append, List.length_cons]
      rw [show i + (j + 1) = (i + j) + 1 from by omega, List.take_append, List.take_take, List.length_take]
      have e1 : min (i + j + 1) (i + j) = i + j := by omega
      have e2 : i + j + 1 - min (i + j) cs.length = 1 := by omega
      rw [e1, e2]
      simp only [List.take_succ_cons, List.take_zero, List.append_assoc, List.cons_append, List.nil_append]
      congr 3
      rw [List.drop_append, List.length_take, List.drop_of_length_le (by simp; omega)]
      have e3 : i + j + 1 + vs.length - min (i + j) cs.length = vs.length + 1 := by omega
      rw [e3, List.drop_succ_cons, List.drop_drop, List.nil_append]
      congr 1
      omega
    · rw [ho c hc']
      simp only [World.setCell, Array.getElem?_modify]
      rw [if_neg (by intro h; exact hc' h.symm)]
    · exact ⟨hk.os, hk.tape, hk.output, by have := hk.size; simpa [World.setCell] using this⟩
theorem run_storeVar {P : Program} {t : TypeId} {v : Value} {k : Nat} (ht : sz P t = some k) {b i : Nat} {T : TypeId} {cs : List Value} {w : World} (hb : w.heap[b]? = some (.cells cs.toArray T (0, 0)))
    (hv : v.cells.size = k) (hl : i + k ≤ cs.length) (h1 : ∀ u ∈ v.cells.toList, u.oneCell' = true) :
    ∃ w', (storeVar t ⟨b, i, none⟩ v).run P w = .ok () w' ∧ w'.heap[b]? = some (.cells (cs.take i ++ v.cells.toList ++ cs.drop (i + k)).toArray T (0, 0)) ∧ (∀ c, c ≠ b → w'.heap[c]? = w.heap[c]?) ∧ Kept w w' := by
  obtain ⟨w', hr, hh, ho, hk⟩ := run_storeCells (P := P) (i := i) (b := b) (T := T) v.cells.toList 0 cs w hb (by simp [hv]; omega) h1
  refine ⟨w', ?_, ?_, ho, hk⟩
  · simp only [storeVar, Sem.run_bind, run_size ht, Result.andThen_ok, hv]
    simpa using hr
  · rw [hh]; simp [hv]

/-! ### Pure operations -/
section
variable {P : Program} {n : Nat} {L : List (Nat × Value)} {A : List Asn} {d : Option Tmp} {ty : TypeId} {pos : String} {af : Array Edge} {g : Option (Nat × Bool)}
theorem Rd_move {x : Operand} {v : Value} (h : ev L x = some v) : Rd P n ⟨d, .move x, ty, pos, af, g⟩ L A v := fun a w hf _ => by
  simp only [execOp, hf.eval h]; rfl
theorem Rd_assign {x : Operand} {v : Value} (h : ev L x = some v) : Rd P n ⟨d, .assign x, ty, pos, af, g⟩ L A v := fun a w hf _ => by
  simp only [execOp, hf.eval h]; rfl
theorem Rd_pick {c x y : Operand} {b : Bool} {u v : Value} (hc : ev L c = some (.bool b)) (hx : ev L x = some u) (hy : ev L y = some v) : Rd P n ⟨d, .pick c x y, ty, pos, af, g⟩ L A (if b then u else v) := fun a w hf _ => by
  simp only [execOp, hf.eval hc, hf.eval hx, hf.eval hy, asBool, Sem.run_bind, Sem.run_pure, Result.andThen_ok]
theorem Rd_pickT {c x y : Operand} {u : Value} (hc : ev L c = some (.bool true)) (hx : ev L x = some u) : Rd P n ⟨d, .pick c x y, ty, pos, af, g⟩ L A u := fun a w hf _ => by
  simp [execOp, hf.eval hc, hf.eval hx, asBool]
theorem Rd_pickF {c x y : Operand} {u : Value} (hc : ev L c = some (.bool false)) (hy : ev L y = some u) : Rd P n ⟨d, .pick c x y, ty, pos, af, g⟩ L A u := fun a w hf _ => by
  simp [execOp, hf.eval hc, hf.eval hy, asBool]
theorem Rd_pickB {c x y : Operand} {b p q : Bool} (hc : ev L c = some (.bool b)) (hx : ev L x = some (.bool p)) (hy : ev L y = some (.bool q)) : Rd P n ⟨d, .pick c x y, ty, pos, af, g⟩ L A (.bool (bif b then p else q)) := fun a w hf _ => by
  simp only [execOp, hf.eval hc, hf.eval hx, hf.eval hy, asBool, Sem.run_bind, Sem.run_pure, Result.andThen_ok]
  cases b <;> rfl
theorem Rd_nilCheck {x : Operand} {p : Addr} (h : ev L x = some (.pointer (some p))) : Rd P n ⟨d, .nilCheck x, ty, pos, af, g⟩ L A (.pointer (some p)) := fun a w hf _ => by
  simp only [execOp, hf.eval h]; rfl
theorem Rd_extract {x : Operand} {i : Nat} {vs : Array Value} {v : Value} (h : ev L x = some (.tuple vs)) (hi : vs[i]? = some v) : Rd P n ⟨d, .extract x i, ty, pos, af, g⟩ L A v := fun a w hf _ => by
  simp [execOp, hf.eval h, Instr.extract, hi]
theorem Rd_makeFunc {f : Fn} {xs ys : Array Operand} {us vs : List Value} (h : evs L xs.toList = some us) (h' : evs L ys.toList = some vs) : Rd P n ⟨d, .makeFunc f xs ys, ty, pos, af, g⟩ L A (.func f us.toArray vs.toArray) := fun a w hf _ => by
  have e1 := hf.evals h
  have e2 := hf.evals h'
  simp only [execOp, Instr.makeFunc, Sem.run_bind, Sem.run_pure, Result.andThen_ok]
  congr 3 <;> (apply Array.ext'; simp [e1, e2])
theorem Rd_makeInterface {t : TypeId} {x : Operand} {v r : Value} (h : ev L x = some v) (hr : ∀ w, (Instr.makeInterface t v).run P w = .ok r w) : Rd P n ⟨d, .makeInterface t x, ty, pos, af, g⟩ L A r := fun a w hf _ => by
  simp [execOp, hf.eval h, hr]
theorem Rd_not {t : TypeId} {x : Operand} {b : Bool} (h : ev L x = some (.bool b)) : Rd P n ⟨d, .unOp .not t x, ty, pos, af, g⟩ L A (.bool (!b)) := fun a w hf _ => by
  simp [execOp, hf.eval h, Op.unary]
theorem Rd_neg {t : TypeId} {x : Operand} {k : IntKind} {i : Int} (h : ev L x = some (.int k i)) : Rd P n ⟨d, .unOp .neg t x, ty, pos, af, g⟩ L A (.int k (k.wrap (0 - i))) := fun a w hf _ => by
  simp [execOp, hf.eval h, Op.unary, Op.intArith]
/-! whole numbers -/
theorem Rd_int {op : BinOp} {t t' : TypeId} {x y : Operand} {k k' : IntKind} {i j : Int} {r : Value} (hx : ev L x = some (.int k i)) (hy : ev L y = some (.int k' j))
    (h : ∀ w, (binOp op t (.int k i) (.int k' j)).run P w = .ok r w) : Rd P n ⟨d, .binOp op t x y t', ty, pos, af, g⟩ L A r := fun a w hf _ => by
  have e : eqGuard op t x y (.int k i) (.int k' j) = pure () := by cases op <;> rfl
  simp only [execOp, hf.eval hx, hf.eval hy, e, Sem.run_bind, Sem.run_pure, Result.andThen_ok, h]
theorem Rd_add {t t' : TypeId} {x y : Operand} {k : IntKind} {i j : Int} (hx : ev L x = some (.int k i)) (hy : ev L y = some (.int k j)) : Rd P n ⟨d, .binOp .add t x y t', ty, pos, af, g⟩ L A (.int k (k.wrap (i + j))) := Rd_int hx hy fun w => by simp [binOp, Op.intArith]
theorem Rd_sub {t t' : TypeId} {x y : Operand} {k : IntKind} {i j : Int} (hx : ev L x = some (.int k i)) (hy : ev L y = some (.int k j)) : Rd P n ⟨d, .binOp .sub t x y t', ty, pos, af, g⟩ L A (.int k (k.wrap (i - j))) := Rd_int hx hy fun w => by simp [binOp, Op.intArith]
theorem Rd_mul {t t' : TypeId} {x y : Operand} {k : IntKind} {i j : Int} (hx : ev L x = some (.int k i)) (hy : ev L y = some (.int k j)) : Rd P n ⟨d, .binOp .mul t x y t', ty, pos, af, g⟩ L A (.int k (k.wrap (i * j))) := Rd_int hx hy fun w => by simp [binOp, Op.intArith]
/-- with the result that stands for the wrapped one -/
theorem Rd_add' {t t' : TypeId} {x y : Operand} {k : IntKind} {i j r : Int} (hx : ev L x = some (.int k i)) (hy : ev L y = some (.int k j)) (hr : k.wrap (i + j) = r) : Rd P n ⟨d, .binOp .add t x y t', ty, pos, af, g⟩ L A (.int k r) := hr ▸ Rd_add hx hy
theorem Rd_sub' {t t' : TypeId} {x y : Operand} {k : IntKind} {i j r : Int} (hx : ev L x = some (.int k i)) (hy : ev L y = some (.int k j)) (hr : k.wrap (i - j) = r) : Rd P n ⟨d, .binOp .sub t x y t', ty, pos, af, g⟩ L A (.int k r) := hr ▸ Rd_sub hx hy
theorem Rd_mul' {t t' : TypeId} {x y : Operand} {k : IntKind} {i j r : Int} (hx : ev L x = some (.int k i)) (hy : ev L y = some (.int k j)) (hr : k.wrap (i * j) = r) : Rd P n ⟨d, .binOp .mul t x y t', ty, pos, af, g⟩ L A (.int k r) := hr ▸ Rd_mul hx hy
theorem Rd_quo' {t t' : TypeId} {x y : Operand} {k : IntKind} {i j r : Int} (hx : ev L x = some (.int k i)) (hy : ev L y = some (.int k j)) (h0 : j ≠ 0) (hr : k.wrap (i.tdiv j) = r) : Rd P n ⟨d, .binOp .quo t x y t', ty, pos, af, g⟩ L A (.int k r) := hr ▸ Rd_int hx hy fun w => by simp [binOp, Op.intDiv, h0]
theorem Rd_rem' {t t' : TypeId} {x y : Operand} {k : IntKind} {i j r : Int} (hx : ev L x = some (.int k i)) (hy : ev L y = some (.int k j)) (h0 : j ≠ 0) (hr : i.tmod j = r) : Rd P n ⟨d, .binOp .rem t x y t', ty, pos, af, g⟩ L A (.int k r) := hr ▸ Rd_int hx hy fun w => by simp [binOp, Op.intDiv, h0]
theorem Rd_lss {t t' : TypeId} {x y : Operand} {k : IntKind} {i j : Int} (hx : ev L x = some (.int k i)) (hy : ev L y = some (.int k j)) : Rd P n ⟨d, .binOp .lss t x y t', ty, pos, af, g⟩ L A (.bool (decide (i < j))) := Rd_int hx hy fun w => by simp [binOp, Op.intCmp]
theorem Rd_leq {t t' : TypeId} {x y : Operand} {k : IntKind} {i j : Int} (hx : ev L x = some (.int k i)) (hy : ev L y = some (.int k j)) : Rd P n ⟨d, .binOp .leq t x y t', ty, pos, af, g⟩ L A (.bool (decide (i ≤ j))) := Rd_int hx hy fun w => by simp [binOp, Op.intCmp]
theorem Rd_gtr {t t' : TypeId} {x y : Operand} {k : IntKind} {i j : Int} (hx : ev L x = some (.int k i)) (hy : ev L y = some (.int k j)) : Rd P n ⟨d, .binOp .gtr t x y t', ty, pos, af, g⟩ L A (.bool (decide (j < i))) := Rd_int hx hy fun w => by simp [binOp, Op.intCmp]
theorem Rd_geq {t t' : TypeId} {x y : Operand} {k : IntKind} {i j : Int} (hx : ev L x = some (.int k i)) (hy : ev L y = some (.int k j)) : Rd P n ⟨d, .binOp .geq t x y t', ty, pos, af, g⟩ L A (.bool (decide (j ≤ i))) := Rd_int hx hy fun w => by simp [binOp, Op.intCmp]
theorem Rd_eql {t t' : TypeId} {x y : Operand} {k : IntKind} {i j : Int} (hx : ev L x = some (.int k i)) (hy : ev L y = some (.int k j)) : Rd P n ⟨d, .binOp .eql t x y t', ty, pos, af, g⟩ L A (.bool (decide (i = j))) := Rd_int hx hy fun w => by simp [binOp, Op.intCmp]; rfl
theorem Rd_neq {t t' : TypeId} {x y : Operand} {k : IntKind} {i j : Int} (hx : ev L x = some (.int k i)) (hy : ev L y = some (.int k j)) : Rd P n ⟨d, .binOp .neq t x y t', ty, pos, af, g⟩ L A (.bool (decide (i ≠ j))) := Rd_int hx hy fun w => by
  simp only [binOp, Op.intCmp, ne_eq, not_true_eq_false, if_false, Sem.run_pure]; congr 2; by_cases h : i = j <;> simp [h]
/-- two values that are held against one another by 'equal' -/
theorem Rd_eq {t t' : TypeId} {x y : Operand} {u v : Value} {b : Bool} (hx : ev L x = some u) (hy : ev L y = some v) (hg : ∀ w, (eqGuard .eql t x y u v).run P w = .ok () w) (h : ∀ w, (binOp .eql t u v).run P w = .ok (.bool b) w) : Rd P n ⟨d, .binOp .eql t x y t', ty, pos, af, g⟩ L A (.bool b) := fun a w hf _ => by
  simp only [execOp, hf.eval hx, hf.eval hy, Sem.run_bind, hg, Result.andThen_ok, h, Sem.run_pure]
theorem Rd_ne {t t' : TypeId} {x y : Operand} {u v : Value} {b : Bool} (hx : ev L x = some u) (hy : ev L y = some v) (hg : ∀ w, (eqGuard .neq t x y u v).run P w = .ok () w) (h : ∀ w, (binOp .neq t u v).run P w = .ok (.bool b) w) : Rd P n ⟨d, .binOp .neq t x y t', ty, pos, af, g⟩ L A (.bool b) := fun a w hf _ => by
  simp only [execOp, hf.eval hx, hf.eval hy, Sem.run_bind, hg, Result.andThen_ok, h, Sem.run_pure]
/-! addresses -/
theorem Rd_fieldAddr {t : TypeId} {x : Operand} {f b i k : Nat} {u : TypeId} (hx : ev L x = some (.pointer (some ⟨b, i, none⟩))) (h : fo P t f = some (k, u)) : Rd P n ⟨d, .fieldAddr t x f, ty, pos, af, g⟩ L A (.pointer (some ⟨b, i + k, none⟩)) := fun a w hf _ => by
  unfold fo at h
  split at h
  · rename_i fs hu
    cases hfs : fs[f]? with
    | none => rw [hfs] at h; cases h
    | some x' =>
      rw [hfs] at h
      simp only [Option.bind_some] at h
      split at h
      · rename_i m hs
        simp only [Option.some.injEq, Prod.mk.injEq] at h
        obtain ⟨rfl, rfl⟩ := h
        simp [execOp, hf.eval hx, Instr.fieldAt, run_und hu, hfs, Instr.sureAddr, fieldPlace, run_size hs, add_off]
      · cases h
  · cases h
end
end Go.SL
