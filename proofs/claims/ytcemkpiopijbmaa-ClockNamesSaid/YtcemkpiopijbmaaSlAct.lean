/-
  The operations that act, as rules of the logic: stores, new blocks, append, calls; a function's contract. (Conditions: none; generic over the program.)
-/
import Derived.Test.YtcemkpiopijbmaaSlMem
set_option linter.all false
namespace Go.SL
open Go.RowKit

/-- the cells of a new variable of type t -/
def zr (P : Program) (t : TypeId) : Option (List Value) := ((P.info? t).bind (·.zero)).map fun z => z.cells.toList
theorem run_zero {P : Program} {t : TypeId} {zs : List Value} (h : zr P t = some zs) : ∃ z : Value, z.cells.toList = zs ∧ ∀ w, (zeroValue t).run P w = .ok z w := by
  unfold zr at h
  cases hi : P.info? t with
  | none => rw [hi] at h; simp at h
  | some i =>
    rw [hi] at h
    simp only [Option.bind_some, Option.map_eq_some_iff] at h
    obtain ⟨z, hz, hc⟩ := h
    exact ⟨z, hc, fun w => by simp [zeroValue, run_info hi, hz]⟩
theorem kept_new {w : World} {o : Obj} : Kept w { w with heap := w.heap.push o } := ⟨rfl, rfl, rfl, by simp⟩
theorem kept_drew {w w' : World} (h : Kept { w with drawn := w.drawn + 1 } w') : Kept w w' := ⟨h.os, h.tape, h.output, h.size⟩

section
variable {P : Program} {n : Nat} {L : List (Nat × Value)} {A : List Asn} {d : Option Tmp} {ty : TypeId} {pos : String} {af : Array Edge} {g : Option (Nat × Bool)}
/-! ### new blocks -/
theorem Ac_alloc {t : TypeId} {zs : List Value} (h : zr P t = some zs) : Ac P n ⟨d, .alloc t, ty, pos, af, g⟩ L A (fun v A' => ∃ b, v = .pointer (some ⟨b, 0, none⟩) ∧ A' = cl b t zs :: A) :=
  Ac_run fun a w hf hs => by
    obtain ⟨z, hz, hr⟩ := run_zero h
    refine ⟨_, { w with heap := w.heap.push (.cells z.cells t) }, _, .inl ?_, ⟨w.heap.size, rfl, rfl⟩, ?_, kept_new⟩
    · simp [execOp, Instr.alloc, hr, newVar, newRow]
    · have := sat_new (w := w) (w' := { w with heap := w.heap.push (.cells z.cells t) }) (o := .cells z.cells t) rfl hs
      rw [← hz]; simpa [cl] using this
theorem Ac_box {t : TypeId} {x : Operand} {v : Value} {xs : List Value} (hx : ev L x = some v) (hv : v.cells = xs.toArray := by rfl) : Ac P n ⟨d, .box t x, ty, pos, af, g⟩ L A (fun r A' => ∃ b, r = .pointer (some ⟨b, 0, none⟩) ∧ A' = cl b t xs :: A) :=
  Ac_run fun a w hf hs => by
    refine ⟨_, { w with heap := w.heap.push (.cells xs.toArray t) }, _, .inl ?_, ⟨w.heap.size, rfl, rfl⟩, ?_, kept_new⟩
    · simp [execOp, hf.eval hx, Instr.box, newVar, newRow, hv]
    · exact sat_new (w := w) (w' := { w with heap := w.heap.push (.cells xs.toArray t) }) (o := .cells xs.toArray t) rfl hs
/-! ### stores -/
theorem Ac_store {t : TypeId} {x y : Operand} {b i k : Nat} {T : TypeId} {xs ys R : List _} {v : Value} (hx : ev L x = some (.pointer (some ⟨b, i, none⟩))) (hy : ev L y = some v) (ht : sz P t = some k) (hE : Ext A (cl b T xs) R := by repeat (first | with_reducible exact Ext.here | with_reducible apply Ext.there))
    (hv : v.cells.size = k := by rfl) (hl : i + k ≤ xs.length := by exact Nat.le_of_ble_eq_true rfl) (h1 : ∀ u ∈ v.cells.toList, u.oneCell' = true := by simp [Value.cells, Value.oneCell']) (hr : xs.take i ++ v.cells.toList ++ xs.drop (i + k) = ys := by simp only [List.take_succ_cons, List.take_zero, List.drop_succ_cons, List.drop_zero, List.cons_append, List.nil_append, List.append_nil, List.drop_nil, List.take_nil, List.toList_toArray, Value.cells]; rfl) :
    Ac P n ⟨none, .store t x y, ty, pos, af, g⟩ L A (fun _ A' => A' = cl b T ys :: R) :=
  Ac_run fun a w hf hs => by
    have hs' := sat_perm hE hs
    obtain ⟨w', hr', hh, ho, hk⟩ := run_storeVar (P := P) (v := v) ht (i := i) (sat_pt hs') hv hl h1
    refine ⟨_, w', _, .inr ⟨?_, rfl⟩, rfl, ?_, hk⟩
    · simp only [execOp, hf.eval hx, hf.eval hy, Instr.storeAt, Instr.sureAddr, Sem.run_bind, Sem.run_pure, Result.andThen_ok, hr']
    · exact sat_upd (by rw [hh, hr]) (fun c hc x hx => by rw [ho c hc]; exact hx) hs'
/-- one cell -/
theorem Ac_store1 {t : TypeId} {x y : Operand} {b i : Nat} {T : TypeId} {xs ys R : List _} {v : Value} (hx : ev L x = some (.pointer (some ⟨b, i, none⟩))) (hy : ev L y = some v) (ht : sz P t = some 1) (hE : Ext A (cl b T xs) R := by repeat (first | with_reducible exact Ext.here | with_reducible apply Ext.there))
    (hl : Nat.blt i xs.length = true := by rfl) (h1 : v.oneCell' = true := by rfl) (hr : xs.set i v = ys := by simp only [Nat.zero_add, List.set_cons_zero, List.set_cons_succ]; rfl) :
    Ac P n ⟨none, .store t x y, ty, pos, af, g⟩ L A (fun _ A' => A' = cl b T ys :: R) := by
  have hc : v.cells = #[v] := by cases v <;> first | rfl | cases h1
  have hl' : i < xs.length := by simpa [Nat.blt_eq] using hl
  refine Ac_store hx hy ht hE (by rw [hc]; rfl) (by omega) (by rw [hc]; simpa using h1) ?_
  rw [hc, ← hr, List.set_eq_take_append_cons_drop, if_pos hl']
  simp
/-- the j-th cell of a slice's i-th element; what the element is then -/
theorem Ac_store_arr {α : Type} {t : TypeId} {x y : Operand} {gb cap e off i j : Nat} {T : TypeId} {f : α → List Value} {l : List α} {R : List Asn} {u : α} {v : Value} (u' : α) (hx : ev L x = some (.pointer (some ⟨gb, off, none⟩))) (hy : ev L y = some v) (ht : sz P t = some 1)
    (hE : Ext A (arr (some gb) cap e T f l) R := by repeat (first | with_reducible exact Ext.here | with_reducible apply Ext.there)) (hoff : off = i * e + j := by rfl) (hl : l[i]? = some u := by assumption) (hj : j < e := by omega) (h1 : v.oneCell' = true := by rfl) (hu : (f u).set j v = f u' := by rfl) :
    Ac P n ⟨none, .store t x y, ty, pos, af, g⟩ L A (fun _ A' => A' = arr (some gb) cap e T f (l.set i u') :: R) :=
  Ac_run fun ac w hf hs => by
    have hs' := sat_perm hE hs
    unfold arr at hs'
    obtain ⟨cur, h2⟩ := sat_ex.1 hs'
    obtain ⟨⟨hfe, hcl, hle, hm, htk⟩, h3⟩ := sat_and.1 h2
    have hi : i < l.length := (List.getElem?_eq_some_iff.1 hl).1
    have hc : v.cells = #[v] := by cases v <;> first | rfl | cases h1
    have hlt : i * e + e ≤ l.length * e := by
      have : (i + 1) * e ≤ l.length * e := Nat.mul_le_mul_right e hi
      rw [Nat.add_mul] at this; omega
    have hlt2 : l.length * e ≤ cap * e := Nat.mul_le_mul_right e hle
    obtain ⟨w', hr', hh, ho, hk⟩ := run_storeVar (P := P) (v := v) ht (i := off) (sat_pt h3) (by rw [hc]; rfl) (by rw [hcl]; omega) (by rw [hc]; simpa using h1)
    refine ⟨_, w', _, .inr ⟨?_, rfl⟩, rfl, ?_, hk⟩
    · simp only [execOp, hf.eval hx, hf.eval hy, Instr.storeAt, Instr.sureAddr, Sem.run_bind, Sem.run_pure, Result.andThen_ok, hr']
    · unfold arr
      refine sat_ex.2 ⟨cur.set off v, sat_and.2 ⟨⟨hfe, by simp [hcl], by simp [hle], hm, ?_⟩, ?_⟩⟩
      · rw [List.length_set, List.take_set, htk, hoff]
        rw [flat_set hfe l i u' hi, ← hu]
        have hcell := flat_cell hfe l i u hl
        have hlen : (l.flatMap f).length = l.length * e := flat_len hfe l
        apply List.ext_getElem?
        intro q
        rw [List.getElem?_set]
        rw [List.append_assoc, List.getElem?_append, List.length_take, hlen]
        have e1 : min (i * e) (l.length * e) = i * e := by omega
        rw [e1]
        by_cases hq : q < i * e
        · rw [if_neg (by omega), if_pos hq, List.getElem?_take, if_pos hq]
        · rw [if_neg hq, List.getElem?_append, List.length_set, hfe]
          by_cases hq2 : q - i * e < e
          · rw [if_pos hq2, List.getElem?_set, hfe]
            by_cases hq3 : i * e + j = q
            · have a1 : j = q - i * e := by omega
              have a2 : i * e + j < l.length * e := by omega
              rw [if_pos hq3, if_pos a1, if_pos a2, if_pos hj]
            · rw [if_neg hq3, if_neg (by omega), ← hcell, List.getElem?_take, if_pos hq2, List.getElem?_drop]
              congr 1; omega
          · rw [if_neg hq2, if_neg (by omega), List.getElem?_drop]
            congr 1; omega
      · refine sat_upd (o := .cells cur.toArray T (0, 0)) ?_ (fun c hc x hx => by rw [ho c hc]; exact hx) h3
        rw [hh, hc]
        congr 2
        rw [List.set_eq_take_append_cons_drop, if_pos (by rw [hcl]; omega)]
        simp
/-- a whole element of a slice -/
theorem Ac_storeg_arr {α : Type} {t : TypeId} {x y : Operand} {gb cap e off i : Nat} {T : TypeId} {f : α → List Value} {l : List α} {R : List Asn} {vs : Array Value} (u' : α) (hx : ev L x = some (.pointer (some ⟨gb, off, none⟩))) (hy : ev L y = some (.agg vs)) (ht : sz P t = some e)
    (hE : Ext A (arr (some gb) cap e T f l) R := by repeat (first | with_reducible exact Ext.here | with_reducible apply Ext.there)) (hoff : off = i * e := by rfl) (hl : i < l.length := by omega) (h1 : ∀ v ∈ f u', v.oneCell' = true := by simp [Value.oneCell']) (hu : vs.toList = f u' := by rfl) :
    Ac P n ⟨none, .store t x y, ty, pos, af, g⟩ L A (fun _ A' => A' = arr (some gb) cap e T f (l.set i u') :: R) :=
  Ac_run fun ac w hf hs => by
    have hs' := sat_perm hE hs
    unfold arr at hs'
    obtain ⟨cur, h2⟩ := sat_ex.1 hs'
    obtain ⟨⟨hfe, hcl, hle, hm, htk⟩, h3⟩ := sat_and.1 h2
    have hc : (Value.agg vs).cells.toList = f u' := hu
    have hlt : i * e + e ≤ l.length * e := by
      have : (i + 1) * e ≤ l.length * e := Nat.mul_le_mul_right e hl
      rw [Nat.add_mul] at this; omega
    have hlt2 : l.length * e ≤ cap * e := Nat.mul_le_mul_right e hle
    obtain ⟨w', hr', hh, ho, hk⟩ := run_storeVar (P := P) (v := .agg vs) ht (i := off) (sat_pt h3) (by rw [← Array.length_toList, hc, hfe]) (by rw [hcl]; omega) (by rw [hc]; exact h1)
    refine ⟨_, w', _, .inr ⟨?_, rfl⟩, rfl, ?_, hk⟩
    · simp only [execOp, hf.eval hx, hf.eval hy, Instr.storeAt, Instr.sureAddr, Sem.run_bind, Sem.run_pure, Result.andThen_ok, hr']
    · unfold arr
      refine sat_ex.2 ⟨cur.take off ++ f u' ++ cur.drop (off + e), sat_and.2 ⟨⟨hfe, by simp [hcl, hfe]; omega, by simp [hle], hm, ?_⟩, ?_⟩⟩
      · rw [List.length_set, flat_set hfe l i u' hl, ← htk, List.take_take, List.drop_take, hoff]
        generalize hX : i * e = X at hlt
        generalize hY : l.length * e = Y at hlt hlt2
        generalize hZ : cap * e = Z at hlt2 hcl
        apply List.ext_getElem?
        intro q
        simp only [List.getElem?_take, List.getElem?_append, List.length_append, List.length_take, hfe, List.getElem?_drop, hcl]
        have e1 : min X Y = X := by omega
        have e2 : min X Z = X := by omega
        rw [e1, e2]
        by_cases q1 : q < X
        · have : q < Y := by omega
          have : q < X + e := by omega
          simp [*]
        · by_cases q2 : q < X + e
          · have : q < Y := by omega
            have : q - X < e := by omega
            simp [*]
          · by_cases q3 : q < Y
            · have : q - (X + e) < Y - (X + e) := by omega
              simp [*]
            · have : ¬ q - (X + e) < Y - (X + e) := by omega
              simp [*]
      · refine sat_upd (o := .cells cur.toArray T (0, 0)) ?_ (fun c hc x hx => by rw [ho c hc]; exact hx) h3
        rw [hh, hc]
/-! ### weaker, said otherwise -/
theorem arr_take {α : Type} {a : Option Nat} {cap e : Nat} {T : TypeId} {f : α → List Value} {l : List α} (k : Nat) : ∀ h, arr a cap e T f l h → arr a cap e T f (l.take k) h := by
  intro h
  cases a with
  | none => rintro ⟨⟨h1, h2⟩, h3⟩; exact ⟨⟨h1, by simp [h2]⟩, h3⟩
  | some gb =>
    rintro ⟨cur, ⟨hfe, hcl, hle, hm, htk⟩, h3⟩
    refine ⟨cur, ⟨hfe, hcl, by simp; omega, hm, ?_⟩, h3⟩
    rw [← flat_take hfe, ← htk, List.take_take, List.length_take]
    congr 1
    rw [Nat.min_def]
    split
    · have : k * e ≤ l.length * e := Nat.mul_le_mul_right e ‹_›
      omega
    · have : l.length * e ≤ k * e := Nat.mul_le_mul_right e (by omega)
      omega
end
end Go.SL
