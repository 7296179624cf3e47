/-
  '==' of structs and arrays: part by part. (Conditions: none; generic over the program.)
-/
import Derived.Test.YtcemkpiopijbmaaSlPut
import Derived.DeepKeys
set_option linter.all false
namespace Go.SL
open Go.RowKit
def Eqs (P : Program) (dd : Nat) (t : TypeId) (a b : Value) (r : Bool) : Prop := ∀ w, (Op.equalIn dd t a b).run P w = .ok r w
/-- a struct that can be compared: where its fields lie, their types -/
def fls (P : Program) (t : TypeId) : Option (List (Nat × TypeId)) :=
  match P.underlying t with
  | some (.struct fs) => if fs.all (·.name != "_") && !P.stoodInHeld t && !P.eqGuardType P.depth t then some (fs.toList.map fun f => (f.offset, f.type)) else none
  | _ => none
/-- an array of numbers -/
def ais (P : Program) (t : TypeId) : Option (Nat × TypeId) :=
  match P.underlying t with
  | some (.array n e) => match P.underlying e, P.info? e with
    | some (.int _), some i => if i.size = 1 ∧ P.eqGuardType P.depth t = false then some (n, e) else none
    | _, _ => none
  | _ => none
section
variable {P : Program} {d : Nat} {t : TypeId}
theorem Eqs_int {q k : IntKind} (hu : P.underlying t = some (.int q)) (i j : Int) : Eqs P (d + 1) t (.int k i) (.int k j) (decide (i = j)) := fun w => by
  simp only [Op.equalIn, Sem.run_bind, run_und hu, Result.andThen_ok, if_true, Sem.run_pure]
  congr 1
theorem Eqs_str (hu : P.underlying t = some .string) (a b : ByteArray) : Eqs P (d + 1) t (.string a) (.string b) (decide (a = b)) := fun w => by
  simp only [Op.equalIn, Sem.run_bind, run_und hu, Result.andThen_ok, Sem.run_pure]
  congr 1
  have hb : (a == b) = (a.data == b.data) := rfl
  rw [hb]
  by_cases h : a = b
  · subst h; simp
  · have h' : a.data ≠ b.data := fun e => h (by cases a; cases b; simp_all)
    simp [h, h']
theorem Eqs_bool (hu : P.underlying t = some .bool) (a b : Bool) : Eqs P (d + 1) t (.bool a) (.bool b) (a == b) := fun w => by
  simp only [Op.equalIn, Sem.run_bind, run_und hu, Result.andThen_ok, Sem.run_pure]
/-- part by part -/
inductive EqL (P : Program) (d : Nat) (xs ys : List Value) : List (Nat × TypeId) → Bool → Prop
  | nil : EqL P d xs ys [] true
  | sc {o : Nat} {u : TypeId} {l : List (Nat × TypeId)} {a b : Value} {r r' : Bool} (ht : tk P u = some none) (ha : xs[o]? = some a) (hb : ys[o]? = some b) (h : Eqs P d u a b r) (hl : EqL P d xs ys l r') : EqL P d xs ys ((o, u) :: l) (r && r')
  | ag {o k : Nat} {u : TypeId} {l : List (Nat × TypeId)} {as bs : List Value} {r r' : Bool} (ht : tk P u = some (some k)) (ha : (xs.drop o).take k = as) (hb : (ys.drop o).take k = bs) (h : Eqs P d u (.agg as.toArray) (.agg bs.toArray) r) (hl : EqL P d xs ys l r') : EqL P d xs ys ((o, u) :: l) (r && r')
theorem run_part_sc {u : TypeId} {xs : List Value} {o : Nat} {a : Value} (ht : tk P u = some none) (ha : xs[o]? = some a) (w : World) : (part u xs.toArray o).run P w = .ok a w := by
  simp [part, tk_sc ht, ha]
theorem run_part_ag {u : TypeId} {xs as : List Value} {o k : Nat} (ht : tk P u = some (some k)) (ha : (xs.drop o).take k = as) (w : World) : (part u xs.toArray o).run P w = .ok (.agg as.toArray) w := by
  simp only [part, Sem.run_bind, (tk_ag ht).1, Result.andThen_ok, if_true, run_size (tk_ag ht).2, Sem.run_pure]
  congr 2
  apply Array.ext'
  rw [← ha]; simp [List.take_drop]
theorem run_eqL {xs ys : List Value} {l : List (Nat × TypeId)} {r : Bool} (h : EqL P d xs ys l r) : ∀ (fs : List Field), (∀ f ∈ fs, f.name ≠ "_") → fs.map (fun f => (f.offset, f.type)) = l → ∀ w, (Op.eqFields d xs.toArray ys.toArray fs).run P w = .ok r w := by
  induction h with
  | nil => intro fs _ hl w; simp at hl; subst hl; simp [Op.eqFields]
  | sc ht ha hb h hl ih =>
    intro fs hn he w
    cases fs with
    | nil => simp at he
    | cons f fs =>
      simp only [List.map_cons, List.cons.injEq, Prod.mk.injEq] at he
      obtain ⟨⟨rfl, rfl⟩, he⟩ := he
      simp only [Op.eqFields, hn f (by simp), ne_eq, not_false_eq_true, if_true, Sem.run_bind, run_part_sc ht ha, run_part_sc ht hb, h w, Result.andThen_ok]
      rename_i r r'
      cases r
      · simp
      · simpa using ih fs (fun g hg => hn g (by simp [hg])) he w
  | ag ht ha hb h hl ih =>
    intro fs hn he w
    cases fs with
    | nil => simp at he
    | cons f fs =>
      simp only [List.map_cons, List.cons.injEq, Prod.mk.injEq] at he
      obtain ⟨⟨rfl, rfl⟩, he⟩ := he
      simp only [Op.eqFields, hn f (by simp), ne_eq, not_false_eq_true, if_true, Sem.run_bind, run_part_ag ht ha, run_part_ag ht hb, h w, Result.andThen_ok]
      rename_i r r'
      cases r
      · simp
      · simpa using ih fs (fun g hg => hn g (by simp [hg])) he w
theorem fls_spec {l : List (Nat × TypeId)} (h : fls P t = some l) : ∃ fs, P.underlying t = some (.struct fs) ∧ (∀ f ∈ fs.toList, f.name ≠ "_") ∧ P.stoodInHeld t = false ∧ P.eqGuardType P.depth t = false ∧ fs.toList.map (fun f => (f.offset, f.type)) = l := by
  unfold fls at h
  split at h
  · rename_i fs hu
    split at h
    · rename_i hc
      simp only [Bool.and_eq_true, Bool.not_eq_true', Array.all_eq_true_iff_forall_mem, bne_iff_ne, ne_eq] at hc
      exact ⟨fs, hu, fun f hf => hc.1.1 f (by simpa using hf), hc.1.2, hc.2, by simpa using h⟩
    · cases h
  · cases h
theorem Eqs_struct {l : List (Nat × TypeId)} {xs ys : List Value} {r : Bool} (h : fls P t = some l) (hl : EqL P d xs ys l r) : Eqs P (d + 1) t (.agg xs.toArray) (.agg ys.toArray) r := fun w => by
  obtain ⟨fs, hu, hn, hs, _, hm⟩ := fls_spec h
  have hfs : P.fieldsOf t = fs := by simp [Program.fieldsOf, hu]
  rw [run_equalIn_struct w d t _ _ (by rw [hfs]; exact hu) hs, hfs]
  exact run_eqL hl fs.toList hn hm w
theorem ais_spec {n : Nat} {e : TypeId} (h : ais P t = some (n, e)) : ∃ q i, P.underlying t = some (.array n e) ∧ P.underlying e = some (.int q) ∧ P.info? e = some i ∧ i.size = 1 ∧ P.eqGuardType P.depth t = false := by
  unfold ais at h
  split at h
  · rename_i n' e' hu
    split at h
    · rename_i q i hq hi
      split at h
      · rename_i hc
        simp only [Option.some.injEq, Prod.mk.injEq] at h
        obtain ⟨rfl, rfl⟩ := h
        exact ⟨q, i, hu, hq, hi, hc.1, hc.2⟩
      · cases h
    · cases h
  · cases h
theorem run_eqItems_ints {e : TypeId} {q k : IntKind} {l m : List Int} (he : P.underlying e = some (.int q)) (ht : tk P e = some none) (hlm : l.length = m.length) : ∀ (j i : Nat), i + j = l.length → ∀ w, (Op.eqItems (d + 1) e 1 (l.map (Value.int k)).toArray (m.map (Value.int k)).toArray (List.range' i j)).run P w = .ok (decide (l.drop i = m.drop i)) w
  | 0, i, hi, w => by
    rw [List.drop_of_length_le (by omega), List.drop_of_length_le (by omega)]
    simp [Op.eqItems]
  | j + 1, i, hi, w => by
    have h1 : i < l.length := by omega
    have h2 : i < m.length := by omega
    rw [List.range'_succ]
    have e1 := Eqs_int (P := P) (d := d) (k := k) he l[i] m[i] w
    have p1 := run_part_sc (P := P) (xs := l.map (Value.int k)) (o := i * 1) (a := .int k l[i]) ht (by simp [h1]) w
    have p2 := run_part_sc (P := P) (xs := m.map (Value.int k)) (o := i * 1) (a := .int k m[i]) ht (by simp [h2]) w
    simp only [Op.eqItems, Sem.run_bind, p1, p2, e1, Result.andThen_ok]
    have ih := run_eqItems_ints (k := k) he ht hlm j (i + 1) (by omega) w
    rw [List.drop_eq_getElem_cons h1, List.drop_eq_getElem_cons h2]
    by_cases h : l[i] = m[i]
    · simp only [h, decide_true, Bool.not_true, Bool.false_eq_true, if_false, ih, List.cons.injEq, true_and]
    · simp only [h, decide_false, Bool.not_false, if_true, Sem.run_pure, List.cons.injEq, false_and]
theorem Eqs_ints {n : Nat} {e : TypeId} {k : IntKind} {l m : List Int} (h : ais P t = some (n, e)) (hl : l.length = n) (hm : m.length = n) : Eqs P (d + 2) t (.agg (l.map (Value.int k)).toArray) (.agg (m.map (Value.int k)).toArray) (decide (l = m)) := fun w => by
  obtain ⟨q, i, hu, hq, hi, hs, _⟩ := ais_spec h
  rw [run_equalIn_array w (d + 1) _ _ hu hi]
  have hc : P.cellsOf e = 1 := by unfold Program.cellsOf; rw [hi]; simpa using hs
  have ht : tk P e = some none := by unfold tk; rw [hq]; simp [hi]
  rw [hc, List.range_eq_range', run_eqItems_ints (k := k) hq ht (by omega) n 0 (by omega) w]
  simp
variable {n : Nat} {L : List (Nat × Value)} {A : List Asn} {dd : Option Tmp} {ty t' : TypeId} {pos : String} {af : Array Edge} {g : Option (Nat × Bool)} {x y : Operand}
theorem guard_agg {_u _v : Value} {op : BinOp} {as bs : Array Value} (hg : P.eqGuardType P.depth t = false) (w : World) : (eqGuard op t x y (.agg as) (.agg bs)).run P w = .ok () w := by
  cases op <;> simp [eqGuard, hg, Sem.run_bind]
theorem Rd_eqg {as bs : Array Value} {r : Bool} (hx : ev L x = some (.agg as)) (hy : ev L y = some (.agg bs)) (hg : P.eqGuardType P.depth t = false) (h : Eqs P 10000 t (.agg as) (.agg bs) r) : Rd P n ⟨dd, .binOp .eql t x y t', ty, pos, af, g⟩ L A (.bool r) :=
  Rd_eq hx hy (fun w => guard_agg (_u := .agg as) (_v := .agg bs) hg w) fun w => by
    have : binOp .eql t (.agg as) (.agg bs) = (do pure (.bool (← Op.equal t (.agg as) (.agg bs)))) := rfl
    rw [this]; simp only [Op.equal, Op.maxDepth, Sem.run_bind, h w, Result.andThen_ok, Sem.run_pure]
theorem Rd_neg_ {as bs : Array Value} {r : Bool} (hx : ev L x = some (.agg as)) (hy : ev L y = some (.agg bs)) (hg : P.eqGuardType P.depth t = false) (h : Eqs P 10000 t (.agg as) (.agg bs) r) : Rd P n ⟨dd, .binOp .neq t x y t', ty, pos, af, g⟩ L A (.bool (!r)) :=
  Rd_ne hx hy (fun w => guard_agg (_u := .agg as) (_v := .agg bs) hg w) fun w => by
    have : binOp .neq t (.agg as) (.agg bs) = (do pure (.bool (!(← Op.equal t (.agg as) (.agg bs))))) := rfl
    rw [this]; simp only [Op.equal, Op.maxDepth, Sem.run_bind, h w, Result.andThen_ok, Sem.run_pure]
/-- arrays of numbers -/
theorem Rd_eqA {m : Nat} {e : TypeId} {k : IntKind} {l l' : List Int} {as bs : Array Value} (hx : ev L x = some (.agg as)) (hy : ev L y = some (.agg bs)) (h : ais P t = some (m, e)) (ha : as = (l.map (Value.int k)).toArray := by rfl) (hb : bs = (l'.map (Value.int k)).toArray := by rfl) (hl : l.length = m := by first | rfl | assumption | simp) (hm : l'.length = m := by first | rfl | assumption | simp) :
    Rd P n ⟨dd, .binOp .eql t x y t', ty, pos, af, g⟩ L A (.bool (decide (l = l'))) := by
  subst ha; subst hb
  obtain ⟨_, _, _, _, _, _, hg⟩ := ais_spec h
  exact Rd_eqg hx hy hg (Eqs_ints (d := 9998) h hl hm)
theorem Rd_neA {m : Nat} {e : TypeId} {k : IntKind} {l l' : List Int} {as bs : Array Value} (hx : ev L x = some (.agg as)) (hy : ev L y = some (.agg bs)) (h : ais P t = some (m, e)) (ha : as = (l.map (Value.int k)).toArray := by rfl) (hb : bs = (l'.map (Value.int k)).toArray := by rfl) (hl : l.length = m := by first | rfl | assumption | simp) (hm : l'.length = m := by first | rfl | assumption | simp) :
    Rd P n ⟨dd, .binOp .neq t x y t', ty, pos, af, g⟩ L A (.bool (!decide (l = l'))) := by
  subst ha; subst hb
  obtain ⟨_, _, _, _, _, _, hg⟩ := ais_spec h
  exact Rd_neg_ hx hy hg (Eqs_ints (d := 9998) h hl hm)
/-- structs -/
theorem Rd_eqS {l : List (Nat × TypeId)} {xs ys : List Value} {r : Bool} (hx : ev L x = some (.agg xs.toArray)) (hy : ev L y = some (.agg ys.toArray)) (h : fls P t = some l) (hl : EqL P 9999 xs ys l r) :
    Rd P n ⟨dd, .binOp .eql t x y t', ty, pos, af, g⟩ L A (.bool r) := by
  obtain ⟨_, _, _, _, hg, _⟩ := fls_spec h
  exact Rd_eqg hx hy hg (Eqs_struct h hl)
theorem Rd_neS {l : List (Nat × TypeId)} {xs ys : List Value} {r : Bool} (hx : ev L x = some (.agg xs.toArray)) (hy : ev L y = some (.agg ys.toArray)) (h : fls P t = some l) (hl : EqL P 9999 xs ys l r) :
    Rd P n ⟨dd, .binOp .neq t x y t', ty, pos, af, g⟩ L A (.bool (!r)) := by
  obtain ⟨_, _, _, _, hg, _⟩ := fls_spec h
  exact Rd_neg_ hx hy hg (Eqs_struct h hl)
end
end Go.SL
