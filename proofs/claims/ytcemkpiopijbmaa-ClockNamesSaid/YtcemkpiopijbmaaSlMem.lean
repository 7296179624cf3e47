/-
  Memory as the logic sees it: a block of known cells; a slice that lies at the head of a block of its own; what may be read. Loads, stores, allocations, append, reslicing. (Conditions: none; generic over the program.)
-/
import Derived.Test.YtcemkpiopijbmaaSlOps
set_option linter.all false
namespace Go.SL
open Go.RowKit

/-- block b holds these cells -/
def cl (b : Nat) (T : TypeId) (xs : List Value) : Asn := pt b (.cells xs.toArray T (0, 0))
/-- the slice's array lies at block a (none: a nil slice), its first cells are l's, e cells each -/
def arr {α : Type} (a : Option Nat) (cap e : Nat) (T : TypeId) (f : α → List Value) (l : List α) : Asn :=
  match a with
  | none => fun h => (cap = 0 ∧ l = []) ∧ ∀ b, h b = none
  | some g => fun h => ∃ cur : List Value, ((∀ x, (f x).length = e) ∧ cur.length = cap * e ∧ l.length ≤ cap ∧ cap ≤ maxLen ∧ cur.take (l.length * e) = l.flatMap f) ∧ pt g (.cells cur.toArray T (0, 0)) h
def sl (a : Option Nat) (n cap : Nat) : Value := .slice (a.map fun g => ⟨g, 0, none⟩) n cap

theorem flat_len {α : Type} {f : α → List Value} {e : Nat} (hf : ∀ x, (f x).length = e) : ∀ l : List α, (l.flatMap f).length = l.length * e
  | [] => by simp
  | x :: l => by simp [List.flatMap_cons, hf, flat_len hf l, Nat.add_mul, Nat.add_comm]
theorem flat_get {α : Type} {f : α → List Value} {e : Nat} (hf : ∀ x, (f x).length = e) {j : Nat} (hj : j < e) : ∀ (l : List α) (i : Nat) (x : α), l[i]? = some x → (l.flatMap f)[i * e + j]? = (f x)[j]?
  | [], i, x, h => by simp at h
  | y :: l, 0, x, h => by simp at h; subst h; simp [List.flatMap_cons, List.getElem?_append, hf, hj]
  | y :: l, i + 1, x, h => by
    simp at h
    rw [List.flatMap_cons, List.getElem?_append_right (by rw [hf, Nat.add_mul]; omega), hf]
    rw [show (i + 1) * e + j - e = i * e + j from by rw [Nat.add_mul]; omega]
    exact flat_get hf hj l i x h
theorem flat_drop {α : Type} {f : α → List Value} {e : Nat} (hf : ∀ x, (f x).length = e) : ∀ (l : List α) (i : Nat), (l.flatMap f).drop (i * e) = (l.drop i).flatMap f
  | l, 0 => by simp
  | [], i + 1 => by simp
  | y :: l, i + 1 => by
    rw [List.flatMap_cons, Nat.add_mul, Nat.one_mul, Nat.add_comm, ← List.drop_drop, List.drop_left' (hf y), flat_drop hf l i]
    simp
theorem flat_take {α : Type} {f : α → List Value} {e : Nat} (hf : ∀ x, (f x).length = e) : ∀ (l : List α) (i : Nat), (l.flatMap f).take (i * e) = (l.take i).flatMap f
  | l, 0 => by simp
  | [], i + 1 => by simp
  | y :: l, i + 1 => by
    rw [List.flatMap_cons, Nat.add_mul, Nat.one_mul, Nat.add_comm, ← hf y, List.take_append, List.take_of_length_le (by omega)]
    simp only [Nat.add_sub_cancel_left, List.take_succ_cons, List.flatMap_cons]
    rw [hf y, flat_take hf l i]
theorem flat_cell {α : Type} {f : α → List Value} {e : Nat} (hf : ∀ x, (f x).length = e) (l : List α) (i : Nat) (x : α) (h : l[i]? = some x) : ((l.flatMap f).drop (i * e)).take e = f x := by
  rw [flat_drop hf]
  have hi : i < l.length := (List.getElem?_eq_some_iff.1 h).1
  rw [List.drop_eq_getElem_cons hi, List.flatMap_cons, (List.getElem?_eq_some_iff.1 h).2, List.take_left' (hf x)]
/-- setting the j-th cell of the i-th element -/
theorem flat_set {α : Type} {f : α → List Value} {e : Nat} (hf : ∀ x, (f x).length = e) (l : List α) (i : Nat) (x' : α) (hi : i < l.length) :
    (l.set i x').flatMap f = (l.flatMap f).take (i * e) ++ f x' ++ (l.flatMap f).drop (i * e + e) := by
  rw [flat_take hf, show i * e + e = (i + 1) * e from by rw [Nat.add_mul]; omega, flat_drop hf, List.set_eq_take_append_cons_drop, if_pos hi, List.flatMap_append, List.flatMap_cons, List.append_assoc]

/-! ### What may be read -/
def svb (ao : Option Addr) : Nat := (ao.getD default).block
def svo (ao : Option Addr) : Nat := (ao.getD default).off
/-- v is a slice whose elements read as l wherever A is owned -/
structure Sv {α : Type} (A : List Asn) (v : Value) (e : Nat) (f : α → List Value) (l : List α) (ao : Option Addr) (cap : Nat) : Prop where
  val : v = .slice ao l.length cap
  adr : l ≠ [] → ∃ b o, ao = some ⟨b, o, none⟩
  len : ∀ x ∈ l, (f x).length = e
  le : l.length ≤ cap
  cell : ∀ w, sat w A → ∀ i x, l[i]? = some x → ∀ j u, (f x)[j]? = some u → w.cell? ⟨svb ao, svo ao + (i * e + j), none⟩ = some u
theorem Sv.mono {α : Type} {A B : List Asn} {v : Value} {e : Nat} {f : α → List Value} {l : List α} {ao : Option Addr} {cap : Nat} (h : Sv B v e f l ao cap) (k : Sub A B) : Sv A v e f l ao cap :=
  ⟨h.val, h.adr, h.len, h.le, fun w hs => h.cell w (k.sat hs)⟩
theorem Sv.ptr {α : Type} {A : List Asn} {v : Value} {e : Nat} {f : α → List Value} {l : List α} {ao : Option Addr} {cap : Nat} (h : Sv A v e f l ao cap) {i : Nat} (hi : i < l.length) : ao = some ⟨svb ao, svo ao, none⟩ := by
  obtain ⟨b, o, rfl⟩ := h.adr (by intro e; subst e; simp at hi)
  rfl
/-- where a slice of a slice begins -/
def sao (ao : Option Addr) (lo e cap : Nat) : Option Addr := if cap = lo then ao else ao.map (·.add (lo * e))
theorem Sv.sub {α : Type} {A : List Asn} {v : Value} {e : Nat} {f : α → List Value} {l : List α} {ao : Option Addr} {cap : Nat} (h : Sv A v e f l ao cap) {lo hi : Nat} (h1 : lo ≤ hi) (h2 : hi ≤ l.length) :
    Sv A (.slice (sao ao lo e cap) (hi - lo) (cap - lo)) e f ((l.take hi).drop lo) (sao ao lo e cap) (cap - lo) := by
  have hle := h.le
  refine ⟨?_, fun hl => ?_, fun x hx => h.len x (List.mem_of_mem_take (List.mem_of_mem_drop hx)), by simp; omega, fun w hs i x hx j u hu => ?_⟩
  · congr 1; simp; omega
  · have hlt : lo < hi := by
      rcases Nat.lt_or_ge lo hi with q | q
      · exact q
      · exfalso; apply hl; apply List.drop_eq_nil_of_le; simp; omega
    obtain ⟨b, o, rfl⟩ := h.adr (by intro e; subst e; simp at h2; omega)
    refine ⟨b, o + lo * e, ?_⟩
    unfold sao; rw [if_neg (by omega)]
    simp only [Option.map_some, add_off]
  · have hi' := (List.getElem?_eq_some_iff.1 hx).1
    simp only [List.length_drop, List.length_take] at hi'
    obtain ⟨b, o, rfl⟩ := h.adr (by intro e; subst e; simp at hi')
    rw [List.getElem?_drop, List.getElem?_take, if_pos (by omega)] at hx
    have := h.cell w hs _ x hx j u hu
    rw [show sao (some ⟨b, o, none⟩) lo e cap = some ⟨b, o + lo * e, none⟩ from by unfold sao; rw [if_neg (by omega)]; simp only [Option.map_some, add_off]]
    simp only [svb, svo, Option.getD_some] at this ⊢
    rw [← this]; congr 2; rw [Nat.add_mul]; omega
theorem arr_open {α : Type} {g cap e : Nat} {T : TypeId} {f : α → List Value} {l : List α} {A : List Asn} {w : World} (h : Has A (arr (some g) cap e T f l)) (hs : sat w A) :
    ∃ cur : List Value, ((∀ x, (f x).length = e) ∧ cur.length = cap * e ∧ l.length ≤ cap ∧ cap ≤ maxLen ∧ cur.take (l.length * e) = l.flatMap f) ∧ w.heap[g]? = some (.cells cur.toArray T (0, 0)) := by
  obtain ⟨R, p⟩ := h
  have := sat_perm p hs
  unfold arr at this
  obtain ⟨cur, h1⟩ := sat_ex.1 this
  obtain ⟨h2, h3⟩ := sat_and.1 h1
  exact ⟨cur, h2, sat_pt h3⟩
theorem arr_none {α : Type} {cap e : Nat} {T : TypeId} {f : α → List Value} {l : List α} {A : List Asn} {w : World} (h : Has A (arr none cap e T f l)) (hs : sat w A) : cap = 0 ∧ l = [] := by
  obtain ⟨R, p⟩ := h
  have := sat_perm p hs
  unfold arr at this
  exact (sat_and.1 this).1
theorem cur_get {α : Type} {e : Nat} {f : α → List Value} {l : List α} {cur : List Value} (hf : ∀ x, (f x).length = e) (ht : cur.take (l.length * e) = l.flatMap f) {i : Nat} {x : α} (hx : l[i]? = some x) {j : Nat} {u : Value} (hu : (f x)[j]? = some u) : cur[i * e + j]? = some u := by
  have hj : j < e := by have := (List.getElem?_eq_some_iff.1 hu).1; rwa [hf] at this
  have hi : i < l.length := (List.getElem?_eq_some_iff.1 hx).1
  have hlt : i * e + j < l.length * e := by
    have : (i + 1) * e ≤ l.length * e := Nat.mul_le_mul_right e hi
    rw [Nat.add_mul] at this; omega
  have := flat_get hf hj l i x hx
  rw [← ht, List.getElem?_take, if_pos hlt] at this
  rw [this, hu]
theorem Sv_arr {α : Type} {a : Option Nat} {cap e : Nat} {T : TypeId} {f : α → List Value} {l : List α} {A : List Asn} (hA : Has A (arr a cap e T f l)) (hf : ∀ x, (f x).length = e) (hn : a = none → l = []) (hc : l.length ≤ cap) : Sv A (sl a l.length cap) e f l (a.map fun g => ⟨g, 0, none⟩) cap := by
  refine ⟨rfl, fun hl => ?_, fun x _ => hf x, hc, fun w hs i x hx j u hu => ?_⟩
  · cases a with
    | none => exact absurd (hn rfl) hl
    | some g => exact ⟨g, 0, rfl⟩
  · cases a with
    | none => rw [hn rfl] at hx; simp at hx
    | some g =>
      obtain ⟨cur, ⟨_, hc, hl, _, ht⟩, hb⟩ := arr_open hA hs
      show w.cell? ⟨g, 0 + (i * e + j), none⟩ = some u
      rw [Nat.zero_add]
      exact cell_of hb (by simpa using cur_get hf ht hx hu)
/-- a part of a block of known cells, as a slice -/
theorem Sv_cl {α : Type} {b off e cap : Nat} {T : TypeId} {xs : List Value} {f : α → List Value} {l : List α} (hf : ∀ x ∈ l, (f x).length = e) (hx : (xs.drop off).take (l.length * e) = l.flatMap f) (hc : l.length ≤ cap) : Sv [cl b T xs] (.slice (some ⟨b, off, none⟩) l.length cap) e f l (some ⟨b, off, none⟩) cap := by
  refine ⟨rfl, fun _ => ⟨b, off, rfl⟩, hf, hc, fun w hs i x hi j u hu => ?_⟩
  have hb := sat_pt hs
  refine cell_of hb ?_
  have hlt : i < l.length := (List.getElem?_eq_some_iff.1 hi).1
  have hj : j < e := by have := (List.getElem?_eq_some_iff.1 hu).1; rwa [hf x (List.mem_of_getElem? hi)] at this
  have hg : (l.flatMap f)[i * e + j]? = some u := by
    clear hx hc hb
    induction l generalizing i with
    | nil => simp at hi
    | cons y r ih =>
      have hy := hf y (by simp)
      cases i with
      | zero => simp at hi; subst hi; rw [List.flatMap_cons, List.getElem?_append_left (by rw [hy]; omega)]; simpa using hu
      | succ i =>
        simp at hi
        rw [List.flatMap_cons, List.getElem?_append_right (by rw [hy, Nat.add_mul]; omega), hy]
        rw [show (i + 1) * e + j - e = i * e + j from by rw [Nat.add_mul]; omega]
        exact ih (fun x hx => hf x (by simp [hx])) i hi (by simpa using hlt)
  rw [← hx] at hg
  rw [List.getElem?_take, List.getElem?_drop] at hg
  split at hg
  · simpa [svo] using hg
  · cases hg

theorem run_loadCells_of {P : Program} {w : World} {b i : Nat} : ∀ (vs : List Value) (j : Nat) (acc : Array Value), (∀ q u, vs[q]? = some u → w.cell? ⟨b, i + j + q, none⟩ = some u) → (loadCellsFrom ⟨b, i, none⟩ j vs.length acc).run P w = .ok (acc ++ vs.toArray) w
  | [], j, acc, _ => by simp [loadCellsFrom]
  | v :: vs, j, acc, h => by
    have hc : w.cell? ((⟨b, i, none⟩ : Addr).add j) = some v := by rw [add_off]; simpa using h 0 v rfl
    simp only [List.length_cons, loadCellsFrom, Sem.run_bind, run_load_cell hc, Result.andThen_ok]
    rw [run_loadCells_of vs (j + 1) _ (fun q u hq => by have := h (q + 1) u (by simpa using hq); rw [show i + (j + 1) + q = i + j + (q + 1) from by omega]; exact this)]
    congr 1
    apply Array.ext'; simp
section
variable {P : Program} {n : Nat} {L : List (Nat × Value)} {A : List Asn} {d : Option Tmp} {ty : TypeId} {pos : String} {af : Array Edge} {g : Option (Nat × Bool)}
/-! ### loads -/
theorem Rd_load {t : TypeId} {x : Operand} {b i : Nat} {T : TypeId} {xs : List Value} {v : Value} (hx : ev L x = some (.pointer (some ⟨b, i, none⟩))) (ht : tk P t = some none) (hA : Has A (cl b T xs) := by repeat (first | with_reducible exact Has.here | with_reducible refine Has.there ?_)) (hi : xs[i]? = some v := by rfl) :
    Rd P n ⟨d, .load t x, ty, pos, af, g⟩ L A v := fun a w hf hs => by
  have hc : w.cell? ⟨b, i, none⟩ = some v := cell_of (hA.sat hs) (by simpa using hi)
  simp only [execOp, hf.eval hx, Instr.loadAt, Instr.sureAddr, Sem.run_bind, Sem.run_pure, Result.andThen_ok, run_loadVar_sc ht hc]
theorem Rd_loadg {t : TypeId} {x : Operand} {b i k : Nat} {T : TypeId} {xs vs : List Value} (hx : ev L x = some (.pointer (some ⟨b, i, none⟩))) (ht : tk P t = some (some k)) (hA : Has A (cl b T xs) := by repeat (first | with_reducible exact Has.here | with_reducible refine Has.there ?_)) (hl : i + k ≤ xs.length := by exact Nat.le_of_ble_eq_true rfl) (hi : (xs.drop i).take k = vs := by first | (simp only [List.drop_zero, List.drop_succ_cons, List.take_succ_cons, List.take_zero, Nat.zero_add]; rfl) | rfl) :
    Rd P n ⟨d, .load t x, ty, pos, af, g⟩ L A (.agg vs.toArray) := fun a w hf hs => by
  have := run_loadVar_ag (P := P) ht (i := i) (hA.sat hs) (by simpa using hl)
  simp only [execOp, hf.eval hx, Instr.loadAt, Instr.sureAddr, Sem.run_bind, Sem.run_pure, Result.andThen_ok, this]
  simp [hi]
/-- out of a slice: the j-th cell of its i-th element -/
theorem Rd_load_arr {α : Type} {t : TypeId} {x : Operand} {gb cap e off i j : Nat} {T : TypeId} {f : α → List Value} {l : List α} {y : α} {v : Value} (hx : ev L x = some (.pointer (some ⟨gb, off, none⟩))) (ht : tk P t = some none)
    (hA : Has A (arr (some gb) cap e T f l) := by repeat (first | with_reducible exact Has.here | with_reducible refine Has.there ?_)) (hoff : off = i * e + j := by rfl) (hl : l[i]? = some y := by assumption) (hv : (f y)[j]? = some v := by rfl) : Rd P n ⟨d, .load t x, ty, pos, af, g⟩ L A v := fun ac w hf hs => by
  obtain ⟨cur, ⟨hfe, _, _, _, htk⟩, hb⟩ := arr_open hA hs
  have hc : w.cell? ⟨gb, off, none⟩ = some v := cell_of hb (by rw [hoff]; simpa using cur_get hfe htk hl hv)
  simp only [execOp, hf.eval hx, Instr.loadAt, Instr.sureAddr, Sem.run_bind, Sem.run_pure, Result.andThen_ok, run_loadVar_sc ht hc]
theorem Rd_loadg_arr {α : Type} {t : TypeId} {x : Operand} {gb cap e off i : Nat} {T : TypeId} {f : α → List Value} {l : List α} {y : α} (hx : ev L x = some (.pointer (some ⟨gb, off, none⟩))) (ht : tk P t = some (some e))
    (hA : Has A (arr (some gb) cap e T f l) := by repeat (first | with_reducible exact Has.here | with_reducible refine Has.there ?_)) (hoff : off = i * e := by rfl) (hl : l[i]? = some y := by assumption) : Rd P n ⟨d, .load t x, ty, pos, af, g⟩ L A (.agg (f y).toArray) := fun ac w hf hs => by
  obtain ⟨cur, ⟨hfe, hcl, hle, _, htk⟩, hb⟩ := arr_open hA hs
  have hi : i < l.length := (List.getElem?_eq_some_iff.1 hl).1
  have hlt : i * e + e ≤ l.length * e := by
    have : (i + 1) * e ≤ l.length * e := Nat.mul_le_mul_right e hi
    rw [Nat.add_mul] at this; omega
  have hlt2 : l.length * e ≤ cap * e := Nat.mul_le_mul_right e hle
  have := run_loadVar_ag (P := P) ht (i := off) hb (by simp [hcl, hoff]; omega)
  simp only [execOp, hf.eval hx, Instr.loadAt, Instr.sureAddr, Sem.run_bind, Sem.run_pure, Result.andThen_ok]
  rw [this]
  have h1 := flat_cell hfe l i y hl
  rw [← htk, List.drop_take, List.take_take] at h1
  rw [show min e (l.length * e - i * e) = e from by omega] at h1
  rw [hoff, ← h1]
  rfl
/-- out of whatever may be read -/
theorem Rd_load_sv {α : Type} {t : TypeId} {x : Operand} {v : Value} {e off i j : Nat} {f : α → List Value} {l : List α} {ao : Option Addr} {cap : Nat} {y : α} {u : Value} {B : List Asn} (hx : ev L x = some (.pointer (some ⟨svb ao, off, none⟩))) (ht : tk P t = some none)
    (hA : Sv B v e f l ao cap := by assumption) (hB : Sub A B := by repeat (first | with_reducible exact Sub.refl | with_reducible exact Sub.nil | with_reducible refine Sub.cons (by repeat (first | with_reducible exact Ext.here | with_reducible apply Ext.there)) ?_ | with_reducible refine Sub.tail ?_))
    (hp : off = svo ao + i * e + j := by rfl) (hl : l[i]? = some y := by assumption) (hv : (f y)[j]? = some u := by rfl) : Rd P n ⟨d, .load t x, ty, pos, af, g⟩ L A u := fun ac w hf hs => by
  have hc := hA.cell w (hB.sat hs) i y hl j u hv
  rw [← Nat.add_assoc, ← hp] at hc
  simp only [execOp, hf.eval hx, Instr.loadAt, Instr.sureAddr, Sem.run_bind, Sem.run_pure, Result.andThen_ok, run_loadVar_sc ht hc]
theorem Rd_loadg_sv {α : Type} {t : TypeId} {x : Operand} {v : Value} {e off i : Nat} {f : α → List Value} {l : List α} {ao : Option Addr} {cap : Nat} {y : α} {B : List Asn} (hx : ev L x = some (.pointer (some ⟨svb ao, off, none⟩))) (ht : tk P t = some (some e))
    (hA : Sv B v e f l ao cap := by assumption) (hB : Sub A B := by repeat (first | with_reducible exact Sub.refl | with_reducible exact Sub.nil | with_reducible refine Sub.cons (by repeat (first | with_reducible exact Ext.here | with_reducible apply Ext.there)) ?_ | with_reducible refine Sub.tail ?_))
    (hp : off = svo ao + i * e := by rfl) (hl : l[i]? = some y := by assumption) : Rd P n ⟨d, .load t x, ty, pos, af, g⟩ L A (.agg (f y).toArray) := fun ac w hf hs => by
  have hlen := hA.len y (List.mem_of_getElem? hl)
  have h := run_loadCells_of (P := P) (w := w) (b := svb ao) (i := off) (f y) 0 #[] (fun q u hq => by have := hA.cell w (hB.sat hs) i y hl q u hq; rw [hp, Nat.add_zero, Nat.add_assoc]; exact this)
  rw [hlen] at h
  simp only [execOp, hf.eval hx, Instr.loadAt, Instr.sureAddr, Sem.run_bind, Sem.run_pure, Result.andThen_ok, loadVar, (tk_ag ht).1, if_true, loadCells, run_size (tk_ag ht).2]
  rw [h]; simp
/-- a part of an element -/
theorem Rd_loadgp_arr {α : Type} {t : TypeId} {x : Operand} {gb cap e off i j k : Nat} {T : TypeId} {f : α → List Value} {l : List α} {y : α} {vs : List Value} (hx : ev L x = some (.pointer (some ⟨gb, off, none⟩))) (ht : tk P t = some (some k))
    (hA : Has A (arr (some gb) cap e T f l) := by repeat (first | with_reducible exact Has.here | with_reducible refine Has.there ?_)) (hoff : off = i * e + j := by rfl) (hl : l[i]? = some y := by assumption) (hjk : j + k ≤ (f y).length := by exact Nat.le_of_ble_eq_true rfl) (hv : ((f y).drop j).take k = vs := by rfl) : Rd P n ⟨d, .load t x, ty, pos, af, g⟩ L A (.agg vs.toArray) := fun ac w hf hs => by
  obtain ⟨cur, ⟨hfe, _, _, _, htk⟩, hb⟩ := arr_open hA hs
  have hvl : vs.length = k := by rw [← hv]; simp; omega
  have h := run_loadCells_of (P := P) (w := w) (b := gb) (i := off) vs 0 #[] (fun q u hq => by
    have hu : (f y)[j + q]? = some u := by
      rw [← hv] at hq
      rw [List.getElem?_take] at hq
      split at hq
      · rwa [List.getElem?_drop] at hq
      · cases hq
    have := cur_get hfe htk hl hu
    rw [hoff, Nat.add_zero, Nat.add_assoc]
    exact cell_of hb (by simpa using this))
  rw [hvl] at h
  simp only [execOp, hf.eval hx, Instr.loadAt, Instr.sureAddr, Sem.run_bind, Sem.run_pure, Result.andThen_ok, loadVar, (tk_ag ht).1, if_true, loadCells, run_size (tk_ag ht).2]
  rw [h]; simp
theorem Rd_loadgp_sv {α : Type} {t : TypeId} {x : Operand} {v : Value} {e off i j k : Nat} {f : α → List Value} {l : List α} {ao : Option Addr} {cap : Nat} {y : α} {B : List Asn} {vs : List Value} (hx : ev L x = some (.pointer (some ⟨svb ao, off, none⟩))) (ht : tk P t = some (some k))
    (hA : Sv B v e f l ao cap := by assumption) (hB : Sub A B := by repeat (first | with_reducible exact Sub.refl | with_reducible exact Sub.nil | with_reducible refine Sub.cons (by repeat (first | with_reducible exact Ext.here | with_reducible apply Ext.there)) ?_ | with_reducible refine Sub.tail ?_))
    (hp : off = svo ao + i * e + j := by rfl) (hl : l[i]? = some y := by assumption) (hjk : j + k ≤ (f y).length := by exact Nat.le_of_ble_eq_true rfl) (hv : ((f y).drop j).take k = vs := by rfl) : Rd P n ⟨d, .load t x, ty, pos, af, g⟩ L A (.agg vs.toArray) := fun ac w hf hs => by
  have hvl : vs.length = k := by rw [← hv]; simp; omega
  have h := run_loadCells_of (P := P) (w := w) (b := svb ao) (i := off) vs 0 #[] (fun q u hq => by
    have hu : (f y)[j + q]? = some u := by
      rw [← hv] at hq
      rw [List.getElem?_take] at hq
      split at hq
      · rwa [List.getElem?_drop] at hq
      · cases hq
    have := hA.cell w (hB.sat hs) i y hl _ u hu
    rw [hp, Nat.add_zero]
    rw [← this]; congr 2; omega)
  rw [hvl] at h
  simp only [execOp, hf.eval hx, Instr.loadAt, Instr.sureAddr, Sem.run_bind, Sem.run_pure, Result.andThen_ok, loadVar, (tk_ag ht).1, if_true, loadCells, run_size (tk_ag ht).2]
  rw [h]; simp
/-! ### addresses of elements -/
theorem run_indexAt {t e : TypeId} {k : Nat} (hu : P.underlying t = some (.slice e)) (hs : sz P e = some k) {p : Addr} {len cap i : Nat} {kk : IntKind} {j : Int} (hj : j = i) (hi : i < len) (w : World) :
    (Instr.indexAt t (.slice (some p) len cap) (.int kk j)).run P w = .ok (.pointer (some (p.add (i * k)))) w := by
  subst hj
  have h0 : (0 : Int) ≤ (i : Int) ∧ (i : Int) < (len : Int) := by omega
  simp [Instr.indexAt, asIntOf, run_und hu, run_size hs, h0.1, hi]
theorem Rd_index {t et : TypeId} {x y : Operand} {gb cap e len : Nat} {kk : IntKind} {j : Int} (i : Nat) (hx : ev L x = some (sl (some gb) len cap)) (hy : ev L y = some (.int kk j))
    (hu : P.underlying t = some (.slice et)) (hz : sz P et = some e) (hj : j = i := by rfl) (hi : i < len := by omega) : Rd P n ⟨d, .indexAddr t x y, ty, pos, af, g⟩ L A (.pointer (some ⟨gb, i * e, none⟩)) := fun ac w hf hs => by
  simp only [execOp, hf.eval hx, hf.eval hy, sl, Option.map_some, Sem.run_bind, run_indexAt hu hz hj hi w, Result.andThen_ok, Sem.run_pure, add_off, Nat.zero_add]
theorem Rd_index_sv {α : Type} {t et : TypeId} {x y : Operand} {v : Value} {e : Nat} {f : α → List Value} {l : List α} {ao : Option Addr} {cap : Nat} {kk : IntKind} {j : Int} {B : List Asn} (i : Nat) (hx : ev L x = some v) (hy : ev L y = some (.int kk j))
    (hu : P.underlying t = some (.slice et)) (hz : sz P et = some e) (hA : Sv B v e f l ao cap := by assumption) (hj : j = i := by rfl) (hi : i < l.length := by omega) : Rd P n ⟨d, .indexAddr t x y, ty, pos, af, g⟩ L A (.pointer (some ⟨svb ao, svo ao + i * e, none⟩)) := fun ac w hf hs => by
  have hp := hA.ptr hi
  rw [hA.val, hp] at hx
  simp only [execOp, hf.eval hx, hf.eval hy, Sem.run_bind, run_indexAt hu hz hj hi w, Result.andThen_ok, Sem.run_pure, add_off]
/-- v[lo:hi] of what may be read -/
theorem Rd_slice_sv {α : Type} {t et : TypeId} {x : Operand} {ylo yhi : Option Operand} {v : Value} {e : Nat} {f : α → List Value} {l : List α} {ao : Option Addr} {cap : Nat} {B : List Asn} (lo hi : Nat) (hx : ev L x = some v)
    (hlo : (match ylo with | none => lo = 0 | some y => ∃ kk, ev L y = some (.int kk (lo : Int)))) (hhi : (match yhi with | none => hi = l.length | some y => ∃ kk, ev L y = some (.int kk (hi : Int))))
    (hu : P.underlying t = some (.slice et)) (hz : sz P et = some e) (hA : Sv B v e f l ao cap := by assumption) (h1 : lo ≤ hi := by omega) (h2 : hi ≤ l.length := by omega) : Rd P n ⟨d, .slice t x ylo yhi none, ty, pos, af, g⟩ L A (.slice (sao ao lo e cap) (hi - lo) (cap - lo)) := fun ac w hf hs => by
  rw [hA.val] at hx
  have h3 : hi ≤ cap := Nat.le_trans h2 hA.le
  have b1 : (0 : Int) ≤ (lo : Int) ∧ (lo : Int) ≤ (hi : Int) := by omega
  have b2 : (0 : Int) ≤ (hi : Int) ∧ (hi : Int) ≤ (cap : Int) := by omega
  have e1 : (0 : Int) ≤ (lo : Int) := b1.1
  cases ylo with
  | none =>
    subst hlo
    cases yhi with
    | none =>
      subst hhi
      simp [execOp, hf.eval hx, Instr.sliceAt, Instr.slice, run_und hu, Instr.sliceBounds, run_size hz, sao]
    | some z =>
      obtain ⟨k2, hz2⟩ := hhi
      simp [execOp, hf.eval hx, hf.eval hz2, Instr.sliceAt, Instr.slice, run_und hu, Instr.sliceBounds, Instr.sliceBound, asIntOf, h3, run_size hz, sao]
  | some y =>
    obtain ⟨k1, hy1⟩ := hlo
    cases yhi with
    | none =>
      subst hhi
      simp [execOp, hf.eval hx, hf.eval hy1, Instr.sliceAt, Instr.slice, run_und hu, Instr.sliceBounds, Instr.sliceBound, asIntOf, h1, run_size hz, sao]
    | some z =>
      obtain ⟨k2, hz2⟩ := hhi
      simp [execOp, hf.eval hx, hf.eval hy1, hf.eval hz2, Instr.sliceAt, Instr.slice, run_und hu, Instr.sliceBounds, Instr.sliceBound, asIntOf, h1, h3, run_size hz, sao]
/-- len of a slice, whatever it is -/
theorem Rd_len {t : TypeId} {x : Operand} {et : TypeId} {ao : Option Addr} {k cap : Nat} {ts : Array TypeId} (hx : ev L x = some (.slice ao k cap)) (ht : ts[0]? = some t) (hu : P.underlying t = some (.slice et)) :
    Rd P n ⟨d, .call ⟨.builtin .len, #[x], ts⟩, ty, pos, af, g⟩ L A (.int .i64 k) := fun a w hf _ => by
  simp [execOp, resolve, invoke, Go.builtin, Builtin.len_, hf.eval hx, ht, run_und hu, goInt]
/-- x[:hi] of a slice -/
theorem Rd_slice_hi {t et : TypeId} {x y : Operand} {a : Option Nat} {k cap : Nat} {kk : IntKind} {j : Int} {e : Nat} (i : Nat) (hx : ev L x = some (sl a k cap)) (hy : ev L y = some (.int kk j)) (hu : P.underlying t = some (.slice et)) (hz : sz P et = some e) (hj : j = i := by rfl) (hi : i ≤ cap := by omega) :
    Rd P n ⟨d, .slice t x none (some y) none, ty, pos, af, g⟩ L A (sl a i cap) := fun ac w hf _ => by
  subst hj
  have h0 : (0 : Int) ≤ (i : Int) ∧ (i : Int) ≤ (cap : Int) := by omega
  simp [execOp, hf.eval hx, hf.eval hy, Instr.sliceAt, Instr.slice, run_und hu, sl, Instr.sliceBounds, Instr.sliceBound, asIntOf, h0.1, hi, run_size hz]
  cases a <;> simp [Addr.add]
end
/-- a slice that has elements lies somewhere -/
theorem arr_some {α : Type} {a : Option Nat} {cap e : Nat} {T : TypeId} {f : α → List Value} {l : List α} {A : List Asn} {w : World} (h : Has A (arr a cap e T f l)) (hs : sat w A) (hl : 0 < l.length) : ∃ gb, a = some gb := by
  cases a with
  | none => have := (arr_none h hs).2; subst this; simp at hl
  | some gb => exact ⟨gb, rfl⟩
theorem arr_cap {α : Type} {a : Option Nat} {cap e : Nat} {T : TypeId} {f : α → List Value} {l : List α} {A : List Asn} {w : World} (h : Has A (arr a cap e T f l)) (hs : sat w A) : l.length ≤ cap := by
  cases a with
  | none => have := (arr_none h hs).2; subst this; simp
  | some gb => obtain ⟨cur, ⟨_, _, hle, _⟩, _⟩ := arr_open h hs; exact hle
theorem WC_some {P : Program} {Q : Exit → Act → World → Prop} {w0 : World} {n : Nat} {c : Code} {L : List (Nat × Value)} {A : List Asn} {α : Type} {a : Option Nat} {cap e : Nat} {T : TypeId} {f : α → List Value} {l : List α} (h : Has A (arr a cap e T f l)) (hl : 0 < l.length)
    (k : ∀ gb, a = some gb → l.length ≤ cap → WC P Q w0 n c L A) : WC P Q w0 n c L A := fun ac w hf hs hk => by
  obtain ⟨gb, hg⟩ := arr_some h hs hl
  exact k gb hg (arr_cap h hs) ac w hf hs hk
theorem WC_cap {P : Program} {Q : Exit → Act → World → Prop} {w0 : World} {n : Nat} {c : Code} {L : List (Nat × Value)} {A : List Asn} {α : Type} {a : Option Nat} {cap e : Nat} {T : TypeId} {f : α → List Value} {l : List α} (h : Has A (arr a cap e T f l))
    (k : l.length ≤ cap → WC P Q w0 n c L A) : WC P Q w0 n c L A := fun ac w hf hs hk => k (arr_cap h hs) ac w hf hs hk
/-- what is owned, said otherwise -/
theorem WC_imp {P : Program} {Q : Exit → Act → World → Prop} {w0 : World} {n : Nat} {c : Code} {L : List (Nat × Value)} {A A' : List Asn} (h : ∀ w, sat w A → sat w A') (k : WC P Q w0 n c L A') : WC P Q w0 n c L A := fun ac w hf hs hk => k ac w hf (h w hs) hk
theorem WL_imp {P : Program} {ops : Array Oper} {Q : Exit → Act → World → Prop} {w0 : World} {n : Nat} {rest : List Oper} {L : List (Nat × Value)} {A A' : List Asn} (h : ∀ w, sat w A → sat w A') (k : WL P ops Q w0 n rest L A') : WL P ops Q w0 n rest L A := fun ac w hf hs hk => k ac w hf (h w hs) hk
theorem Ps_wk {Q : Act → World → Prop} {w0 : World} {n : Nat} {L L' : List (Nat × Value)} {A A' : List Asn} (hl : Wk L L') (ha : Sub A A') (k : Ps Q w0 n L' A') : Ps Q w0 n L A := fun ac w hf hs hk => k ac w (hf.wk hl) (ha.sat hs) hk
theorem Ps_imp {Q : Act → World → Prop} {w0 : World} {n : Nat} {L : List (Nat × Value)} {A A' : List Asn} (h : ∀ w, sat w A → sat w A') (k : Ps Q w0 n L A') : Ps Q w0 n L A := fun ac w hf hs hk => k ac w hf (h w hs) hk
/-- a nil slice owns nothing -/
theorem sat_nil {α : Type} {e : Nat} {T : TypeId} {f : α → List Value} {A : List Asn} {w : World} (h : sat w A) : sat w (arr none 0 e T f ([] : List α) :: A) := by
  obtain ⟨hh, a, b⟩ := h
  exact ⟨hh, a, fun _ => none, hh, fun _ => .inl rfl, fun _ => rfl, ⟨⟨rfl, rfl⟩, fun _ => rfl⟩, b⟩
end Go.SL
