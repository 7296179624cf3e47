/-
  Memory as the logic sees it: a block of known cells; a slice that lies at the head of a block of its own; what may be read. Loads, stores, allocations, append, reslicing. (Conditions: none; generic over the program.)
-/
import Derived.Test.YtcookmkklcbbnaaSlOps
set_option linter.all false
namespace Go.SL
open Go.RowKit

/-- block b holds these cells -/
def cl (b : Nat) (T : TypeId) (xs : List Value) : Asn := pt b (.cells xs.toArray T (0, 0))
/-- the slice's array lies at block a (none: a nil slice), its first cells are l's, e cells each -/
def arr {α : Type} (a : Option Nat) (cap e : Nat) (T : TypeId) (f : α → List Value) (l : List α) : Asn :=
  match a with
  | none => fun h => (cap = 0 ∧ l = []) ∧ ∀ b, h b = none
  | some g => fun h => ∃ cur : List Value, ((∀ x, (f x).length = e) ∧ cur.length = cap * e ∧ l.length ≤ cap ∧ cap ≤ maxLen ∧ cur.take (l.length * e) = l.flatMap f) ∧ pt g (.cells cur.toArray T (0, 0)) h
def sl (a : Option Nat) (n cap : Nat) : Value := .slice (a.map fun g => ⟨g, 0, none⟩) n cap

theorem flat_len {α : Type} {f : α → List Value} {e : Nat} (hf : ∀ x, (f x).length = e) : ∀ l : List α, (l.flatMap f).length = l.length * e
  | [] => by simp
  | x :: l => by simp [List.flatMap_cons, hf, flat_len hf l, Nat.add_mul, Nat.add_comm]
theorem flat_get {α : Type} {f : α → List Value} {e : Nat} (hf : ∀ x, (f x).length = e) {j : Nat} (hj : j < e) : ∀ (l : List α) (i : Nat) (x : α), l[i]? = some x → (l.flatMap f)[i * e + j]? = (f x)[j]?
  | [], i, x, h => by simp at h
  | y :: l, 0, x, h => by simp at h; subst h; simp [List.flatMap_cons, List.getElem?_append, hf, hj]
  | y :: l, i + 1, x, h => by
    simp at h
    rw [List.flatMap_cons, List.getElem?_append_right (by rw [hf, Nat.add_mul]; omega), hf]
    rw [show (i + 1) * e + j - e = i * e + j from by rw [Nat.add_mul]; omega]
    exact flat_get hf hj l i x h
theorem flat_drop {α : Type} {f : α → List Value} {e : Nat} (hf : ∀ x, (f x).length = e) : ∀ (l : List α) (i : Nat), (l.flatMap f).drop (i * e) = (l.drop i).flatMap f
  | l, 0 => by simp
  | [], i + 1 => by simp
  | y :: l, i + 1 => by
    rw [List.flatMap_cons, Nat.add_mul, Nat.one_mul, Nat.add_comm, ← List.drop_drop, List.drop_left' (hf y), flat_drop hf l i]
    simp
theorem flat_take {α : Type} {f : α → List Value} {e : Nat} (hf : ∀ x, (f x).length = e) : ∀ (l : List α) (i : Nat), (l.flatMap f).take (i * e) = (l.take i).flatMap f
  | l, 0 => by simp
  | [], i + 1 => by simp
  | y :: l, i + 1 => by
    rw [List.flatMap_cons, Nat.add_mul, Nat.one_mul, Nat.add_comm, ← hf y, List.take_append, List.take_of_length_le (by omega)]
    simp only [Nat.add_sub_cancel_left, List.take_succ_cons, List.flatMap_cons]
    rw [hf y, flat_take hf l i]
theorem flat_cell {α : Type} {f : α → List Value} {e : Nat} (hf : ∀ x, (f x).length = e) (l : List α) (i : Nat) (x : α) (h : l[i]? = some x) : ((l.flatMap f).drop (i * e)).take e = f x := by
  rw [flat_drop hf]
  have hi : i < l.length := (List.getElem?_eq_some_iff.1 h).1
  rw [List.drop_eq_getElem_cons hi, List.flatMap_cons, (List.getElem?_eq_some_iff.1 h).2, List.take_left' (hf x)]
/-- setting the j-th cell of the i-th element -/
theorem flat_set {α : Type} {f : α → List Value} {e : Nat} (hf : ∀ x, (f x).length = e) (l : List α) (i : Nat) (x' : α) (hi : i < l.length) :
    (l.set i x').flatMap f = (l.flatMap f).take (i * e) ++ f x' ++ (l.flatMap f).drop (i * e + e) := by
  rw [flat_take hf, show i * e + e = (i + 1) * e from by rw [Nat.add_mul]; omega, flat_drop hf, List.set_eq_take_append_cons_drop, if_pos hi, List.flatMap_append, List.flatMap_cons, List.append_assoc]

/-! ### What may be read -/
/-- v is a slice whose elements read as l wherever A is owned -/
structure Sv {α : Type} (A : List Asn) (v : Value) (e : Nat) (f : α → List Value) (l : List α) (ao : Option Addr) (cap : Nat) : Prop where
  val : v = .slice ao l.length cap
  adr : l ≠ [] → ∃ b o, ao = some ⟨b, o, none⟩
  len : ∀ x ∈ l, (f x).length = e
  cell : ∀ w, sat w A → ∀ i x, l[i]? = some x → ∀ j u, (f x)[j]? = some u → w.cell? ((ao.getD default).add (i * e + j)) = some u
theorem Sv.mono {α : Type} {A B : List Asn} {v : Value} {e : Nat} {f : α → List Value} {l : List α} {ao : Option Addr} {cap : Nat} (h : Sv B v e f l ao cap) (k : Sub A B) : Sv A v e f l ao cap :=
  ⟨h.val, h.adr, h.len, fun w hs => h.cell w (k.sat hs)⟩
theorem arr_open {α : Type} {g cap e : Nat} {T : TypeId} {f : α → List Value} {l : List α} {A : List Asn} {w : World} (h : Has A (arr (some g) cap e T f l)) (hs : sat w A) :
    ∃ cur : List Value, ((∀ x, (f x).length = e) ∧ cur.length = cap * e ∧ l.length ≤ cap ∧ cap ≤ maxLen ∧ cur.take (l.length * e) = l.flatMap f) ∧ w.heap[g]? = some (.cells cur.toArray T (0, 0)) := by
  obtain ⟨R, p⟩ := h
  have := sat_perm p hs
  unfold arr at this
  obtain ⟨cur, h1⟩ := sat_ex.1 this
  obtain ⟨h2, h3⟩ := sat_and.1 h1
  exact ⟨cur, h2, sat_pt h3⟩
theorem arr_none {α : Type} {cap e : Nat} {T : TypeId} {f : α → List Value} {l : List α} {A : List Asn} {w : World} (h : Has A (arr none cap e T f l)) (hs : sat w A) : cap = 0 ∧ l = [] := by
  obtain ⟨R, p⟩ := h
  have := sat_perm p hs
  unfold arr at this
  exact (sat_and.1 this).1
theorem cur_get {α : Type} {e : Nat} {f : α → List Value} {l : List α} {cur : List Value} (hf : ∀ x, (f x).length = e) (ht : cur.take (l.length * e) = l.flatMap f) {i : Nat} {x : α} (hx : l[i]? = some x) {j : Nat} {u : Value} (hu : (f x)[j]? = some u) : cur[i * e + j]? = some u := by
  have hj : j < e := by have := (List.getElem?_eq_some_iff.1 hu).1; rwa [hf] at this
  have hi : i < l.length := (List.getElem?_eq_some_iff.1 hx).1
  have hlt : i * e + j < l.length * e := by
    have : (i + 1) * e ≤ l.length * e := Nat.mul_le_mul_right e hi
    rw [Nat.add_mul] at this; omega
  have := flat_get hf hj l i x hx
  rw [← ht, List.getElem?_take, if_pos hlt] at this
  rw [this, hu]
theorem Sv_arr {α : Type} {a : Option Nat} {cap e : Nat} {T : TypeId} {f : α → List Value} {l : List α} {A : List Asn} (hA : Has A (arr a cap e T f l)) (hf : ∀ x, (f x).length = e) (hn : a = none → l = []) : Sv A (sl a l.length cap) e f l (a.map fun g => ⟨g, 0, none⟩) cap := by
  refine ⟨rfl, fun hl => ?_, fun x _ => hf x, fun w hs i x hx j u hu => ?_⟩
  · cases a with
    | none => exact absurd (hn rfl) hl
    | some g => exact ⟨g, 0, rfl⟩
  · cases a with
    | none => rw [hn rfl] at hx; simp at hx
    | some g =>
      obtain ⟨cur, ⟨_, hc, hl, _, ht⟩, hb⟩ := arr_open hA hs
      show w.cell? ((⟨g, 0, none⟩ : Addr).add (i * e + j)) = some u
      rw [add_off, Nat.zero_add]
      exact cell_of hb (by simpa using cur_get hf ht hx hu)

section
variable {P : Program} {n : Nat} {L : List (Nat × Value)} {A : List Asn} {d : Option Tmp} {ty : TypeId} {pos : String} {af : Array Edge} {g : Option (Nat × Bool)}
/-! ### loads -/
theorem Rd_load {t : TypeId} {x : Operand} {b i : Nat} {T : TypeId} {xs : List Value} {v : Value} (hx : ev L x = some (.pointer (some ⟨b, i, none⟩))) (ht : tk P t = some none) (hA : Has A (cl b T xs)) (hi : xs[i]? = some v) :
    Rd P n ⟨d, .load t x, ty, pos, af, g⟩ L A v := fun a w hf hs => by
  have hc : w.cell? ⟨b, i, none⟩ = some v := cell_of (hA.sat hs) (by simpa using hi)
  simp only [execOp, hf.eval hx, Instr.loadAt, Instr.sureAddr, Sem.run_bind, Sem.run_pure, Result.andThen_ok, run_loadVar_sc ht hc]
theorem Rd_loadg {t : TypeId} {x : Operand} {b i k : Nat} {T : TypeId} {xs vs : List Value} (hx : ev L x = some (.pointer (some ⟨b, i, none⟩))) (ht : tk P t = some (some k)) (hA : Has A (cl b T xs)) (hl : i + k ≤ xs.length) (hi : (xs.drop i).take k = vs) :
    Rd P n ⟨d, .load t x, ty, pos, af, g⟩ L A (.agg vs.toArray) := fun a w hf hs => by
  have := run_loadVar_ag (P := P) ht (i := i) (hA.sat hs) (by simpa using hl)
  simp only [execOp, hf.eval hx, Instr.loadAt, Instr.sureAddr, Sem.run_bind, Sem.run_pure, Result.andThen_ok, this]
  simp [hi]
/-- out of a slice: the j-th cell of its i-th element -/
theorem Rd_load_arr {α : Type} {t : TypeId} {x : Operand} {gb cap e off i j : Nat} {T : TypeId} {f : α → List Value} {l : List α} {y : α} {v : Value} (hx : ev L x = some (.pointer (some ⟨gb, off, none⟩))) (ht : tk P t = some none)
    (hA : Has A (arr (some gb) cap e T f l)) (hoff : off = i * e + j) (hl : l[i]? = some y) (hv : (f y)[j]? = some v) : Rd P n ⟨d, .load t x, ty, pos, af, g⟩ L A v := fun ac w hf hs => by
  obtain ⟨cur, ⟨hfe, _, _, _, htk⟩, hb⟩ := arr_open hA hs
  have hc : w.cell? ⟨gb, off, none⟩ = some v := cell_of hb (by rw [hoff]; simpa using cur_get hfe htk hl hv)
  simp only [execOp, hf.eval hx, Instr.loadAt, Instr.sureAddr, Sem.run_bind, Sem.run_pure, Result.andThen_ok, run_loadVar_sc ht hc]
theorem Rd_loadg_arr {α : Type} {t : TypeId} {x : Operand} {gb cap e off i : Nat} {T : TypeId} {f : α → List Value} {l : List α} {y : α} (hx : ev L x = some (.pointer (some ⟨gb, off, none⟩))) (ht : tk P t = some (some e))
    (hA : Has A (arr (some gb) cap e T f l)) (hoff : off = i * e) (hl : l[i]? = some y) : Rd P n ⟨d, .load t x, ty, pos, af, g⟩ L A (.agg (f y).toArray) := fun ac w hf hs => by
  obtain ⟨cur, ⟨hfe, hcl, hle, _, htk⟩, hb⟩ := arr_open hA hs
  have hi : i < l.length := (List.getElem?_eq_some_iff.1 hl).1
  have hlt : i * e + e ≤ l.length * e := by
    have : (i + 1) * e ≤ l.length * e := Nat.mul_le_mul_right e hi
    rw [Nat.add_mul] at this; omega
  have hlt2 : l.length * e ≤ cap * e := Nat.mul_le_mul_right e hle
  have := run_loadVar_ag (P := P) ht (i := off) hb (by simp [hcl, hoff]; omega)
  simp only [execOp, hf.eval hx, Instr.loadAt, Instr.sureAddr, Sem.run_bind, Sem.run_pure, Result.andThen_ok]
  rw [this]
  have h1 := flat_cell hfe l i y hl
  rw [← htk, List.drop_take, List.take_take] at h1
  rw [show min e (l.length * e - i * e) = e from by omega] at h1
  rw [hoff, ← h1]
  rfl
/-- out of whatever may be read -/
theorem Rd_load_sv {α : Type} {t : TypeId} {x : Operand} {v : Value} {e i j : Nat} {f : α → List Value} {l : List α} {ao : Option Addr} {cap : Nat} {p : Addr} {y : α} {u : Value} (hx : ev L x = some (.pointer (some p))) (ht : tk P t = some none)
    (hA : Sv A v e f l ao cap) (hp : p = (ao.getD default).add (i * e + j)) (hl : l[i]? = some y) (hv : (f y)[j]? = some u) : Rd P n ⟨d, .load t x, ty, pos, af, g⟩ L A u := fun ac w hf hs => by
  have hc := hA.cell w hs i y hl j u hv
  rw [← hp] at hc
  simp only [execOp, hf.eval hx, Instr.loadAt, Instr.sureAddr, Sem.run_bind, Sem.run_pure, Result.andThen_ok, run_loadVar_sc ht hc]
/-! ### addresses of elements -/
theorem run_indexAt {t e : TypeId} {k : Nat} (hu : P.underlying t = some (.slice e)) (hs : sz P e = some k) {p : Addr} {len cap i : Nat} {kk : IntKind} {j : Int} (hj : j = i) (hi : i < len) (w : World) :
    (Instr.indexAt t (.slice (some p) len cap) (.int kk j)).run P w = .ok (.pointer (some (p.add (i * k)))) w := by
  subst hj
  have h0 : (0 : Int) ≤ (i : Int) ∧ (i : Int) < (len : Int) := by omega
  simp [Instr.indexAt, asIntOf, run_und hu, run_size hs, h0.1, hi]
theorem Rd_index {t et : TypeId} {x y : Operand} {gb cap e len : Nat} {kk : IntKind} {j : Int} (i : Nat) (hx : ev L x = some (sl (some gb) len cap)) (hy : ev L y = some (.int kk j))
    (hu : P.underlying t = some (.slice et)) (hz : sz P et = some e) (hj : j = i) (hi : i < len) : Rd P n ⟨d, .indexAddr t x y, ty, pos, af, g⟩ L A (.pointer (some ⟨gb, i * e, none⟩)) := fun ac w hf hs => by
  simp only [execOp, hf.eval hx, hf.eval hy, sl, Option.map_some, Sem.run_bind, run_indexAt hu hz hj hi w, Result.andThen_ok, Sem.run_pure, add_off, Nat.zero_add]
theorem Rd_index_sv {α : Type} {t et : TypeId} {x y : Operand} {v : Value} {e : Nat} {f : α → List Value} {l : List α} {ao : Option Addr} {cap : Nat} {kk : IntKind} {j : Int} (i : Nat) (hx : ev L x = some v) (hy : ev L y = some (.int kk j))
    (hu : P.underlying t = some (.slice et)) (hz : sz P et = some e) (hA : Sv A v e f l ao cap) (hj : j = i) (hi : i < l.length) : Rd P n ⟨d, .indexAddr t x y, ty, pos, af, g⟩ L A (.pointer (some ((ao.getD default).add (i * e)))) := fun ac w hf hs => by
  obtain ⟨b, o, rfl⟩ := hA.adr (by intro h; subst h; simp at hi)
  rw [hA.val] at hx
  simp only [execOp, hf.eval hx, hf.eval hy, Sem.run_bind, run_indexAt hu hz hj hi w, Result.andThen_ok, Sem.run_pure]
  rfl
/-- len of a slice, whatever it is -/
theorem Rd_len {t : TypeId} {x : Operand} {et : TypeId} {ao : Option Addr} {k cap : Nat} {ts : Array TypeId} (hx : ev L x = some (.slice ao k cap)) (ht : ts[0]? = some t) (hu : P.underlying t = some (.slice et)) :
    Rd P n ⟨d, .call ⟨.builtin .len, #[x], ts⟩, ty, pos, af, g⟩ L A (.int .i64 k) := fun a w hf _ => by
  simp [execOp, resolve, invoke, Go.builtin, Builtin.len_, hf.eval hx, ht, run_und hu, goInt]
/-- x[:hi] of a slice -/
theorem Rd_slice_hi {t et : TypeId} {x y : Operand} {a : Option Nat} {k cap : Nat} {kk : IntKind} {j : Int} {e : Nat} (i : Nat) (hx : ev L x = some (sl a k cap)) (hy : ev L y = some (.int kk j)) (hu : P.underlying t = some (.slice et)) (hz : sz P et = some e) (hj : j = i) (hi : i ≤ cap) :
    Rd P n ⟨d, .slice t x none (some y) none, ty, pos, af, g⟩ L A (sl a i cap) := fun ac w hf _ => by
  subst hj
  have h0 : (0 : Int) ≤ (i : Int) ∧ (i : Int) ≤ (cap : Int) := by omega
  simp [execOp, hf.eval hx, hf.eval hy, Instr.sliceAt, Instr.slice, run_und hu, sl, Instr.sliceBounds, Instr.sliceBound, asIntOf, h0.1, hi, run_size hz]
  cases a <;> simp [Addr.add]
end
/-- a slice that has elements lies somewhere -/
theorem arr_some {α : Type} {a : Option Nat} {cap e : Nat} {T : TypeId} {f : α → List Value} {l : List α} {A : List Asn} {w : World} (h : Has A (arr a cap e T f l)) (hs : sat w A) (hl : 0 < l.length) : ∃ gb, a = some gb := by
  cases a with
  | none => have := (arr_none h hs).2; subst this; simp at hl
  | some gb => exact ⟨gb, rfl⟩
theorem arr_cap {α : Type} {a : Option Nat} {cap e : Nat} {T : TypeId} {f : α → List Value} {l : List α} {A : List Asn} {w : World} (h : Has A (arr a cap e T f l)) (hs : sat w A) : l.length ≤ cap := by
  cases a with
  | none => have := (arr_none h hs).2; subst this; simp
  | some gb => obtain ⟨cur, ⟨_, _, hle, _⟩, _⟩ := arr_open h hs; exact hle
theorem WC_some {P : Program} {Q : Exit → Act → World → Prop} {w0 : World} {n : Nat} {c : Code} {L : List (Nat × Value)} {A : List Asn} {α : Type} {a : Option Nat} {cap e : Nat} {T : TypeId} {f : α → List Value} {l : List α} (h : Has A (arr a cap e T f l)) (hl : 0 < l.length)
    (k : ∀ gb, a = some gb → l.length ≤ cap → WC P Q w0 n c L A) : WC P Q w0 n c L A := fun ac w hf hs hk => by
  obtain ⟨gb, hg⟩ := arr_some h hs hl
  exact k gb hg (arr_cap h hs) ac w hf hs hk
theorem WC_cap {P : Program} {Q : Exit → Act → World → Prop} {w0 : World} {n : Nat} {c : Code} {L : List (Nat × Value)} {A : List Asn} {α : Type} {a : Option Nat} {cap e : Nat} {T : TypeId} {f : α → List Value} {l : List α} (h : Has A (arr a cap e T f l))
    (k : l.length ≤ cap → WC P Q w0 n c L A) : WC P Q w0 n c L A := fun ac w hf hs hk => k (arr_cap h hs) ac w hf hs hk
/-- what is owned, said otherwise -/
theorem WC_imp {P : Program} {Q : Exit → Act → World → Prop} {w0 : World} {n : Nat} {c : Code} {L : List (Nat × Value)} {A A' : List Asn} (h : ∀ w, sat w A → sat w A') (k : WC P Q w0 n c L A') : WC P Q w0 n c L A := fun ac w hf hs hk => k ac w hf (h w hs) hk
theorem WL_imp {P : Program} {ops : Array Oper} {Q : Exit → Act → World → Prop} {w0 : World} {n : Nat} {rest : List Oper} {L : List (Nat × Value)} {A A' : List Asn} (h : ∀ w, sat w A → sat w A') (k : WL P ops Q w0 n rest L A') : WL P ops Q w0 n rest L A := fun ac w hf hs hk => k ac w hf (h w hs) hk
theorem Ps_wk {Q : Act → World → Prop} {w0 : World} {n : Nat} {L L' : List (Nat × Value)} {A A' : List Asn} (hl : Wk L L') (ha : Sub A A') (k : Ps Q w0 n L' A') : Ps Q w0 n L A := fun ac w hf hs hk => k ac w (hf.wk hl) (ha.sat hs) hk
theorem Ps_imp {Q : Act → World → Prop} {w0 : World} {n : Nat} {L : List (Nat × Value)} {A A' : List Asn} (h : ∀ w, sat w A → sat w A') (k : Ps Q w0 n L A') : Ps Q w0 n L A := fun ac w hf hs hk => k ac w hf (h w hs) hk
/-- a nil slice owns nothing -/
theorem sat_nil {α : Type} {e : Nat} {T : TypeId} {f : α → List Value} {A : List Asn} {w : World} (h : sat w A) : sat w (arr none 0 e T f ([] : List α) :: A) := by
  obtain ⟨hh, a, b⟩ := h
  exact ⟨hh, a, fun _ => none, hh, fun _ => .inl rfl, fun _ => rfl, ⟨⟨rfl, rfl⟩, fun _ => rfl⟩, b⟩
end Go.SL
