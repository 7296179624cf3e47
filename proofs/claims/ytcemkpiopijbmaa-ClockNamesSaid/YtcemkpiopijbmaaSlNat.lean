/-
  Rules in shorter words: whole numbers that are natural, regions in a sequence, results of a body, readings that bring a fact. (Conditions: none; generic over the program.)
-/
import Derived.Test.YtcemkpiopijbmaaSlMore
set_option linter.all false
namespace Go.SL
open Go.RowKit
section
variable {P : Program} {n : Nat} {L : List (Nat × Value)} {A : List Asn} {d : Option Tmp} {ty : TypeId} {pos : String} {af : Array Edge} {g : Option (Nat × Bool)} {t t' : TypeId} {x y : Operand}
/-! ### natural numbers in ints -/
theorem Rd_addN {i j : Nat} (hx : ev L x = some (.int .i64 (i : Int))) (hy : ev L y = some (.int .i64 (j : Int))) (h : i + j < 9223372036854775808 := by omega) : Rd P n ⟨d, .binOp .add t x y t', ty, pos, af, g⟩ L A (.int .i64 ((i + j : Nat) : Int)) :=
  Rd_add' hx hy (wr64 (by omega) (by omega) (by omega))
theorem Rd_subN {i j : Nat} (hx : ev L x = some (.int .i64 (i : Int))) (hy : ev L y = some (.int .i64 (j : Int))) (h : j ≤ i := by omega) (h2 : i < 9223372036854775808 := by omega) : Rd P n ⟨d, .binOp .sub t x y t', ty, pos, af, g⟩ L A (.int .i64 ((i - j : Nat) : Int)) :=
  Rd_sub' hx hy (wr64 (by omega) (by omega) (by omega))
theorem Rd_mulN {i j : Nat} (hx : ev L x = some (.int .i64 (i : Int))) (hy : ev L y = some (.int .i64 (j : Int))) (h : i * j < 9223372036854775808 := by omega) : Rd P n ⟨d, .binOp .mul t x y t', ty, pos, af, g⟩ L A (.int .i64 ((i * j : Nat) : Int)) :=
  Rd_mul' hx hy (wr64 (by simp) (by omega) (by rw [← Int.natCast_mul]; omega))
theorem Rd_quoN {i j : Nat} (hx : ev L x = some (.int .i64 (i : Int))) (hy : ev L y = some (.int .i64 (j : Int))) (h0 : 0 < j := by omega) (h : i < 9223372036854775808 := by omega) : Rd P n ⟨d, .binOp .quo t x y t', ty, pos, af, g⟩ L A (.int .i64 ((i / j : Nat) : Int)) :=
  Rd_quo' hx hy (by omega) (wr64r (tdiv_nat i j) (by generalize i / j = q; omega) (by have := Nat.div_le_self i j; generalize i / j = q at *; omega))
theorem Rd_remN {i j : Nat} (hx : ev L x = some (.int .i64 (i : Int))) (hy : ev L y = some (.int .i64 (j : Int))) (h0 : 0 < j := by omega) : Rd P n ⟨d, .binOp .rem t x y t', ty, pos, af, g⟩ L A (.int .i64 ((i % j : Nat) : Int)) :=
  Rd_rem' hx hy (by omega) (by rw [Int.tmod_eq_emod_of_nonneg (by omega)]; rfl)
theorem dec_congr {p q : Prop} [Decidable p] [Decidable q] (h : p ↔ q) : decide p = decide q := by by_cases hp : p <;> simp [hp, h.1, ← h]
theorem Rd_leqN {k : IntKind} {i j : Nat} (hx : ev L x = some (.int k (i : Int))) (hy : ev L y = some (.int k (j : Int))) : Rd P n ⟨d, .binOp .leq t x y t', ty, pos, af, g⟩ L A (.bool (decide (i ≤ j))) := by
  have := Rd_leq (P := P) (n := n) (A := A) (d := d) (ty := ty) (pos := pos) (af := af) (g := g) (t := t) (t' := t') hx hy
  rwa [dec_congr (q := i ≤ j) (by omega)] at this
theorem Rd_gtrN {k : IntKind} {i j : Nat} (hx : ev L x = some (.int k (i : Int))) (hy : ev L y = some (.int k (j : Int))) : Rd P n ⟨d, .binOp .gtr t x y t', ty, pos, af, g⟩ L A (.bool (decide (j < i))) := by
  have := Rd_gtr (P := P) (n := n) (A := A) (d := d) (ty := ty) (pos := pos) (af := af) (g := g) (t := t) (t' := t') hx hy
  rwa [dec_congr (q := j < i) (by omega)] at this
theorem Rd_geqN {k : IntKind} {i j : Nat} (hx : ev L x = some (.int k (i : Int))) (hy : ev L y = some (.int k (j : Int))) : Rd P n ⟨d, .binOp .geq t x y t', ty, pos, af, g⟩ L A (.bool (decide (j ≤ i))) := by
  have := Rd_geq (P := P) (n := n) (A := A) (d := d) (ty := ty) (pos := pos) (af := af) (g := g) (t := t) (t' := t') hx hy
  rwa [dec_congr (q := j ≤ i) (by omega)] at this
theorem Rd_eqlN {k : IntKind} {i j : Nat} (hx : ev L x = some (.int k (i : Int))) (hy : ev L y = some (.int k (j : Int))) : Rd P n ⟨d, .binOp .eql t x y t', ty, pos, af, g⟩ L A (.bool (decide (i = j))) := by
  have := Rd_eql (P := P) (n := n) (A := A) (d := d) (ty := ty) (pos := pos) (af := af) (g := g) (t := t) (t' := t') hx hy
  rwa [dec_congr (q := i = j) (by omega)] at this
theorem Rd_neqN {k : IntKind} {i j : Nat} (hx : ev L x = some (.int k (i : Int))) (hy : ev L y = some (.int k (j : Int))) : Rd P n ⟨d, .binOp .neq t x y t', ty, pos, af, g⟩ L A (.bool (decide (i ≠ j))) := by
  have := Rd_neq (P := P) (n := n) (A := A) (d := d) (ty := ty) (pos := pos) (af := af) (g := g) (t := t) (t' := t') hx hy
  rwa [dec_congr (q := i ≠ j) (by omega)] at this
/-- parts of a tuple -/
theorem Rd_ext0 {v : Value} {r : List Value} (h : ev L x = some (.tuple (v :: r).toArray)) : Rd P n ⟨d, .extract x 0, ty, pos, af, g⟩ L A v := Rd_extract h (by simp)
theorem Rd_ext1 {v u : Value} {r : List Value} (h : ev L x = some (.tuple (u :: v :: r).toArray)) : Rd P n ⟨d, .extract x 1, ty, pos, af, g⟩ L A v := Rd_extract h (by simp)
theorem Rd_ext2 {v u1 u2 : Value} {r : List Value} (h : ev L x = some (.tuple (u1 :: u2 :: v :: r).toArray)) : Rd P n ⟨d, .extract x 2, ty, pos, af, g⟩ L A v := Rd_extract h (by simp)
theorem Rd_ext3 {v u1 u2 u3 : Value} {r : List Value} (h : ev L x = some (.tuple (u1 :: u2 :: u3 :: v :: r).toArray)) : Rd P n ⟨d, .extract x 3, ty, pos, af, g⟩ L A v := Rd_extract h (by simp)
/-- a Bool that is known -/
theorem Rd_isT {o : Oper} {b : Bool} (h : Rd P n o L A (.bool b)) (hb : b = true := by first | rfl | (simp only [decide_eq_true_eq, beq_iff_eq, Bool.not_eq_true']; first | omega | assumption | rfl) | (simp; done) | simp_all) : Rd P n o L A (.bool true) := hb ▸ h
theorem Rd_isF {o : Oper} {b : Bool} (h : Rd P n o L A (.bool b)) (hb : b = false := by first | rfl | (simp only [decide_eq_false_iff_not, ne_eq, Decidable.not_not, Bool.not_eq_false', beq_iff_eq]; first | omega | assumption | rfl) | (simp; done) | simp_all) : Rd P n o L A (.bool false) := hb ▸ h
/-- len of what may be read -/
theorem Rd_len_sv {α : Type} {v : Value} {e : Nat} {f : α → List Value} {l : List α} {ao : Option Addr} {cap : Nat} {B : List Asn} {et : TypeId} {ts : Array TypeId} (hx : ev L x = some v) (ht : ts[0]? = some t) (hu : P.underlying t = some (.slice et)) (hA : Sv B v e f l ao cap := by assumption) :
    Rd P n ⟨d, .call ⟨.builtin .len, #[x], ts⟩, ty, pos, af, g⟩ L A (.int .i64 ((l.length : Nat) : Int)) := Rd_len (hA.val ▸ hx) ht hu
theorem Rd_strlen {s : ByteArray} {ts : Array TypeId} (hx : ev L x = some (.string s)) (ht : ts[0]? = some t) (hu : P.underlying t = some .string) :
    Rd P n ⟨d, .call ⟨.builtin .len, #[x], ts⟩, ty, pos, af, g⟩ L A (.int .i64 ((s.size : Nat) : Int)) := fun a w hf _ => by
  simp [execOp, resolve, invoke, Go.builtin, Builtin.len_, hf.eval hx, ht, run_und hu, goInt]
/-- a move or an assignment -/
theorem Rd_mv {v : Value} (h : ev L x = some v) : Rd P n ⟨d, .move x, ty, pos, af, g⟩ L A v := Rd_move h
end
section
variable {P : Program} {Q : Exit → Act → World → Prop} {w0 : World} {n : Nat} {L : List (Nat × Value)} {A : List Asn} {ops : Array Oper} {rest : List Oper} {o : Oper}
/-- a region, then the rest -/
theorem WC_sr {id : Nat} {l : List Oper} {y : Code} (h : ∀ K : Act → World → Prop, Nxt (P := P) (y := y) (Q := Q) K → WL P l.toArray (Exit.then K Q) w0 n l L A) : WC P Q w0 n (.seq (.region id l.toArray false) y) L A :=
  WC_seq fun K hK => WC_region (h K hK)
theorem WL_end {y : Code} {K : Act → World → Prop} (hK : Nxt (P := P) (y := y) (Q := Q) K) (h : WC P Q w0 n y L A) : WL P ops (Exit.then K Q) w0 n [] L A := WL_nil (Ps_next hK h)
theorem WJ_end {y : Code} {K : Act → World → Prop} {S : List Asn} {J : Nat → Nat} {fuel : Nat} {is : List Nat} (hK : Nxt (P := P) (y := y) (Q := Q) K) (hr : rdy ops is = []) (h : WC P Q w0 n y L A) : WJ P ops (Exit.then K Q) w0 n S J fuel is L A := WJ_done hr (Ps_next hK h)
/-- a reading that brings a fact -/
theorem WL_rdx {R : Value → Prop} {d : Nat} (h : ∃ v, Rd P n o L A v ∧ R v) (hw : Wt ops o L = some true) (hd : o.dst = some d) (hn : Nat.blt d n = true)
    (k : ∀ v, R v → WL P ops Q w0 n rest ((d, v) :: L) A) : WL P ops Q w0 n (o :: rest) L A := let ⟨v, h1, h2⟩ := h; WL_rd h1 hw hd hn (k v h2)
/-- a fact of what is owned -/
theorem WC_fact {p : Prop} (h : ∀ w, sat w A → p) {c : Code} (k : p → WC P Q w0 n c L A) : WC P Q w0 n c L A := fun a w hf hs hk => k (h w hs) a w hf hs hk
theorem WL_fact {p : Prop} (h : ∀ w, sat w A → p) (k : p → WL P ops Q w0 n rest L A) : WL P ops Q w0 n rest L A := fun a w hf hs hk => k (h w hs) a w hf hs hk
theorem WL_some {α : Type} {a : Option Nat} {cap e : Nat} {T : TypeId} {f : α → List Value} {l : List α} (h : Has A (arr a cap e T f l)) (hl : 0 < l.length)
    (k : ∀ gb, a = some gb → l.length ≤ cap → WL P ops Q w0 n rest L A) : WL P ops Q w0 n rest L A := fun ac w hf hs hk => by
  obtain ⟨gb, hg⟩ := arr_some h hs hl
  exact k gb hg (arr_cap h hs) ac w hf hs hk
theorem Ps_next' {y : Code} {K : Act → World → Prop} (hK : Nxt (P := P) (y := y) (Q := Q) K) (h : WC P Q w0 n y L A) : Ps K w0 n L A := Ps_next hK h
theorem End.go {fn : Func} {F : List Asn} {ρ : Type} {val : ρ → Value} {post : ρ → List Asn} {Q : Act → World → Prop} (h : End P fn n w0 F val post Q) (r : ρ) (hr : Rs P fn n L A (val r))
    (hs : Sub A (post r ++ F) := by simp only [List.cons_append, List.nil_append]; repeat (first | with_reducible exact Sub.refl | with_reducible exact Sub.nil | with_reducible refine Sub.cons (by repeat (first | with_reducible exact Ext.here | with_reducible apply Ext.there)) ?_ | with_reducible refine Sub.tail ?_)) : Ps Q w0 n L A := h r L A hr hs
end
section
variable {P : Program} {fn : Func} {n : Nat} {L : List (Nat × Value)} {A : List Asn}
/-- results of which the first lies in memory -/
theorem Rs2ct {t u : Nat} {ty : TypeId} {b i k : Nat} {T : TypeId} {xs vs : List Value} {x : Value} (hr : fn.results = #[.cell t ty, .tmp u]) (h : look L t = some (.pointer (some ⟨b, i, none⟩))) (h' : look L u = some x) (ht : tk P ty = some (some k))
    (hA : Has A (cl b T xs) := by repeat (first | with_reducible exact Has.here | with_reducible refine Has.there ?_)) (hl : i + k ≤ xs.length := by exact Nat.le_of_ble_eq_true rfl) (hv : (xs.drop i).take k = vs := by rfl) : Rs P fn n L A (.tuple #[.agg vs.toArray, x]) := fun a w hf hs => by
  have e := getD_of_look hf h
  have e' := getD_of_look hf h'
  have := run_loadVar_ag (P := P) ht (i := i) (hA.sat hs) (by simpa using hl)
  simp only [results, hr, List.mapM_toArray, List.mapM_cons, List.mapM_nil, Sem.run_bind, Sem.run_map, e, e', asAddr, Sem.run_pure, Result.andThen_ok, this]
  simp [hv]
end
/-- nothing owned -/
def emp : Asn := fun h => ∀ b, h b = none
theorem sat_emp {A : List Asn} {w : World} (h : sat w A) : sat w (emp :: A) := by
  obtain ⟨hh, a, b⟩ := h
  exact ⟨hh, a, fun _ => none, hh, fun _ => .inl rfl, fun _ => rfl, fun _ => rfl, b⟩
theorem WC_emp {P : Program} {Q : Exit → Act → World → Prop} {w0 : World} {n : Nat} {L : List (Nat × Value)} {A : List Asn} {c : Code} (k : WC P Q w0 n c L (emp :: A)) : WC P Q w0 n c L A := WC_imp (fun _ h => sat_emp h) k
/-! ### alternative forms with the search laid in -/
section
variable {P : Program} {ops : Array Oper} {Q : Exit → Act → World → Prop} {w0 : World} {n : Nat} {S : List Asn} {J : Nat → Nat} {fuel : Nat} {is : List Nat} {L : List (Nat × Value)} {A : List Asn} {o : Oper}
/-- a drawn operation that reads memory, taken first -/
theorem WJ_tk (i : Nat) {v : Value} {d : Nat} (h : Rd P n o L S v) (hQ : NoPanic Q) (k : WJ P ops Q w0 n S J fuel (i :: is) ((d, v) :: L) A) (hi : ops[i]? = some o) (hc : freeJ ops J false (lst ops.size is) i = true) (hw : Wt ops o L = some true) (hd : o.dst = some d) (hn : Nat.blt d n = true)
    (hS : Sub A S := by repeat (first | with_reducible exact Sub.refl | with_reducible exact Sub.nil | with_reducible refine Sub.cons (by repeat (first | with_reducible exact Ext.here | with_reducible apply Ext.there)) ?_ | with_reducible refine Sub.tail ?_)) : WJ P ops Q w0 n S J (fuel + 1) is L A :=
  WJ_take i hi hc h hw hd hn (hQ _ _) hS k
end
end Go.SL
