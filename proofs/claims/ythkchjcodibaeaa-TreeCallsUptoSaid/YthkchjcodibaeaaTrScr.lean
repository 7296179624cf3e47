/-
  Contracts of functions that the claim reaches, or the logic and the plain laws that they rest on, or the row over them. (Conditions: none beyond the statement.)
-/
import Derived.Test.YthkchjcodibaeaaShOp
import Derived.Test.YthkchjcodibaeaaApD
import Derived.Test.YthkchjcodibaeaaTrCalls
set_option linter.all false
/-
  A script of calls of the trees' functions, in plain words, and as it is handed in; what was answered so far. (Conditions: none; no program in sight.)
-/
set_option maxRecDepth 20000
namespace Go.ShM
open Go.SL Go.RowKit Go.ChangeShapes Go.WideShapes
/-- a list of digests that was handed in -/
structure DQ where
  l : List Dg
  ao : Option Addr
  cap : Nat
def DQ.v (q : DQ) : Value := .slice q.ao q.l.length q.cap
/-- one call -/
structure TQ where
  call : Int
  n : Int
  leaf : Int
  stop : Int
  A : DQ
  B : DQ
def eTQ (q : TQ) : List Value := [.int .i64 q.call, .int .i64 q.n, .int .i64 q.leaf, .int .i64 q.stop, q.A.v, q.B.v]
section
variable {H : Type} {enc : TypeId × Value → H} {P : Program} {W : World} {base : Nat} {sp : Nat → Bool} {hd : Bool}
/-- what is known of a call that was handed in -/
def OKt (W : World) (N : Nat) (q : TQ) : Prop := (Sv [old W] q.A.v 32 fD q.A.l q.A.ao q.A.cap ∧ q.A.l.length ≤ N) ∧ Sv [old W] q.B.v 32 fD q.B.l q.B.ao q.B.cap ∧ q.B.l.length ≤ N
theorem el_tq {m : DataW H → Nat} (hm : Meas m) {t e : TypeId} {q k : Nat} (hk : cks P q t = some [.int .i64, .int .i64, .int .i64, .int .i64, .slice e, .slice e]) (hke : cks P k e = some [.ints .u8 32]) (hz : P.cellsOf e = 32) {n : Nat} {c : List Value} {y : DataW H × List MemPlace} (h : DataW.trod enc P W base sp hd n t c = some y) :
    ∃ a : TQ, c = eTQ a ∧ OKt W (m y.1) a := by
  have hf := cks_fits (N := m y.1) hm q t _ n c y hk h (Nat.le_refl _)
  simp only [Fits] at hf
  obtain ⟨i1, _, rfl, _, i2, _, rfl, _, i3, _, rfl, _, i4, _, rfl, _, v, _, rfl, ⟨l, ao, cap, hS, hcap, hle, hall⟩, v', _, rfl, ⟨l', ao', cap', hS', hcap', hle', hall'⟩, rfl⟩ := hf
  rw [hz] at hS hS'
  have h1 : ∀ x ∈ l, ∃ a : Dg, x = fD a ∧ True := fun x hx => by
    obtain ⟨n', y', hy, _⟩ := hall x hx
    exact el_dg hm hke _ _ _ hy
  have h2 : ∀ x ∈ l', ∃ a : Dg, x = fD a ∧ True := fun x hx => by
    obtain ⟨n', y', hy, _⟩ := hall' x hx
    exact el_dg hm hke _ _ _ hy
  obtain ⟨L, rfl, _⟩ := SL.typed h1
  obtain ⟨L', rfl, _⟩ := SL.typed h2
  have g1 := Sv.typed hS
  have g2 := Sv.typed hS'
  have e1 := g1.val
  have e2 := g2.val
  subst e1; subst e2
  exact ⟨⟨i1, i2, i3, i4, ⟨L, ao, cap⟩, ⟨L', ao', cap'⟩⟩, rfl, ⟨g1, by simpa using hle⟩, g2, by simpa using hle'⟩
/-- an argument that is such a script -/
theorem open_tqs {m : DataW H → Nat} (hm : MeasS m) {t e1 e : TypeId} {q k : Nat} {v : Value} {d : DataW H} {ps : List MemPlace} {r : Reach} {b0 : Nat} (ht : P.underlying t = some (.slice e1)) (hz1 : sz P e1 = some 6) (hk : cks P q e1 = some [.int .i64, .int .i64, .int .i64, .int .i64, .slice e, .slice e]) (hke : cks P k e = some [.ints .u8 32]) (hz : P.cellsOf e = 32) (hval : Value.okWide P W r b0 t v)
    (h : DataW.Trod enc P W base sp hd t v d ps) {N : Nat} (hN : m d ≤ N) : ∃ (qs : List TQ) (ao : Option Addr) (cap : Nat), Sv [old W] v 6 eTQ qs ao cap ∧ (∀ q ∈ qs, OKt W N q) ∧ qs.length ≤ N := by
  obtain ⟨a0, len, cap0, rfl⟩ := okWide_slice ht hval
  obtain ⟨fuel, hf⟩ := h
  obtain ⟨v', l, ao, cap, hv, hS, hcap, hor⟩ := open_slice_cells (k := 5) ht hz1 hf
  simp only [Value.cells, List.cons.injEq, and_true] at hv
  subst hv
  rcases hor with ⟨hnil, rfl, _⟩ | ⟨ds, rs, n', h1', h2, _, _, h3⟩
  · exact ⟨[], ao, cap, Sv.typed (f := eTQ) (l := []) hS, fun p h => by simp at h, by simp⟩
  · rw [show d = .slice ds rs from h1'] at hN
    have hall : ∀ x ∈ l, ∃ a : TQ, x = eTQ a ∧ OKt W N a := fun x hx => by
      obtain ⟨i, hi, hxe⟩ := List.getElem_of_mem hx
      obtain ⟨y', hy, hyd⟩ := h3 i x (by rw [List.getElem?_eq_getElem hi, hxe])
      obtain ⟨a, ha, ⟨hA, hA'⟩, hB, hB'⟩ := el_tq hm.toMeas hk hke hz hy
      have := hm.el ds rs y'.1 (List.mem_of_getElem? hyd)
      exact ⟨a, ha, ⟨hA, by omega⟩, hB, by omega⟩
    obtain ⟨l', rfl, hall'⟩ := SL.typed hall
    have e2 := hm.len ds rs
    exact ⟨l', ao, cap, Sv.typed hS, hall', by simp at h2; omega⟩
end
/-! ### what was answered so far: lists of digests, lists of numbers, each with what it was to be -/
def DOk (ps : List PD) : Prop := ∀ p ∈ ps, (p.a = none → p.l = []) ∧ p.l.length ≤ p.cap ∧ p.l.length ≤ 900000000
theorem DOk_nil : DOk [] := fun p h => by cases h
theorem DOk_snoc {ps : List PD} {p : PD} (h : DOk ps) (h1 : p.a = none → p.l = []) (h2 : p.l.length ≤ p.cap) (h3 : p.l.length ≤ 900000000) : DOk (ps ++ [p]) := fun x hx => by
  rcases List.mem_append.1 hx with q | q
  · exact h x q
  · rw [List.mem_singleton] at q; subst q; exact ⟨h1, h2, h3⟩
def IOk (ps : List PI) : Prop := ∀ p ∈ ps, (p.a = none → p.l = []) ∧ p.l.length ≤ p.cap ∧ p.l.length ≤ 900000000
theorem IOk_nil : IOk [] := fun p h => by cases h
theorem IOk_snoc {ps : List PI} {p : PI} (h : IOk ps) (h1 : p.a = none → p.l = []) (h2 : p.l.length ≤ p.cap) (h3 : p.l.length ≤ 900000000) : IOk (ps ++ [p]) := fun x hx => by
  rcases List.mem_append.1 hx with q | q
  · exact h x q
  · rw [List.mem_singleton] at q; subst q; exact ⟨h1, h2, h3⟩
/-- the answers, and where they lie -/
structure BKs where
  ps : List PD
  pa : Option Nat
  pc : Nat
  ws : List PD
  wa : Option Nat
  wc : Nat
  is : List PI
  ia : Option Nat
  ic : Nat
  ms : List PI
  ma : Option Nat
  mc : Nat
structure BK (s : BKs) (n : Nat) : Prop where
  eD : s.ps.map (·.l) = s.ws.map (·.l)
  eI : s.is.map (·.l) = s.ms.map (·.l)
  dp : DOk s.ps
  dw : DOk s.ws
  ip : IOk s.is
  im : IOk s.ms
  lD : s.ps.length ≤ n
  lI : s.is.length ≤ n
theorem BK_0 : BK ⟨[], none, 0, [], none, 0, [], none, 0, [], none, 0⟩ 0 := ⟨rfl, rfl, DOk_nil, DOk_nil, IOk_nil, IOk_nil, Nat.le_refl _, Nat.le_refl _⟩
theorem BK.up {s : BKs} {n m : Nat} (h : BK s n) (hm : n ≤ m) : BK s m := ⟨h.eD, h.eI, h.dp, h.dw, h.ip, h.im, Nat.le_trans h.lD hm, Nat.le_trans h.lI hm⟩
theorem BK.lenD {s : BKs} {n : Nat} (h : BK s n) : s.ps.length = s.ws.length := by have := congrArg List.length h.eD; simpa using this
theorem BK.lenI {s : BKs} {n : Nat} (h : BK s n) : s.is.length = s.ms.length := by have := congrArg List.length h.eI; simpa using this
theorem BK.atD {s : BKs} {n i : Nat} {p q : PD} (h : BK s n) (hp : s.ps[i]? = some p) (hq : s.ws[i]? = some q) : p.l = q.l := by
  have := congrArg (fun x => x[i]?) h.eD
  simp only [List.getElem?_map, hp, hq, Option.map_some, Option.some.injEq] at this
  exact this
theorem BK.atI {s : BKs} {n i : Nat} {p q : PI} (h : BK s n) (hp : s.is[i]? = some p) (hq : s.ms[i]? = some q) : p.l = q.l := by
  have := congrArg (fun x => x[i]?) h.eI
  simp only [List.getElem?_map, hp, hq, Option.map_some, Option.some.injEq] at this
  exact this
/-- a list of digests more -/
theorem BK.putD {s : BKs} {n : Nat} {p q : PD} {pa wa : Option Nat} {pc wc : Nat} (h : BK s n) (he : p.l = q.l) (h1 : p.a = none → p.l = []) (h2 : p.l.length ≤ p.cap) (h3 : p.l.length ≤ 900000000) (h4 : q.a = none → q.l = []) (h5 : q.l.length ≤ q.cap) : BK ⟨s.ps ++ [p], pa, pc, s.ws ++ [q], wa, wc, s.is, s.ia, s.ic, s.ms, s.ma, s.mc⟩ (n + 1) :=
  ⟨by rw [List.map_append, List.map_append, h.eD]; simp [he], h.eI, DOk_snoc h.dp h1 h2 h3, DOk_snoc h.dw h4 h5 (by rw [← he]; exact h3), h.ip, h.im, by have := h.lD; simp; omega, by have := h.lI; dsimp only; omega⟩
/-- a list of numbers more -/
theorem BK.putI {s : BKs} {n : Nat} {p q : PI} {pa wa : Option Nat} {pc wc : Nat} (h : BK s n) (he : p.l = q.l) (h1 : p.a = none → p.l = []) (h2 : p.l.length ≤ p.cap) (h3 : p.l.length ≤ 900000000) (h4 : q.a = none → q.l = []) (h5 : q.l.length ≤ q.cap) : BK ⟨s.ps, s.pa, s.pc, s.ws, s.wa, s.wc, s.is ++ [p], pa, pc, s.ms ++ [q], wa, wc⟩ (n + 1) :=
  ⟨h.eD, by rw [List.map_append, List.map_append, h.eI]; simp [he], h.dp, h.dw, IOk_snoc h.ip h1 h2 h3, IOk_snoc h.im h4 h5 (by rw [← he]; exact h3), by have := h.lD; dsimp only; omega, by have := h.lI; simp; omega⟩
theorem Rd_ptD {T : TypeId} {ps : List PD} (h : DOk ps) {i : Nat} {p : PD} (hp : ps[i]? = some p) : Sv [star (FPD T) ps] (sl p.a p.l.length p.cap) 32 fD p.l (p.a.map fun g => ⟨g, 0, none⟩) p.cap := by
  obtain ⟨h1, h2, _⟩ := h p (List.mem_of_getElem? hp)
  exact Sv.star (F := FPD T) i hp (Sv_own' (T := T) encD h1 h2)
theorem Rd_ptI {T : TypeId} {ps : List PI} (h : IOk ps) {i : Nat} {p : PI} (hp : ps[i]? = some p) : Sv [star (FP T) ps] (sl p.a p.l.length p.cap) 1 (eInt .i64) p.l (p.a.map fun g => ⟨g, 0, none⟩) p.cap := by
  obtain ⟨h1, h2, _⟩ := h p (List.mem_of_getElem? hp)
  exact Sv.star (F := FP T) i hp (Sv_own' (T := T) encZ h1 h2)
end Go.ShM
