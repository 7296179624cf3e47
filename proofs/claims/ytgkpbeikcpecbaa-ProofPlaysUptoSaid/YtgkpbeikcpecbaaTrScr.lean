/-
  Contracts of functions that the claim reaches, or the logic and the plain laws that they rest on, or the row over them. (Conditions: none beyond the statement.)
-/
import Derived.Test.YtgkpbeikcpecbaaShOp
import Derived.Test.YtgkpbeikcpecbaaApD
import Derived.Test.YtgkpbeikcpecbaaTrCalls
set_option linter.all false
/-
  A script of calls of the trees' functions, in plain words, and as it is handed in; what was answered so far. (Conditions: none; no program in sight.)
-/
set_option maxRecDepth 20000
namespace Go.ShM
open Go.SL Go.RowKit Go.ChangeShapes Go.WideShapes
structure DQ where
  l : List Dg
  ao : Option Addr
  cap : Nat
def DQ.v (q : DQ) : Value := .slice q.ao q.l.length q.cap
structure TQ where
  call : Int
  n : Int
  leaf : Int
  stop : Int
  A : DQ
  B : DQ
section
variable {H : Type} {enc : TypeId × Value → H} {P : Program} {W : World} {base : Nat} {sp : Nat → Bool} {hd : Bool}
end
def DOk (ps : List PD) : Prop := ∀ p ∈ ps, (p.a = none → p.l = []) ∧ p.l.length ≤ p.cap ∧ p.l.length ≤ 900000000
theorem DOk_snoc {ps : List PD} {p : PD} (h : DOk ps) (h1 : p.a = none → p.l = []) (h2 : p.l.length ≤ p.cap) (h3 : p.l.length ≤ 900000000) : DOk (ps ++ [p]) := fun x hx => by
  rcases List.mem_append.1 hx with q | q
  · exact h x q
  · rw [List.mem_singleton] at q; subst q; exact ⟨h1, h2, h3⟩
def IOk (ps : List PI) : Prop := ∀ p ∈ ps, (p.a = none → p.l = []) ∧ p.l.length ≤ p.cap ∧ p.l.length ≤ 900000000
theorem IOk_nil : IOk [] := fun p h => by cases h
theorem IOk_snoc {ps : List PI} {p : PI} (h : IOk ps) (h1 : p.a = none → p.l = []) (h2 : p.l.length ≤ p.cap) (h3 : p.l.length ≤ 900000000) : IOk (ps ++ [p]) := fun x hx => by
  rcases List.mem_append.1 hx with q | q
  · exact h x q
  · rw [List.mem_singleton] at q; subst q; exact ⟨h1, h2, h3⟩
structure BKs where
  ps : List PD
  pa : Option Nat
  pc : Nat
  ws : List PD
  wa : Option Nat
  wc : Nat
  is : List PI
  ia : Option Nat
  ic : Nat
  ms : List PI
  ma : Option Nat
  mc : Nat
structure BK (s : BKs) (n : Nat) : Prop where
  eD : s.ps.map (·.l) = s.ws.map (·.l)
  eI : s.is.map (·.l) = s.ms.map (·.l)
  dp : DOk s.ps
  dw : DOk s.ws
  ip : IOk s.is
  im : IOk s.ms
  lD : s.ps.length ≤ n
  lI : s.is.length ≤ n
theorem BK.up {s : BKs} {n m : Nat} (h : BK s n) (hm : n ≤ m) : BK s m := ⟨h.eD, h.eI, h.dp, h.dw, h.ip, h.im, Nat.le_trans h.lD hm, Nat.le_trans h.lI hm⟩
theorem BK.putD {s : BKs} {n : Nat} {p q : PD} {pa wa : Option Nat} {pc wc : Nat} (h : BK s n) (he : p.l = q.l) (h1 : p.a = none → p.l = []) (h2 : p.l.length ≤ p.cap) (h3 : p.l.length ≤ 900000000) (h4 : q.a = none → q.l = []) (h5 : q.l.length ≤ q.cap) : BK ⟨s.ps ++ [p], pa, pc, s.ws ++ [q], wa, wc, s.is, s.ia, s.ic, s.ms, s.ma, s.mc⟩ (n + 1) :=
  ⟨by rw [List.map_append, List.map_append, h.eD]; simp [he], h.eI, DOk_snoc h.dp h1 h2 h3, DOk_snoc h.dw h4 h5 (by rw [← he]; exact h3), h.ip, h.im, by have := h.lD; simp; omega, by have := h.lI; dsimp only; omega⟩
theorem BK.putI {s : BKs} {n : Nat} {p q : PI} {pa wa : Option Nat} {pc wc : Nat} (h : BK s n) (he : p.l = q.l) (h1 : p.a = none → p.l = []) (h2 : p.l.length ≤ p.cap) (h3 : p.l.length ≤ 900000000) (h4 : q.a = none → q.l = []) (h5 : q.l.length ≤ q.cap) : BK ⟨s.ps, s.pa, s.pc, s.ws, s.wa, s.wc, s.is ++ [p], pa, pc, s.ms ++ [q], wa, wc⟩ (n + 1) :=
  ⟨h.eD, by rw [List.map_append, List.map_append, h.eI]; simp [he], h.dp, h.dw, IOk_snoc h.ip h1 h2 h3, IOk_snoc h.im h4 h5 (by rw [← he]; exact h3), by have := h.lD; dsimp only; omega, by have := h.lI; simp; omega⟩
end Go.ShM
