/-
  Contracts of functions that the claim reaches, or the logic and the plain laws that they rest on, or the row over them. (Conditions: none beyond the statement.)
-/
import Derived.Test.YtlcafifjhilleaaShLst
import Derived.Test.YtlcafifjhilleaaApB
import Derived.Test.YtlcafifjhilleaaShA
import Derived.Test.YtlcafifjhilleaaLibC
import Derived.Test.YtlcafifjhilleaaTrArg
set_option linter.all false
/-
  A script of calls of the digest's functions, in plain words, and as it is handed in. (Conditions: none; no program in sight.)
-/
set_option maxRecDepth 20000
namespace Go.ShM
open Go.SL Go.RowKit Go.ChangeShapes Go.WideShapes
/-- one call -/
structure OQ where
  call : Int
  ws : List B32
  bs : List B8
  n : Int
  p : PPt
  hw : ws.length = 8
  hb : bs.length = 64
/-- lists that are owned and told -/
def ptB (p : PB) : Pt := ⟨p.l, p.a.map (fun g => ⟨g, 0, none⟩), p.cap⟩
def BOk (ps : List PB) : Prop := ∀ p ∈ ps, (p.a = none → p.l = []) ∧ p.l.length ≤ p.cap ∧ p.l.length ≤ 900000000000
theorem BOk_nil : BOk [] := fun p h => by cases h
theorem BOk_snoc {ps : List PB} {p : PB} (h : BOk ps) (h1 : p.a = none → p.l = []) (h2 : p.l.length ≤ p.cap) (h3 : p.l.length ≤ 900000000000) : BOk (ps ++ [p]) := fun x hx => by
  rcases List.mem_append.1 hx with q | q
  · exact h x q
  · rw [List.mem_singleton] at q; subst q; exact ⟨h1, h2, h3⟩
theorem BOk_b {ps : List PB} (h : BOk ps) : ∀ p ∈ ps, p.l.length ≤ 900000000000 := fun p hp => (h p hp).2.2
theorem BOk_bt {ps : List PB} (h : BOk ps) : ∀ p ∈ ps.map ptB, p.l.length ≤ 900000000000 := fun p hp => by
  obtain ⟨q, hq, rfl⟩ := List.mem_map.1 hp
  exact (h q hq).2.2
theorem Rd_ptB {T : TypeId} {ps : List PB} (h : BOk ps) : ∀ p ∈ ps.map ptB, RdP [star (FPB T) ps] p := fun p hp => by
  obtain ⟨q, hq, rfl⟩ := List.mem_map.1 hp
  obtain ⟨i, hi, e⟩ := List.getElem_of_mem hq
  obtain ⟨h1, h2, _⟩ := h q hq
  exact Sv.star (F := FPB T) i (by rw [List.getElem?_eq_getElem hi, e]) (Sv_own' (T := T) (encU .u8 (w := 8)) h1 h2)
section
variable {H : Type} {enc : TypeId × Value → H} {P : Program} {W : World} {base : Nat} {sp : Nat → Bool} {hd : Bool}
/-- a struct's field: where, of what type -/
def fldAt (P : Program) (t : TypeId) (i : Nat) : Option (Nat × TypeId) := match P.underlying t with
  | some (.struct fs) => (fs[i]?).map fun f => (f.offset, f.type)
  | _ => none
theorem fldAt_of {t : TypeId} {i o : Nat} {e : TypeId} (h : fldAt P t i = some (o, e)) : ∃ (fs : Array Field) (f : Field), P.underlying t = some (.struct fs) ∧ fs[i]? = some f ∧ f.offset = o ∧ f.type = e := by
  unfold fldAt at h
  split at h
  · rename_i fs hu
    obtain ⟨f, hf, e'⟩ := Option.map_eq_some_iff.1 h
    simp only [Prod.mk.injEq] at e'
    exact ⟨fs, f, hu, hf, e'.1, e'.2⟩
  · cases h
end
end Go.ShM
