/-
  Contracts of functions that the claim reaches, or the logic and the plain laws that they rest on, or the row over them. (Conditions: none beyond the statement.)
-/
import Derived.Test.YtoakfknnaiapiaaLibB
import Derived.Test.YtoakfknnaiapiaaShA
set_option linter.all false
/-
  Many things owned, one for each of a list: one taken out, laid back, one more. Fewer places read; a list said otherwise. (Conditions: none; generic over the program.)
-/
namespace Go.SL
open Go.RowKit
def star {α : Type} (F : α → Asn) (l : List α) : Asn := sep (l.map F)
theorem erase_perm {α : Type} : ∀ (l : List α) (i : Nat) (x : α), l[i]? = some x → l.Perm (x :: l.eraseIdx i)
  | [], i, x, h => by simp at h
  | y :: l, 0, x, h => by simp at h; subst h; simp
  | y :: l, i + 1, x, h => by
    have := erase_perm l i x (by simpa using h)
    simp only [List.eraseIdx_cons_succ]
    exact (this.cons y).trans (.swap x y _)
section
variable {α : Type} {F : α → Asn} {l : List α} {A R : List Asn} {w : World}
theorem star_perm {l l' : List α} (p : l.Perm l') (h : sat w (star F l :: R)) : sat w (star F l' :: R) := by
  unfold star at *
  rw [sat_app] at h ⊢
  exact sat_perm (List.Perm.append_right R (p.map F)) h
theorem star_cons {x : α} : sat w (star F (x :: l) :: R) ↔ sat w (F x :: star F l :: R) := by
  unfold star
  rw [sat_app]
  constructor
  · intro h
    have h2 : sat w (F x :: (l.map F ++ R)) := h
    have h3 : sat w ((l.map F ++ R) ++ [F x]) := sat_perm (List.perm_append_comm (l₁ := [F x])) h2
    rw [List.append_assoc, ← sat_app] at h3
    refine sat_perm ?_ h3
    exact (List.Perm.cons _ (List.perm_append_comm)).trans (.swap _ _ _)
  · intro h
    have h2 := sat_perm (List.Perm.swap (sep (l.map F)) (F x) R) h
    rw [sat_app] at h2
    refine sat_perm ?_ h2
    exact List.perm_middle
theorem star_open {x : α} (i : Nat) (hx : l[i]? = some x) (h : sat w (star F l :: R)) : sat w (F x :: star F (l.eraseIdx i) :: R) := star_cons.1 (star_perm (erase_perm l i x hx) h)
theorem star_nil (h : sat w R) : sat w (star F [] :: R) := sat_app.2 h
end
section
variable {P : Program} {m : Md} {ops : Array Oper} {Q : Exit → Act → World → Prop} {w0 : World} {n : Nat} {rest : List Oper} {L : List (Nat × Value)} {A R : List Asn} {c : Code} {α : Type} {F : α → Asn} {l : List α}
theorem WC_star0 (F : α → Asn) (k : WC P m Q w0 n c L (star F [] :: A)) : WC P m Q w0 n c L A := WC_imp (fun _ h => star_nil h) k
theorem Sv.star {β : Type} {l : List α} {x : α} (i : Nat) (hx : l[i]? = some x) {v : Value} {e : Nat} {f : β → List Value} {bs : List β} {ao : Option Addr} {cap : Nat} (h : Sv [F x] v e f bs ao cap) : Sv [star F l] v e f bs ao cap :=
  h.imp fun w hs => Sub.sat (B := [F x]) ⟨_, .refl _⟩ (star_open i hx hs)
end
theorem arr_map {α β : Type} {a : Option Nat} {cap e : Nat} {T : TypeId} {f : α → List Value} {g : β → α} {l : List β} (hf : ∀ x, (f x).length = e) : ∀ hp, arr a cap e T (fun x => f (g x)) l hp → arr a cap e T f (l.map g) hp := by
  intro hp
  cases a with
  | none => rintro ⟨⟨h1, h2⟩, h3⟩; subst h2; exact ⟨⟨h1, rfl⟩, h3⟩
  | some b => rintro ⟨cur, ⟨h1, h2, h3, h4, h5⟩, h6⟩; exact ⟨cur, ⟨hf, h2, by simpa using h3, h4, by rw [List.length_map, h5, List.flatMap_map]⟩, h6⟩
end Go.SL
/-
  append, the elder slice being kept: it may lie in the new one's array, or in its own. (Conditions: none; generic over the program.)
-/
namespace Go.SL
open Go.RowKit
section
variable {P : Program}
section
variable {α : Type} {a a' : Option Nat} {cap cap' e : Nat} {T : TypeId} {f : α → List Value} {l l' : List α} {R : List Asn} {w : World}
end
section
variable {n : Nat} {L : List (Nat × Value)} {A : List Asn} {d : Option Tmp} {ty : TypeId} {pos' : String} {af : Array Edge} {g : Option (Nat × Bool)}
end
end
end Go.SL
/-
  Plain words for what the statements' helpers do: marks, lists laid over, a number brought into a range, equal lists. (Conditions: none; no program in sight.)
-/
set_option maxRecDepth 20000
namespace Go.ShM
open Go.SL Go.RowKit
theorem take_step {α : Type} {l l' : List α} {i : Nat} {z : α} (h : l.take i = l'.take i) (hi : i < l.length) (hl : l.length = l'.length) (he : l.getD i z = l'.getD i z) : l.take (i + 1) = l'.take (i + 1) := by
  rw [List.getD_eq_getElem?_getD, List.getD_eq_getElem?_getD, List.getElem?_eq_getElem hi, List.getElem?_eq_getElem (by omega)] at he
  rw [List.take_succ_eq_append_getElem hi, List.take_succ_eq_append_getElem (by omega), h]
  simp only [Option.getD_some] at he
  rw [he]
theorem eq_take {α : Type} {l l' : List α} (h : l.take l.length = l'.take l.length) (hl : l.length = l'.length) : l = l' := by
  rw [List.take_length] at h
  rw [hl, List.take_length] at h
  exact h
theorem bF {p : Prop} [Decidable p] (h : ¬ p) : Value.bool false = Value.bool (decide p) := by rw [decide_eq_false h]
theorem bT {p : Prop} [Decidable p] (h : p) : Value.bool true = Value.bool (decide p) := by rw [decide_eq_true h]
theorem ne_len {α : Type} {l l' : List α} (h : l.length ≠ l'.length) : ¬ l = l' := fun e => h (by rw [e])
theorem ne_at {α : Type} {l l' : List α} {i : Nat} {z : α} (h : l.getD i z ≠ l'.getD i z) : ¬ l = l' := fun e => h (by rw [e])
end Go.ShM
/-
  A text's letters as a list of bytes: a new block, marked at its end. (Conditions: none; generic over the program.)
-/
namespace Go.SL
open Go.RowKit
def bsS (s : ByteArray) : List (BitVec 8) := s.data.toList.map UInt8.toBitVec
end Go.SL
/-
  Tags and parts in plain words: a tag's text, what parts it has, the bytes that are digested. (Conditions: none; no program in sight.)
-/
set_option maxRecDepth 20000
namespace Go.ShM
open Go.SL Go.RowKit
inductive Bd | any | most (n : Nat) (b : Nat) | just (n : Nat) (b : Nat)
def Bd.ok : Bd → Nat → Bool
  | .any, _ => true
  | .most n _, m => decide (m ≤ n)
  | .just n _, m => decide (m = n)
def bnd (t : B8) : List Bd := if t = 1#8 then [.most 64 0, .just 6 0, .most 16777216 0] else if t = 2#8 then [.just 16 0] else if t = 5#8 then [.just 32 0] else if t = 6#8 then [.just 32 0, .just 32 0] else if t = 7#8 then [.just 4 0] else if t = 9#8 then [.just 16 0, .just 4 0] else [.any]
end Go.ShM
namespace Go.ShM
open Go.SL
end Go.ShM
/-
  A fact as a thing owned; lists of lists of lists; a rule over what is owned said otherwise. (Conditions: none; generic over the program.)
-/
namespace Go.SL
open Go.RowKit Go.ShM
section
variable {P : Program} {m : Md} {ops : Array Oper} {Q : Exit → Act → World → Prop} {w0 : World} {n : Nat} {rest : List Oper} {L : List (Nat × Value)} {A R : List Asn} {c : Code} {p : Prop}
theorem Ac.imp {o : Oper} {B : List Asn} {Rr : Value → List Asn → Prop} (h : Ac P n o L B Rr) (k : ∀ w, sat w A → sat w B) : Ac P n o L A Rr := fun r0 a w K Q hf hs hk => h r0 a w K Q hf (k w hs) hk
end
structure PPt where
  l : List Pt
  ao : Option Addr
  cap : Nat
def PPt.v (p : PPt) : Value := .slice p.ao p.l.length p.cap
end Go.SL
/-
  A word array handed back with a second result; a whole array as a slice. (Conditions: none; generic over the program.)
-/
namespace Go.SL
open Go.RowKit
section
variable {P : Program} {n : Nat} {L : List (Nat × Value)} {A : List Asn} {d : Option Tmp} {ty : TypeId} {pos' : String} {af : Array Edge} {g : Option (Nat × Bool)} {t : TypeId} {x y : Operand} {k : IntKind} {w : Nat}
theorem Rd_valE {o : Oper} {u v : Value} (h : Rd P n o L A u) (e : u = v) : Rd P n o L A v := e ▸ h
theorem Rd_sliceA0 {et : TypeId} {b len : Nat} (hx : ev L x = some (.pointer (some ⟨b, 0, none⟩))) (hu : P.underlying t = some (.array len et)) (hz : sz P et = some 1) (h0 : 0 < len := by omega) :
    Rd P n ⟨d, .slice t x none none none, ty, pos', af, g⟩ L A (sl (some b) len len) := fun a W hf hs => by
  simp [execOp, hf.eval hx, Instr.sliceAt, Instr.sureAddr, run_und hu, Instr.sliceBounds, Instr.sliceBound, run_size hz, add_off, sl, Addr.add]
end
end Go.SL
/-
  Tagged bytes tell the tag and the parts. (Conditions: lengths below two to the sixty-fourth; no program in sight.)
-/
set_option maxRecDepth 20000
namespace Go.ShM
open Go.SL
end Go.ShM
namespace Go.ShM
open Go.SL
end Go.ShM
