/-
  Contracts of functions that the claim reaches, or the logic and the plain laws that they rest on, or the row over them. (Conditions: none beyond the statement.)
-/
import Derived.Test.YtlcafifjhilleaaLibC
import Derived.RangeFuncNested
set_option linter.all false
/-
  A range over a function, as rules of the logic: what yield is; a round out of its body's walk; the statement. (Conditions: none; generic over the program.)
-/
namespace Go.SL
open Go.RowKit
/-! ### a round -/
def rcB (r : Loop) : Loop := { r with state := .busy }
def rcD (r : Loop) (c : Code) : Loop := { r with state := .done, pending := some c }
/-- a loop's record -/
def lp (l : Nat) (r : Loop) : Asn := pt l (.loop r)
section
variable {P : Program} {m : Md} {ops : Array Oper} {Q : Exit → Act → World → Prop} {w0 : World} {n : Nat} {rest : List Oper} {L : List (Nat × Value)} {A R : List Asn} {c : Code} {σ : Type} {φ : σ → Prop} {f : σ → List Asn}
end
structure REnd (P : Program) (l : Nat) (rc : Loop) (w0 : World) (n : Nat) (F : List Asn) {ρ : Type} (val : ρ → Value) (post : ρ → List Asn) (Q : Exit → Act → World → Prop) : Prop where
  nrm : ∀ {L : List (Nat × Value)} {A B : List Asn} (q : ρ), val q = .bool true → Ext A (lp l (rcB rc)) B → (∀ w, sat w (lp l rc :: B) → sat w (post q ++ F)) → Ps ⟨some l, []⟩ (Q .normal) w0 n L A
  ret : ∀ {L : List (Nat × Value)} {A B : List Asn} (q : ρ), val q = .bool false → Ext A (lp l (rcB rc)) B → (∀ w, sat w (lp l (rcD rc .ret) :: B) → sat w (post q ++ F)) → Ps ⟨some l, []⟩ (Q .ret) w0 n L A
  exi : ∀ (k : Nat) {L : List (Nat × Value)} {A B : List Asn} (q : ρ), val q = .bool false → Ext A (lp l (rcB rc)) B → (∀ w, sat w (lp l (rcD rc (.exit k)) :: B) → sat w (post q ++ F)) → Ps ⟨some l, []⟩ (Q (.exit k)) w0 n L A
section
variable {P : Program} {m : Md} {l : Nat} {Q : Exit → Act → World → Prop} {w0 : World} {n : Nat} {L : List (Nat × Value)} {A B R : List Asn} {σ : Type} {φ : σ → Prop} {f : σ → List Asn}
end
/-! ### the statement, where no other such loop is around; within a round of another such loop -/
section
variable {P : Program} {n : Nat} {w0 : World} {L : List (Nat × Value)} {A B C : List Asn} {fn : Func} {F : List Asn} {ρ : Type} {val : ρ → Value} {post : ρ → List Asn} {Q : Act → World → Prop} {D D' : Nat}
end
end Go.SL
/-
  Loops whose rounds leave marks on the deferred calls (a range over a function within a plain loop). (Conditions: none; generic over the program.)
-/
namespace Go.SL
open Go.RowKit
section
variable {P : Program} {n : Nat} {w0 : World} {L : List (Nat × Value)} {A B : List Asn} {fn : Func} {F : List Asn} {ρ : Type} {val : ρ → Value} {post : ρ → List Asn} {Q : Act → World → Prop} {Ds : List Nat}
end
end Go.SL
/-
  Naturals in int slots: exclusive or; the encoding of a list of naturals. (Conditions: none; generic over the program.)
-/
namespace Go.SL
open Go.RowKit
section
variable {P : Program} {n : Nat} {L : List (Nat × Value)} {A : List Asn} {d : Option Tmp} {ty : TypeId} {pos' : String} {af : Array Edge} {g : Option (Nat × Bool)} {t t' : TypeId} {x y : Operand}
end
end Go.SL
/-
  An iterator lends what it reads to the loop's rounds. (Conditions: none; generic over the program.)
-/
namespace Go.SL
open Go.RowKit
section
variable {P : Program} {m : Md} {ops : Array Oper} {Q : Exit → Act → World → Prop} {w0 : World} {n : Nat} {L : List (Nat × Value)} {A R1 R2 R3 R : List Asn} {X Y a b c : Asn}
end
end Go.SL
/-
  Lists of numbers handed out, written over, longer ones made of them: in plain words, and what is owned. (Conditions: none; no program in sight.)
-/
set_option maxRecDepth 20000
namespace Go.ShM
open Go.SL Go.RowKit
/-- a list: where it lies, how much room, what it holds -/
structure PI where
  a : Option Nat
  cap : Nat
  l : List Int
/-- a list of n marks, and the longer one made of it -/
structure QI where
  a : Option Nat
  cap : Nat
  a' : Option Nat
  cap' : Nat
  n : Nat
  j : Nat
def eQI (q : QI) : List Value := [sl q.a' (q.n + 70) q.cap']
theorem encQI : Enc eQI 1 := ⟨fun _ => rfl, fun x v hv => by simp [eQI, sl] at hv; subst hv; rfl⟩
theorem mks_pre {α : Type} (g : Nat → α) (n m : Nat) : mks g 0 n <+: mks g 0 (n + m) := ⟨mks g n m, mks_app g n m⟩
theorem mks_one {α : Type} (g : Nat → α) (n : Nat) : mks g 0 n ++ [g n] = mks g 0 (n + 1) := by
  have := mks_succ g 0 n
  rwa [Nat.zero_add] at this
section
variable {P : Program} {Q : Exit → Act → World → Prop} {m : Md} {w0 : World} {n : Nat} {c : Code} {L : List (Nat × Value)} {A R : List Asn} {α : Type}
theorem WC_drop (F : α → Asn) (l : List α) (k : Nat) {x : α} (hx : l[k]? = some x) (K : WC P m Q w0 n c L (F x :: star F (l.drop (k + 1)) :: R)) (hE : Ext A (star F (l.drop k)) R := by repeat (first | with_reducible exact Ext.here | with_reducible apply Ext.there)) : WC P m Q w0 n c L A :=
  WC_imp (fun w h => by
    have h1 := sat_perm hE h
    obtain ⟨hlt, e⟩ := List.getElem?_eq_some_iff.1 hx
    rw [List.drop_eq_getElem_cons hlt, e] at h1
    exact star_cons.1 h1) K
end
theorem Sv_pre {α : Type} {a : Option Nat} {cap e : Nat} {T : TypeId} {f : α → List Value} {l l' : List α} (hE1 : Enc f e) (hp : l <+: l') (hn : a = none → l' = []) (hc : l'.length ≤ cap) : Sv [arr a cap e T f l'] (sl a l.length cap) e f l (a.map fun g => ⟨g, 0, none⟩) cap :=
  (Sv_own' (a := a) (cap := cap) (T := T) hE1 (fun h => by have := hn h; subst this; exact List.prefix_nil.1 hp) (Nat.le_trans hp.length_le hc)).imp fun _ h => sat_imp (arr_pre hp) h
end Go.ShM
