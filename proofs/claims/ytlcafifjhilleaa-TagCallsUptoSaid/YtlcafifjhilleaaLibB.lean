/-
  Contracts of functions that the claim reaches, or the logic and the plain laws that they rest on, or the row over them. (Conditions: none beyond the statement.)
-/
import Derived.Test.YtlcafifjhilleaaLibA
import Derived.JoinedCond
set_option linter.all false
/-
  More of words: what may be read as words, a part of a slice as an array, the lesser of two numbers. (Conditions: none; generic over the program.)
-/
namespace Go.SL
open Go.RowKit
theorem Sv.chunk {A : List Asn} {v : Value} {k : IntKind} {w m : Nat} {l : List (BitVec w)} {ao : Option Addr} {cap : Nat} (h : Sv A v 1 (eU k) l ao cap) (hm : m ≤ l.length) (h0 : 0 < m) : Sv A (.slice ao 1 cap) m (fun _ : Unit => (l.take m).flatMap (eU k)) [()] ao cap := by
  have hle := h.le
  refine ⟨rfl, fun _ => h.adr (by intro e; subst e; simp at hm; omega), fun _ _ => by rw [flatU_len]; simp; omega, by simp; omega, fun W hs i x hx j u hu => ?_⟩
  have hi : i = 0 := by have := (List.getElem?_eq_some_iff.1 hx).1; simp at this; omega
  subst hi
  have hj : j < m := by have := (List.getElem?_eq_some_iff.1 hu).1; rw [flatU_len] at this; simp at this; omega
  have hu2 : u = .int k ((l[j]'(by omega)).toNat : Int) := by
    have e : (l.take m).flatMap (eU k) = (l.take m).map (fun x => Value.int k (x.toNat : Int)) := by
      generalize l.take m = q
      induction q with
      | nil => rfl
      | cons x r ih => rw [List.flatMap_cons, ih]; rfl
    rw [e, List.getElem?_map, List.getElem?_take_of_lt hj, List.getElem?_eq_getElem (by omega)] at hu
    simpa using hu.symm
  have := h.cell W hs j _ (List.getElem?_eq_getElem (by omega)) 0 u (by rw [hu2]; rfl)
  rw [← this]; congr 2; omega
section
variable {P : Program} {n : Nat} {L : List (Nat × Value)} {A : List Asn} {d : Option Tmp} {ty : TypeId} {pos' : String} {af : Array Edge} {g : Option (Nat × Bool)} {t t' : TypeId} {x y : Operand} {k : IntKind} {w : Nat}
/-- [m]T(s): the address -/
theorem Rd_s2a {α : Type} {m e : Nat} {et : TypeId} {v : Value} {f : α → List Value} {l : List α} {ao : Option Addr} {cap : Nat} {B : List Asn} (hx : ev L x = some v) (hu : P.underlying t = some (.array m et)) (hA : Sv B v e f l ao cap := by assumption) (hm : m ≤ l.length := by omega) (h0 : 0 < m := by omega) :
    Rd P n ⟨d, .sliceToArrayPointer t x, ty, pos', af, g⟩ L A (.pointer (some ⟨svb ao, svo ao, none⟩)) := fun ac W hf hs => by
  have hp := hA.ptr (i := 0) (by omega)
  rw [hA.val] at hx
  have h1 : ¬ (l.length < m) := by omega
  rw [hp] at hx
  simp [execOp, hf.eval hx, Instr.arrayAt, run_und hu, h1]
/-- .. and what stands there -/
theorem Rd_loadW_sv {m : Nat} {v : Value} {l : List (BitVec w)} {ao : Option Addr} {cap : Nat} {B : List Asn} (hx : ev L x = some (.pointer (some ⟨svb ao, svo ao, none⟩))) (ht : tk P t = some (some m)) (hA : Sv B v 1 (eU k) l ao cap := by assumption)
    (hB : Sub A B := by repeat (first | with_reducible exact Sub.refl | with_reducible exact Sub.nil | with_reducible refine Sub.cons (by repeat (first | with_reducible exact Ext.here | with_reducible apply Ext.there)) ?_ | with_reducible refine Sub.tail ?_)) (hm : m ≤ l.length := by omega) (h0 : 0 < m := by omega) :
    Rd P n ⟨d, .load t x, ty, pos', af, g⟩ L A (aU k (l.take m)) :=
  Rd_loadg_sv (i := 0) (y := ()) hx ht (hA.chunk hm h0) hB (by omega) rfl
/-- the lesser of two -/
theorem Rd_min {i j : Nat} {ts : Array TypeId} (hx : ev L x = some (.int .i64 (i : Int))) (hy : ev L y = some (.int .i64 (j : Int))) : Rd P n ⟨d, .call ⟨.builtin .min, #[x, y], ts⟩, ty, pos', af, g⟩ L A (.int .i64 ((min i j : Nat) : Int)) := fun ac W hf _ => by
  have e : (if (j : Int) < (i : Int) then (j : Int) else (i : Int)) = ((min i j : Nat) : Int) := by
    split
    · rw [Nat.min_eq_right (by omega)]
    · rw [Nat.min_eq_left (by omega)]
  simp only [← e]
  simp [execOp, resolve, invoke, Go.builtin, Builtin.min_, Builtin.min2, hf.eval hx, hf.eval hy]
/-- a word out of what may be read -/
theorem Rd_loadU_sv {v : Value} {off i : Nat} {l : List (BitVec w)} {ao : Option Addr} {cap : Nat} {B : List Asn} (hx : ev L x = some (.pointer (some ⟨svb ao, off, none⟩))) (ht : tk P t = some none) (hA : Sv B v 1 (eU k) l ao cap := by assumption)
    (hB : Sub A B := by repeat (first | with_reducible exact Sub.refl | with_reducible exact Sub.nil | with_reducible refine Sub.cons (by repeat (first | with_reducible exact Ext.here | with_reducible apply Ext.there)) ?_ | with_reducible refine Sub.tail ?_)) (hp : off = svo ao + i * 1 := by rfl) (hi : i < l.length := by omega) :
    Rd P n ⟨d, .load t x, ty, pos', af, g⟩ L A (.int k ((l.getD i 0#w).toNat : Int)) :=
  Rd_load_sv (i := i) (j := 0) (y := l.getD i 0#w) (f := eU k) hx ht hA hB hp (by rw [List.getD_eq_getElem?_getD, List.getElem?_eq_getElem hi]; rfl) rfl
end
/-- the first i of one's own -/
theorem WL_take {P : Program} {m : Md} {ops : Array Oper} {Q : Exit → Act → World → Prop} {w0 : World} {n : Nat} {rest : List Oper} {L : List (Nat × Value)} {A R : List Asn} {α : Type} {a : Option Nat} {cap e : Nat} {T : TypeId} {f : α → List Value} {l : List α} (i : Nat)
    (hE : Ext A (arr a cap e T f l) R) (k : WL P m ops Q w0 n rest L (arr a cap e T f (l.take i) :: R)) : WL P m ops Q w0 n rest L A := WL_imp (fun w h => sat_imp (arr_take i) (sat_perm hE h)) k
end Go.SL
/-
  Several things owned, as one: packed, and laid open again; what is read in one of them is read in the pack. (Conditions: none; generic over the program.)
-/
namespace Go.SL
open Go.RowKit
theorem Sv.imp {α : Type} {A B : List Asn} {v : Value} {e : Nat} {f : α → List Value} {l : List α} {ao : Option Addr} {cap : Nat} (h : Sv B v e f l ao cap) (k : ∀ w, sat w A → sat w B) : Sv A v e f l ao cap :=
  ⟨h.val, h.adr, h.len, h.le, fun w hs => h.cell w (k w hs)⟩
theorem sat_pull {Xs A R : List Asn} {X : Asn} {w : World} (hE : Ext A X R) (h : sat w (sep Xs :: A)) : sat w (sep (X :: Xs) :: R) := by
  rw [sat_app] at h ⊢
  refine sat_perm ?_ h
  exact (List.Perm.append_left Xs hE).trans List.perm_middle
theorem sat_unpk {Xs A R : List Asn} {w : World} (hE : Ext A (sep Xs) R) (h : sat w A) : sat w (Xs ++ R) := sat_app.1 (sat_perm hE h)
theorem Sv.pk {α : Type} {X : Asn} {Xs : List Asn} {v : Value} {e : Nat} {f : α → List Value} {l : List α} {ao : Option Addr} {cap : Nat} (h : Sv [X] v e f l ao cap) (hm : Has Xs X) : Sv [sep Xs] v e f l ao cap :=
  h.imp fun w hs => by
    have h2 := sat_app.1 hs
    rw [List.append_nil] at h2
    obtain ⟨R, p⟩ := hm
    have h3 := sat_perm p h2
    exact Sub.sat ⟨R, List.Perm.refl _⟩ h3
section
variable {P : Program} {m : Md} {ops : Array Oper} {Q : Exit → Act → World → Prop} {w0 : World} {n : Nat} {rest : List Oper} {L : List (Nat × Value)} {A R Xs : List Asn} {X : Asn} {c : Code}
theorem sat_pk0 {A : List Asn} {w : World} (h : sat w A) : sat w (sep [] :: A) := sat_app.2 h
theorem WL_pk0 (k : WL P m ops Q w0 n rest L (sep [] :: A)) : WL P m ops Q w0 n rest L A := WL_imp (fun _ h => sat_pk0 h) k
theorem WL_pull (X : Asn) (k : WL P m ops Q w0 n rest L (sep (X :: Xs) :: R)) (hE : Ext A X R := by repeat (first | with_reducible exact Ext.here | with_reducible apply Ext.there)) : WL P m ops Q w0 n rest L (sep Xs :: A) := WL_imp (fun _ h => sat_pull hE h) k
theorem WL_unpk (Xs : List Asn) (k : WL P m ops Q w0 n rest L (Xs ++ R)) (hE : Ext A (sep Xs) R := by repeat (first | with_reducible exact Ext.here | with_reducible apply Ext.there)) : WL P m ops Q w0 n rest L A := WL_imp (fun _ h => sat_unpk hE h) k
end
end Go.SL
/-
  Loops and meeting points that keep whatever they do not name; contracts over several things owned beside. (Conditions: none; generic over the program.)
-/
namespace Go.SL
open Go.RowKit
def memb (x : Nat) : List Nat → Bool
  | [] => false
  | k :: r => bif Nat.beq k x then true else memb x r
def drp (ks : List Nat) : List (Nat × Value) → List (Nat × Value)
  | [] => []
  | x :: r => bif memb x.1 ks then drp ks r else x :: drp ks r
/-- D: what is left of L without the slots ks -/
def Drp (ks : List Nat) (L D : List (Nat × Value)) : Prop := drp ks L = D
theorem Drp.nil {ks : List Nat} : Drp ks [] [] := rfl
theorem Drp.drop {ks : List Nat} {k : Nat} {v : Value} {L D : List (Nat × Value)} (h : memb k ks = true) (r : Drp ks L D) : Drp ks ((k, v) :: L) D := by
  unfold Drp drp; rw [h]; exact r
theorem Drp.keep {ks : List Nat} {k : Nat} {v : Value} {L D : List (Nat × Value)} (h : memb k ks = false) (r : Drp ks L D) : Drp ks ((k, v) :: L) ((k, v) :: D) := by
  unfold Drp drp; rw [h]; exact congrArg (List.cons (k, v)) r
theorem Drp.wk {ks : List Nat} : ∀ {L D : List (Nat × Value)}, Drp ks L D → Wk L D
  | [], D, h => by unfold Drp drp at h; subst h; exact Wk.nil
  | (k, v) :: L, D, h => by
    unfold Drp drp at h
    cases hm : memb k ks with
    | true =>
      rw [hm] at h
      have ih := Drp.wk (L := L) (D := D) h
      intro x u hx
      have hxk : memb x ks = false := by
        cases hq : memb x ks with
        | false => rfl
        | true =>
          exfalso
          have : ∀ L, look (drp ks L) x = none := by
            intro L
            induction L with
            | nil => rfl
            | cons y r ih =>
              obtain ⟨j, w⟩ := y
              unfold drp
              cases hj : memb j ks with
              | true => simpa [hj] using ih
              | false =>
                have hne : Nat.beq j x = false := Bool.eq_false_iff.2 fun e => by
                  rw [Nat.eq_of_beq_eq_true e, hq] at hj; cases hj
                show look ((j, w) :: drp ks r) x = none
                unfold look; rw [hne]; exact ih
          have h2 : drp ks L = D := h
          rw [← h2, this] at hx; cases hx
      unfold look
      have hne : Nat.beq k x = false := Bool.eq_false_iff.2 fun e => by
        rw [← Nat.eq_of_beq_eq_true e, hm] at hxk; cases hxk
      rw [hne]; exact ih x u hx
    | false =>
      rw [hm] at h
      have h' : (k, v) :: drp ks L = D := h
      subst h'
      have ih := Drp.wk (L := L) (D := drp ks L) rfl
      intro x u hx
      unfold look at hx ⊢
      cases hb : Nat.beq k x with
      | true => rw [hb] at hx; exact hx
      | false => rw [hb] at hx; exact ih x u hx
/-! the same, by the slots that are kept, each once -/
def rmv (k : Nat) : List Nat → List Nat
  | [] => []
  | j :: r => bif Nat.beq j k then rmv k r else j :: rmv k r
theorem memb_rmv {k x : Nat} (h : k ≠ x) : ∀ ks : List Nat, memb x (rmv k ks) = memb x ks
  | [] => rfl
  | j :: r => by
    have ih := memb_rmv h r
    have e1 : rmv k (j :: r) = bif Nat.beq j k then rmv k r else j :: rmv k r := rfl
    have e2 : memb x (j :: r) = bif Nat.beq j x then true else memb x r := rfl
    rw [e1, e2]
    cases hb : Nat.beq j k with
    | true =>
      have hj := Nat.eq_of_beq_eq_true hb
      have hx : Nat.beq j x = false := Bool.eq_false_iff.2 fun e => h (by rw [← hj, Nat.eq_of_beq_eq_true e])
      rw [hx]; exact ih
    | false =>
      show (bif Nat.beq j x then true else memb x (rmv k r)) = _
      rw [ih]
def kep : List Nat → List (Nat × Value) → List (Nat × Value)
  | _, [] => []
  | ks, x :: r => bif memb x.1 ks then x :: kep (rmv x.1 ks) r else kep ks r
def Kep (ks : List Nat) (L D : List (Nat × Value)) : Prop := kep ks L = D
theorem Kep.nil {ks : List Nat} : Kep ks [] [] := by unfold Kep kep; rfl
theorem Kep.drop {ks : List Nat} {k : Nat} {v : Value} {L D : List (Nat × Value)} (h : memb k ks = false) (r : Kep ks L D) : Kep ks ((k, v) :: L) D := by
  unfold Kep kep; rw [h]; exact r
theorem Kep.keep {ks : List Nat} {k : Nat} {v : Value} {L D : List (Nat × Value)} (h : memb k ks = true) (r : Kep (rmv k ks) L D) : Kep ks ((k, v) :: L) ((k, v) :: D) := by
  unfold Kep kep; rw [h]; exact congrArg (List.cons (k, v)) r
theorem kep_look {x : Nat} : ∀ (L : List (Nat × Value)) (ks : List Nat), look (kep ks L) x = if memb x ks then look L x else none
  | [], ks => by unfold kep look; simp
  | (k, v) :: L, ks => by
    have h2 : look ((k, v) :: L) x = bif Nat.beq k x then some v else look L x := rfl
    rw [h2]
    have e1 : kep ks ((k, v) :: L) = bif memb k ks then (k, v) :: kep (rmv k ks) L else kep ks L := by conv => lhs; unfold kep
    rw [e1]
    cases hb : Nat.beq k x with
    | true =>
      have hk := Nat.eq_of_beq_eq_true hb
      subst hk
      cases hm : memb k ks with
      | true =>
        show (bif Nat.beq k k then some v else look (kep (rmv k ks) L) k) = _
        rw [hb]; rfl
      | false =>
        have ih := kep_look (x := k) L ks
        rw [hm] at ih; simpa using ih
    | false =>
      have hne : k ≠ x := fun e => by rw [e] at hb; rw [show Nat.beq x x = true from Nat.beq_refl x] at hb; cases hb
      cases hm : memb k ks with
      | true =>
        have ih := kep_look (x := x) L (rmv k ks)
        rw [memb_rmv hne] at ih
        have e : look ((k, v) :: kep (rmv k ks) L) x = look (kep (rmv k ks) L) x := by
          show (bif Nat.beq k x then some v else look (kep (rmv k ks) L) x) = _
          rw [hb]; rfl
        show look ((k, v) :: kep (rmv k ks) L) x = _
        rw [e]; exact ih
      | false => exact kep_look (x := x) L ks
theorem Kep.wk {ks : List Nat} {L D : List (Nat × Value)} (h : Kep ks L D) : Wk L D := by
  intro x v hx
  have h2 : kep ks L = D := h
  rw [← h2, kep_look] at hx
  split at hx
  · exact hx
  · cases hx
theorem Wk.app {L M D : List (Nat × Value)} (h : Wk L M) (h' : Wk L D) : Wk L (M ++ D) := by
  intro x v hx
  have : look (M ++ D) x = match look M x with | some u => some u | none => look D x := by
    clear hx h h'
    induction M with
    | nil => rfl
    | cons y r ih =>
      obtain ⟨k, u⟩ := y
      have h1 : look ((k, u) :: (r ++ D)) x = bif Nat.beq k x then some u else look (r ++ D) x := rfl
      have h2 : look ((k, u) :: r) x = bif Nat.beq k x then some u else look r x := rfl
      show look ((k, u) :: (r ++ D)) x = _
      rw [h1, h2]
      cases Nat.beq k x
      · exact ih
      · rfl
  rw [this] at hx
  cases hm : look M x with
  | some u => rw [hm] at hx; exact h x v (by rw [hm]; exact hx)
  | none => rw [hm] at hx; exact h' x v hx
section
variable {P : Program} {m : Md} {ops : Array Oper} {Q : Exit → Act → World → Prop} {w0 : World} {n : Nat} {rest : List Oper} {L D : List (Nat × Value)} {A R B0 : List Asn} {c x y : Code}
/-- a loop that keeps what it does not name -/
theorem WC_loopK {σ : Type} (M : σ → List (Nat × Value)) (B : σ → List Asn) (φ : σ → Prop) (μ : σ → Nat) (s0 : σ) (ks : List Nat) (hD : Kep ks L D) (hR : Gv A B0 R) (h0 : φ s0) (hl : Wk L (M s0)) (hb : Sub (B0 ++ R) (B s0 ++ R))
    (round : ∀ s, φ s → ∀ K : Act → World → Prop, (∀ s', φ s' → μ s' < μ s → Ps m K w0 n (M s' ++ D) (B s' ++ R)) → WC P m (Exit.then K Q) w0 n c (M s ++ D) (B s ++ R)) : WC P m Q w0 n (.loop c) L A :=
  WC_loop (fun s => M s ++ D) (fun s => B s ++ R) φ μ s0 h0 (hl.app hD.wk) (by obtain ⟨X, p⟩ := hb; exact ⟨X, List.Perm.trans hR p⟩) round
/-- a contract over what is owned beside as one thing: over several -/
theorem Ct.un {f : FuncId} {args : List Value} {Xs pre : List Asn} {ρ : Type} {val : ρ → Value} {post : ρ → List Asn} (h : Ct P f args (sep Xs :: pre) val (fun r => sep Xs :: post r)) : Ct P f args (Xs ++ pre) val (fun r => Xs ++ post r) :=
  ⟨fun F w hs => by
    refine (h.out F w (by rw [List.cons_append, sat_app, ← List.append_assoc]; exact hs)).mono ?_
    rintro e w' ⟨r, he, hs', hk⟩
    refine ⟨r, he, ?_, hk⟩
    rw [List.cons_append, sat_app, ← List.append_assoc] at hs'
    exact hs'⟩
theorem Ct.un0 {f : FuncId} {args : List Value} {Xs : List Asn} {ρ : Type} {val : ρ → Value} {post : ρ → List Asn} (h : Ct P f args [sep Xs] val (fun r => sep Xs :: post r)) : Ct P f args Xs val (fun r => Xs ++ post r) := by
  have := h.un
  rwa [List.append_nil] at this
end
end Go.SL
/-
  append(nil, make([]T, n)...): noughts, and room behind them. (Conditions: none; generic over the program.)
-/
namespace Go.SL
open Go.RowKit
theorem zeroCells_one (zv : Value) (m : Nat) : (Builtin.zeroCells #[zv] m).toList = List.replicate m zv := by
  unfold Builtin.zeroCells
  simp only [List.size_toArray, List.length_cons, List.length_nil, Nat.zero_add, Nat.mul_one, Nat.mod_one, Array.toList_map, Array.toList_range]
  apply List.ext_getElem?
  intro i
  simp [List.getElem?_replicate]
  by_cases h : i < m <;> simp [h]
theorem run_appendZ {P : Program} {t t' ty et : TypeId} {ti : TypeInfo} {z zv : Value} {q : IntKind} (ht : P.underlying t = some (.slice et)) (ht' : P.underlying t' = some (.int q)) (hi : P.info? et = some ti) (hz : ti.zero = some z) (hzc : z.cells = #[zv]) (hs : ti.size = 1) {m : Nat} (h0 : 0 < m)
    (hfit : m * ti.bytes ≤ 140737488355328) (hml : m ≤ 1000000000000) (w : World) :
    (Builtin.append_ #[t, t'] ty #[.slice none 0 0, .int .i64 (m : Int)]).run P w = .ok (.slice (some ⟨w.heap.size, 0, none⟩) m (grownCap w m 0 et)) (w.drew.alloc (.cells (Builtin.zeroCells z.cells m ++ Builtin.zeroCells z.cells (grownCap w m 0 et - m)) et)) := by
  have e1 : IntKind.i64.wrap (m : Int) = (m : Int) := wr64 rfl (by omega) (by omega)
  have e2 : ¬ ((m : Int) < 0) := by omega
  have e3 : ¬ (281474976710656 < (m : Int) * (ti.bytes : Int)) := by
    have : (m : Int) * (ti.bytes : Int) = ((m * ti.bytes : Nat) : Int) := by push_cast; rfl
    rw [this]; omega
  have e4 : ¬ (m ≤ 0) := by omega
  have e5 : ¬ (9223372036854775807 < (m : Int)) := by omega
  have hg : 0 < m := h0
  have e6 : ¬ (281474976710656 < Builtin.nextslicecap m 0 * ti.bytes) := by
    have : Builtin.nextslicecap m 0 = m := by unfold Builtin.nextslicecap; rw [if_pos (by omega)]
    rw [this]; omega
  have e7 : ¬ (m = 0) := by omega
  simp [Builtin.append_, Sem.run_bind, asIntOf, run_und ht, run_und ht', Result.andThen_ok, run_size (show sz P et = some 1 by simp [sz, hi, hs]), asInt, e1, e2, e3, e4, e5, e6, e7, typeInfo, zeroValue, hi, hz, hs, Question.forced, newRow, grownCap, Builtin.firstCells]
variable {P : Program} {n : Nat} {L : List (Nat × Value)} {A : List Asn} {d : Option Tmp} {ty : TypeId} {pos' : String} {af : Array Edge} {g : Option (Nat × Bool)}
theorem Ac_appendZ {α : Type} {t t' et : TypeId} {q : IntKind} {by_ m : Nat} {x y : Operand} {zv : Value} {f : α → List Value} (x0 : α) (hE1 : Enc f 1) (h0 : f x0 = [zv]) (hx : ev L x = some (sl none 0 0)) (hy : ev L y = some (.int .i64 (m : Int))) (ht : P.underlying t = some (.slice et)) (ht' : P.underlying t' = some (.int q))
    (hel : el P et = some (1, by_)) (hz : zr P et = some [zv]) (hm : 0 < m := by omega) (hb : m ≤ 1000000000000 := by omega) (hby : Nat.ble by_ 128 = true := by rfl) :
    Ac P n ⟨d, .call ⟨.builtin .append, #[x, y], #[t, t']⟩, ty, pos', af, g⟩ L A (fun r A' => ∃ b cap', r = sl (some b) m cap' ∧ A' = arr (some b) cap' 1 et f (List.replicate m x0) :: A) :=
  Ac_run fun ac w hfr hs => by
    unfold el at hel
    unfold zr at hz
    cases hi : P.info? et with
    | none => rw [hi] at hel; simp at hel
    | some ti =>
      rw [hi] at hel hz
      simp only [Option.bind_some] at hel hz
      cases hzz : ti.zero with
      | none => rw [hzz] at hel; simp at hel
      | some z =>
        rw [hzz] at hel hz
        simp only [Option.bind_some] at hel
        split at hel
        · rename_i hzc
          simp only [Option.some.injEq, Prod.mk.injEq] at hel
          have hzl : z.cells.toList = [zv] := by simpa using hz
          have hzA : z.cells = #[zv] := by apply Array.ext'; rw [hzl]
          have hby' := Nat.le_of_ble_eq_true hby
          have hmul : m * ti.bytes ≤ 140737488355328 := by rw [hel.2]; exact Nat.le_trans (Nat.mul_le_mul hb hby') (by decide)
          have hr := run_appendZ (P := P) (t := t) (t' := t') (ty := ty) ht ht' hi hzz hzA hel.1 hm hmul hb w
          have hge := grownCap_ge w m 0 et
          have hcm := grownCap_le_maxLen w m 0 et (by simp [maxLen]; omega)
          refine ⟨_, w.drew.alloc (.cells (Builtin.zeroCells z.cells m ++ Builtin.zeroCells z.cells (grownCap w m 0 et - m)) et), _, .inl (by simp [execOp, resolve, invoke, Go.builtin, hfr.eval hx, hfr.eval hy, sl, hr]), ⟨w.heap.size, grownCap w m 0 et, rfl, rfl⟩, ?_, ⟨rfl, rfl, rfl, by simp, Nat.le_succ _⟩⟩
          have hs2 : sat w.drew A := sat_heap (w := w) rfl hs
          have := sat_new (w := w.drew) (w' := w.drew.alloc (.cells (Builtin.zeroCells z.cells m ++ Builtin.zeroCells z.cells (grownCap w m 0 et - m)) et)) rfl hs2
          unfold arr
          have hrep : ∀ k, (List.replicate k x0).flatMap f = List.replicate k zv := fun k => by
            induction k with
            | zero => rfl
            | succ k ih => rw [List.replicate_succ, List.flatMap_cons, ih, h0]; rfl
          refine sat_ex.2 ⟨List.replicate m zv ++ List.replicate (grownCap w m 0 et - m) zv, sat_and.2 ⟨⟨hE1.len, by simp; omega, by simpa using hge, hcm, ?_⟩, ?_⟩⟩
          · rw [hrep, List.length_replicate, Nat.mul_one]
            exact List.take_left' (by simp)
          · refine sat_imp (fun h hp => ?_) this
            have e1 : (List.replicate m zv ++ List.replicate (grownCap w m 0 et - m) zv).toArray = Builtin.zeroCells z.cells m ++ Builtin.zeroCells z.cells (grownCap w m 0 et - m) := by
              apply Array.ext'; rw [hzA]; simp [zeroCells_one]
            rw [e1]; exact hp
        · cases hel
theorem Rd_cap {t et : TypeId} {x : Operand} {ao : Option Addr} {k cap : Nat} {ts : Array TypeId} (hx : ev L x = some (.slice ao k cap)) (ht : ts[0]? = some t) (hu : P.underlying t = some (.slice et)) : Rd P n ⟨d, .call ⟨.builtin .cap, #[x], ts⟩, ty, pos', af, g⟩ L A (.int .i64 ((cap : Nat) : Int)) := fun a w hf _ => by
  simp [execOp, resolve, invoke, Go.builtin, Builtin.cap_, hf.eval hx, ht, run_und hu, goInt]
end Go.SL
/-
  copy into one's own words, a part of an array in memory, a place of an array that is a value. (Conditions: none; generic over the program.)
-/
namespace Go.SL
open Go.RowKit
variable {P : Program} {n : Nat} {L : List (Nat × Value)} {A : List Asn} {d : Option Tmp} {ty : TypeId} {pos' : String} {af : Array Edge} {g : Option (Nat × Bool)} {t t' : TypeId} {x y : Operand} {k : IntKind} {w : Nat}
theorem Ac_copyU {et : TypeId} {gb o dl dc c : Nat} {T : TypeId} {l s : List (BitVec w)} {v : Value} {ao : Option Addr} {cap : Nat} {B R : List Asn} {ts : Array TypeId} (hx : ev L x = some (.slice (some ⟨gb, o, none⟩) dl dc)) (hy : ev L y = some v) (ht0 : ts[0]? = some t) (ht : P.underlying t = some (.slice et)) (hz : sz P et = some 1)
    (hS : Sv B v 1 (eU k) s ao cap := by assumption) (hB : Sub A B := by repeat (first | with_reducible exact Sub.refl | with_reducible exact Sub.nil | with_reducible refine Sub.cons (by repeat (first | with_reducible exact Ext.here | with_reducible apply Ext.there)) ?_ | with_reducible refine Sub.tail ?_))
    (hE : Ext A (arr (some gb) c 1 T (eU k) l) R := by repeat (first | with_reducible exact Ext.here | with_reducible apply Ext.there)) (h1 : s.length ≤ dl := by omega) (h2 : o + s.length ≤ l.length := by omega) :
    Ac P n ⟨d, .call ⟨.builtin .copy, #[x, y], ts⟩, ty, pos', af, g⟩ L A (fun r A' => r = .int .i64 ((s.length : Nat) : Int) ∧ A' = arr (some gb) c 1 T (eU k) (l.take o ++ s ++ l.drop (o + s.length)) :: R) :=
  Ac_run fun ac W hfr hs => by
    have hsrc := Src_sv (P := P) (hS.mono hB)
    have hl0 := hsrc.2.1 W
    have hf0 := hsrc.2.2 W hs
    have hs' := sat_perm hE hs
    unfold arr at hs'
    obtain ⟨cur, h2'⟩ := sat_ex.1 hs'
    obtain ⟨⟨hfe, hcl, hle, hm, htk⟩, h3⟩ := sat_and.1 h2'
    obtain ⟨w', hr, hh, ho, hk⟩ := run_storeCells (P := P) (i := o) (s.flatMap (eU k)) 0 cur W (sat_pt h3) (by rw [flatU_len]; omega) (fun u hu => by obtain ⟨q, _, hq⟩ := List.mem_flatMap.1 hu; exact (encU k).one q u hq)
    have hmin : Nat.min s.length dl = s.length := Nat.min_eq_left h1
    refine ⟨_, w', _, .inl ?_, ⟨rfl, rfl⟩, ?_, hk⟩
    · simp [execOp, resolve, invoke, Go.builtin, Builtin.copy_, hfr.eval hx, hfr.eval hy, ht0, run_und ht, Sem.run_bind, hl0, run_size hz, hmin, hf0, hr, goInt]
    · unfold arr
      have e3 : (l.take o ++ s ++ l.drop (o + s.length)).length = l.length := by rw [List.length_append, List.length_append, List.length_take, List.length_drop]; omega
      have l1 : (cur.take o).length = o := by rw [List.length_take]; omega
      have l2 : (s.flatMap (eU k)).length = s.length := flatU_len s
      refine sat_ex.2 ⟨cur.take o ++ s.flatMap (eU k) ++ cur.drop (o + s.length), sat_and.2 ⟨⟨hfe, ?_, by rw [e3]; exact hle, hm, ?_⟩, ?_⟩⟩
      · rw [List.length_append, List.length_append, l1, l2, List.length_drop]; omega
      · have e1 : cur.take o = (l.take o).flatMap (eU k) := by
          have := flat_take (f := eU k) (encU k).len l o
          rw [Nat.mul_one] at this htk
          rw [← this, ← htk, List.take_take, Nat.min_eq_left (by omega)]
        have e2 : (cur.take l.length).drop (o + s.length) = (l.drop (o + s.length)).flatMap (eU k) := by
          rw [Nat.mul_one] at htk
          rw [htk]
          have hh2 : l.flatMap (eU k) = (l.take (o + s.length)).flatMap (eU k) ++ (l.drop (o + s.length)).flatMap (eU k) := by rw [← List.flatMap_append, List.take_append_drop]
          rw [hh2, List.drop_left' (by rw [flatU_len, List.length_take]; omega)]
        have t1 : (cur.take o ++ s.flatMap (eU k) ++ cur.drop (o + s.length)).take l.length = cur.take o ++ s.flatMap (eU k) ++ (cur.drop (o + s.length)).take (l.length - (o + s.length)) := by
          rw [List.take_append, List.take_of_length_le (by rw [List.length_append, l1, l2]; omega), List.length_append, l1, l2]
        rw [e3, Nat.mul_one, List.flatMap_append, List.flatMap_append, ← e1, ← e2, t1, List.drop_take]
      · refine sat_upd (o := .cells cur.toArray T (0, 0)) ?_ (fun q hq x hx => by rw [ho q hq]; exact hx) h3
        rw [hh]; simp only [Nat.add_zero, l2]
/-- a[lo:] of an array in memory -/
theorem Rd_sliceA {et : TypeId} {kk : IntKind} {b len : Nat} (lo : Nat) (hx : ev L x = some (.pointer (some ⟨b, 0, none⟩))) (hy : ev L y = some (.int kk (lo : Int))) (hu : P.underlying t = some (.array len et)) (hz : sz P et = some 1) (hi : lo < len := by omega) :
    Rd P n ⟨d, .slice t x (some y) none none, ty, pos', af, g⟩ L A (.slice (some ⟨b, lo, none⟩) (len - lo) (len - lo)) := fun a W hf hs => by
  have h0 : (0 : Int) ≤ (lo : Int) ∧ (lo : Int) ≤ (len : Int) := by omega
  have h1 : ¬ (len = lo) := by omega
  have h2 : lo ≤ len := by omega
  simp [execOp, hf.eval hx, hf.eval hy, Instr.sliceAt, Instr.sureAddr, run_und hu, Instr.sliceBounds, Instr.sliceBound, asIntOf, run_size hz, h0, h1, h2, add_off]
/-- a place of an array that is a value -/
theorem Rd_indexU {et : TypeId} {kk : IntKind} {l : List (BitVec w)} {len : Nat} (i : Nat) (hx : ev L x = some (aU k l)) (hy : ev L y = some (.int kk (i : Int))) (hu : P.underlying t = some (.array len et)) (hz : tk P et = some none) (hs : sz P et = some 1) (hl : l.length = len := by first | with_reducible assumption | omega) (hi : i < len := by omega) :
    Rd P n ⟨d, .index t x y, ty, pos', af, g⟩ L A (.int k ((l.getD i 0#w).toNat : Int)) := by
  rw [aU_int] at hx
  refine Rd_indexAgg i hx hy hu hz rfl hi hs ?_
  rw [List.getElem?_map, List.getElem?_map, List.getD_eq_getElem?_getD, List.getElem?_eq_getElem (by omega)]
  rfl
end Go.SL
/-
  A list of bytes made out of a text's letters: the conversion marks the block's end, nothing is written there; it reads as before. (Conditions: none; generic over the program.)
-/
namespace Go.SL
open Go.RowKit
/-- a slice's array whose block is marked at its end -/
def frA {α : Type} (b cap e : Nat) (T : TypeId) (f : α → List Value) (l : List α) : Asn := fun h => ∃ cur : List Value, ((∀ x, (f x).length = e) ∧ cur.length = cap * e ∧ l.length ≤ cap ∧ cap ≤ maxLen ∧ cur.take (l.length * e) = l.flatMap f) ∧ pt b (.cells cur.toArray T (cur.length, cur.length + 1)) h
theorem Sv_fr {α : Type} {b cap e : Nat} {T : TypeId} {f : α → List Value} {l : List α} (hE1 : Enc f e) (hc : l.length ≤ cap) : Sv [frA b cap e T f l] (sl (some b) l.length cap) e f l (some ⟨b, 0, none⟩) cap := by
  refine ⟨rfl, fun _ => ⟨b, 0, rfl⟩, fun x _ => hE1.len x, hc, fun w hs i x hx j u hu => ?_⟩
  unfold frA at hs
  obtain ⟨cur, h1⟩ := sat_ex.1 hs
  obtain ⟨⟨hfe, hcl, hl, _, ht⟩, h3⟩ := sat_and.1 h1
  have hb := sat_pt h3
  show w.cell? ⟨b, 0 + (i * e + j), none⟩ = some u
  rw [Nat.zero_add]
  exact cell_of hb (by simpa using cur_get hfe ht hx hu)
end Go.SL
/-
  What a whole program says once, for all rows over it: facts that hang on the program's own word, told over any program that agrees with it. (Conditions: none; generic over the program.)
-/
namespace Go.SL
open Go.RowKit
theorem make_of {P : Program} {L : List Char} {m : Option Make} (h : P.initOrder.toList = L) (k : ∀ Q : Program, Q.initOrder.toList = L → Q.headLifts = P.headLifts → Q.make = m) : P.make = m := k P h rfl
theorem enter_of {P : Program} {L : List Char} (h : P.initOrder.toList = L) (k : ∀ Q : Program, Q.initOrder.toList = L → Q.laysLater = P.laysLater → Q.bearsReflect = P.bearsReflect → (∀ l, Q.doorFits l = P.doorFits l) → Q.mayEnter = true) : P.mayEnter = true := k P h rfl rfl fun _ => rfl
theorem facts_of {P : Program} {f : FuncId} {fn : Func} {s : ChangeSpec} {c : OpenClaim} (k : ∀ Q : Program, laidOutB Q = laidOutB P → mapsRowed Q = mapsRowed P → (∀ t, Q.readableRec t = P.readableRec t) → (∀ a b, namedTie Q a b = namedTie P a b) → Q.stops = P.stops → Q.stopKnobs = P.stopKnobs → (∀ f, Q.inPlace f = P.inPlace f) → (∀ f, Q.unfollowed f = P.unfollowed f) → (∀ f, Q.recurses f = P.recurses f) → (∀ f, Q.varsNamed f = P.varsNamed f) →
    (∀ t, Q.mapsRec t = P.mapsRec t) → (∀ t, Q.ifacesRec t = P.ifacesRec t) → (∀ l, Q.mapsAmong l = P.mapsAmong l) → (∀ t, Q.loopsFrom t = P.loopsFrom t) → (∀ t, Q.wideKeysFrom t = P.wideKeysFrom t) → (∀ n, Q.varReadable n = P.varReadable n) → Q.types.size = P.types.size → Q.plainKeys = P.plainKeys → Q.stopsHeard = P.stopsHeard → Q.mayEnter = P.mayEnter → Q.liftsFinal = P.liftsFinal → Q.make = P.make → (∀ t, Q.underlying t = P.underlying t) → (∀ t, Q.veiledRec t = P.veiledRec t) → (∀ a b, c.veiledFits Q a b = c.veiledFits P a b) → s.plain.varTypes Q = s.plain.varTypes P → joinedFacts Q f fn s c = true) : joinedFacts P f fn s c = true :=
  k P rfl rfl (fun _ => rfl) (fun _ _ => rfl) rfl rfl (fun _ => rfl) (fun _ => rfl) (fun _ => rfl) (fun _ => rfl) (fun _ => rfl) (fun _ => rfl) (fun _ => rfl) (fun _ => rfl) (fun _ => rfl) (fun _ => rfl) rfl rfl rfl rfl rfl rfl (fun _ => rfl) (fun _ => rfl) (fun _ _ => rfl) rfl
end Go.SL
