/-
  A logic of blocks over the model's walk: what a piece of code does to the blocks that it owns, all else being kept. (Conditions: none; generic over the program.)
-/
import Derived.WalkKit
import Derived.OrdersHeld
set_option linter.all false
namespace Go.SL
open Go.RowKit

/-! ### Partial heaps, assertions -/
abbrev Hp := Nat → Option Obj
abbrev Asn := Hp → Prop

def pt (b : Nat) (o : Obj) : Asn := fun h => ∀ c, h c = if c = b then some o else none
def dj (h1 h2 : Hp) : Prop := ∀ b, h1 b = none ∨ h2 b = none
def un (h1 h2 : Hp) : Hp := fun b => match h1 b with | some o => some o | none => h2 b
def sep : List Asn → Asn
  | [] => fun h => ∀ b, h b = none
  | A :: R => fun h => ∃ h1 h2, dj h1 h2 ∧ (∀ b, h b = un h1 h2 b) ∧ A h1 ∧ sep R h2
def sat (w : World) (A : List Asn) : Prop := ∃ h : Hp, (∀ b o, h b = some o → w.heap[b]? = some o) ∧ sep A h

theorem dj.symm {h1 h2 : Hp} (h : dj h1 h2) : dj h2 h1 := fun b => (h b).symm
theorem un_comm {h1 h2 : Hp} (h : dj h1 h2) (b : Nat) : un h1 h2 b = un h2 h1 b := by
  unfold un; rcases h b with e | e <;> simp only [e] <;> split <;> simp_all
theorem sep_swap {A B : Asn} {R : List Asn} {h : Hp} : sep (A :: B :: R) h → sep (B :: A :: R) h := by
  rintro ⟨h1, h2, d, e, a, h3, h4, d', e', b, r⟩
  have h23 : ∀ x, (h1 x = none ∨ h3 x = none) ∧ (h1 x = none ∨ h4 x = none) := fun x => by
    have dx := d x; have ex := e' x; unfold un at ex
    rcases dx with dx | dx
    · exact ⟨.inl dx, .inl dx⟩
    · rw [dx] at ex
      cases h3x : h3 x with
      | none => rw [h3x] at ex; exact ⟨.inr rfl, .inr ex.symm⟩
      | some o => rw [h3x] at ex; cases ex
  refine ⟨h3, un h1 h4, fun x => ?_, fun x => ?_, b, h1, h4, fun x => (h23 x).2, fun x => rfl, a, r⟩
  · have dx := d' x; have hx := (h23 x).1; unfold un
    rcases hx with hx | hx
    · rw [hx]; simpa using dx
    · exact .inl hx
  · have ex := e x; have ex' := e' x; have hx := (h23 x).1
    rw [ex]; unfold un at *
    cases h1x : h1 x with
    | none => simp only; rw [ex']
    | some o =>
      rw [h1x] at hx
      rcases hx with hx | hx
      · cases hx
      · rw [hx]
theorem sep_perm {A B : List Asn} (p : A.Perm B) : ∀ {h : Hp}, sep A h → sep B h := by
  induction p with
  | nil => exact fun x => x
  | cons x _ ih => exact fun ⟨h1, h2, d, e, a, r⟩ => ⟨h1, h2, d, e, a, ih r⟩
  | swap x y l => exact sep_swap
  | trans _ _ ih1 ih2 => exact fun h => ih2 (ih1 h)
theorem sat_perm {A B : List Asn} {w : World} (p : A.Perm B) (h : sat w A) : sat w B := let ⟨x, y, z⟩ := h; ⟨x, y, sep_perm p z⟩
theorem sat_heap {A : List Asn} {w w' : World} (e : w'.heap = w.heap) (h : sat w A) : sat w' A := let ⟨x, y, z⟩ := h; ⟨x, by rw [e]; exact y, z⟩
theorem un_none {h1 h2 : Hp} {b : Nat} (e : h1 b = none) : un h1 h2 b = h2 b := by unfold un; rw [e]
theorem un_some {h1 h2 : Hp} {b : Nat} {o : Obj} (e : h1 b = some o) : un h1 h2 b = some o := by unfold un; rw [e]
theorem un_right {h1 h2 : Hp} (d : dj h1 h2) {b : Nat} {o : Obj} (e : h2 b = some o) : un h1 h2 b = some o := by
  rcases d b with x | x
  · rw [un_none x, e]
  · rw [x] at e; cases e
theorem sat_drop {X : Asn} {R : List Asn} {w : World} : sat w (X :: R) → sat w R := by
  rintro ⟨h, hw, h1, h2, d, e, a, r⟩
  exact ⟨h2, fun b o hb => hw b o (by rw [e, un_right d hb]), r⟩
theorem sat_sub {A B R : List Asn} {w : World} (p : A.Perm (B ++ R)) (h : sat w A) : sat w B := by
  have h := sat_perm (p.trans List.perm_append_comm) h
  clear p
  induction R with
  | nil => exact h
  | cons x r ih => exact ih (sat_drop h)
theorem sat_pt {b : Nat} {o : Obj} {R : List Asn} {w : World} : sat w (pt b o :: R) → w.heap[b]? = some o := by
  rintro ⟨h, hw, h1, h2, d, e, a, r⟩
  exact hw b o (by rw [e, un_some (o := o) (by rw [a b, if_pos rfl])])
/-- Whoever changes one block: what is owned beside it stays. -/
theorem sat_upd {b : Nat} {o o' : Obj} {R : List Asn} {w w' : World} (hb : w'.heap[b]? = some o') (hk : ∀ c, c ≠ b → ∀ x, w.heap[c]? = some x → w'.heap[c]? = some x)
    (h : sat w (pt b o :: R)) : sat w' (pt b o' :: R) := by
  obtain ⟨h, hw, h1, h2, d, e, a, r⟩ := h
  refine ⟨un (fun c => if c = b then some o' else none) h2, fun c x hc => ?_, fun c => if c = b then some o' else none, h2, fun c => ?_, fun _ => rfl, fun _ => rfl, r⟩
  · unfold un at hc
    by_cases hcb : c = b
    · subst hcb; simp at hc; rw [hb, hc]
    · simp [hcb] at hc
      exact hk c hcb x (hw c x (by rw [e, un_right d hc]))
  · by_cases hcb : c = b
    · subst hcb
      rcases d c with x | x
      · rw [a c, if_pos rfl] at x; cases x
      · exact .inr x
    · exact .inl (by simp [hcb])
theorem sat_new {o : Obj} {R : List Asn} {w w' : World} (hb : w'.heap = w.heap.push o) (h : sat w R) : sat w' (pt w.heap.size o :: R) := by
  obtain ⟨h, hw, r⟩ := h
  have hlt : ∀ c x, h c = some x → c < w.heap.size := fun c x hc => (Array.getElem?_eq_some_iff.1 (hw c x hc)).1
  have hn : h w.heap.size = none := by
    cases hc : h w.heap.size with
    | none => rfl
    | some x => exact absurd (hlt _ _ hc) (Nat.lt_irrefl _)
  refine ⟨un (fun c => if c = w.heap.size then some o else none) h, fun c x hc => ?_, fun c => if c = w.heap.size then some o else none, h, fun c => ?_, fun _ => rfl, fun _ => rfl, r⟩
  · unfold un at hc
    by_cases hcb : c = w.heap.size
    · subst hcb; simp at hc; rw [hb, ← hc]; simp
    · simp [hcb] at hc
      have := hlt c x hc
      rw [hb, Array.getElem?_push, if_neg hcb]
      exact hw c x hc
  · by_cases hcb : c = w.heap.size
    · subst hcb; exact .inr hn
    · exact .inl (by simp [hcb])
theorem sat_ne {b c : Nat} {o p : Obj} {R : List Asn} {w : World} (h : sat w (pt b o :: pt c p :: R)) : b ≠ c := by
  obtain ⟨h, hw, h1, h2, d, e, a, h3, h4, d', e', a', r⟩ := h
  intro hbc; subst hbc
  rcases d b with x | x
  · rw [a b, if_pos rfl] at x; cases x
  · rw [e', un_some (o := p) (by rw [a' b, if_pos rfl])] at x; cases x
/-! an assertion with a name: opened, shut -/
theorem sep_app {A B : List Asn} : ∀ {h : Hp}, sep (sep A :: B) h ↔ sep (A ++ B) h := by
  induction A with
  | nil =>
    intro h
    constructor
    · rintro ⟨h1, h2, d, e, a, r⟩
      have : h = h2 := funext fun b => by rw [e, un_none (a b)]
      rw [this]; exact r
    · intro r; exact ⟨fun _ => none, h, fun _ => .inl rfl, fun _ => rfl, fun _ => rfl, r⟩
  | cons X A ih =>
    intro h
    constructor
    · rintro ⟨h1, h2, d, e, ⟨h3, h4, d', e', x, a⟩, r⟩
      have hd : ∀ b, (h3 b = none ∨ h2 b = none) ∧ (h4 b = none ∨ h2 b = none) := fun b => by
        rcases d b with q | q
        · have := e' b; rw [q] at this; unfold un at this
          cases h3b : h3 b with
          | none => rw [h3b] at this; exact ⟨.inl rfl, .inl this.symm⟩
          | some o => rw [h3b] at this; cases this
        · exact ⟨.inr q, .inr q⟩
      refine ⟨h3, un h4 h2, fun b => ?_, fun b => ?_, x, ih.1 ⟨h4, h2, fun b => (hd b).2, fun _ => rfl, a, r⟩⟩
      · rcases d' b with q | q
        · exact .inl q
        · rcases (hd b).1 with q' | q'
          · exact .inl q'
          · exact .inr (by rw [un_none q]; exact q')
      · rw [e]; unfold un; rw [e' b]; unfold un
        cases h3 b <;> rfl
    · rintro ⟨h3, h5, d, e, x, r⟩
      obtain ⟨h4, h2, d', e', a, r⟩ := ih.2 r
      have hd : ∀ b, (h3 b = none ∨ h4 b = none) ∧ (h3 b = none ∨ h2 b = none) := fun b => by
        rcases d b with q | q
        · exact ⟨.inl q, .inl q⟩
        · rw [e'] at q; unfold un at q
          cases h4b : h4 b with
          | none => rw [h4b] at q; exact ⟨.inr rfl, .inr q⟩
          | some o => rw [h4b] at q; cases q
      refine ⟨un h3 h4, h2, fun b => ?_, fun b => ?_, ⟨h3, h4, fun b => (hd b).1, fun _ => rfl, x, a⟩, r⟩
      · rcases d' b with q | q
        · rcases (hd b).2 with q' | q'
          · exact .inl (by rw [un_none q']; exact q)
          · exact .inr q'
        · exact .inr q
      · rw [e]; unfold un; rw [e' b]; unfold un
        cases h3 b <;> rfl
theorem sat_app {A B : List Asn} {w : World} : sat w (sep A :: B) ↔ sat w (A ++ B) :=
  ⟨fun ⟨h, a, b⟩ => ⟨h, a, sep_app.1 b⟩, fun ⟨h, a, b⟩ => ⟨h, a, sep_app.2 b⟩⟩
theorem sat_ex {α : Type} {B : α → Asn} {R : List Asn} {w : World} : sat w ((fun h => ∃ x, B x h) :: R) ↔ ∃ x, sat w (B x :: R) :=
  ⟨fun ⟨h, a, h1, h2, d, e, ⟨x, b⟩, r⟩ => ⟨x, h, a, h1, h2, d, e, b, r⟩, fun ⟨x, h, a, h1, h2, d, e, b, r⟩ => ⟨h, a, h1, h2, d, e, ⟨x, b⟩, r⟩⟩
theorem sat_and {p : Prop} {B : Asn} {R : List Asn} {w : World} : sat w ((fun h => p ∧ B h) :: R) ↔ p ∧ sat w (B :: R) :=
  ⟨fun ⟨h, a, h1, h2, d, e, ⟨x, b⟩, r⟩ => ⟨x, h, a, h1, h2, d, e, b, r⟩, fun ⟨x, h, a, h1, h2, d, e, b, r⟩ => ⟨h, a, h1, h2, d, e, ⟨x, b⟩, r⟩⟩
/-- Opening a named assertion that stands first. -/
theorem sat_imp {A B : Asn} {R : List Asn} {w : World} (f : ∀ h, A h → B h) (h : sat w (A :: R)) : sat w (B :: R) :=
  let ⟨h, a, h1, h2, d, e, b, r⟩ := h; ⟨h, a, h1, h2, d, e, f _ b, r⟩

/-! ### What is kept -/
structure Kept (w w' : World) : Prop where
  os : w'.os = w.os
  tape : w'.tape = w.tape
  output : w'.output = w.output
  size : w.heap.size ≤ w'.heap.size
theorem Kept.refl (w : World) : Kept w w := ⟨rfl, rfl, rfl, Nat.le_refl _⟩
theorem Kept.trans {a b c : World} (h : Kept a b) (k : Kept b c) : Kept a c := ⟨k.os.trans h.os, k.tape.trans h.tape, k.output.trans h.output, Nat.le_trans h.size k.size⟩

/-! ### Sparse frames -/
def look : List (Nat × Value) → Nat → Option Value
  | [], _ => none
  | (k, v) :: r, x => bif Nat.beq k x then some v else look r x
def Fr (n : Nat) (L : List (Nat × Value)) (a : Act) : Prop := a.tmps.size = n ∧ a.defers = [] ∧ ∀ x v, look L x = some v → a.tmps[x]? = some v
def ev (L : List (Nat × Value)) : Operand → Option Value
  | .tmp t => look L t
  | .const v => some v
  | .global g => some (.pointer (some ⟨g, 0, none⟩))
  | .func f => some (.func (.func f) #[] #[])
def evs (L : List (Nat × Value)) : List Operand → Option (List Value)
  | [] => some []
  | x :: r => match ev L x, evs L r with | some v, some vs => some (v :: vs) | _, _ => none
theorem Fr.eval {n : Nat} {L : List (Nat × Value)} {a : Act} (h : Fr n L a) {x : Operand} {v : Value} (e : ev L x = some v) : a.eval x = v := by
  cases x with
  | tmp t => have := h.2.2 t v e; simp [Act.eval, Array.getD_eq_getD_getElem?, this]
  | const u => simpa [ev, Act.eval] using e
  | global g => simpa [ev, Act.eval] using e
  | func f => simpa [ev, Act.eval] using e
theorem Fr.evals {n : Nat} {L : List (Nat × Value)} {a : Act} (h : Fr n L a) : ∀ {xs : List Operand} {vs : List Value}, evs L xs = some vs → xs.map a.eval = vs
  | [], vs, e => by simp [evs] at e; simp [e]
  | x :: r, vs, e => by
    unfold evs at e
    split at e
    · rename_i v us hx hr
      simp only [Option.some.injEq] at e
      rw [← e, List.map_cons, h.eval hx, h.evals hr]
    · cases e
theorem Fr.put {n : Nat} {L : List (Nat × Value)} {a : Act} (h : Fr n L a) {d : Nat} (hd : Nat.blt d n = true) (v : Value) : Fr n ((d, v) :: L) (a.put (some d) v) := by
  obtain ⟨h1, h2, h3⟩ := h
  have hd' : d < n := by simpa [Nat.blt_eq] using hd
  refine ⟨by simp [Act.put, h1], h2, fun x u hx => ?_⟩
  unfold look at hx
  by_cases hdx : d = x
  · subst hdx
    simp at hx
    simp [Act.put, h1, hd', hx]
  · have : Nat.beq d x = false := Bool.eq_false_iff.2 fun e => hdx (Nat.eq_of_beq_eq_true e)
    rw [this] at hx
    simp only [cond_false] at hx
    simp [Act.put, hdx, h3 x u hx]
theorem Fr.put_none {n : Nat} {L : List (Nat × Value)} {a : Act} (h : Fr n L a) (v : Value) : Fr n L (a.put none v) := h
/-- fewer slots -/
def Wk (L L' : List (Nat × Value)) : Prop := ∀ x v, look L' x = some v → look L x = some v
theorem Wk.nil {L : List (Nat × Value)} : Wk L [] := fun _ _ h => by cases h
theorem Wk.cons {L L' : List (Nat × Value)} {x : Nat} {v : Value} (h : look L x = some v) (k : Wk L L') : Wk L ((x, v) :: L') := fun y u hy => by
  unfold look at hy
  by_cases hxy : x = y
  · subst hxy; simp at hy; rw [h, hy]
  · have : Nat.beq x y = false := Bool.eq_false_iff.2 fun e => hxy (Nat.eq_of_beq_eq_true e)
    rw [this] at hy; exact k y u hy
theorem Wk.refl {L : List (Nat × Value)} : Wk L L := fun _ _ h => h
theorem Fr.wk {n : Nat} {L L' : List (Nat × Value)} {a : Act} (h : Fr n L a) (k : Wk L L') : Fr n L' a := ⟨h.1, h.2.1, fun x v hx => h.2.2 x v (k x v hx)⟩

/-! ### Taking an assertion out of a list -/
def Ext (A : List Asn) (X : Asn) (R : List Asn) : Prop := A.Perm (X :: R)
theorem Ext.here {X : Asn} {R : List Asn} : Ext (X :: R) X R := List.Perm.refl _
theorem Ext.there {X Z : Asn} {A R : List Asn} (h : Ext A X R) : Ext (Z :: A) X (Z :: R) := (List.Perm.cons Z h).trans (List.Perm.swap X Z R)
/-- X in A; with Y in its place: A'. -/
def Upd (A : List Asn) (X Y : Asn) (A' : List Asn) : Prop := ∃ R, A.Perm (X :: R) ∧ A'.Perm (Y :: R)
theorem Upd.here {X Y : Asn} {R : List Asn} : Upd (X :: R) X Y (Y :: R) := ⟨R, .refl _, .refl _⟩
theorem Upd.there {X Y Z : Asn} {A A' : List Asn} (h : Upd A X Y A') : Upd (Z :: A) X Y (Z :: A') :=
  let ⟨R, p, q⟩ := h; ⟨Z :: R, (p.cons Z).trans (.swap X Z R), (q.cons Z).trans (.swap Y Z R)⟩
def Has (A : List Asn) (X : Asn) : Prop := ∃ R, A.Perm (X :: R)
theorem Has.here {X : Asn} {R : List Asn} : Has (X :: R) X := ⟨R, .refl _⟩
theorem Has.there {X Z : Asn} {A : List Asn} (h : Has A X) : Has (Z :: A) X := let ⟨R, p⟩ := h; ⟨Z :: R, (p.cons Z).trans (.swap X Z R)⟩
theorem Has.sat {A : List Asn} {b : Nat} {o : Obj} (h : Has A (pt b o)) {w : World} (hs : sat w A) : w.heap[b]? = some o := let ⟨_, p⟩ := h; sat_pt (sat_perm p hs)
/-- A gives B (and leaves R). -/
def Gv (A B R : List Asn) : Prop := A.Perm (B ++ R)
theorem Gv.nil {A : List Asn} : Gv A [] A := List.Perm.refl _
theorem Gv.cons {A A' B R : List Asn} {X : Asn} (h : Ext A X A') (k : Gv A' B R) : Gv A (X :: B) R := List.Perm.trans h (List.Perm.cons X k)
theorem Gv.all {A : List Asn} : Gv A A [] := by unfold Gv; rw [List.append_nil]
def Sub (A B : List Asn) : Prop := ∃ R, A.Perm (B ++ R)
theorem Sub.nil {A : List Asn} : Sub A [] := ⟨A, .refl _⟩
theorem Sub.refl {A : List Asn} : Sub A A := ⟨[], by rw [List.append_nil]⟩
theorem Sub.cons {A A' B : List Asn} {X : Asn} (h : Ext A X A') (k : Sub A' B) : Sub A (X :: B) := let ⟨R, p⟩ := k; ⟨R, List.Perm.trans h (p.cons X)⟩
theorem Sub.sat {A B : List Asn} {w : World} (h : Sub A B) (hs : sat w A) : sat w B := let ⟨_, p⟩ := h; sat_sub p hs

end Go.SL
