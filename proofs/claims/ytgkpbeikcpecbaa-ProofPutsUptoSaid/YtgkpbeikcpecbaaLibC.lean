/-
  Contracts of functions that the claim reaches, or the logic and the plain laws that they rest on, or the row over them. (Conditions: none beyond the statement.)
-/
import Derived.Test.YtgkpbeikcpecbaaLibB
import Derived.Test.YtgkpbeikcpecbaaShA
set_option linter.all false
/-
  Many things owned, one for each of a list: one taken out, laid back, one more. Fewer places read; a list said otherwise. (Conditions: none; generic over the program.)
-/
namespace Go.SL
open Go.RowKit
def star {α : Type} (F : α → Asn) (l : List α) : Asn := sep (l.map F)
theorem erase_perm {α : Type} : ∀ (l : List α) (i : Nat) (x : α), l[i]? = some x → l.Perm (x :: l.eraseIdx i)
  | [], i, x, h => by simp at h
  | y :: l, 0, x, h => by simp at h; subst h; simp
  | y :: l, i + 1, x, h => by
    have := erase_perm l i x (by simpa using h)
    simp only [List.eraseIdx_cons_succ]
    exact (this.cons y).trans (.swap x y _)
theorem set_perm {α : Type} : ∀ (l : List α) (i : Nat) (y : α), i < l.length → (l.set i y).Perm (y :: l.eraseIdx i)
  | [], i, y, h => by simp at h
  | x :: l, 0, y, h => by simp
  | x :: l, i + 1, y, h => by
    have := set_perm l i y (by simpa using h)
    simp only [List.set_cons_succ, List.eraseIdx_cons_succ]
    exact (this.cons x).trans (.swap y x _)
section
variable {α : Type} {F : α → Asn} {l : List α} {A R : List Asn} {w : World}
theorem star_perm {l l' : List α} (p : l.Perm l') (h : sat w (star F l :: R)) : sat w (star F l' :: R) := by
  unfold star at *
  rw [sat_app] at h ⊢
  exact sat_perm (List.Perm.append_right R (p.map F)) h
theorem star_cons {x : α} : sat w (star F (x :: l) :: R) ↔ sat w (F x :: star F l :: R) := by
  unfold star
  rw [sat_app]
  constructor
  · intro h
    have h2 : sat w (F x :: (l.map F ++ R)) := h
    have h3 : sat w ((l.map F ++ R) ++ [F x]) := sat_perm (List.perm_append_comm (l₁ := [F x])) h2
    rw [List.append_assoc, ← sat_app] at h3
    refine sat_perm ?_ h3
    exact (List.Perm.cons _ (List.perm_append_comm)).trans (.swap _ _ _)
  · intro h
    have h2 := sat_perm (List.Perm.swap (sep (l.map F)) (F x) R) h
    rw [sat_app] at h2
    refine sat_perm ?_ h2
    exact List.perm_middle
theorem star_open {x : α} (i : Nat) (hx : l[i]? = some x) (h : sat w (star F l :: R)) : sat w (F x :: star F (l.eraseIdx i) :: R) := star_cons.1 (star_perm (erase_perm l i x hx) h)
theorem star_shut {y : α} (i : Nat) (hi : i < l.length) (h : sat w (F y :: star F (l.eraseIdx i) :: R)) : sat w (star F (l.set i y) :: R) := star_perm (set_perm l i y hi).symm (star_cons.2 h)
theorem star_snoc {x : α} (h : sat w (F x :: star F l :: R)) : sat w (star F (l ++ [x]) :: R) := star_perm (List.perm_append_comm (l₁ := [x])) (star_cons.2 h)
theorem star_nil (h : sat w R) : sat w (star F [] :: R) := sat_app.2 h
end
section
variable {P : Program} {m : Md} {ops : Array Oper} {Q : Exit → Act → World → Prop} {w0 : World} {n : Nat} {rest : List Oper} {L : List (Nat × Value)} {A R : List Asn} {c : Code} {α : Type} {F : α → Asn} {l : List α}
/-- one more -/
theorem WL_snoc (F : α → Asn) (l : List α) (y : α) {R2 : List Asn} (k : WL P m ops Q w0 n rest L (star F (l ++ [y]) :: R2)) (hE : Ext A (star F l) R := by repeat (first | with_reducible exact Ext.here | with_reducible apply Ext.there)) (hE2 : Ext R (F y) R2 := by repeat (first | exact Ext.here | with_reducible apply Ext.there)) : WL P m ops Q w0 n rest L A :=
  WL_imp (fun _ h => star_snoc (sat_perm ((List.Perm.trans hE (List.Perm.cons _ hE2)).trans (.swap _ _ _)) h)) k
theorem WL_star0 (F : α → Asn) (k : WL P m ops Q w0 n rest L (star F [] :: A)) : WL P m ops Q w0 n rest L A := WL_imp (fun _ h => star_nil h) k
/-- what is read in one is read in all -/
theorem Sv.star {β : Type} {l : List α} {x : α} (i : Nat) (hx : l[i]? = some x) {v : Value} {e : Nat} {f : β → List Value} {bs : List β} {ao : Option Addr} {cap : Nat} (h : Sv [F x] v e f bs ao cap) : Sv [star F l] v e f bs ao cap :=
  h.imp fun w hs => Sub.sat (B := [F x]) ⟨_, .refl _⟩ (star_open i hx hs)
end
end Go.SL
/-
  append, the elder slice being kept: it may lie in the new one's array, or in its own. (Conditions: none; generic over the program.)
-/
namespace Go.SL
open Go.RowKit
section
variable {P : Program}
section
variable {α : Type} {a a' : Option Nat} {cap cap' e : Nat} {T : TypeId} {f : α → List Value} {l l' : List α} {R : List Asn} {w : World}
end
section
variable {n : Nat} {L : List (Nat × Value)} {A : List Asn} {d : Option Tmp} {ty : TypeId} {pos' : String} {af : Array Edge} {g : Option (Nat × Bool)}
end
end
end Go.SL
/-
  Plain words for what the statements' helpers do: marks, lists laid over, a number brought into a range, equal lists. (Conditions: none; no program in sight.)
-/
set_option maxRecDepth 20000
namespace Go.ShM
open Go.SL Go.RowKit
/-- the mark of place i of list k -/
def mkB (k i : Nat) : B8 := BitVec.ofNat 8 (151 * k + 7 * i + 1)
/-- m marks from place n on -/
def mks {α : Type} (g : Nat → α) (n m : Nat) : List α := (List.range m).map fun i => g (n + i)
/-- a list with marks behind it -/
def lentB (l : List B8) : List B8 := l ++ mks (mkB 0) l.length 70
/-! ### equal lists -/
/-! ### a number brought into a range -/
end Go.ShM
/-
  A text's letters as a list of bytes: a new block, marked at its end. (Conditions: none; generic over the program.)
-/
namespace Go.SL
open Go.RowKit
/-- a text's letters -/
def bsS (s : ByteArray) : List (BitVec 8) := s.data.toList.map UInt8.toBitVec
theorem bsS_len (s : ByteArray) : (bsS s).length = s.size := by unfold bsS; simp <;> rfl
theorem Ac_convSB {P : Program} {n : Nat} {L : List (Nat × Value)} {A : List Asn} {d : Option Tmp} {ty : TypeId} {pos' : String} {af : Array Edge} {g : Option (Nat × Bool)} {t t' et : TypeId} {x : Operand} {s : ByteArray} (hx : ev L x = some (.string s)) (ht : P.underlying t = some .string) (ht' : P.underlying t' = some (.slice et)) (he : P.underlying et = some (.int .u8)) (h0 : 0 < s.size) (hm : s.size ≤ 1000000000) :
    Ac P n ⟨d, .convert t t' x, ty, pos', af, g⟩ L A (fun r A' => ∃ b cap, r = sl (some b) (bsS s).length cap ∧ A' = frA b cap 1 et (eU .u8 (w := 8)) (bsS s) :: A) :=
  Ac_run fun a w hf hs => by
    have hge := grownCap_ge w s.size 0 et
    have hcm := grownCap_le_maxLen w s.size 0 et (by simp [maxLen]; omega)
    have hml : (bsS s).length = s.size := bsS_len s
    let cs : Array Value := (s.data.map fun b => Value.int .u8 b.toNat) ++ Array.replicate (grownCap w s.size 0 et - s.size) (.int .u8 0)
    have hcs : cs.size = grownCap w s.size 0 et := by
      have : s.data.size = s.size := rfl
      simp [cs, this]; omega
    have hs2 : sat w.drew A := sat_heap (w := w) rfl hs
    have h3 := sat_new (w := w.drew) (w' := w.drew.alloc (.cells cs et)) (o := .cells cs et) rfl hs2
    have hb : (w.drew.alloc (.cells cs et)).heap[w.heap.size]? = some (.cells cs et) := sat_pt h3
    refine ⟨sl (some w.heap.size) (bsS s).length (grownCap w s.size 0 et), World.freeze (w.drew.alloc (.cells cs et)) { block := w.heap.size, off := cs.size } 1, _, .inl ?_, ⟨w.heap.size, grownCap w s.size 0 et, rfl, rfl⟩, ?_, ?_⟩
    · have hsh : (w.drew.alloc (.cells cs et)).shape? w.heap.size = some (et, cs.size) := by
        unfold World.shape?
        rw [hb]
      rw [hml]
      have hsh2 := hsh
      simp only [cs, grownCap] at hsh2
      simp [hsh2, cs, execOp, hf.eval hx, convert, run_und ht, run_und ht', run_und he, Conv.stringToBytes, choose, Question.forced, newRow, markStringish, shape, freeze, Sem.run, Sem.run_bind, sl, grownCap]
    · unfold frA
      refine sat_ex.2 ⟨cs.toList, sat_and.2 ⟨⟨(encU .u8).len, by simp [hcs], by rw [hml]; exact hge, hcm, ?_⟩, ?_⟩⟩
      · rw [hml, Nat.mul_one]
        have e1 : (bsS s).flatMap (eU .u8 (w := 8)) = (s.data.map fun b => Value.int .u8 b.toNat).toList := by
          unfold bsS
          rw [List.flatMap_map]
          simp only [Array.toList_map]
          induction s.data.toList with
          | nil => rfl
          | cons x l ih => rw [List.flatMap_cons, ih]; rfl
        rw [e1]
        simp only [cs, Array.toList_append]
        exact List.take_left' (by simp <;> rfl)
      · refine sat_upd (b := w.drew.heap.size) (o := .cells cs et) ?_ (fun c hc x hx => ?_) h3
        · unfold World.freeze
          rw [if_neg (by omega)]
          have hb2 : (w.drew.alloc (.cells cs et)).heap[w.drew.heap.size]? = some (.cells cs et) := hb
          simp only [Array.getElem?_modify, hb2]
          simp
        · unfold World.freeze
          rw [if_neg (by omega)]
          simp only [Array.getElem?_modify]
          rw [if_neg (fun h => hc h.symm)]
          exact hx
    · refine ⟨?_, ?_, ?_, ?_, ?_⟩ <;> unfold World.freeze <;> rw [if_neg (by omega)] <;> simp <;> rfl
end Go.SL
/-
  Tags and parts in plain words: a tag's text, what parts it has, the bytes that are digested. (Conditions: none; no program in sight.)
-/
set_option maxRecDepth 20000
namespace Go.ShM
open Go.SL Go.RowKit
def W1 : ByteArray := ⟨#[115, 116, 114, 111, 110, 103, 114, 111, 111, 109, 32, 107, 101, 121]⟩
def W2 : ByteArray := ⟨#[115, 116, 114, 111, 110, 103, 114, 111, 111, 109, 32, 105, 110, 100, 101, 120]⟩
def W3 : ByteArray := ⟨#[115, 116, 114, 111, 110, 103, 114, 111, 111, 109, 32, 98, 108, 111, 99, 107]⟩
def W4 : ByteArray := ⟨#[115, 116, 114, 111, 110, 103, 114, 111, 111, 109, 32, 115, 101, 103, 109, 101, 110, 116]⟩
def W5 : ByteArray := ⟨#[115, 116, 114, 111, 110, 103, 114, 111, 111, 109, 32, 114, 111, 111, 116]⟩
def W6 : ByteArray := ⟨#[115, 116, 114, 111, 110, 103, 114, 111, 111, 109, 32, 110, 111, 100, 101]⟩
def W7 : ByteArray := ⟨#[115, 116, 114, 111, 110, 103, 114, 111, 111, 109, 32, 112, 97, 100]⟩
def W8 : ByteArray := ⟨#[115, 116, 114, 111, 110, 103, 114, 111, 111, 109, 32, 117, 101, 98]⟩
def W9 : ByteArray := ⟨#[115, 116, 114, 111, 110, 103, 114, 111, 111, 109, 32, 114, 105, 110, 103]⟩
def wordS (t : B8) : ByteArray := if t = 1#8 then W1 else if t = 2#8 then W2 else if t = 3#8 then W3 else if t = 4#8 then W4 else if t = 5#8 then W5 else if t = 6#8 then W6 else if t = 7#8 then W7 else if t = 8#8 then W8 else if t = 9#8 then W9 else ⟨#[]⟩
theorem wordS_size (t : B8) : (wordS t).size ≤ 18 := by
  unfold wordS
  repeat' split
  all_goals decide
/-- what a part's length must be -/
inductive Bd | any | most (n : Nat) (b : Nat) | just (n : Nat) (b : Nat)
def Bd.ok : Bd → Nat → Bool
  | .any, _ => true
  | .most n _, m => decide (m ≤ n)
  | .just n _, m => decide (m = n)
def fitL : List Bd → List Nat → Bool
  | [], [] => true
  | b :: bs, n :: ns => b.ok n && fitL bs ns
  | _, _ => false
def bnd (t : B8) : List Bd := if t = 1#8 then [.most 64 0, .just 6 0, .most 16777216 0] else if t = 2#8 then [.just 16 0] else if t = 5#8 then [.just 32 0] else if t = 6#8 then [.just 32 0, .just 32 0] else if t = 7#8 then [.just 4 0] else if t = 9#8 then [.just 16 0, .just 4 0] else [.any]
/-- one form of bound, whatever block it lies in -/
def Bd.kd : Bd → Bd
  | .any => .any
  | .most n _ => .most n 0
  | .just n _ => .just n 0
theorem Bd.ok_kd (b : Bd) (m : Nat) : b.kd.ok m = b.ok m := by cases b <;> rfl
theorem fitL_kd : ∀ (bs : List Bd) (ns : List Nat), fitL (bs.map Bd.kd) ns = fitL bs ns
  | [], [] => rfl
  | [], _ :: _ => rfl
  | _ :: _, [] => rfl
  | b :: bs, n :: ns => by simp only [List.map_cons, fitL, Bd.ok_kd, fitL_kd bs ns]
theorem fitL_len : ∀ {bs : List Bd} {ns : List Nat}, bs.length ≠ ns.length → fitL bs ns = false
  | [], [], h => absurd rfl h
  | [], _ :: _, _ => rfl
  | _ :: _, [], _ => rfl
  | b :: bs, n :: ns, h => by simp only [fitL, fitL_len (bs := bs) (ns := ns) (by simpa using h), Bool.and_false]
theorem fitL_take {bs : List Bd} {ns : List Nat} : ∀ {i : Nat} {b : Bd} {n : Nat}, bs[i]? = some b → ns[i]? = some n → fitL (bs.take (i + 1)) (ns.take (i + 1)) = (fitL (bs.take i) (ns.take i) && b.ok n) := by
  induction bs generalizing ns with
  | nil => intro i b n h; simp at h
  | cons x bs ih =>
    intro i b n h h'
    cases ns with
    | nil => simp at h'
    | cons y ns =>
      cases i with
      | zero => simp at h h'; subst h; subst h'; simp [fitL]
      | succ i =>
        simp at h h'
        have := ih (ns := ns) h h'
        simp only [List.take_succ_cons, fitL, this, Bool.and_assoc]
theorem fitL_drop {bs : List Bd} {ns : List Nat} : ∀ {i : Nat} {b : Bd} {n : Nat}, bs[i]? = some b → ns[i]? = some n → b.ok n = false → fitL bs ns = false := by
  induction bs generalizing ns with
  | nil => intro i b n h; simp at h
  | cons x bs ih =>
    intro i b n h h' hf
    cases ns with
    | nil => simp at h'
    | cons y ns =>
      cases i with
      | zero => simp at h h'; subst h; subst h'; simp [fitL, hf]
      | succ i => simp at h h'; simp [fitL, ih h h' hf]
def fitM (t : B8) (ns : List Nat) : Bool := fitL (bnd t) ns
/-- a part with its length ahead -/
def frm (l : List B8) : List B8 := big64 (BitVec.ofNat 64 l.length) ++ l
theorem frm_len (l : List B8) : (frm l).length = l.length + 8 := by simp [frm, big64_len]; omega
def frM (ls : List (List B8)) : List B8 := ls.flatMap frm
theorem frM_snoc (ls : List (List B8)) (l : List B8) : frM ls ++ frm l = frM (ls ++ [l]) := by simp [frM]
def lens (ls : List (List B8)) : List Nat := ls.map (·.length)
theorem frM_len : ∀ ls : List (List B8), (frM ls).length = ls.flatten.length + 8 * ls.length
  | [] => rfl
  | l :: ls => by
    have := frM_len ls
    simp only [frM, List.flatMap_cons, List.length_append, frm_len, List.flatten_cons, List.length_cons] at *
    omega
/-- the tagged bytes; nothing where there are none -/
def tagB (t : B8) (ls : List (List B8)) : List B8 := if (wordS t).size = 0 then [] else if fitM t (lens ls) then frM (bsS (wordS t) :: ls) else []
def tagE (t : B8) (ls : List (List B8)) : Nat := if (wordS t).size = 0 then 50 else if fitM t (lens ls) then 0 else 51
theorem bsS_le (t : B8) : (bsS (wordS t)).length ≤ 18 := by rw [bsS_len]; exact wordS_size t
end Go.ShM
namespace Go.ShM
open Go.SL
/-- the digest of a tag and parts; noughts where there is none -/
def tagD (t : B8) (ls : List (List B8)) : List B8 := if tagE t ls = 0 then dgM (tagB t ls) else List.replicate 32 0#8
theorem tagD_len (t : B8) (ls : List (List B8)) : (tagD t ls).length = 32 := by unfold tagD; split; exact dgM_len _; simp
theorem tagD_ok {t : B8} {ls : List (List B8)} (h : tagE t ls = 0) : tagD t ls = dgM (tagB t ls) := if_pos h
theorem tagD_no {t : B8} {ls : List (List B8)} (h : tagE t ls ≠ 0) : tagD t ls = List.replicate 32 0#8 := if_neg h
theorem tagB_len (t : B8) (ls : List (List B8)) : (tagB t ls).length ≤ ls.flatten.length + 8 * ls.length + 26 := by
  unfold tagB
  split
  · simp
  · split
    · rw [frM_len]
      have := bsS_le t
      simp only [List.flatten_cons, List.length_append, List.length_cons]; omega
    · simp
end Go.ShM
/-
  A fact as a thing owned; lists of lists of lists; a rule over what is owned said otherwise. (Conditions: none; generic over the program.)
-/
namespace Go.SL
open Go.RowKit Go.ShM
def pureA (p : Prop) : Asn := fun h => p ∧ ∀ b, h b = none
theorem sat_pure {p : Prop} {A : List Asn} {w : World} : sat w (pureA p :: A) ↔ p ∧ sat w A := by
  constructor
  · intro h
    obtain ⟨hp, h2⟩ := sat_and.1 h
    exact ⟨hp, sat_drop h2⟩
  · rintro ⟨hp, h⟩
    exact sat_and.2 ⟨hp, sat_emp h⟩
section
variable {P : Program} {m : Md} {ops : Array Oper} {Q : Exit → Act → World → Prop} {w0 : World} {n : Nat} {rest : List Oper} {L : List (Nat × Value)} {A R : List Asn} {c : Code} {p : Prop}
theorem WL_unp (p : Prop) (k : p → WL P m ops Q w0 n rest L R) (hE : Ext A (pureA p) R := by repeat (first | with_reducible exact Ext.here | with_reducible apply Ext.there)) : WL P m ops Q w0 n rest L A := fun a w hd hf hs hk =>
  let h := sat_pure.1 (sat_perm hE hs); k h.1 a w hd hf h.2 hk
theorem Ps_pure {K : Act → World → Prop} (hp : p) (k : Ps m K w0 n L (pureA p :: A)) : Ps m K w0 n L A := Ps_imp (fun _ h => sat_pure.2 ⟨hp, h⟩) k
theorem Ac.imp {o : Oper} {B : List Asn} {Rr : Value → List Asn → Prop} (h : Ac P n o L B Rr) (k : ∀ w, sat w A → sat w B) : Ac P n o L A Rr := fun r0 a w K Q hf hs hk => h r0 a w K Q hf (k w hs) hk
end
theorem frA_cap {α : Type} {b cap e : Nat} {T : TypeId} {f : α → List Value} {l : List α} {A : List Asn} {w : World} (h : Has A (frA b cap e T f l)) (hs : sat w A) : l.length ≤ cap := by
  obtain ⟨R, p⟩ := h
  have := sat_perm p hs
  unfold frA at this
  obtain ⟨cur, h1⟩ := sat_ex.1 this
  exact (sat_and.1 h1).1.2.2.1
/-- a list of lists of bytes, as a thing in a list -/
structure PPt where
  l : List Pt
  ao : Option Addr
  cap : Nat
def PPt.v (p : PPt) : Value := .slice p.ao p.l.length p.cap
def fPP (p : PPt) : List Value := [p.v]
theorem encPP : Enc fPP 1 := ⟨fun _ => rfl, fun x v hv => by simp [fPP, PPt.v] at hv; subst hv; rfl⟩
def catP (ps : List PPt) : List Pt := ps.flatMap (·.l)
theorem catP_take {ps : List PPt} {i : Nat} {p : PPt} (h : ps[i]? = some p) : catP (ps.take i) ++ p.l = catP (ps.take (i + 1)) := by
  unfold catP
  rw [List.take_add_one, h, List.flatMap_append]; simp
theorem catP_len {ps : List PPt} {i : Nat} {p : PPt} (h : ps[i]? = some p) : (catP (ps.take i)).length + p.l.length = (catP (ps.take (i + 1))).length := by rw [← catP_take h, List.length_append]
theorem catP_le (ps : List PPt) (i : Nat) : (catP (ps.take i)).length ≤ (catP ps).length := by
  have h : catP ps = catP (ps.take i) ++ catP (ps.drop i) := by unfold catP; rw [← List.flatMap_append, List.take_append_drop]
  rw [h, List.length_append]; omega
theorem catP_all {ps : List PPt} {i : Nat} (h : ps.length ≤ i) : catP (ps.take i) = catP ps := by rw [List.take_of_length_le h]
end Go.SL
/-
  A word array handed back with a second result; a whole array as a slice. (Conditions: none; generic over the program.)
-/
namespace Go.SL
open Go.RowKit
section
variable {P : Program} {n : Nat} {L : List (Nat × Value)} {A : List Asn} {d : Option Tmp} {ty : TypeId} {pos' : String} {af : Array Edge} {g : Option (Nat × Bool)} {t : TypeId} {x y : Operand} {k : IntKind} {w : Nat}
theorem Rs2cW {fn : Func} {q u : Nat} {tq : TypeId} {b m cap : Nat} {T : TypeId} {l : List (BitVec w)} {v : Value} (hr : fn.results = #[.cell q tq, .tmp u]) (h : look L q = some (.pointer (some ⟨b, 0, none⟩))) (h' : look L u = some v) (ht : tk P tq = some (some m))
    (hA : Has A (arr (some b) cap 1 T (eU k) l) := by repeat (first | with_reducible exact Has.here | with_reducible refine Has.there ?_)) (hm : l.length = m := by first | with_reducible assumption | omega | (simp only [List.length_replicate] <;> omega)) : Rs P fn n L A (.tuple #[aU k l, v]) := fun a W hf hs => by
  have e := getD_of_look hf h
  have e' := getD_of_look hf h'
  obtain ⟨cur, ⟨hfe, hcl, hle, _, htk⟩, hb⟩ := arr_open hA hs
  have := run_loadVar_ag (P := P) ht (i := 0) hb (by simp; omega)
  simp only [results, hr, List.mapM_toArray, List.mapM_cons, List.mapM_nil, Sem.run_bind, Sem.run_map, e, e', asAddr, Sem.run_pure, Result.andThen_ok, this]
  have h2 := cur_flat (m := m) hfe htk (by omega)
  unfold aU
  simp [← h2]
theorem Rd_valE {o : Oper} {u v : Value} (h : Rd P n o L A u) (e : u = v) : Rd P n o L A v := e ▸ h
theorem Rd_sliceA0 {et : TypeId} {b len : Nat} (hx : ev L x = some (.pointer (some ⟨b, 0, none⟩))) (hu : P.underlying t = some (.array len et)) (hz : sz P et = some 1) (h0 : 0 < len := by omega) :
    Rd P n ⟨d, .slice t x none none none, ty, pos', af, g⟩ L A (sl (some b) len len) := fun a W hf hs => by
  simp [execOp, hf.eval hx, Instr.sliceAt, Instr.sureAddr, run_und hu, Instr.sliceBounds, Instr.sliceBound, run_size hz, add_off, sl, Addr.add]
end
end Go.SL
/-
  Tagged bytes tell the tag and the parts. (Conditions: lengths below two to the sixty-fourth; no program in sight.)
-/
set_option maxRecDepth 20000
namespace Go.ShM
open Go.SL
theorem frM_cons (l : List B8) (ls : List (List B8)) : frM (l :: ls) = frm l ++ frM ls := rfl
theorem word_tags {t : B8} (h : ¬ (wordS t).size = 0) : t = 1#8 ∨ t = 2#8 ∨ t = 3#8 ∨ t = 4#8 ∨ t = 5#8 ∨ t = 6#8 ∨ t = 7#8 ∨ t = 8#8 ∨ t = 9#8 := by
  unfold wordS at h
  repeat' split at h
  all_goals first | (simp only [*, true_or, or_true]; done) | exact absurd rfl h
end Go.ShM
namespace Go.ShM
open Go.SL
/-! ### the document's tests -/
theorem fitM_1 {t : B8} {ns : List Nat} (h : t = 1#8) : fitM t ns = (decide (ns.length = 3) && (decide (ns.getD 0 0 ≤ 64) && (decide (ns.getD 1 0 = 6) && decide (ns.getD 2 0 ≤ 16777216)))) := by
  subst h
  match ns with
  | [] => rfl
  | [_] => simp [fitM, bnd, fitL]
  | [_, _] => simp [fitM, bnd, fitL]
  | [_, _, _] => simp [fitM, bnd, fitL, Bd.ok]
  | _ :: _ :: _ :: _ :: _ => simp [fitM, bnd, fitL]
theorem fit_one {t : B8} {ns : List Nat} {k : Nat} (h : bnd t = [.just k 0]) : fitM t ns = (decide (ns.length = 1) && decide (ns.getD 0 0 = k)) := by
  unfold fitM; rw [h]
  match ns with
  | [] => rfl
  | [_] => simp [fitL, Bd.ok]
  | _ :: _ :: _ => simp [fitL]
theorem fit_two {t : B8} {ns : List Nat} {k j : Nat} (h : bnd t = [.just k 0, .just j 0]) : fitM t ns = (decide (ns.length = 2) && (decide (ns.getD 0 0 = k) && decide (ns.getD 1 0 = j))) := by
  unfold fitM; rw [h]
  match ns with
  | [] => rfl
  | [_] => simp [fitL]
  | [_, _] => simp [fitL, Bd.ok]
  | _ :: _ :: _ :: _ => simp [fitL]
theorem fit_any {t : B8} {ns : List Nat} (h : bnd t = [.any]) : fitM t ns = decide (ns.length = 1) := by
  unfold fitM; rw [h]
  match ns with
  | [] => rfl
  | [_] => simp [fitL, Bd.ok]
  | _ :: _ :: _ => simp [fitL]
theorem fitM_2 {t : B8} {ns : List Nat} (h : t = 2#8) : fitM t ns = (decide (ns.length = 1) && decide (ns.getD 0 0 = 16)) := fit_one (by subst h; rfl)
theorem fitM_5 {t : B8} {ns : List Nat} (h : t = 5#8) : fitM t ns = (decide (ns.length = 1) && decide (ns.getD 0 0 = 32)) := fit_one (by subst h; rfl)
theorem fitM_7 {t : B8} {ns : List Nat} (h : t = 7#8) : fitM t ns = (decide (ns.length = 1) && decide (ns.getD 0 0 = 4)) := fit_one (by subst h; rfl)
theorem fitM_6 {t : B8} {ns : List Nat} (h : t = 6#8) : fitM t ns = (decide (ns.length = 2) && (decide (ns.getD 0 0 = 32) && decide (ns.getD 1 0 = 32))) := fit_two (by subst h; rfl)
theorem fitM_9 {t : B8} {ns : List Nat} (h : t = 9#8) : fitM t ns = (decide (ns.length = 2) && (decide (ns.getD 0 0 = 16) && decide (ns.getD 1 0 = 4))) := fit_two (by subst h; rfl)
theorem fitM_o {t : B8} {ns : List Nat} (h : t = 3#8 ∨ t = 4#8 ∨ t = 8#8) : fitM t ns = decide (ns.length = 1) := fit_any (by rcases h with h | h | h <;> subst h <;> rfl)
theorem tag_rest {t : B8} (h : ¬ (wordS t).size = 0) (h1 : ¬ t = 1#8) (h2 : ¬ t = 2#8) (h3 : ¬ t = 3#8) (h4 : ¬ t = 4#8) (h8 : ¬ t = 8#8) (h5 : ¬ t = 5#8) (h6 : ¬ t = 6#8) (h7 : ¬ t = 7#8) : t = 9#8 := by
  rcases word_tags h with e | e | e | e | e | e | e | e | e <;> first | exact e | exact absurd e (by assumption)
/-! ### numbers as bytes -/
def bigN (n : Nat) (x : B64) (q : Nat) : List B8 := (List.range q).map fun i => (x >>> (8 * (n - 1 - i))).setWidth 8
theorem bigN_succ (n : Nat) (x : B64) (q : Nat) : bigN n x q ++ [(x >>> (8 * (n - 1 - q))).setWidth 8] = bigN n x (q + 1) := by simp [bigN, List.range_succ]
theorem bigN_len (n : Nat) (x : B64) (q : Nat) : (bigN n x q).length = q := by simp [bigN]
theorem bigN_8 (x : B64) : bigN 8 x 8 = big64 x := by rw [← bigR_8]; rfl
theorem bigN_4 (x : B32) : bigN 4 (x.setWidth 64) 4 = big32 x := by
  rw [big32_eq, ← shw, ← shw, ← shw, ← shw]; rfl
end Go.ShM
