/-
  Contracts of functions that the claim reaches, or the logic and the plain laws that they rest on, or the row over them. (Conditions: none beyond the statement.)
-/
import Derived.Test.YtlcafifjhilleaaLibC
set_option linter.all false
/-
  Tagged bytes, read: the parts one behind the other, the tag by its text. (Conditions: none; no program in sight.)
-/
set_option maxRecDepth 20000
namespace Go.ShM
open Go.SL
def stp (x : B64) (b : B8) : B64 := (x <<< 8) ||| b.setWidth 64
def smM (l : List B8) : B64 := l.foldl stp 0#64
theorem smM_snoc {l : List B8} {i : Nat} (h : i < l.length) : stp (smM (l.take i)) (l.getD i 0#8) = smM (l.take (i + 1)) := by
  unfold smM
  rw [List.take_succ_eq_append_getElem h, List.foldl_append, List.getD_eq_getElem?_getD, List.getElem?_eq_getElem h]
  rfl
theorem stp_nat {x : B64} {b : B8} (h : x.toNat < 72057594037927936) : (stp x b).toNat = x.toNat * 256 + b.toNat := by
  unfold stp
  have hb := b.isLt
  rw [BitVec.toNat_or, BitVec.toNat_shiftLeft, BitVec.toNat_setWidth, Nat.mod_eq_of_lt (a := b.toNat) (by omega), Nat.shiftLeft_eq, Nat.mod_eq_of_lt (by omega), ← Nat.shiftLeft_eq, ← Nat.shiftLeft_add_eq_or_of_lt (by omega), Nat.shiftLeft_eq]
theorem stp_mul (x : B64) (b : B8) : x * 256#64 + b.setWidth 64 = stp x b := by
  apply BitVec.eq_of_toNat_eq
  unfold stp
  have hb := b.isLt
  have hx := x.isLt
  rw [BitVec.toNat_or, BitVec.toNat_shiftLeft, BitVec.toNat_setWidth, BitVec.toNat_add, BitVec.toNat_mul, BitVec.toNat_setWidth, Nat.mod_eq_of_lt (a := b.toNat) (by omega)]
  have e : x.toNat <<< 8 % 2 ^ 64 = (x.toNat % 72057594037927936) <<< 8 := by rw [Nat.shiftLeft_eq, Nat.shiftLeft_eq]; omega
  rw [e, ← Nat.shiftLeft_add_eq_or_of_lt (by omega), Nat.shiftLeft_eq]
  simp only [BitVec.toNat_ofNat]
  omega
theorem smM_8 (a b c d e f g h : B8) : (smM [a, b, c, d, e, f, g, h]).toNat = ((((((a.toNat * 256 + b.toNat) * 256 + c.toNat) * 256 + d.toNat) * 256 + e.toNat) * 256 + f.toNat) * 256 + g.toNat) * 256 + h.toNat := by
  have ha := a.isLt; have hb := b.isLt; have hc := c.isLt; have hd := d.isLt; have he := e.isLt; have hf := f.isLt; have hg := g.isLt
  have e1 : (stp 0#64 a).toNat = a.toNat := by rw [stp_nat (by decide)]; simp
  have e2 : (stp (stp 0#64 a) b).toNat = a.toNat * 256 + b.toNat := by rw [stp_nat (by omega), e1]
  have e3 : (stp (stp (stp 0#64 a) b) c).toNat = (a.toNat * 256 + b.toNat) * 256 + c.toNat := by rw [stp_nat (by omega), e2]
  have e4 : (stp (stp (stp (stp 0#64 a) b) c) d).toNat = ((a.toNat * 256 + b.toNat) * 256 + c.toNat) * 256 + d.toNat := by rw [stp_nat (by omega), e3]
  have e5 : (stp (stp (stp (stp (stp 0#64 a) b) c) d) e).toNat = (((a.toNat * 256 + b.toNat) * 256 + c.toNat) * 256 + d.toNat) * 256 + e.toNat := by rw [stp_nat (by omega), e4]
  have e6 : (stp (stp (stp (stp (stp (stp 0#64 a) b) c) d) e) f).toNat = ((((a.toNat * 256 + b.toNat) * 256 + c.toNat) * 256 + d.toNat) * 256 + e.toNat) * 256 + f.toNat := by rw [stp_nat (by omega), e5]
  have e7 : (stp (stp (stp (stp (stp (stp (stp 0#64 a) b) c) d) e) f) g).toNat = (((((a.toNat * 256 + b.toNat) * 256 + c.toNat) * 256 + d.toNat) * 256 + e.toNat) * 256 + f.toNat) * 256 + g.toNat := by rw [stp_nat (by omega), e6]
  show (stp (stp (stp (stp (stp (stp (stp (stp 0#64 a) b) c) d) e) f) g) h).toNat = _
  rw [stp_nat (by omega), e7]
theorem big_sm {l : List B8} (hl : l.length = 8) : big64 (smM l) = l := by
  match l, hl with
  | [a, b, c, d, e, f, g, h], _ =>
    have hn := smM_8 a b c d e f g h
    have ha := a.isLt; have hb := b.isLt; have hc := c.isLt; have hd := d.isLt; have he := e.isLt; have hf := f.isLt; have hg := g.isLt; have hh := h.isLt
    rw [big64_eq]
    generalize smM [a, b, c, d, e, f, g, h] = x at hn
    have k : ∀ (q : Nat) (y : B8), x.toNat / 2 ^ q % 256 = y.toNat → (x >>> q).setWidth 8 = y := fun q y hq => by
      apply BitVec.eq_of_toNat_eq
      rw [BitVec.toNat_setWidth, BitVec.toNat_ushiftRight, Nat.shiftRight_eq_div_pow]
      exact hq
    rw [k 56 a (by omega), k 48 b (by omega), k 40 c (by omega), k 32 d (by omega), k 24 e (by omega), k 16 f (by omega), k 8 g (by omega), k 0 h (by omega)]
/-- the part that stands at a place -/
def stepM (b : List B8) (i : Nat) : Option (List B8) :=
  if b.length < i + 8 then none else if b.length - i - 8 < (smM ((b.drop i).take 8)).toNat then none else some ((b.drop (i + 8)).take (smM ((b.drop i).take 8)).toNat)
theorem stepM_some {b : List B8} {i : Nat} {l : List B8} (h : stepM b i = some l) : i + 8 + l.length ≤ b.length ∧ b.take i ++ frm l = b.take (i + 8 + l.length) := by
  unfold stepM at h
  split at h
  · cases h
  · rename_i h1
    split at h
    · cases h
    · rename_i h2
      have hl : l.length = (smM ((b.drop i).take 8)).toNat := by
        rw [Option.some.injEq] at h
        rw [← h, List.length_take, List.length_drop]; omega
      refine ⟨by omega, ?_⟩
      rw [Option.some.injEq, ← hl] at h
      have h8 : ((b.drop i).take 8).length = 8 := by rw [List.length_take, List.length_drop]; omega
      have e1 : big64 (BitVec.ofNat 64 l.length) = (b.drop i).take 8 := by
        rw [hl, BitVec.ofNat_toNat, BitVec.setWidth_eq]; exact big_sm h8
      unfold frm
      rw [e1, List.take_add (i := i + 8), List.take_add (i := i) (j := 8), h, List.append_assoc]
/-- the parts from a place on; the place of a fault -/
def unM (b : List B8) : Nat → Nat → List (List B8) → List (List B8) ⊕ Nat
  | 0, i, _ => .inr i
  | k + 1, i, ps => if i < b.length then match stepM b i with
      | none => .inr i
      | some l => unM b k (i + 8 + l.length) (ps ++ [l])
    else .inl ps
theorem unM_ok {b : List B8} : ∀ {k i : Nat} {ps qs : List (List B8)}, unM b k i ps = .inl qs → frM ps = b.take i → frM qs = b
  | 0, i, ps, qs, h, _ => by cases h
  | k + 1, i, ps, qs, h, hp => by
    unfold unM at h
    split at h
    · split at h
      · cases h
      · rename_i l hs
        have := stepM_some hs
        exact unM_ok h (by rw [← frM_snoc, hp, this.2])
    · rename_i hi
      cases h
      rw [hp, List.take_of_length_le (by omega)]
def rdF (b : List B8) : List (List B8) ⊕ Nat := unM b (b.length + 1) 0 []
/-- one step of the loop -/
theorem unM_step {b : List B8} {k i : Nat} {ps : List (List B8)} {l : List B8} (hi : i < b.length) (hs : stepM b i = some l) (hk : b.length < k + i) : unM b k i ps = unM b (k - 1) (i + 8 + l.length) (ps ++ [l]) := by
  cases k with
  | zero => omega
  | succ k => rw [unM, if_pos hi, hs]; rfl
theorem unM_bad {b : List B8} {k i : Nat} {ps : List (List B8)} (hi : i < b.length) (hs : stepM b i = none) (hk : b.length < k + i) : unM b k i ps = .inr i := by
  cases k with
  | zero => omega
  | succ k => rw [unM, if_pos hi, hs]
theorem unM_end {b : List B8} {k i : Nat} {ps : List (List B8)} (hi : ¬ i < b.length) (hk : b.length < k + i) : unM b k i ps = .inl ps ∨ k = 0 := by
  cases k with
  | zero => exact .inr rfl
  | succ k => left; rw [unM, if_neg hi]
/-- the tag of a text -/
noncomputable def byW (w : List B8) : Option B8 := by
  classical
  exact if h : ∃ t : Nat, (1 ≤ t ∧ t ≤ 9) ∧ bsS (wordS (BitVec.ofNat 8 t)) = w then some (BitVec.ofNat 8 (Classical.choose h)) else none
theorem word_ne {t : Nat} (h : 1 ≤ t ∧ t ≤ 9) : ¬ (wordS (BitVec.ofNat 8 t)).size = 0 := by
  rcases (show t = 1 ∨ t = 2 ∨ t = 3 ∨ t = 4 ∨ t = 5 ∨ t = 6 ∨ t = 7 ∨ t = 8 ∨ t = 9 by omega) with e | e | e | e | e | e | e | e | e <;> subst e <;> decide
theorem byW_of {w : List B8} {t : Nat} (h : 1 ≤ t ∧ t ≤ 9) (e : bsS (wordS (BitVec.ofNat 8 t)) = w) : byW w = some (BitVec.ofNat 8 t) := by
  unfold byW
  have hx : ∃ t : Nat, (1 ≤ t ∧ t ≤ 9) ∧ bsS (wordS (BitVec.ofNat 8 t)) = w := ⟨t, h, e⟩
  rw [dif_pos hx]
  obtain ⟨h1, h2⟩ := Classical.choose_spec hx
  exact congrArg some (word_inj (word_ne h1) (word_ne h) (h2.trans e.symm))
theorem byW_no {w : List B8} (h : ∀ t : Nat, 1 ≤ t → t ≤ 9 → bsS (wordS (BitVec.ofNat 8 t)) ≠ w) : byW w = none := by
  unfold byW
  rw [dif_neg (fun ⟨t, ⟨h1, h2⟩, e⟩ => h t h1 h2 e)]
theorem byW_some {w : List B8} {t : B8} (h : byW w = some t) : ¬ (wordS t).size = 0 ∧ bsS (wordS t) = w := by
  unfold byW at h
  split at h
  · rename_i hx
    obtain ⟨h1, h2⟩ := Classical.choose_spec hx
    rw [Option.some.injEq] at h
    subst h
    exact ⟨word_ne h1, h2⟩
  · cases h
/-- what is read -/
noncomputable def rdM (b : List B8) : B8 × List (List B8) × Nat × Nat := match rdF b with
  | .inr i => (0#8, [], i, 52)
  | .inl [] => (0#8, [], 0, 52)
  | .inl (w :: ps) => match byW w with
    | none => (0#8, [], 0, 50)
    | some t => if fitM t (lens ps) then (t, ps, 0, 0) else (0#8, [], 0, 51)
theorem rdM_fault {b : List B8} {i : Nat} (h : rdF b = .inr i) : rdM b = (0#8, [], i, 52) := by unfold rdM; rw [h]
theorem rdM_nil {b : List B8} (h : rdF b = .inl []) : rdM b = (0#8, [], 0, 52) := by unfold rdM; rw [h]
theorem rdM_no {b w : List B8} {ps : List (List B8)} (h : rdF b = .inl (w :: ps)) (h2 : byW w = none) : rdM b = (0#8, [], 0, 50) := by unfold rdM; simp only [h, h2]
theorem rdM_yes {b w : List B8} {ps : List (List B8)} {t : B8} (h : rdF b = .inl (w :: ps)) (h2 : byW w = some t) (h3 : fitM t (lens ps) = true) : rdM b = (t, ps, 0, 0) := by unfold rdM; simp only [h, h2, h3]; rfl
theorem rdM_unfit {b w : List B8} {ps : List (List B8)} {t : B8} (h : rdF b = .inl (w :: ps)) (h2 : byW w = some t) (h3 : fitM t (lens ps) = false) : rdM b = (0#8, [], 0, 51) := by unfold rdM; simp only [h, h2, h3]; rfl
/-- what is read was written -/
theorem rd_wrote {b : List B8} (h : (rdM b).2.2.2 = 0) : tagE (rdM b).1 (rdM b).2.1 = 0 ∧ tagB (rdM b).1 (rdM b).2.1 = b := by
  cases hF : rdF b with
  | inr i => rw [rdM_fault hF] at h; cases h
  | inl qs =>
    cases qs with
    | nil => rw [rdM_nil hF] at h; cases h
    | cons w ps =>
      cases hw : byW w with
      | none => rw [rdM_no hF hw] at h; cases h
      | some t =>
        cases hf : fitM t (lens ps) with
        | false => rw [rdM_unfit hF hw hf] at h; cases h
        | true =>
          rw [rdM_yes hF hw hf]
          obtain ⟨h1, h2⟩ := byW_some hw
          have hb := unM_ok hF rfl
          unfold tagE tagB
          rw [if_neg h1, if_neg h1, hf]
          exact ⟨rfl, by rw [if_pos rfl, h2]; exact hb⟩
theorem rd_err {b : List B8} (h : (rdM b).2.2.2 ≠ 0) : (rdM b).1 = 0#8 ∧ (rdM b).2.1 = [] := by
  unfold rdM at h ⊢
  split at h <;> try exact ⟨rfl, rfl⟩
  split at h <;> try exact ⟨rfl, rfl⟩
  split at h
  · exact absurd rfl h
  · rename_i h3; simp only [h3]; exact ⟨rfl, rfl⟩
/-- a number of eight bytes, 0 where there are fewer -/
def lgM (r : List B8) : B64 := if r.length < 8 then 0#64 else smM (r.take 8)
def lfM (ft : Bool) (n : Nat) : Nat := if ft = true then 0 else n
theorem lgM_no {r : List B8} (h : r.length < 8) : lgM r = 0#64 := if_pos h
theorem lgM_ok {r : List B8} (h : 8 ≤ r.length) : lgM r = smM (r.take 8) := if_neg (by omega)
theorem stepM_short {b : List B8} {i : Nat} (h : b.length < i + 8) : stepM b i = none := if_pos h
theorem stepM_long {b : List B8} {i : Nat} (h : i + 8 ≤ b.length) (h2 : b.length - i - 8 < (smM ((b.drop i).take 8)).toNat) : stepM b i = none := by
  unfold stepM; rw [if_neg (by omega), if_pos h2]
theorem stepM_yes {b : List B8} {i : Nat} (h : i + 8 ≤ b.length) (h2 : (smM ((b.drop i).take 8)).toNat ≤ b.length - i - 8) : stepM b i = some (((b.drop i).drop 8).take (smM ((b.drop i).take 8)).toNat) := by
  unfold stepM; rw [if_neg (by omega), if_neg (by omega), List.drop_drop]
theorem rd_lens {b : List B8} (h : (rdM b).2.2.2 = 0) : (rdM b).2.1.flatten.length ≤ b.length ∧ (rdM b).2.1.length ≤ b.length := by
  obtain ⟨h1, h2⟩ := rd_wrote h
  obtain ⟨_, _, h3⟩ := tagE0 h1
  have := congrArg List.length (h2.symm.trans h3)
  rw [frM_len] at this
  simp only [List.flatten_cons, List.length_append, List.length_cons] at this
  omega
end Go.ShM
