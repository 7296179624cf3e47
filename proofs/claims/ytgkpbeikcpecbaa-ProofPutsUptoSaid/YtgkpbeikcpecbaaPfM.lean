/-
  Contracts of functions that the claim reaches, or the logic and the plain laws that they rest on, or the row over them. (Conditions: none beyond the statement.)
-/
import Derived.Test.YtgkpbeikcpecbaaTrArg
import Derived.Test.YtgkpbeikcpecbaaPfL
import Derived.Test.YtgkpbeikcpecbaaTrClimb
import Derived.Test.YtgkpbeikcpecbaaShA
import Derived.Test.YtgkpbeikcpecbaaTrLeaves
import Derived.Test.YtgkpbeikcpecbaaLibA
set_option linter.all false
/-
  What is handed in: lists of nodes. (Conditions: none; generic over the program.)
-/
set_option linter.all false
namespace Go.ShM
open Go.SL Go.RowKit Go.ChangeShapes Go.WideShapes
section
variable {H : Type} {enc : TypeId × Value → H} {P : Program} {W : World} {base : Nat} {sp : Nat → Bool} {hd : Bool}
def okN (x : Nd) : Prop := -9223372036854775808 ≤ x.1 ∧ x.1 ≤ 9223372036854775807
theorem el_nd {m : DataW H → Nat} (hm : Meas m) {t : TypeId} {n : Nat} (hk : cks P n t = some [.int .i64, .ints .u8 32]) : ∀ n' c y, DataW.trod enc P W base sp hd n' t c = some y → ∃ x : Nd, c = eND x ∧ okN x := fun n' c y h => by
  have hf := cks_fits (N := m y.1) hm n t _ n' c y hk h (Nat.le_refl _)
  simp only [Fits] at hf
  obtain ⟨i, cs1, rfl, hi, l, cs', rfl, ⟨hl, hw⟩, rfl⟩ := hf
  refine ⟨(i, ⟨l.map (BitVec.ofInt 8), by simpa using hl⟩), ?_, ?_⟩
  · rw [List.append_nil]
    show _ = Value.int .i64 i :: fD _
    rw [words_of l hw]; rfl
  · simp [Lit.wf, IntKind.min, IntKind.max, IntKind.signed, IntKind.bits] at hi
    exact ⟨by show _ ≤ i; omega, by show i ≤ _; omega⟩
end
end Go.ShM
/-
  All that is known is proved up to the root. Plain: no program in sight. (Conditions: none.)
-/
set_option linter.all false
namespace Go.ShM
open Go.SL
abbrev nt (a : Nat) : Int := ((a : Nat) : Int)
/-- what is known of a node is what its children make -/
def Made (K : KM) (i : Nat) : Prop := ∃ l r, K (nt (2 * i)) = some l ∧ K (nt (2 * i + 1)) = some r ∧ K (nt i) = some (nodeD l r)
/-- what is known and was not known from the beginning on has a known brother and a known parent, of the right digest -/
def Snd (w : Nat) (F K : KM) : Prop := ∀ t : Nat, 2 ≤ t → t < 2 * w → (K (nt t)).isSome = true → F (nt t) = none → Made K (t / 2)
theorem Made.le {K K' : KM} {i : Nat} (h : Made K i) (hl : LeK K K') : Made K' i := by
  obtain ⟨l, r, a, b, c⟩ := h
  exact ⟨l, r, hl _ _ a, hl _ _ b, hl _ _ c⟩
theorem half_cases (t : Nat) : t = 2 * (t / 2) ∨ t = 2 * (t / 2) + 1 := by omega
theorem xor_half (t : Nat) : (t = 2 * (t / 2) → t ^^^ 1 = 2 * (t / 2) + 1) ∧ (t = 2 * (t / 2) + 1 → t ^^^ 1 = 2 * (t / 2)) := by
  constructor
  · intro h; rw [xor1, if_pos (by omega)]; omega
  · intro h; rw [xor1, if_neg (by omega)]; omega
/-! ### two proofs of one root -/
def Dif (K K' : KM) (u : Nat) : Prop := (K (nt u)).isSome = true ∧ (K' (nt u)).isSome = true ∧ (K (nt u)).getD zD ≠ (K' (nt u)).getD zD
theorem Made.is {K : KM} {i : Nat} (h : Made K i) : (K (nt (2 * i))).isSome = true ∧ (K (nt (2 * i + 1))).isSome = true ∧ (K (nt i)).isSome = true ∧ nodeD ((K (nt (2 * i))).getD zD) ((K (nt (2 * i + 1))).getD zD) = (K (nt i)).getD zD := by
  obtain ⟨l, r, a, b, c⟩ := h
  rw [a, b, c]; exact ⟨rfl, rfl, rfl, rfl⟩
theorem Dif.two {F K K' : KM} {u : Nat} (h : Dif K K' u) (h1 : 1 ≤ u) (hr : K 1 = K' 1) : 2 ≤ u := by
  rcases (show u = 1 ∨ 2 ≤ u from by omega) with q | q
  · subst q; exact absurd (by rw [show nt 1 = 1 from rfl, hr]) h.2.2
  · exact q
theorem Dif.none {F K K' : KM} {u : Nat} (h : Dif K K' u) (hK : LeK F K) (hK' : LeK F K') : F (nt u) = none := by
  cases e : F (nt u) with
  | none => rfl
  | some d => exact absurd (by rw [hK _ _ e, hK' _ _ e]) h.2.2
theorem Dif.up {w : Nat} {F K K' : KM} {u : Nat} (h : Dif K K' u) (h2 : 2 ≤ u) (hw : u < 2 * w) (hK : LeK F K) (hK' : LeK F K') (s : Snd w F K) (s' : Snd w F K') :
    Made K (u / 2) ∧ Made K' (u / 2) ∧ ¬ ((K (nt (2 * (u / 2)))).getD zD = (K' (nt (2 * (u / 2)))).getD zD ∧ (K (nt (2 * (u / 2) + 1))).getD zD = (K' (nt (2 * (u / 2) + 1))).getD zD) := by
  have hn := h.none hK hK'
  refine ⟨s u h2 hw h.1 hn, s' u h2 hw h.2.1 hn, fun ⟨a, b⟩ => ?_⟩
  rcases half_cases u with q | q
  · rw [← q] at a; exact h.2.2 a
  · rw [← q] at b; exact h.2.2 b
end Go.ShM
/-
  What is known from the beginning on; from a leaf up to the root. Plain: no program in sight. (Conditions: none.)
-/
set_option linter.all false
namespace Go.ShM
open Go.SL
/-- a node over a leaf that is none of the pads -/
def Anc (n w t : Nat) : Prop := ∃ k i, i < n ∧ t = (w + i) / 2 ^ k
theorem Anc.leaf {n w i : Nat} (h : i < n) : Anc n w (w + i) := ⟨0, i, h, by simp⟩
/-! ### beside, and above -/
end Go.ShM
/-
  Lists of lists of nodes that were handed in; what put leaves behind. (Conditions: none; no program in sight.)
-/
set_option maxRecDepth 20000
namespace Go.ShM
open Go.SL Go.RowKit Go.ChangeShapes Go.WideShapes
/-! ### what put knows behind -/
theorem put1_has {w : Nat} : ∀ (l : List Nd) (K : KM) (fr : List Nat), LeK K (put1 w K l fr).2.1 ∧ ((put1 w K l fr).1 = 0 → ∀ x ∈ l, (put1 w K l fr).2.1 x.1 = some x.2)
  | [], K, fr => ⟨LeK.refl K, fun _ x h => by cases h⟩
  | x :: l, K, fr => by
    by_cases h : x.1 < 1 ∨ 2 * (w : Int) - 1 < x.1
    · rw [put1_bad h]; exact ⟨LeK.refl K, fun h0 => by cases h0⟩
    · cases e : K x.1 with
      | none =>
        rw [put1_new h (by rw [e]; rfl)]
        obtain ⟨h1, h2⟩ := put1_has l (kset K x.1 x.2) (fr ++ [x.1.toNat])
        refine ⟨fun t d hd => h1 t d ?_, fun h0 y hy => ?_⟩
        · rw [kset_ne K x.2 (by rintro rfl; rw [e] at hd; cases hd)]; exact hd
        · rcases List.mem_cons.1 hy with rfl | hy
          · exact h1 _ _ (kset_eq K _ _)
          · exact h2 h0 y hy
      | some d =>
        by_cases he : d = x.2
        · rw [put1_old h (by rw [e]; rfl) (by rw [e]; exact he)]
          obtain ⟨h1, h2⟩ := put1_has l K fr
          refine ⟨h1, fun h0 y hy => ?_⟩
          rcases List.mem_cons.1 hy with rfl | hy
          · exact h1 _ _ (by rw [e, he])
          · exact h2 h0 y hy
        · rw [put1_oth h (by rw [e]; rfl) (by rw [e]; exact he)]; exact ⟨LeK.refl K, fun h0 => by cases h0⟩
/-! ### a list of nodes that was handed in -/
structure NQ where
  l : List Nd
  ao : Option Addr
  cap : Nat
def NQ.v (q : NQ) : Value := .slice q.ao q.l.length q.cap
section
variable {H : Type} {enc : TypeId × Value → H} {P : Program} {W : World} {base : Nat} {sp : Nat → Bool} {hd : Bool}
end
end Go.ShM
/-
  Of the nodes of a whole tree none is refused, and what Needs tells is just enough. Plain: no program in sight. (Conditions: none.)
-/
set_option maxRecDepth 20000
set_option linter.all false
namespace Go.ShM
open Go.SL
abbrev kn (K : KM) (t : Nat) : Prop := (K (nt t)).isSome = true
def Tru (T : Nat → Dg) (K : KM) : Prop := ∀ (t : Nat) d, K (nt t) = some d → d = T t
def Clo (w : Nat) (K : KM) : Prop := ∀ i, 1 ≤ i → i < w → kn K (2 * i) → kn K (2 * i + 1) → kn K i
theorem nt_inj {a b : Nat} (h : nt a = nt b) : a = b := by simp only [nt] at h; omega
theorem Tru.set {T : Nat → Dg} {K : KM} {a : Nat} {d : Dg} (h : Tru T K) (e : d = T a) : Tru T (kset K (nt a) d) := fun t x hx => by
  by_cases q : t = a
  · subst q; rw [kset_eq] at hx; rw [← e]; exact (Option.some.inj hx).symm
  · rw [kset_ne K d (fun h => q (nt_inj h))] at hx; exact h t x hx
/-! ### a proof as it was made -/
/-! ### the way up from a leaf -/
def Upw (L a : Nat) : Prop := ∃ k, a = L / 2 ^ k
theorem Upw.refl (L : Nat) : Upw L L := ⟨0, by simp⟩
theorem Upw.eq_or {a b : Nat} (h : Upw a b) : b = a ∨ b ≤ a / 2 := by
  obtain ⟨k, rfl⟩ := h
  cases k with
  | zero => left; simp
  | succ k => right; rw [Nat.pow_succ, Nat.mul_comm, ← Nat.div_div_eq_div_mul]; exact Nat.div_le_self _ _
theorem Upw.le {a b : Nat} (h : Upw a b) : b ≤ a := by rcases h.eq_or with q | q <;> omega
/-! what is asked for -/
/-! ### nodes put in -/
structure Whl (w : Nat) (T : Nat → Dg) (K : KM) : Prop where
  sup : SupK w K
  tru : Tru T K
  clo : Clo w K
  one : kn K 1
end Go.ShM
/-
  The order in which nodes are put in says nothing of what comes of them. Plain: no program in sight. (Conditions: none.)
-/
set_option linter.all false
namespace Go.ShM
open Go.SL
/-- nodes that may stand together, and with what is known -/
def Con (w : Nat) (K : KM) (l : List Nd) : Prop := (∀ x ∈ l, 1 ≤ x.1 ∧ x.1 ≤ 2 * (w : Int) - 1) ∧ (∀ x ∈ l, ∀ d, K x.1 = some d → d = x.2) ∧ ∀ x ∈ l, ∀ y ∈ l, x.1 = y.1 → x.2 = y.2
theorem put1_zero {w : Nat} : ∀ (l : List Nd) (K : KM) (fr : List Nat), (put1 w K l fr).1 = 0 ↔ Con w K l
  | [], K, fr => ⟨fun _ => ⟨fun x h => (by cases h), fun x h => (by cases h), fun x h => (by cases h)⟩, fun _ => rfl⟩
  | x :: l, K, fr => by
    by_cases h : x.1 < 1 ∨ 2 * (w : Int) - 1 < x.1
    · rw [put1_bad h]
      exact ⟨fun h0 => (by cases h0), fun hc => by have := hc.1 x (by simp); omega⟩
    · cases e : K x.1 with
      | none =>
        rw [put1_new h (by rw [e]; rfl), put1_zero l]
        constructor
        · rintro ⟨c1, c2, c3⟩
          have hx : ∀ y ∈ l, x.1 = y.1 → x.2 = y.2 := fun y hy he => c2 y hy x.2 (by rw [← he, kset_eq])
          refine ⟨fun y hy => ?_, fun y hy d hd => ?_, fun y hy z hz he => ?_⟩
          · rcases List.mem_cons.1 hy with rfl | hy
            · omega
            · exact c1 y hy
          · rcases List.mem_cons.1 hy with rfl | hy
            · rw [e] at hd; cases hd
            · exact c2 y hy d (by rw [kset_ne K x.2 (fun q => by rw [q, e] at hd; cases hd)]; exact hd)
          · rcases List.mem_cons.1 hy with hy1 | hy1 <;> rcases List.mem_cons.1 hz with hz1 | hz1
            · rw [hy1, hz1]
            · rw [hy1]; exact hx z hz1 (by rw [← hy1]; exact he)
            · rw [hz1]; exact (hx y hy1 (by rw [← hz1]; exact he.symm)).symm
            · exact c3 y hy1 z hz1 he
        · rintro ⟨c1, c2, c3⟩
          refine ⟨fun y hy => c1 y (by simp [hy]), fun y hy d hd => ?_, fun y hy z hz => c3 y (by simp [hy]) z (by simp [hz])⟩
          by_cases q : y.1 = x.1
          · rw [q, kset_eq] at hd
            rw [← Option.some.inj hd]; exact c3 x (by simp) y (by simp [hy]) q.symm
          · rw [kset_ne K x.2 q] at hd; exact c2 y (by simp [hy]) d hd
      | some d =>
        by_cases he : d = x.2
        · rw [put1_old h (by rw [e]; rfl) (by rw [e]; exact he), put1_zero l]
          constructor
          · rintro ⟨c1, c2, c3⟩
            have hx : ∀ y ∈ l, x.1 = y.1 → x.2 = y.2 := fun y hy q => by have := c2 y hy d (by rw [← q, e]); rw [← he]; exact this
            refine ⟨fun y hy => ?_, fun y hy d' hd => ?_, fun y hy z hz q => ?_⟩
            · rcases List.mem_cons.1 hy with rfl | hy
              · omega
              · exact c1 y hy
            · rcases List.mem_cons.1 hy with rfl | hy
              · rw [e] at hd; rw [← Option.some.inj hd]; exact he
              · exact c2 y hy d' hd
            · rcases List.mem_cons.1 hy with hy1 | hy1 <;> rcases List.mem_cons.1 hz with hz1 | hz1
              · rw [hy1, hz1]
              · rw [hy1]; exact hx z hz1 (by rw [← hy1]; exact q)
              · rw [hz1]; exact (hx y hy1 (by rw [← hz1]; exact q.symm)).symm
              · exact c3 y hy1 z hz1 q
          · rintro ⟨c1, c2, c3⟩
            exact ⟨fun y hy => c1 y (by simp [hy]), fun y hy => c2 y (by simp [hy]), fun y hy z hz => c3 y (by simp [hy]) z (by simp [hz])⟩
        · rw [put1_oth h (by rw [e]; rfl) (by rw [e]; exact he)]
          exact ⟨fun h0 => (by cases h0), fun hc => absurd (hc.2.1 x (by simp) d e) he⟩
theorem put1_else {w : Nat} : ∀ (l : List Nd) (K : KM) (fr : List Nat) (t : Int), (∀ x ∈ l, x.1 ≠ t) → (put1 w K l fr).2.1 t = K t
  | [], K, fr, t, _ => rfl
  | x :: l, K, fr, t, ht => by
    have ih := fun K fr => put1_else (w := w) l K fr t (fun y hy => ht y (by simp [hy]))
    by_cases h : x.1 < 1 ∨ 2 * (w : Int) - 1 < x.1
    · rw [put1_bad h]
    · cases e : K x.1 with
      | none => rw [put1_new h (by rw [e]; rfl), ih, kset_ne K x.2 (fun q => ht x (by simp) q.symm)]
      | some d =>
        by_cases he : d = x.2
        · rw [put1_old h (by rw [e]; rfl) (by rw [e]; exact he), ih]
        · rw [put1_oth h (by rw [e]; rfl) (by rw [e]; exact he)]
theorem Con.mem {w : Nat} {K : KM} {l l' : List Nd} (hm : ∀ x, x ∈ l ↔ x ∈ l') (h : Con w K l) : Con w K l' :=
  ⟨fun x hx => h.1 x ((hm x).2 hx), fun x hx => h.2.1 x ((hm x).2 hx), fun x hx y hy => h.2.2 x ((hm x).2 hx) y ((hm y).2 hy)⟩
theorem put1_turn {w : Nat} {K : KM} {l l' : List Nd} {fr : List Nat} (hm : ∀ x, x ∈ l ↔ x ∈ l') (h : (put1 w K l fr).1 = 0) : (put1 w K l' fr).1 = 0 ∧ (put1 w K l' fr).2.1 = (put1 w K l fr).2.1 := by
  have h' := (put1_zero l' K fr).2 (((put1_zero l K fr).1 h).mem hm)
  refine ⟨h', funext fun t => ?_⟩
  by_cases e : ∃ x ∈ l, x.1 = t
  · obtain ⟨x, hx, rfl⟩ := e
    rw [(put1_has l K fr).2 h x hx, (put1_has l' K fr).2 h' x ((hm x).1 hx)]
  · rw [put1_else l K fr t (fun x hx q => e ⟨x, hx, q⟩), put1_else l' K fr t (fun x hx q => e ⟨x, (hm x).2 hx, q⟩)]
theorem Fre.mem {w : Nat} {K0 K : KM} {fr : List Nat} (h : Fre w K0 K fr) (a : Nat) : a ∈ fr ↔ K0 ((a : Nat) : Int) = none ∧ (K ((a : Nat) : Int)).isSome = true := by
  refine ⟨h.new a, fun ⟨h1, h2⟩ => ?_⟩
  by_cases hm : a ∈ fr
  · exact hm
  · exfalso
    rw [h.old ((a : Nat) : Int) (fun b hb e => hm (by have : b = a := by omega
                                                      subst this; exact hb)), h1] at h2
    cases h2
theorem cl2_turn : ∀ (m : Nat) (K : KM) (fr fr' : List Nat), (∀ a, a ∈ fr ↔ a ∈ fr') → (cl2 m K fr).1 = (cl2 m K fr').1 ∧ (cl2 m K fr).2.1 = (cl2 m K fr').2.1 ∧ ∀ a, a ∈ (cl2 m K fr).2.2 ↔ a ∈ (cl2 m K fr').2.2
  | 0, K, fr, fr', h => ⟨rfl, rfl, h⟩
  | m + 1, K, fr, fr', h => by
    have ih := cl2_turn m K fr fr' h
    rw [cl2, cl2]
    split
    · rename_i l r hl hr
      split
      · rename_i d hd
        by_cases e : (m + 1) ∉ fr ∧ 2 * (m + 1) ∉ fr ∧ 2 * (m + 1) + 1 ∉ fr
        · have e' : (m + 1) ∉ fr' ∧ 2 * (m + 1) ∉ fr' ∧ 2 * (m + 1) + 1 ∉ fr' := by simpa only [← h] using e
          rw [if_pos e, if_pos e']; exact ih
        · have e' : ¬ ((m + 1) ∉ fr' ∧ 2 * (m + 1) ∉ fr' ∧ 2 * (m + 1) + 1 ∉ fr') := by simpa only [← h] using e
          rw [if_neg e, if_neg e']
          split
          · exact ih
          · exact ⟨rfl, rfl, h⟩
      · exact cl2_turn m _ _ _ (fun a => by simp only [List.mem_append, h a])
    · exact ih
theorem putS_codes {w : Nat} {K : KM} {l : List Nd} : (put1 w K l []).1 ≠ 0 → (putS w K l).1 = (put1 w K l []).1 := fun h => by
  unfold putS; dsimp only; rw [if_neg h]
theorem put1_codes {w : Nat} : ∀ (l : List Nd) (K : KM) (fr : List Nat), (put1 w K l fr).1 = 0 ∨ (put1 w K l fr).1 = 120 ∨ (put1 w K l fr).1 = 121
  | [], K, fr => .inl rfl
  | x :: l, K, fr => by
    by_cases h : x.1 < 1 ∨ 2 * (w : Int) - 1 < x.1
    · rw [put1_bad h]; exact .inr (.inl rfl)
    · cases e : K x.1 with
      | none => rw [put1_new h (by rw [e]; rfl)]; exact put1_codes l _ _
      | some d =>
        by_cases he : d = x.2
        · rw [put1_old h (by rw [e]; rfl) (by rw [e]; exact he)]; exact put1_codes l _ _
        · rw [put1_oth h (by rw [e]; rfl) (by rw [e]; exact he)]; exact .inr (.inr rfl)
/-- the same nodes, in whatever order -/
theorem put_turn {w : Nat} {K : KM} {l l' : List Nd} (hm : ∀ x, x ∈ l ↔ x ∈ l') (h : SupK w K) (hw : 1 ≤ w) :
    ((putS w K l).1 = 0 ↔ (putS w K l').1 = 0) ∧ ((putS w K l).1 = 122 ∨ (putS w K l).1 = 123 → (putS w K l').1 = (putS w K l).1) ∧ putK w K l' = putK w K l := by
  by_cases h0 : (put1 w K l []).1 = 0
  · obtain ⟨h0', e⟩ := put1_turn hm h0
    have f1 := put1_fre l K [] (Fre_0 h)
    have f2 := put1_fre l' K [] (Fre_0 h)
    have hmf : ∀ a, a ∈ (put1 w K l []).2.2 ↔ a ∈ (put1 w K l' []).2.2 := fun a => by rw [f1.mem, f2.mem, e]
    obtain ⟨c1, c2, c3⟩ := cl2_turn (w - 1) (put1 w K l []).2.1 _ _ hmf
    have hall : (cl2 (w - 1) (put1 w K l []).2.1 (put1 w K l []).2.2).2.2.all (okF (cl2 (w - 1) (put1 w K l []).2.1 (put1 w K l []).2.2).2.1) = (cl2 (w - 1) (put1 w K l []).2.1 (put1 w K l' []).2.2).2.2.all (okF (cl2 (w - 1) (put1 w K l []).2.1 (put1 w K l' []).2.2).2.1) := by
      rw [c2, Bool.eq_iff_iff, List.all_eq_true, List.all_eq_true]
      exact ⟨fun q a ha => q a ((c3 a).2 ha), fun q a ha => q a ((c3 a).1 ha)⟩
    have hc : (putS w K l').1 = (putS w K l).1 ∧ (putS w K l').2.1 = (putS w K l).2.1 := by
      unfold putS; dsimp only
      rw [if_pos h0, if_pos h0', e, hall, c1, c2]
      split
      · split <;> exact ⟨rfl, rfl⟩
      · exact ⟨rfl, rfl⟩
    refine ⟨by rw [hc.1], fun _ => hc.1, ?_⟩
    by_cases e0 : (putS w K l).1 = 0
    · rw [putK_ok e0, putK_ok (l := l') (hc.1.trans e0), hc.2]
    · rw [putK_bad (l := l) h hw e0, putK_bad (l := l') h hw (by rw [hc.1]; exact e0)]
  · have h0' : (put1 w K l' []).1 ≠ 0 := fun q => h0 (put1_turn (fun x => (hm x).symm) q).1
    have e1 := putS_codes h0
    have e2 := putS_codes h0'
    have k1 := put1_codes (w := w) l K []
    refine ⟨by rw [e1, e2]; exact ⟨fun q => absurd q h0, fun q => absurd q h0'⟩, fun q => by rw [e1] at q; omega, ?_⟩
    rw [putK_bad (l := l) h hw (by rw [e1]; exact h0), putK_bad (l := l') h hw (by rw [e2]; exact h0')]
end Go.ShM
/-
  The ways that the document's put goes, one by one. Plain: no program in sight. (Conditions: none.)
-/
set_option linter.all false
namespace Go.ShM
open Go.SL
theorem put1D_bad {w : Nat} {K : KM} {i : Int} {d : Dg} {l : List Nd} (h : i < 1 ∨ 2 * (w : Int) ≤ i) : put1D w K ((i, d) :: l) = (120, K) := by rw [put1D, if_pos h]
theorem put1D_oth {w : Nat} {K : KM} {i : Int} {d : Dg} {l : List Nd} (h : ¬ (i < 1 ∨ 2 * (w : Int) ≤ i)) (hs : (K i).isSome = true) (he : ¬ (K i).getD zD = d) : put1D w K ((i, d) :: l) = (121, K) := by rw [put1D, if_neg h, if_pos ⟨hs, he⟩]
theorem put1D_ok {w : Nat} {K : KM} {i : Int} {d : Dg} {l : List Nd} (h : ¬ (i < 1 ∨ 2 * (w : Int) ≤ i)) (hs : (K i).isSome = false ∨ (K i).getD zD = d) : put1D w K ((i, d) :: l) = put1D w (kset K i d) l := by
  rw [put1D, if_neg h, if_neg (fun q => by rcases hs with z | z; (rw [z] at q; cases q.1); exact q.2 z)]
theorem put1D_nil {w : Nat} {K : KM} : put1D w K [] = (0, K) := rfl
theorem clD2_skip {K0 K : KM} {m : Nat} (h : (K ((2 * (m + 1) : Nat) : Int)).isSome = false ∨ (K ((2 * (m + 1) + 1 : Nat) : Int)).isSome = false ∨ ((K0 ((m + 1 : Nat) : Int)).isSome = true ∧ (K0 ((2 * (m + 1) : Nat) : Int)).isSome = true ∧ (K0 ((2 * (m + 1) + 1 : Nat) : Int)).isSome = true)) : clD2 K0 (m + 1) K = clD2 K0 m K := by rw [clD2, if_pos h]
theorem clD2_bad {K0 K : KM} {m : Nat} (h : ¬ ((K ((2 * (m + 1) : Nat) : Int)).isSome = false ∨ (K ((2 * (m + 1) + 1 : Nat) : Int)).isSome = false ∨ ((K0 ((m + 1 : Nat) : Int)).isSome = true ∧ (K0 ((2 * (m + 1) : Nat) : Int)).isSome = true ∧ (K0 ((2 * (m + 1) + 1 : Nat) : Int)).isSome = true)))
    (h1 : (K ((m + 1 : Nat) : Int)).isSome = true) (h2 : ¬ (K ((m + 1 : Nat) : Int)).getD zD = nodeD ((K ((2 * (m + 1) : Nat) : Int)).getD zD) ((K ((2 * (m + 1) + 1 : Nat) : Int)).getD zD)) : clD2 K0 (m + 1) K = (false, K) := by rw [clD2, if_neg h, if_pos ⟨h1, h2⟩]
theorem clD2_ok {K0 K : KM} {m : Nat} (h : ¬ ((K ((2 * (m + 1) : Nat) : Int)).isSome = false ∨ (K ((2 * (m + 1) + 1 : Nat) : Int)).isSome = false ∨ ((K0 ((m + 1 : Nat) : Int)).isSome = true ∧ (K0 ((2 * (m + 1) : Nat) : Int)).isSome = true ∧ (K0 ((2 * (m + 1) + 1 : Nat) : Int)).isSome = true)))
    (h1 : (K ((m + 1 : Nat) : Int)).isSome = false ∨ (K ((m + 1 : Nat) : Int)).getD zD = nodeD ((K ((2 * (m + 1) : Nat) : Int)).getD zD) ((K ((2 * (m + 1) + 1 : Nat) : Int)).getD zD)) : clD2 K0 (m + 1) K = clD2 K0 m (kset K ((m + 1 : Nat) : Int) (nodeD ((K ((2 * (m + 1) : Nat) : Int)).getD zD) ((K ((2 * (m + 1) + 1 : Nat) : Int)).getD zD))) := by
  rw [clD2, if_neg h, if_neg (fun q => by rcases h1 with z | z; (rw [z] at q; cases q.1); exact q.2 z)]
theorem putD_a {w : Nat} {K K' : KM} {l : List Nd} {e : Int} (h : put1D w K l = (e, K')) (he : e ≠ 0) : putD w K l = (e, K) := by unfold putD; dsimp only; rw [h]; dsimp only; rw [if_neg he]
theorem putD_b {w : Nat} {K K1 K2 : KM} {l : List Nd} (h : put1D w K l = (0, K1)) (h2 : clD2 K (w - 1) K1 = (false, K2)) : putD w K l = (123, K) := by unfold putD; dsimp only; rw [h]; dsimp only; rw [if_pos rfl, h2]; dsimp only; rw [if_neg (by decide)]
theorem putD_c {w i : Nat} {K K1 K2 : KM} {l : List Nd} (h : put1D w K l = (0, K1)) (h2 : clD2 K (w - 1) K1 = (true, K2)) (h3 : 2 ≤ i) (h4 : i < 2 * w) (h5 : loD K K2 i = true) : putD w K l = (122, K) := by
  unfold putD; dsimp only; rw [h]; dsimp only; rw [if_pos rfl, h2]; dsimp only
  rw [if_pos rfl, if_pos (List.any_eq_true.2 ⟨i, List.mem_range.2 h4, by rw [h5, Bool.and_true]; exact decide_eq_true h3⟩)]
theorem putD_d {w : Nat} {K K1 K2 : KM} {l : List Nd} (h : put1D w K l = (0, K1)) (h2 : clD2 K (w - 1) K1 = (true, K2)) (h3 : ∀ i, 2 ≤ i → i < 2 * w → loD K K2 i = false) : putD w K l = (0, K2) := by
  unfold putD; dsimp only; rw [h]; dsimp only; rw [if_pos rfl, h2]; dsimp only
  rw [if_pos rfl, if_neg (fun q => by
    obtain ⟨i, hi, h5⟩ := List.any_eq_true.1 q
    rw [Bool.and_eq_true] at h5
    rw [h3 i (of_decide_eq_true h5.1) (List.mem_range.1 hi)] at h5
    cases h5.2)]
theorem xor_lt {j w : Nat} (h : j < 2 * w) : j ^^^ 1 < 2 * w := by
  rcases half_cases j with q | q
  · have := (xor_half j).1 q; omega
  · have := (xor_half j).2 q; omega
end Go.ShM
/-
  Nodes held against one another; a list of nodes that is none. (Conditions: none; generic over the program.)
-/
set_option linter.all false
namespace Go.ShM
open Go.SL Go.RowKit
section
variable {P : Program} {n : Nat} {L : List (Nat × Value)} {A : List Asn} {d : Option Nat} {ty : TypeId} {pos' : String} {af : Array Edge} {g : Option (Nat × Bool)} {t t' : TypeId} {x y : Operand}
end
/-! marks -/
end Go.ShM
/-
  The examples of ProofNames, plain. (Conditions: none.)
-/
set_option linter.all false
set_option maxRecDepth 20000
namespace Go.ShM
open Go.SL
end Go.ShM
/-
  What is handed in: a list of words of sixteen bits. (Conditions: none; generic over the program.)
-/
namespace Go.ShM
open Go.SL Go.RowKit Go.ChangeShapes Go.WideShapes
section
variable {H : Type} {enc : TypeId × Value → H} {P : Program} {W : World} {base : Nat} {sp : Nat → Bool} {hd : Bool}
end
end Go.ShM
