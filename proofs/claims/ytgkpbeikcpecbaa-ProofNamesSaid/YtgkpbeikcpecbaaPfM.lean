/-
  Contracts of functions that the claim reaches, or the logic and the plain laws that they rest on, or the row over them. (Conditions: none beyond the statement.)
-/
import Derived.Test.YtgkpbeikcpecbaaTrArg
import Derived.Test.YtgkpbeikcpecbaaPfL
import Derived.Test.YtgkpbeikcpecbaaTrClimb
import Derived.Test.YtgkpbeikcpecbaaShA
import Derived.Test.YtgkpbeikcpecbaaTrLeaves
import Derived.Test.YtgkpbeikcpecbaaLibA
set_option linter.all false
/-
  What is handed in: lists of nodes. (Conditions: none; generic over the program.)
-/
set_option linter.all false
namespace Go.ShM
open Go.SL Go.RowKit Go.ChangeShapes Go.WideShapes
section
variable {H : Type} {enc : TypeId × Value → H} {P : Program} {W : World} {base : Nat} {sp : Nat → Bool} {hd : Bool}
def okN (x : Nd) : Prop := -9223372036854775808 ≤ x.1 ∧ x.1 ≤ 9223372036854775807
theorem el_nd {m : DataW H → Nat} (hm : Meas m) {t : TypeId} {n : Nat} (hk : cks P n t = some [.int .i64, .ints .u8 32]) : ∀ n' c y, DataW.trod enc P W base sp hd n' t c = some y → ∃ x : Nd, c = eND x ∧ okN x := fun n' c y h => by
  have hf := cks_fits (N := m y.1) hm n t _ n' c y hk h (Nat.le_refl _)
  simp only [Fits] at hf
  obtain ⟨i, cs1, rfl, hi, l, cs', rfl, ⟨hl, hw⟩, rfl⟩ := hf
  refine ⟨(i, ⟨l.map (BitVec.ofInt 8), by simpa using hl⟩), ?_, ?_⟩
  · rw [List.append_nil]
    show _ = Value.int .i64 i :: fD _
    rw [words_of l hw]; rfl
  · simp [Lit.wf, IntKind.min, IntKind.max, IntKind.signed, IntKind.bits] at hi
    exact ⟨by show _ ≤ i; omega, by show i ≤ _; omega⟩
end
end Go.ShM
/-
  All that is known is proved up to the root. Plain: no program in sight. (Conditions: none.)
-/
set_option linter.all false
namespace Go.ShM
open Go.SL
abbrev nt (a : Nat) : Int := ((a : Nat) : Int)
theorem cl2_keep : ∀ (m : Nat) (K : KM) (fr : List Nat), (∀ t : Int, (m : Int) < t → (cl2 m K fr).2.1 t = K t) ∧ (∀ a : Nat, m < a → (a ∈ (cl2 m K fr).2.2 ↔ a ∈ fr))
  | 0, K, fr => ⟨fun _ _ => rfl, fun _ _ => Iff.rfl⟩
  | m + 1, K, fr => by
    have ih := fun K fr => cl2_keep m K fr
    unfold cl2
    split
    · split
      · split
        · exact ⟨fun t ht => (ih K fr).1 t (by omega), fun a ha => (ih K fr).2 a (by omega)⟩
        · split
          · exact ⟨fun t ht => (ih K fr).1 t (by omega), fun a ha => (ih K fr).2 a (by omega)⟩
          · exact ⟨fun _ _ => rfl, fun _ _ => Iff.rfl⟩
      · refine ⟨fun t ht => ?_, fun a ha => ?_⟩
        · rw [(ih _ _).1 t (by omega), kset_ne _ _ (by omega)]
        · rw [(ih _ _).2 a (by omega), List.mem_append, List.mem_singleton]
          exact ⟨fun h => h.elim id (fun e => by omega), .inl⟩
    · exact ⟨fun t ht => (ih K fr).1 t (by omega), fun a ha => (ih K fr).2 a (by omega)⟩
/-- what is known of a node is what its children make -/
def Made (K : KM) (i : Nat) : Prop := ∃ l r, K (nt (2 * i)) = some l ∧ K (nt (2 * i + 1)) = some r ∧ K (nt i) = some (nodeD l r)
theorem cl2_fin : ∀ (m : Nat) (K : KM) (fr : List Nat), (cl2 m K fr).1 = true → ∀ i, 1 ≤ i → i ≤ m → ((cl2 m K fr).2.1 (nt (2 * i))).isSome = true → ((cl2 m K fr).2.1 (nt (2 * i + 1))).isSome = true → (i ∈ (cl2 m K fr).2.2 ∨ 2 * i ∈ (cl2 m K fr).2.2 ∨ 2 * i + 1 ∈ (cl2 m K fr).2.2) → Made (cl2 m K fr).2.1 i
  | 0, K, fr, _, i, h1, h2, _, _, _ => absurd h2 (by omega)
  | m + 1, K, fr, hc, i, h1, h2, hl, hr, hf => by
    have step : ∀ K' fr', cl2 (m + 1) K fr = cl2 m K' fr' → (i = m + 1 → (K' (nt (2 * (m + 1)))).isSome = true → (K' (nt (2 * (m + 1) + 1))).isSome = true → (m + 1 ∈ fr' ∨ 2 * (m + 1) ∈ fr' ∨ 2 * (m + 1) + 1 ∈ fr') → Made K' (m + 1)) → Made (cl2 (m + 1) K fr).2.1 i := fun K' fr' he hm => by
      rw [he] at hc hl hr hf ⊢
      have kp := cl2_keep m K' fr'
      by_cases e : i = m + 1
      · subst e
        rw [kp.1 _ (by unfold nt; omega)] at hl hr
        rw [kp.2 _ (by omega), kp.2 _ (by omega), kp.2 _ (by omega)] at hf
        obtain ⟨l, r, e1, e2, e3⟩ := hm rfl hl hr hf
        exact ⟨l, r, by rw [kp.1 _ (by unfold nt; omega)]; exact e1, by rw [kp.1 _ (by unfold nt; omega)]; exact e2, by rw [kp.1 _ (by unfold nt; omega)]; exact e3⟩
      · exact cl2_fin m K' fr' hc i h1 (by omega) hl hr hf
    cases q1 : K (nt (2 * (m + 1))) with
    | none =>
      exact step K fr (cl2_nil (.inl (by rw [show ((2 * (m + 1) : Nat) : Int) = nt (2 * (m + 1)) from rfl, q1]; rfl))) fun _ h _ _ => by rw [q1] at h; cases h
    | some l =>
      cases q2 : K (nt (2 * (m + 1) + 1)) with
      | none => exact step K fr (cl2_nil (.inr (by rw [show ((2 * (m + 1) + 1 : Nat) : Int) = nt (2 * (m + 1) + 1) from rfl, q2]; rfl))) fun _ _ h _ => by rw [q2] at h; cases h
      | some r =>
        have s1 : (K ((2 * (m + 1) : Nat) : Int)).isSome = true := by rw [show ((2 * (m + 1) : Nat) : Int) = nt (2 * (m + 1)) from rfl, q1]; rfl
        have s2 : (K ((2 * (m + 1) + 1 : Nat) : Int)).isSome = true := by rw [show ((2 * (m + 1) + 1 : Nat) : Int) = nt (2 * (m + 1) + 1) from rfl, q2]; rfl
        have g1 : (K ((2 * (m + 1) : Nat) : Int)).getD zD = l := by rw [show ((2 * (m + 1) : Nat) : Int) = nt (2 * (m + 1)) from rfl, q1]; rfl
        have g2 : (K ((2 * (m + 1) + 1 : Nat) : Int)).getD zD = r := by rw [show ((2 * (m + 1) + 1 : Nat) : Int) = nt (2 * (m + 1) + 1) from rfl, q2]; rfl
        cases q3 : K (nt (m + 1)) with
        | none =>
          have s3 : (K ((m + 1 : Nat) : Int)).isSome = false := by rw [show ((m + 1 : Nat) : Int) = nt (m + 1) from rfl, q3]; rfl
          refine step _ _ (cl2_new s1 s2 s3) fun _ _ _ _ => ?_
          rw [g1, g2]
          exact ⟨l, r, by rw [kset_ne _ _ (by unfold nt; omega)]; exact q1, by rw [kset_ne _ _ (by unfold nt; omega)]; exact q2, kset_eq _ _ _⟩
        | some h =>
          have s3 : (K ((m + 1 : Nat) : Int)).isSome = true := by rw [show ((m + 1 : Nat) : Int) = nt (m + 1) from rfl, q3]; rfl
          have g3 : (K ((m + 1 : Nat) : Int)).getD zD = h := by rw [show ((m + 1 : Nat) : Int) = nt (m + 1) from rfl, q3]; rfl
          by_cases hF : inF fr (m + 1) + inF fr (2 * (m + 1)) + inF fr (2 * (m + 1) + 1) = 0
          · refine step K fr (cl2_old s1 s2 s3 hF) fun _ _ _ hf' => ?_
            have := inF_0.1 hF
            rcases hf' with q | q | q
            · exact absurd q this.1
            · exact absurd q this.2.1
            · exact absurd q this.2.2
          · by_cases he : nodeD l r = h
            · refine step K fr (cl2_ok s1 s2 s3 hF (by rw [g1, g2, g3]; exact he)) fun _ _ _ _ => ⟨l, r, q1, q2, by rw [he]; exact q3⟩
            · have hb := cl2_bad s1 s2 s3 hF (by rw [g1, g2, g3]; exact he)
              rw [hb] at hc; cases hc
/-- what is known and was not known from the beginning on has a known brother and a known parent, of the right digest -/
def Snd (w : Nat) (F K : KM) : Prop := ∀ t : Nat, 2 ≤ t → t < 2 * w → (K (nt t)).isSome = true → F (nt t) = none → Made K (t / 2)
theorem Snd_0 (w : Nat) (F : KM) : Snd w F F := fun t _ _ h e => by rw [e] at h; cases h
theorem Made.le {K K' : KM} {i : Nat} (h : Made K i) (hl : LeK K K') : Made K' i := by
  obtain ⟨l, r, a, b, c⟩ := h
  exact ⟨l, r, hl _ _ a, hl _ _ b, hl _ _ c⟩
theorem half_cases (t : Nat) : t = 2 * (t / 2) ∨ t = 2 * (t / 2) + 1 := by omega
theorem xor_half (t : Nat) : (t = 2 * (t / 2) → t ^^^ 1 = 2 * (t / 2) + 1) ∧ (t = 2 * (t / 2) + 1 → t ^^^ 1 = 2 * (t / 2)) := by
  constructor
  · intro h; rw [xor1, if_pos (by omega)]; omega
  · intro h; rw [xor1, if_neg (by omega)]; omega
theorem putK_snd {w : Nat} {F K : KM} {l : List Nd} (h : SupK w K) (hw : 1 ≤ w) (hF : LeK F K) (hs : Snd w F K) : Snd w F (putK w K l) := by
  by_cases he : (putS w K l).1 = 0
  · rw [putK_ok he]
    have hfre := putS_fre l h hw
    intro t h2 hw2 hk hFn
    by_cases ho : (K (nt t)).isSome = true
    · exact (hs t h2 hw2 ho hFn).le hfre.le
    · -- new: laid in
      have hmem : t ∈ (putS w K l).2.2 := by
        by_cases q : t ∈ (putS w K l).2.2
        · exact q
        · have := hfre.old (nt t) (fun b hb e => q (by rw [← Int.ofNat_inj.1 e]; exact hb))
          rw [this] at hk; exact absurd hk ho
      unfold putS at he hk hmem hfre ⊢
      dsimp only at he hk hmem hfre ⊢
      by_cases e0 : (put1 w K l []).1 = 0
      · rw [if_pos e0] at he hk hmem hfre ⊢
        by_cases e1 : (cl2 (w - 1) (put1 w K l []).2.1 (put1 w K l []).2.2).1 = true
        · rw [if_pos e1] at he hk hmem hfre ⊢
          by_cases e2 : (cl2 (w - 1) (put1 w K l []).2.1 (put1 w K l []).2.2).2.2.all (okF (cl2 (w - 1) (put1 w K l []).2.1 (put1 w K l []).2.2).2.1) = true
          · rw [if_pos e2] at hk hmem hfre ⊢
            have hok := List.all_eq_true.1 e2 t hmem
            unfold okF at hok
            rw [Bool.and_eq_true] at hok
            have hx := xor_half t
            have hc := half_cases t
            rcases hc with q | q
            · refine cl2_fin (w - 1) _ _ e1 (t / 2) (by omega) (by omega) (by rw [← q]; exact hk) (by rw [← hx.1 q]; exact hok.1) (.inr (.inl (by rw [← q]; exact hmem)))
            · refine cl2_fin (w - 1) _ _ e1 (t / 2) (by omega) (by omega) (by rw [← hx.2 q]; exact hok.1) (by rw [← q]; exact hk) (.inr (.inr (by rw [← q]; exact hmem)))
          · rw [if_neg e2] at he; cases he
        · rw [if_neg e1] at he; cases he
      · rw [if_neg e0] at he; exact absurd he e0
  · rw [putK_bad h hw he]; exact hs
theorem putK_leF {w : Nat} {F K : KM} {l : List Nd} (h : SupK w K) (hw : 1 ≤ w) (hF : LeK F K) : LeK F (putK w K l) := hF.trans (putK_le h hw)
/-! ### two proofs of one root -/
def Dif (K K' : KM) (u : Nat) : Prop := (K (nt u)).isSome = true ∧ (K' (nt u)).isSome = true ∧ (K (nt u)).getD zD ≠ (K' (nt u)).getD zD
def Meet (K K' : KM) (u : Nat) : Prop := Made K u ∧ Made K' u ∧ (K (nt u)).getD zD = (K' (nt u)).getD zD ∧ ¬ ((K (nt (2 * u))).getD zD = (K' (nt (2 * u))).getD zD ∧ (K (nt (2 * u + 1))).getD zD = (K' (nt (2 * u + 1))).getD zD)
def ClSt (K K' : KM) (u : Nat) (b : Bool) : Prop := bif b then Meet K K' u else Dif K K' u
theorem Made.is {K : KM} {i : Nat} (h : Made K i) : (K (nt (2 * i))).isSome = true ∧ (K (nt (2 * i + 1))).isSome = true ∧ (K (nt i)).isSome = true ∧ nodeD ((K (nt (2 * i))).getD zD) ((K (nt (2 * i + 1))).getD zD) = (K (nt i)).getD zD := by
  obtain ⟨l, r, a, b, c⟩ := h
  rw [a, b, c]; exact ⟨rfl, rfl, rfl, rfl⟩
theorem Dif.two {F K K' : KM} {u : Nat} (h : Dif K K' u) (h1 : 1 ≤ u) (hr : K 1 = K' 1) : 2 ≤ u := by
  rcases (show u = 1 ∨ 2 ≤ u from by omega) with q | q
  · subst q; exact absurd (by rw [show nt 1 = 1 from rfl, hr]) h.2.2
  · exact q
theorem Dif.none {F K K' : KM} {u : Nat} (h : Dif K K' u) (hK : LeK F K) (hK' : LeK F K') : F (nt u) = none := by
  cases e : F (nt u) with
  | none => rfl
  | some d => exact absurd (by rw [hK _ _ e, hK' _ _ e]) h.2.2
theorem Dif.up {w : Nat} {F K K' : KM} {u : Nat} (h : Dif K K' u) (h2 : 2 ≤ u) (hw : u < 2 * w) (hK : LeK F K) (hK' : LeK F K') (s : Snd w F K) (s' : Snd w F K') :
    Made K (u / 2) ∧ Made K' (u / 2) ∧ ¬ ((K (nt (2 * (u / 2)))).getD zD = (K' (nt (2 * (u / 2)))).getD zD ∧ (K (nt (2 * (u / 2) + 1))).getD zD = (K' (nt (2 * (u / 2) + 1))).getD zD) := by
  have hn := h.none hK hK'
  refine ⟨s u h2 hw h.1 hn, s' u h2 hw h.2.1 hn, fun ⟨a, b⟩ => ?_⟩
  rcases half_cases u with q | q
  · rw [← q] at a; exact h.2.2 a
  · rw [← q] at b; exact h.2.2 b
theorem clSt_up {w : Nat} {F K K' : KM} {u : Nat} (h : Dif K K' u) (h2 : 2 ≤ u) (hw : u < 2 * w) (hK : LeK F K) (hK' : LeK F K') (s : Snd w F K) (s' : Snd w F K') :
    ClSt K K' (u / 2) (decide (((K (nt (u / 2))).getD zD).1 = ((K' (nt (u / 2))).getD zD).1)) := by
  obtain ⟨a, b, c⟩ := h.up h2 hw hK hK' s s'
  unfold ClSt
  by_cases e : ((K (nt (u / 2))).getD zD).1 = ((K' (nt (u / 2))).getD zD).1
  · rw [decide_eq_true e]; exact ⟨a, b, Subtype.ext e, c⟩
  · rw [decide_eq_false e]; exact ⟨a.is.2.2.1, b.is.2.2.1, fun q => e (congrArg Subtype.val q)⟩
end Go.ShM
/-
  What is known from the beginning on; from a leaf up to the root. Plain: no program in sight. (Conditions: none.)
-/
set_option linter.all false
namespace Go.ShM
open Go.SL
/-- a node over a leaf that is none of the pads -/
def Anc (n w t : Nat) : Prop := ∃ k i, i < n ∧ t = (w + i) / 2 ^ k
theorem Anc.leaf {n w i : Nat} (h : i < n) : Anc n w (w + i) := ⟨0, i, h, by simp⟩
theorem Anc.half {n w t : Nat} (h : Anc n w t) : Anc n w (t / 2) := by
  obtain ⟨k, i, hi, rfl⟩ := h
  exact ⟨k + 1, i, hi, by rw [Nat.div_div_eq_div_mul, Nat.pow_succ]⟩
theorem Anc.child {n w t : Nat} (h : Anc n w t) (hw : n ≤ w) (ht : t < w) : Anc n w (2 * t) ∨ Anc n w (2 * t + 1) := by
  obtain ⟨k, i, hi, e⟩ := h
  cases k with
  | zero => simp at e; omega
  | succ k =>
    have e2 : t = (w + i) / 2 ^ k / 2 := by rw [Nat.div_div_eq_div_mul, ← Nat.pow_succ]; exact e
    rcases (show (w + i) / 2 ^ k = 2 * t ∨ (w + i) / 2 ^ k = 2 * t + 1 from by omega) with q | q
    · exact .inl ⟨k, i, hi, q.symm⟩
    · exact .inr ⟨k, i, hi, q.symm⟩
theorem Anc.low {n w t : Nat} (h : Anc n w t) (hw : n ≤ w) (ht : w ≤ t) : t < w + n := by
  obtain ⟨k, i, hi, rfl⟩ := h
  have := Nat.div_le_self (w + i) (2 ^ k)
  omega
def NoA (n w : Nat) (K : KM) : Prop := ∀ t : Nat, 2 ≤ t → Anc n w t → K (nt t) = none
theorem NoA_pad {n w : Nat} (hw : n ≤ w) : ∀ m, NoA n w (padK n w m)
  | 0 => fun _ _ _ => rfl
  | m + 1 => fun t h2 ha => by
    show kset (padK n w m) (nt (w + (n + m))) (padD (n + m)) (nt t) = none
    rw [kset_ne _ _ (by
      intro e
      have e' : t = w + (n + m) := Int.ofNat_inj.1 e
      have := ha.low hw (by omega)
      omega)]
    exact NoA_pad hw m t h2 ha
theorem NoA_step {n w a : Nat} {K : KM} (hw : n ≤ w) (h : NoA n w K) (h1 : 1 ≤ a) (h2 : a < w) : NoA n w (stepK K a) := fun t ht ha => by
  by_cases e : t = a
  · subst e
    have hn : stepK K t = K := by
      rcases ha.child hw h2 with q | q
      · exact stepK_no (.inl (by rw [show ((2 * t : Nat) : Int) = nt (2 * t) from rfl, h _ (by omega) q]; rfl))
      · exact stepK_no (.inr (by rw [show ((2 * t + 1 : Nat) : Int) = nt (2 * t + 1) from rfl, h _ (by omega) q]; rfl))
    rw [hn]; exact h t ht ha
  · rw [stepK_at (by intro q; exact e (Int.ofNat_inj.1 q))]; exact h t ht ha
theorem NoA_up {n w : Nat} {K : KM} (hw : n ≤ w) (h : NoA n w K) : ∀ m, m + 2 ≤ w ∨ m = 0 → NoA n w (upK K w m)
  | 0, _ => h
  | m + 1, hm => NoA_step hw (NoA_up hw h m (by omega)) (by omega) (by omega)
theorem NoA_new {n : Nat} {root : Dg} (hw : n ≤ wdM n) : NoA n (wdM n) (newK n root) :=
  NoA_up hw (fun t h2 ha => by rw [kset_ne _ _ (by intro e; have : t = 1 := Int.ofNat_inj.1 e; omega)]; exact NoA_pad hw _ t h2 ha) _ (by omega)
/-! ### beside, and above -/
theorem Made.bro {K : KM} {t : Nat} (h : Made K (t / 2)) : (K (nt (t ^^^ 1))).isSome = true := by
  rcases half_cases t with q | q
  · rw [(xor_half t).1 q]; exact h.is.2.1
  · rw [(xor_half t).2 q]; exact h.is.1
theorem Made.even {K : KM} {t : Nat} (h : Made K (t / 2)) (he : ¬ t % 2 = 1) : nodeD ((K (nt t)).getD zD) ((K (nt (t ^^^ 1))).getD zD) = (K (nt (t / 2))).getD zD := by
  have q : t = 2 * (t / 2) := by omega
  rw [(xor_half t).1 q, ← q]
  have := h.is.2.2.2
  rw [← q] at this; exact this
theorem Made.odd {K : KM} {t : Nat} (h : Made K (t / 2)) (he : t % 2 = 1) : nodeD ((K (nt (t ^^^ 1))).getD zD) ((K (nt t)).getD zD) = (K (nt (t / 2))).getD zD := by
  have q : t = 2 * (t / 2) + 1 := by omega
  rw [(xor_half t).2 q]
  have := h.is.2.2.2
  rw [← q] at this; exact this
/-- the chain of what is known leads up to the root -/
theorem chain_up {n w : Nat} {F K : KM} {root : Dg} (hw : n ≤ w) (hF : NoA n w F) (hs : Snd w F K) (hr : K 1 = some root) : ∀ t : Nat, 1 ≤ t → t < 2 * w → Anc n w t → (K (nt t)).isSome = true → clM (chL t) ((chF K t).map Prod.snd) ((K (nt t)).getD zD) = root := by
  intro t
  induction t using Nat.strongRecOn with
  | ind t ih =>
    intro h1 h2 ha hk
    by_cases e : t ≤ 1
    · obtain rfl : t = 1 := by omega
      rw [chL_le (by omega), chF_le (by omega), show nt 1 = 1 from rfl, hr]; rfl
    · have hm := hs t (by omega) h2 hk (hF t (by omega) ha)
      have hih := ih (t / 2) (by omega) (by omega) (by omega) ha.half hm.is.2.2.1
      rw [chF_gt (by omega), show chL t = (t ^^^ 1) :: chL (t / 2) from by rw [chL, dif_neg (by omega)]]
      rw [List.map_cons]
      show clM (chL (t / 2)) ((chF K (t / 2)).map Prod.snd) (clA (t ^^^ 1) ((K (nt (t ^^^ 1))).getD zD) ((K (nt t)).getD zD)) = root
      rw [show clA (t ^^^ 1) ((K (nt (t ^^^ 1))).getD zD) ((K (nt t)).getD zD) = (K (nt (t / 2))).getD zD from ?_]
      · exact hih
      · unfold clA
        by_cases he : t % 2 = 1
        · have q := (xor_half t).2 (by omega)
          rw [if_pos (by rw [q]; omega)]; exact hm.odd he
        · have q := (xor_half t).1 (by omega)
          rw [if_neg (by rw [q]; omega)]; exact hm.even he
theorem chF_len {K : KM} : ∀ t : Nat, (chF K t).length = (chL t).length := by
  intro t
  induction t using Nat.strongRecOn with
  | ind t ih =>
    by_cases e : t ≤ 1
    · rw [chL_le e, chF_le e]; rfl
    · rw [chF_gt (by omega), show chL t = (t ^^^ 1) :: chL (t / 2) from by rw [chL, dif_neg (by omega)], List.length_cons, List.length_cons, ih (t / 2) (by omega)]
end Go.ShM
/-
  Lists of lists of nodes that were handed in; what put leaves behind. (Conditions: none; no program in sight.)
-/
set_option maxRecDepth 20000
namespace Go.ShM
open Go.SL Go.RowKit Go.ChangeShapes Go.WideShapes
/-! ### what put knows behind -/
theorem put1_has {w : Nat} : ∀ (l : List Nd) (K : KM) (fr : List Nat), LeK K (put1 w K l fr).2.1 ∧ ((put1 w K l fr).1 = 0 → ∀ x ∈ l, (put1 w K l fr).2.1 x.1 = some x.2)
  | [], K, fr => ⟨LeK.refl K, fun _ x h => by cases h⟩
  | x :: l, K, fr => by
    by_cases h : x.1 < 1 ∨ 2 * (w : Int) - 1 < x.1
    · rw [put1_bad h]; exact ⟨LeK.refl K, fun h0 => by cases h0⟩
    · cases e : K x.1 with
      | none =>
        rw [put1_new h (by rw [e]; rfl)]
        obtain ⟨h1, h2⟩ := put1_has l (kset K x.1 x.2) (fr ++ [x.1.toNat])
        refine ⟨fun t d hd => h1 t d ?_, fun h0 y hy => ?_⟩
        · rw [kset_ne K x.2 (by rintro rfl; rw [e] at hd; cases hd)]; exact hd
        · rcases List.mem_cons.1 hy with rfl | hy
          · exact h1 _ _ (kset_eq K _ _)
          · exact h2 h0 y hy
      | some d =>
        by_cases he : d = x.2
        · rw [put1_old h (by rw [e]; rfl) (by rw [e]; exact he)]
          obtain ⟨h1, h2⟩ := put1_has l K fr
          refine ⟨h1, fun h0 y hy => ?_⟩
          rcases List.mem_cons.1 hy with rfl | hy
          · exact h1 _ _ (by rw [e, he])
          · exact h2 h0 y hy
        · rw [put1_oth h (by rw [e]; rfl) (by rw [e]; exact he)]; exact ⟨LeK.refl K, fun h0 => by cases h0⟩
theorem LeK_kset {K : KM} {t : Int} {d : Dg} (h : K t = none) : LeK K (kset K t d) := fun j e he => by
  rw [kset_ne K d (by rintro rfl; rw [h] at he; cases he)]; exact he
theorem cl2_le : ∀ (m : Nat) (K : KM) (fr : List Nat), LeK K (cl2 m K fr).2.1
  | 0, K, fr => LeK.refl K
  | m + 1, K, fr => by
    rw [cl2]
    split
    · split
      · split
        · exact cl2_le m K fr
        · split
          · exact cl2_le m K fr
          · exact LeK.refl K
      · rename_i hn
        exact (LeK_kset hn).trans (cl2_le m _ _)
    · exact cl2_le m K fr
theorem putK_has {w : Nat} {K : KM} {l : List Nd} (h : (putS w K l).1 = 0) : ∀ x ∈ l, putK w K l x.1 = some x.2 := by
  rw [putK_ok h]
  unfold putS at h ⊢
  dsimp only at h ⊢
  split at h
  · rename_i h0
    rw [if_pos h0]
    intro x hx
    have := (put1_has l K []).2 h0 x hx
    have hh := cl2_le (w - 1) (put1 w K l []).2.1 (put1 w K l []).2.2 _ _ this
    split
    · split <;> exact hh
    · exact hh
  · rename_i h0; exact absurd h h0
/-- a refused list changes nothing, a taken one keeps what was known -/
theorem put_iff {w : Nat} {K : KM} {l : List Nd} (h : SupK w K) (hw : 1 ≤ w) (he : (putS w K l).1 ≠ 0) (t : Int) : (putK w K l t).isSome = (K t).isSome := by rw [putK_bad h hw he]
theorem put_at {w : Nat} {K : KM} {l : List Nd} (h : SupK w K) (hw : 1 ≤ w) {t : Int} (ht : (K t).isSome = true) : (putK w K l t).isSome = true ∧ (putK w K l t).getD zD = (K t).getD zD := by
  have := putK_le (l := l) h hw t _ (kis ht)
  rw [this]; exact ⟨rfl, rfl⟩
/-- a leaf that is known has a chain up to the root -/
theorem leaf_up {n i : Nat} {K : KM} {root : Dg} (h1 : 1 ≤ n) (h2 : n ≤ 512) (hi : i < n) (hs : Snd (wdM n) (newK n root) K) (hl : LeK (newK n root) K) (hk : (K ((wdM n : Int) + (i : Int))).isSome = true) :
    clE (n : Int) (i : Int) ((chF K (wdM n + i)).map Prod.snd) = 0 ∧ clD (n : Int) (i : Int) ((K ((wdM n : Int) + (i : Int))).getD zD) ((chF K (wdM n + i)).map Prod.snd) = root := by
  have hwo := wd_ok h1 h2
  have hnd := nd_ok (n := ((n : Nat) : Int)) (l := (i : Int)) (by rw [Int.toNat_natCast]; exact hwo.2.2.2.1) (by omega) (by omega)
  rw [Int.toNat_natCast, Int.toNat_natCast] at hnd
  have hc : clE (n : Int) (i : Int) ((chF K (wdM n + i)).map Prod.snd) = 0 := cl_0 hnd.1 (by rw [hnd.2, List.length_map, chF_len])
  refine ⟨hc, ?_⟩
  rw [cl_ok hc, hnd.2]
  have hkk : (K (nt (wdM n + i))).isSome = true := by
    rw [show nt (wdM n + i) = (wdM n : Int) + (i : Int) from by simp [nt]]; exact hk
  have := chain_up (n := n) (w := wdM n) (F := newK n root) (K := K) (root := root) hwo.1 (NoA_new hwo.1) hs (hl _ _ newK_root) (wdM n + i) (by omega) (by omega) (Anc.leaf hi) hkk
  rw [show ((wdM n : Int) + (i : Int)) = nt (wdM n + i) from by simp [nt]]
  exact this
/-! ### a list of nodes that was handed in -/
structure NQ where
  l : List Nd
  ao : Option Addr
  cap : Nat
def NQ.v (q : NQ) : Value := .slice q.ao q.l.length q.cap
def eNQ (q : NQ) : List Value := [q.v]
/-- what is known of it -/
def OKnq (A : List Asn) (N : Nat) (q : NQ) : Prop := Sv A q.v 33 eND q.l q.ao q.cap ∧ q.l.length ≤ N
section
variable {H : Type} {enc : TypeId × Value → H} {P : Program} {W : World} {base : Nat} {sp : Nat → Bool} {hd : Bool}
theorem el_nq {m : DataW H → Nat} (hm : Meas m) {t e : TypeId} {k : Nat} (ht : P.underlying t = some (.slice e)) (hz : sz P e = some 33) (hke : cks P k e = some [.int .i64, .ints .u8 32]) {n : Nat} {c : List Value} {y : DataW H × List MemPlace} (h : DataW.trod enc P W base sp hd n t c = some y) :
    ∃ q : NQ, c = eNQ q ∧ OKnq [old W] (m y.1) q := by
  obtain ⟨v', l, ao, cap, hv, hS, hcap, hor⟩ := open_slice_cells (k := 32) ht hz h
  rcases hor with ⟨hnil, rfl, rfl⟩ | ⟨ds, rs, n', h1, h2, _, _, h3⟩
  · refine ⟨⟨[], ao, cap⟩, ?_, ?_⟩
    · rw [hv, hS.val]; rfl
    · have g := Sv.typed (f := eND) (l := []) hS
      have e := g.val
      refine ⟨?_, Nat.zero_le _⟩
      show Sv [old W] (.slice ao 0 cap) 33 eND [] ao cap
      rw [e] at g; exact g
  · have hall : ∀ x ∈ l, ∃ a : Nd, x = eND a ∧ okN a := fun x hx => by
      obtain ⟨i, hi, hxe⟩ := List.getElem_of_mem hx
      obtain ⟨y', hy, _⟩ := h3 i x (by rw [List.getElem?_eq_getElem hi, hxe])
      exact el_nd hm hke _ _ _ hy
    obtain ⟨l', rfl, _⟩ := SL.typed hall
    have g := Sv.typed hS
    have e := g.val
    subst e
    refine ⟨⟨l', ao, cap⟩, hv, g, ?_⟩
    have := hm.len ds rs
    rw [h1]; simp at h2; simp only; omega
/-- an argument that is a list of such lists -/
theorem open_nqs {m : DataW H → Nat} (hm : MeasS m) {t e1 e : TypeId} {k : Nat} {v : Value} {d : DataW H} {ps : List MemPlace} {r : Reach} {b0 : Nat} (ht : P.underlying t = some (.slice e1)) (hz1 : sz P e1 = some 1) (h1 : P.underlying e1 = some (.slice e)) (hz : sz P e = some 33) (hke : cks P k e = some [.int .i64, .ints .u8 32]) (hval : Value.okWide P W r b0 t v)
    (h : DataW.Trod enc P W base sp hd t v d ps) {N : Nat} (hN : m d ≤ N) : ∃ (qs : List NQ) (ao : Option Addr) (cap : Nat), Sv [old W] v 1 eNQ qs ao cap ∧ (∀ q ∈ qs, OKnq [old W] N q) ∧ qs.length ≤ N := by
  obtain ⟨a0, len, cap0, rfl⟩ := okWide_slice ht hval
  obtain ⟨fuel, hf⟩ := h
  obtain ⟨v', l, ao, cap, hv, hS, hcap, hor⟩ := open_slice_cells (k := 0) ht hz1 hf
  simp only [Value.cells, List.cons.injEq, and_true] at hv
  subst hv
  rcases hor with ⟨hnil, rfl, _⟩ | ⟨ds, rs, n', h1', h2, _, _, h3⟩
  · exact ⟨[], ao, cap, Sv.typed (f := eNQ) (l := []) hS, fun p h => by simp at h, by simp⟩
  · rw [show d = .slice ds rs from h1'] at hN
    have hall : ∀ x ∈ l, ∃ a : NQ, x = eNQ a ∧ OKnq [old W] N a := fun x hx => by
      obtain ⟨i, hi, hxe⟩ := List.getElem_of_mem hx
      obtain ⟨y', hy, hyd⟩ := h3 i x (by rw [List.getElem?_eq_getElem hi, hxe])
      obtain ⟨a, ha, hA, hA'⟩ := el_nq hm.toMeas h1 hz hke hy
      have := hm.el ds rs y'.1 (List.mem_of_getElem? hyd)
      exact ⟨a, ha, hA, by omega⟩
    obtain ⟨l', rfl, hall'⟩ := SL.typed hall
    have e2 := hm.len ds rs
    exact ⟨l', ao, cap, Sv.typed hS, hall', by simp at h2; omega⟩
end
end Go.ShM
/-
  Of the nodes of a whole tree none is refused, and what Needs tells is just enough. Plain: no program in sight. (Conditions: none.)
-/
set_option maxRecDepth 20000
set_option linter.all false
namespace Go.ShM
open Go.SL
abbrev kn (K : KM) (t : Nat) : Prop := (K (nt t)).isSome = true
def Tru (T : Nat → Dg) (K : KM) : Prop := ∀ (t : Nat) d, K (nt t) = some d → d = T t
def TreeN (w : Nat) (T : Nat → Dg) : Prop := ∀ x, 1 ≤ x → x < w → T x = nodeD (T (2 * x)) (T (2 * x + 1))
def Clo (w : Nat) (K : KM) : Prop := ∀ i, 1 ≤ i → i < w → kn K (2 * i) → kn K (2 * i + 1) → kn K i
def ndl (T : Nat → Dg) (as : List Nat) : List Nd := as.map fun a => (nt a, T a)
theorem nt_inj {a b : Nat} (h : nt a = nt b) : a = b := by simp only [nt] at h; omega
theorem kn_set {K : KM} {a t : Nat} {d : Dg} : kn (kset K (nt a) d) t ↔ t = a ∨ kn K t := by
  unfold kn
  by_cases e : t = a
  · subst e; rw [kset_eq]; simp
  · rw [kset_ne K d (fun h => e (nt_inj h))]; simp [e]
theorem Tru.set {T : Nat → Dg} {K : KM} {a : Nat} {d : Dg} (h : Tru T K) (e : d = T a) : Tru T (kset K (nt a) d) := fun t x hx => by
  by_cases q : t = a
  · subst q; rw [kset_eq] at hx; rw [← e]; exact (Option.some.inj hx).symm
  · rw [kset_ne K d (fun h => q (nt_inj h))] at hx; exact h t x hx
theorem put1_tru {w : Nat} {T : Nat → Dg} : ∀ (as : List Nat) (K : KM) (fr : List Nat), (∀ a ∈ as, 1 ≤ a ∧ a < 2 * w) → Tru T K →
    (put1 w K (ndl T as) fr).1 = 0 ∧ Tru T (put1 w K (ndl T as) fr).2.1 ∧ ∀ t, kn (put1 w K (ndl T as) fr).2.1 t ↔ kn K t ∨ t ∈ as
  | [], K, fr, _, h => ⟨rfl, h, fun t => by simp [ndl, put1]⟩
  | a :: as, K, fr, hr, h => by
    have ha := hr a (by simp)
    have hn : ¬ ((nt a, T a).1 < 1 ∨ 2 * (w : Int) - 1 < (nt a, T a).1) := by simp only [nt]; omega
    show (put1 w K ((nt a, T a) :: ndl T as) fr).1 = 0 ∧ Tru T (put1 w K ((nt a, T a) :: ndl T as) fr).2.1 ∧ ∀ t, kn (put1 w K ((nt a, T a) :: ndl T as) fr).2.1 t ↔ _
    cases e : K (nt a) with
    | none =>
      rw [put1_new (x := (nt a, T a)) hn (by show (K (nt a)).isSome = false; rw [e]; rfl)]
      obtain ⟨h1, h2, h3⟩ := put1_tru as (kset K (nt a) (T a)) (fr ++ [(nt a).toNat]) (fun b hb => hr b (by simp [hb])) (h.set rfl)
      refine ⟨h1, h2, fun t => ?_⟩
      rw [h3 t, kn_set]
      simp only [List.mem_cons]
      constructor
      · rintro ((rfl | q) | q)
        · exact .inr (.inl rfl)
        · exact .inl q
        · exact .inr (.inr q)
      · rintro (q | rfl | q)
        · exact .inl (.inr q)
        · exact .inl (.inl rfl)
        · exact .inr q
    | some d =>
      have hd := h a d e
      rw [put1_old (x := (nt a, T a)) hn (by show (K (nt a)).isSome = true; rw [e]; rfl) (by show (K (nt a)).getD zD = T a; rw [e]; exact hd)]
      obtain ⟨h1, h2, h3⟩ := put1_tru as K fr (fun b hb => hr b (by simp [hb])) h
      refine ⟨h1, h2, fun t => ?_⟩
      rw [h3 t]
      simp only [List.mem_cons]
      have hka : kn K a := by unfold kn; rw [e]; rfl
      constructor
      · rintro (q | q)
        · exact .inl q
        · exact .inr (.inr q)
      · rintro (q | rfl | q)
        · exact .inl q
        · exact .inl hka
        · exact .inr q
theorem cl2_tru {w : Nat} {T : Nat → Dg} (hT : TreeN w T) : ∀ (m : Nat) (K : KM) (fr : List Nat), m < w → Tru T K → (cl2 m K fr).1 = true ∧ Tru T (cl2 m K fr).2.1
  | 0, K, fr, _, h => ⟨rfl, h⟩
  | m + 1, K, fr, hm, h => by
    have hb := hT (m + 1) (by omega) hm
    rw [cl2]
    split
    · rename_i l r hl hr
      have el := h (2 * (m + 1)) l hl
      have er := h (2 * (m + 1) + 1) r hr
      split
      · rename_i d hd
        have ed := h (m + 1) d hd
        split
        · exact cl2_tru hT m K fr (by omega) h
        · rw [if_pos (by rw [el, er, ed, hb])]
          exact cl2_tru hT m K fr (by omega) h
      · exact cl2_tru hT m _ _ (by omega) (h.set (a := m + 1) (by rw [el, er, ← hb]))
    · exact cl2_tru hT m K fr (by omega) h
/-- what is there behind is what was there, or has both children; and both children bring it -/
theorem cl2_clo : ∀ (m : Nat) (K : KM) (fr : List Nat), (cl2 m K fr).1 = true → (∀ t, kn (cl2 m K fr).2.1 t → kn K t ∨ (kn (cl2 m K fr).2.1 (2 * t) ∧ kn (cl2 m K fr).2.1 (2 * t + 1))) ∧
    (∀ t, kn K t → kn (cl2 m K fr).2.1 t) ∧ ∀ i, 1 ≤ i → i ≤ m → kn (cl2 m K fr).2.1 (2 * i) → kn (cl2 m K fr).2.1 (2 * i + 1) → kn (cl2 m K fr).2.1 i
  | 0, K, fr, _ => ⟨fun t h => .inl h, fun t h => h, fun i h1 h2 => by omega⟩
  | m + 1, K, fr, hok => by
    have keep := fun K fr => (cl2_keep m K fr).1
    have hk2 : ∀ K fr t, m < t → (kn (cl2 m K fr).2.1 t ↔ kn K t) := fun K fr t ht => by unfold kn; rw [keep K fr (nt t) (by simp only [nt]; omega)]
    rw [cl2] at hok ⊢
    split at hok
    · rename_i l r hl hr
      split at hok
      · rename_i d hd
        have hfin : (cl2 m K fr).1 = true → (∀ t, kn (cl2 m K fr).2.1 t → kn K t ∨ (kn (cl2 m K fr).2.1 (2 * t) ∧ kn (cl2 m K fr).2.1 (2 * t + 1))) ∧
            (∀ t, kn K t → kn (cl2 m K fr).2.1 t) ∧ ∀ i, 1 ≤ i → i ≤ m + 1 → kn (cl2 m K fr).2.1 (2 * i) → kn (cl2 m K fr).2.1 (2 * i + 1) → kn (cl2 m K fr).2.1 i := fun h => by
          obtain ⟨a, b, c⟩ := cl2_clo m K fr h
          refine ⟨a, b, fun i h1 h2 q1 q2 => ?_⟩
          by_cases e : i = m + 1
          · subst e; rw [hk2 K fr _ (by omega)]; unfold kn; rw [show nt (m + 1) = ((m + 1 : Nat) : Int) from rfl, hd]; rfl
          · exact c i h1 (by omega) q1 q2
        split at hok
        · rename_i hc; rw [if_pos hc]; exact hfin hok
        · rename_i hc
          split at hok
          · rename_i hc2; rw [if_neg hc, if_pos hc2]; exact hfin hok
          · cases hok
      · rename_i hd
        obtain ⟨a, b, c⟩ := cl2_clo m _ _ hok
        have hl' : kn (cl2 m (kset K (nt (m + 1)) (nodeD l r)) (fr ++ [m + 1])).2.1 (2 * (m + 1)) := by
          rw [hk2 _ _ _ (by omega), kn_set]; right; unfold kn; rw [show nt (2 * (m + 1)) = ((2 * (m + 1) : Nat) : Int) from rfl, hl]; rfl
        have hr' : kn (cl2 m (kset K (nt (m + 1)) (nodeD l r)) (fr ++ [m + 1])).2.1 (2 * (m + 1) + 1) := by
          rw [hk2 _ _ _ (by omega), kn_set]; right; unfold kn; rw [show nt (2 * (m + 1) + 1) = ((2 * (m + 1) + 1 : Nat) : Int) from rfl, hr]; rfl
        refine ⟨fun t ht => ?_, fun t ht => b t (kn_set.2 (.inr ht)), fun i h1 h2 q1 q2 => ?_⟩
        · rcases a t ht with q | q
          · rcases kn_set.1 q with rfl | q
            · exact .inr ⟨hl', hr'⟩
            · exact .inl q
          · exact .inr q
        · by_cases e : i = m + 1
          · subst e; rw [hk2 _ _ _ (by omega), kn_set]; exact .inl rfl
          · exact c i h1 (by omega) q1 q2
    · rename_i hno
      obtain ⟨a, b, c⟩ := cl2_clo m K fr hok
      refine ⟨a, b, fun i h1 h2 q1 q2 => ?_⟩
      by_cases e : i = m + 1
      · subst e
        rw [hk2 K fr _ (by omega)] at q1 q2
        exact absurd (kis q2) (hno _ _ (kis q1))
      · exact c i h1 (by omega) q1 q2
/-! ### a proof as it was made -/
theorem upK_later {K : KM} {w : Nat} : ∀ (q m t : Nat), w - 1 - m < t → m ≤ q → q + 1 ≤ w → upK K w q (nt t) = upK K w m (nt t)
  | 0, m, t, _, h, _ => by
    obtain rfl : m = 0 := by omega
    rfl
  | q + 1, m, t, ht, h, hq => by
    by_cases e : m = q + 1
    · subst e; rfl
    · show stepK (upK K w q) (w - 1 - q) (nt t) = _
      rw [stepK_at (fun e => by have := nt_inj e; omega)]
      exact upK_later q m t ht (by omega) (by omega)
theorem Clo_new {n : Nat} {root : Dg} (h1 : 1 ≤ n) (h2 : n ≤ 512) : Clo (wdM n) (newK n root) := fun i hi hw q1 q2 => by
  have hwo := wd_ok h1 h2
  by_cases e : i = 1
  · subst e; unfold kn; rw [show nt 1 = 1 from rfl, newK_root]; rfl
  · unfold newK at q1 q2 ⊢
    generalize kset (padK n (wdM n) (wdM n - n)) 1 root = K0 at *
    generalize hww : wdM n = w at *
    have hm : w - 1 - i + 1 ≤ w - 2 := by omega
    unfold kn at q1 q2 ⊢
    rw [upK_later (w - 2) (w - 1 - i) (2 * i) (by omega) (by omega) (by omega)] at q1
    rw [upK_later (w - 2) (w - 1 - i) (2 * i + 1) (by omega) (by omega) (by omega)] at q2
    rw [upK_later (w - 2) (w - 1 - i + 1) i (by omega) hm (by omega)]
    show (stepK (upK K0 w (w - 1 - i)) (w - 1 - (w - 1 - i)) (nt i)).isSome = true
    rw [show w - 1 - (w - 1 - i) = i from by omega, stepK_yes (kis q1) (kis q2), kset_eq]; rfl
theorem Tru_pad {T : Nat → Dg} {n w : Nat} : ∀ m, (∀ j, n ≤ j → j < n + m → T (w + j) = padD j) → Tru T (padK n w m)
  | 0, _ => fun t d h => by cases h
  | m + 1, h => (Tru_pad m (fun j h1 h2 => h j h1 (by omega))).set (a := w + (n + m)) (h (n + m) (by omega) (by omega)).symm
theorem Tru_step {T : Nat → Dg} {w a : Nat} {K : KM} (hT : TreeN w T) (h1 : 1 ≤ a) (h2 : a < w) (h : Tru T K) : Tru T (stepK K a) := by
  unfold stepK
  split
  · rename_i l r hl hr
    exact h.set (a := a) (by rw [h (2 * a) l hl, h (2 * a + 1) r hr, ← hT a h1 h2])
  · exact h
theorem Tru_up {T : Nat → Dg} {w : Nat} {K : KM} (hT : TreeN w T) (h : Tru T K) : ∀ m, m + 2 ≤ w ∨ m = 0 → Tru T (upK K w m)
  | 0, _ => h
  | m + 1, hm => Tru_step hT (by omega) (by omega) (Tru_up hT h m (by omega))
def tnD (ls : List Dg) (t : Nat) : Dg := (bldM ls).getD (t - 1) zD
theorem tn_tree {ls : List Dg} (h : wdE ls.length = 0) : TreeN (wdM ls.length) (tnD ls) := fun x h1 h2 => by
  unfold tnD
  rw [bld_node h h1 h2]
  congr 1
theorem Tru_new {ls : List Dg} (h : wdE ls.length = 0) : Tru (tnD ls) (newK ls.length (rootM ls)) := by
  have hb := wdE_iff.1 h
  have hwo := wd_ok hb.1 hb.2
  have hlen := bld_len h
  unfold newK
  refine Tru_up (tn_tree h) ?_ _ (by omega)
  refine Tru.set (a := 1) (Tru_pad _ fun j h1 h2 => ?_) rfl
  unfold tnD
  rw [bld_pad h (by omega) (by omega)]
  congr 1; omega
/-! ### the way up from a leaf -/
def Upw (L a : Nat) : Prop := ∃ k, a = L / 2 ^ k
theorem Upw.refl (L : Nat) : Upw L L := ⟨0, by simp⟩
theorem Upw.half {L a : Nat} (h : Upw L a) : Upw L (a / 2) := by
  obtain ⟨k, rfl⟩ := h
  exact ⟨k + 1, by rw [Nat.div_div_eq_div_mul, ← Nat.pow_succ]⟩
theorem Upw.cmp {L a b : Nat} (ha : Upw L a) (hb : Upw L b) : Upw a b ∨ Upw b a := by
  obtain ⟨k, rfl⟩ := ha
  obtain ⟨j, rfl⟩ := hb
  rcases Nat.le_total k j with h | h
  · exact .inl ⟨j - k, by rw [Nat.div_div_eq_div_mul, ← Nat.pow_add]; congr 2; omega⟩
  · exact .inr ⟨k - j, by rw [Nat.div_div_eq_div_mul, ← Nat.pow_add]; congr 2; omega⟩
theorem Upw.eq_or {a b : Nat} (h : Upw a b) : b = a ∨ b ≤ a / 2 := by
  obtain ⟨k, rfl⟩ := h
  cases k with
  | zero => left; simp
  | succ k => right; rw [Nat.pow_succ, Nat.mul_comm, ← Nat.div_div_eq_div_mul]; exact Nat.div_le_self _ _
theorem Upw.le {a b : Nat} (h : Upw a b) : b ≤ a := by rcases h.eq_or with q | q <;> omega
theorem xor_two {t : Nat} (h : 2 ≤ t) : 2 ≤ t ^^^ 1 ∧ (t ^^^ 1) / 2 = t / 2 ∧ (t ^^^ 1) ^^^ 1 = t ∧ t ^^^ 1 ≠ t ∧ t ^^^ 1 ≤ t + 1 := by
  refine ⟨?_, ?_, by rw [Nat.xor_assoc]; simp, ?_, ?_⟩
  all_goals
    rcases half_cases t with q | q
    · have := (xor_half t).1 q; omega
    · have := (xor_half t).2 q; omega
/-- a brother of one on the way is not on it -/
theorem Upw.bro {L a : Nat} (ha : Upw L a) (h2 : 2 ≤ a) : ¬ Upw L (a ^^^ 1) := fun hb => by
  obtain ⟨q1, q2, q3, q4, q5⟩ := xor_two h2
  rcases ha.cmp hb with h | h
  · rcases h.eq_or with e | e <;> omega
  · rcases h.eq_or with e | e <;> omega
/-! what is asked for -/
theorem needF_kn {K : KM} {t : Nat} (h : kn K t) : needF K t = [] := needF_stop h
theorem needF_mem {K : KM} : ∀ (t : Nat), ∀ a ∈ needF K t, ∃ x, Upw t x ∧ 1 ≤ x ∧ ¬ kn K x ∧ a = x ^^^ 1 ∧ ¬ kn K a := by
  intro t
  induction t using Nat.strongRecOn with
  | ind t ih =>
    intro a ha
    by_cases h0 : t = 0
    · subst h0; rw [needF_0] at ha; cases ha
    · cases hk : (K ((t : Nat) : Int)).isSome with
      | true => rw [needF_stop hk] at ha; cases ha
      | false =>
        cases hx : (K ((t ^^^ 1 : Nat) : Int)).isSome with
        | true =>
          rw [needF_has (by omega) hk hx] at ha
          obtain ⟨x, h1, h2, h3⟩ := ih (t / 2) (by omega) a ha
          obtain ⟨k, rfl⟩ := h1
          exact ⟨_, ⟨k + 1, by rw [Nat.pow_succ, Nat.mul_comm, ← Nat.div_div_eq_div_mul]⟩, h2, h3⟩
        | false =>
          rw [needF_add (by omega) hk hx] at ha
          rcases List.mem_cons.1 ha with rfl | ha
          · exact ⟨t, Upw.refl t, by omega, by unfold kn; rw [show nt t = ((t : Nat) : Int) from rfl, hk]; simp, rfl, by unfold kn; rw [show nt (t ^^^ 1) = ((t ^^^ 1 : Nat) : Int) from rfl, hx]; simp⟩
          · obtain ⟨x, h1, h2, h3⟩ := ih (t / 2) (by omega) a ha
            obtain ⟨k, rfl⟩ := h1
            exact ⟨_, ⟨k + 1, by rw [Nat.pow_succ, Nat.mul_comm, ← Nat.div_div_eq_div_mul]⟩, h2, h3⟩
theorem needF_le {K : KM} (h1 : kn K 1) : ∀ t, ∀ a ∈ needF K t, a ≤ t + 1 ∧ 2 ≤ a := fun t a ha => by
  obtain ⟨x, hu, hx1, hx, rfl, _⟩ := needF_mem t a ha
  have h2 : 2 ≤ x := by
    rcases Nat.lt_or_ge x 2 with q | q
    · obtain rfl : x = 1 := by omega
      exact absurd h1 hx
    · exact q
  have := xor_two h2
  have := hu.le
  omega
theorem needF_nodup {K : KM} (h1 : kn K 1) : ∀ t : Nat, (needF K t).Nodup := by
  intro t
  induction t using Nat.strongRecOn with
  | ind t ih =>
    by_cases h0 : t = 0
    · subst h0; rw [needF_0]; exact List.nodup_nil
    · cases hk : (K ((t : Nat) : Int)).isSome with
      | true => rw [needF_stop hk]; exact List.nodup_nil
      | false =>
        have h2 : 2 ≤ t := by
          rcases Nat.lt_or_ge t 2 with q | q
          · obtain rfl : t = 1 := by omega
            unfold kn at h1; rw [show ((1 : Nat) : Int) = nt 1 from rfl, h1] at hk; cases hk
          · exact q
        cases hx : (K ((t ^^^ 1 : Nat) : Int)).isSome with
        | true => rw [needF_has (by omega) hk hx]; exact ih _ (by omega)
        | false =>
          rw [needF_add (by omega) hk hx]
          refine List.nodup_cons.2 ⟨fun hm => ?_, ih _ (by omega)⟩
          obtain ⟨x, hu, hx1, hx, he, _⟩ := needF_mem (t / 2) _ hm
          have hx2 : 2 ≤ x := by
            rcases Nat.lt_or_ge x 2 with q | q
            · obtain rfl : x = 1 := by omega
              exact absurd h1 hx
            · exact q
          have q1 := (xor_two hx2).2.2.1
          have q2 := (xor_two h2).2.2.1
          have := hu.le
          rw [← he, q2] at q1
          omega
/-- known ones on the way have known ones above them -/
def Ctg (K : KM) (L : Nat) : Prop := ∀ x, Upw L x → 2 ≤ x → kn K x → kn K (x / 2)
theorem Ctg_of {n w i : Nat} {F K : KM} (hw : n ≤ w) (hi : i < n) (hF : NoA n w F) (hs : Snd w F K) : Ctg K (w + i) := fun x hx h2 hk => by
  obtain ⟨k, e⟩ := hx
  have hle := Upw.le (⟨k, e⟩ : Upw (w + i) x)
  exact (hs x h2 (by omega) hk (hF x h2 ⟨k, i, hi, e⟩)).is.2.2.1
theorem Ctg.need {K : KM} {L : Nat} (hc : Ctg K L) (h1 : kn K 1) : ∀ k, ¬ kn K (L / 2 ^ k) → 1 ≤ L / 2 ^ k → (∀ a ∈ needF K (L / 2 ^ k), a ∈ needF K L)
  | 0, _, _ => fun a ha => by simpa using ha
  | k + 1, hn, hp => fun a ha => by
    have e : L / 2 ^ (k + 1) = L / 2 ^ k / 2 := by rw [Nat.div_div_eq_div_mul, ← Nat.pow_succ]
    rw [e] at hn hp ha
    have hnx : ¬ kn K (L / 2 ^ k) := fun h => hn (hc _ ⟨k, rfl⟩ (by omega) h)
    refine Ctg.need hc h1 k hnx (by omega) a ?_
    have hk : (K ((L / 2 ^ k : Nat) : Int)).isSome = false := by simpa [kn, nt] using hnx
    cases hx : (K (((L / 2 ^ k) ^^^ 1 : Nat) : Int)).isSome with
    | true => rw [needF_has (by omega) hk hx]; exact ha
    | false => rw [needF_add (by omega) hk hx]; exact List.mem_cons_of_mem _ ha
/-- the brother of one on the way that is not known is known or asked for -/
theorem Ctg.bro {K : KM} {L x : Nat} (hc : Ctg K L) (h1 : kn K 1) (hx : Upw L x) (hn : ¬ kn K x) (hp : 1 ≤ x) : kn K (x ^^^ 1) ∨ (x ^^^ 1) ∈ needF K L := by
  obtain ⟨k, rfl⟩ := hx
  have hk : (K ((L / 2 ^ k : Nat) : Int)).isSome = false := by simpa [kn, nt] using hn
  cases hx : (K (((L / 2 ^ k) ^^^ 1 : Nat) : Int)).isSome with
  | true => exact .inl hx
  | false => exact .inr (hc.need h1 k hn hp _ (by rw [needF_add (by omega) hk hx]; exact List.mem_cons_self ..))
/-! ### nodes put in -/
/-- what is new lies on the way, or was handed in -/
theorem new_at {w L : Nat} {K K' : KM} {as : List Nat} (hcl : Clo w K) (hs : SupK w K') (h1 : ∀ t, kn K' t → (kn K t ∨ t ∈ as) ∨ (kn K' (2 * t) ∧ kn K' (2 * t + 1))) (ha : ∀ a ∈ as, Upw L a ∨ ∃ x, Upw L x ∧ 2 ≤ x ∧ a = x ^^^ 1) :
    ∀ q t, 2 * w ≤ t + q → kn K' t → ¬ kn K t → Upw L t ∨ t ∈ as
  | 0, t, hq, hk, _ => by have := hs _ hk; simp only [nt] at this; omega
  | q + 1, t, hq, hk, hn => by
    rcases h1 t hk with (h | h) | ⟨h2, h3⟩
    · exact absurd h hn
    · exact .inr h
    · have hr := hs _ hk
      have hr2 := hs _ h2
      simp only [nt] at hr hr2
      have key : ∀ c, (c = 2 * t ∨ c = 2 * t + 1) → kn K' c → ¬ kn K c → Upw L t := fun c hc hkc hnc => by
        rcases new_at hcl hs h1 ha q c (by omega) hkc hnc with hu | hm
        · have := hu.half; rwa [show c / 2 = t from by omega] at this
        · rcases ha c hm with hu | ⟨x, hx, hx2, rfl⟩
          · have := hu.half; rwa [show c / 2 = t from by omega] at this
          · have := hx.half; rw [← (xor_two hx2).2.1] at this; rwa [show (x ^^^ 1) / 2 = t from by omega] at this
      by_cases e1 : kn K (2 * t)
      · by_cases e2 : kn K (2 * t + 1)
        · exact absurd (hcl t (by omega) (by omega) e1 e2) hn
        · exact .inl (key _ (.inr rfl) h3 e2)
      · exact .inl (key _ (.inl rfl) h2 e1)
structure Whl (w : Nat) (T : Nat → Dg) (K : KM) : Prop where
  sup : SupK w K
  tru : Tru T K
  clo : Clo w K
  one : kn K 1
/-- what becomes of true nodes that are put in -/
theorem put_whl {w : Nat} {T : Nat → Dg} {K : KM} {as : List Nat} (hT : TreeN w T) (h : Whl w T K) (hw : 1 ≤ w) (hr : ∀ a ∈ as, 1 ≤ a ∧ a < 2 * w) :
    ∃ K' fr, putS w K (ndl T as) = (if fr.all (okF K') = true then (0, K', fr) else (122, K', fr)) ∧ Fre w K K' fr ∧ Whl w T K' ∧ (∀ t, kn K' t → (kn K t ∨ t ∈ as) ∨ (kn K' (2 * t) ∧ kn K' (2 * t + 1))) ∧ (∀ t, kn K t ∨ t ∈ as → kn K' t) := by
  obtain ⟨p1, p2, p3⟩ := put1_tru (w := w) as K [] hr h.tru
  have hF1 := put1_fre (ndl T as) K [] (Fre_0 h.sup)
  obtain ⟨c1, c2⟩ := cl2_tru hT (w - 1) (put1 w K (ndl T as) []).2.1 (put1 w K (ndl T as) []).2.2 (by omega) p2
  obtain ⟨d1, d2, d3⟩ := cl2_clo (w - 1) (put1 w K (ndl T as) []).2.1 (put1 w K (ndl T as) []).2.2 c1
  have hF2 := cl2_fre (K0 := K) (w - 1) _ _ (by omega) hF1
  refine ⟨(cl2 (w - 1) (put1 w K (ndl T as) []).2.1 (put1 w K (ndl T as) []).2.2).2.1, (cl2 (w - 1) (put1 w K (ndl T as) []).2.1 (put1 w K (ndl T as) []).2.2).2.2, ?_, hF2, ⟨hF2.sup, c2, fun i h1 h2 => d3 i h1 (by omega), d2 1 ((p3 1).2 (.inl h.one))⟩, fun t ht => ?_, fun t ht => d2 t ((p3 t).2 ht)⟩
  · unfold putS
    dsimp only
    rw [if_pos p1, if_pos c1]
  · rcases d1 t ht with q | q
    · exact .inl ((p3 t).1 q)
    · exact .inr q
/-- with all that is asked for a leaf is proved -/
theorem serve_ok {w L : Nat} {T : Nat → Dg} {K : KM} (hT : TreeN w T) (h : Whl w T K) (hw : 1 ≤ w) (hc : Ctg K L) (hL1 : 1 ≤ L) (hL2 : L + 1 < 2 * w ∨ (L < 2 * w ∧ L % 2 = 1)) (hn : ¬ kn K L) :
    (putS w K (ndl T (L :: needF K L))).1 = 0 ∧ Whl w T (putK w K (ndl T (L :: needF K L))) ∧ putK w K (ndl T (L :: needF K L)) (nt L) = some (T L) := by
  have hL2' : L < 2 * w := by omega
  have hbd : ∀ a ∈ L :: needF K L, 1 ≤ a ∧ a < 2 * w := fun a ha => by
    rcases List.mem_cons.1 ha with rfl | ha
    · exact ⟨hL1, hL2'⟩
    · obtain ⟨x, hu, hx1, hx, rfl, _⟩ := needF_mem L a ha
      have hle := hu.le
      have h2 := (needF_le h.one L _ ha).2
      refine ⟨by omega, ?_⟩
      rcases half_cases x with q | q
      · have := (xor_half x).1 q; omega
      · have := (xor_half x).2 q; omega
  obtain ⟨K', fr, e, hF, hW, q1, q2⟩ := put_whl hT h hw hbd
  have ge2 : ∀ x, Upw L x → 1 ≤ x → ¬ kn K x → 2 ≤ x := fun x _ hp hx => by
    rcases Nat.lt_or_ge x 2 with q | q
    · obtain rfl : x = 1 := by omega
      exact absurd h.one hx
    · exact q
  have hpos : ∀ k, ¬ kn K (L / 2 ^ k) → 1 ≤ L / 2 ^ k → kn K' (L / 2 ^ k) := fun k => by
    induction k with
    | zero => intro _ _; simp only [Nat.pow_zero, Nat.div_one]; exact q2 L (.inr (by simp))
    | succ k ih =>
      intro hn hp
      have e : L / 2 ^ (k + 1) = L / 2 ^ k / 2 := by rw [Nat.div_div_eq_div_mul, ← Nat.pow_succ]
      rw [e] at hn hp ⊢
      have hnx : ¬ kn K (L / 2 ^ k) := fun h => hn (hc _ ⟨k, rfl⟩ (by omega) h)
      have k1 := ih hnx (by omega)
      have k2 : kn K' ((L / 2 ^ k) ^^^ 1) := q2 _ ((hc.bro h.one ⟨k, rfl⟩ hnx (by omega)).elim .inl fun m => .inr (List.mem_cons_of_mem _ m))
      have hsup := hW.sup _ k1
      simp only [nt] at hsup
      generalize L / 2 ^ k = x at *
      rcases half_cases x with q | q
      · rw [(xor_half x).1 q] at k2; rw [q] at k1
        exact hW.clo (x / 2) (by omega) (by omega) k1 k2
      · rw [(xor_half x).2 q] at k2; rw [q] at k1
        exact hW.clo (x / 2) (by omega) (by omega) k2 k1
  have hup : ∀ x, Upw L x → 1 ≤ x → kn K' x := fun x hx hp => by
    obtain ⟨k, rfl⟩ := hx
    by_cases e : kn K (L / 2 ^ k)
    · exact q2 _ (.inl e)
    · exact hpos k e hp
  have hok : fr.all (okF K') = true := List.all_eq_true.2 fun a ha => by
    have hnew := hF.new a ha
    have hna : ¬ kn K a := by unfold kn; rw [show nt a = ((a : Nat) : Int) from rfl, hnew.1]; simp
    have har := hF.rng ha
    have hal : ∀ a ∈ L :: needF K L, Upw L a ∨ ∃ x, Upw L x ∧ 2 ≤ x ∧ a = x ^^^ 1 := fun a ha => by
      rcases List.mem_cons.1 ha with rfl | ha
      · exact .inl (Upw.refl _)
      · obtain ⟨x, hu, hx1, hx, rfl, _⟩ := needF_mem L a ha
        exact .inr ⟨x, hu, ge2 x hu hx1 hx, rfl⟩
    have hcase := new_at (L := L) h.clo hW.sup q1 hal (2 * w) a (by omega) hnew.2 hna
    have main : ∀ x, Upw L x → 2 ≤ x → ¬ kn K x → kn K' x ∧ kn K' (x ^^^ 1) ∧ kn K' (x / 2) := fun x hx h2 hnx =>
      ⟨hup x hx (by omega), q2 _ ((hc.bro h.one hx hnx (by omega)).elim .inl fun m => .inr (List.mem_cons_of_mem _ m)), hup _ hx.half (by omega)⟩
    have hup2 : Upw L a → okF K' a = true := fun hu => by
      obtain ⟨_, m2, m3⟩ := main a hu (ge2 a hu (by omega) hna) hna
      unfold okF; rw [show (K' ((a ^^^ 1 : Nat) : Int)).isSome = true from m2, show (K' ((a / 2 : Nat) : Int)).isSome = true from m3]; rfl
    rcases hcase with hu | hm
    · exact hup2 hu
    · rcases List.mem_cons.1 hm with rfl | hm
      · exact hup2 (Upw.refl _)
      · obtain ⟨x, hu, hx1, hx, rfl, _⟩ := needF_mem L a hm
        have hx2 := ge2 x hu hx1 hx
        obtain ⟨m1, _, m3⟩ := main x hu hx2 hx
        obtain ⟨_, x2, x3, _, _⟩ := xor_two hx2
        unfold okF; rw [x3, x2, show (K' ((x : Nat) : Int)).isSome = true from m1, show (K' ((x / 2 : Nat) : Int)).isSome = true from m3]; rfl
  rw [if_pos hok] at e
  have e0 : (putS w K (ndl T (L :: needF K L))).1 = 0 := by rw [e]
  rw [putK_ok e0, e]
  refine ⟨rfl, hW, ?_⟩
  show K' (nt L) = some (T L)
  have hkL := q2 L (.inr (by simp))
  have := kis hkL
  rw [this]
  exact congrArg some (hW.tru L _ this)
/-- without one of them it is not -/
theorem serve_lack {w L j : Nat} {T : Nat → Dg} {K : KM} (hT : TreeN w T) (h : Whl w T K) (hw : 1 ≤ w) (hc : Ctg K L) (hL1 : 1 ≤ L) (hL2 : L + 1 < 2 * w ∨ (L < 2 * w ∧ L % 2 = 1)) (hn : ¬ kn K L) (hj : j < (needF K L).length) :
    (putS w K (ndl T (L :: (needF K L).eraseIdx j))).1 = 122 := by
  have hL2' : L < 2 * w := by omega
  obtain ⟨s, hs⟩ : ∃ s, (needF K L)[j]? = some s := ⟨_, List.getElem?_eq_getElem hj⟩
  have hsm := List.mem_of_getElem? hs
  have hsub : ∀ a ∈ (needF K L).eraseIdx j, a ∈ needF K L := fun a ha => List.mem_of_mem_eraseIdx ha
  have hsn : s ∉ (needF K L).eraseIdx j := fun hm => by
    obtain ⟨i, hi, he⟩ := List.mem_eraseIdx_iff_getElem?.1 hm
    have hnd := needF_nodup h.one L
    have h1 := (List.getElem?_eq_some_iff.1 hs)
    have h2 := (List.getElem?_eq_some_iff.1 he)
    exact hi ((List.getElem_inj (h₀ := h2.1) (h₁ := h1.1) hnd (i := i) (j := j)).1 (h2.2.trans h1.2.symm))
  have hmore : ∀ a ∈ needF K L, a ≠ s → a ∈ (needF K L).eraseIdx j := fun a ha hne => by
    obtain ⟨i, hi, he⟩ := List.getElem_of_mem ha
    refine List.mem_eraseIdx_iff_getElem?.2 ⟨i, fun e => ?_, by rw [List.getElem?_eq_getElem hi, he]⟩
    subst e
    rw [List.getElem?_eq_getElem hi, he] at hs
    exact hne (Option.some.inj hs)
  obtain ⟨x0, hu0, hx01, hx0, rfl, hns⟩ := needF_mem L s hsm
  have ge2 : ∀ x, Upw L x → 1 ≤ x → ¬ kn K x → 2 ≤ x := fun x _ hp hx => by
    rcases Nat.lt_or_ge x 2 with q | q
    · obtain rfl : x = 1 := by omega
      exact absurd h.one hx
    · exact q
  have hx02 := ge2 x0 hu0 hx01 hx0
  have hbd : ∀ a ∈ L :: (needF K L).eraseIdx j, 1 ≤ a ∧ a < 2 * w := fun a ha => by
    rcases List.mem_cons.1 ha with rfl | ha
    · exact ⟨hL1, hL2'⟩
    · obtain ⟨x, hu, hx1, hx, rfl, _⟩ := needF_mem L a (hsub a ha)
      have hle := hu.le
      have h2 := (needF_le h.one L _ (hsub _ ha)).2
      refine ⟨by omega, ?_⟩
      rcases half_cases x with q | q
      · have := (xor_half x).1 q; omega
      · have := (xor_half x).2 q; omega
  obtain ⟨K', fr, e, hF, hW, q1, q2⟩ := put_whl hT h hw hbd
  have hal : ∀ a ∈ L :: (needF K L).eraseIdx j, Upw L a ∨ ∃ x, Upw L x ∧ 2 ≤ x ∧ a = x ^^^ 1 := fun a ha => by
    rcases List.mem_cons.1 ha with rfl | ha
    · exact .inl (Upw.refl _)
    · obtain ⟨x, hu, hx1, hx, rfl, _⟩ := needF_mem L a (hsub a ha)
      exact .inr ⟨x, hu, ge2 x hu hx1 hx, rfl⟩
  have hsK : ¬ kn K' (x0 ^^^ 1) := fun hk => by
    have hsup := hW.sup _ hk
    simp only [nt] at hsup
    rcases new_at (L := L) h.clo hW.sup q1 hal (2 * w) _ (by omega) hk hns with hu | hm
    · exact hu0.bro hx02 hu
    · rcases List.mem_cons.1 hm with e | hm
      · exact hu0.bro hx02 (e ▸ Upw.refl _)
      · exact hsn hm
  have hpos : ∀ k, ¬ kn K (L / 2 ^ k) → 1 ≤ L / 2 ^ k → Upw (L / 2 ^ k) x0 → kn K' (L / 2 ^ k) := fun k => by
    induction k with
    | zero => intro _ _ _; simp only [Nat.pow_zero, Nat.div_one]; exact q2 L (.inr (by simp))
    | succ k ih =>
      intro hn hp hu
      have e : L / 2 ^ (k + 1) = L / 2 ^ k / 2 := by rw [Nat.div_div_eq_div_mul, ← Nat.pow_succ]
      rw [e] at hn hp hu ⊢
      have hnx : ¬ kn K (L / 2 ^ k) := fun h => hn (hc _ ⟨k, rfl⟩ (by omega) h)
      have hux : Upw (L / 2 ^ k) x0 := by
        obtain ⟨j, ej⟩ := hu
        exact ⟨j + 1, by rw [ej, Nat.pow_succ, Nat.mul_comm, ← Nat.div_div_eq_div_mul]⟩
      have k1 := ih hnx (by omega) hux
      have hle := hu.le
      have h2x := ge2 _ ⟨k, rfl⟩ (by omega) hnx
      have hne : (L / 2 ^ k) ^^^ 1 ≠ x0 ^^^ 1 := fun e => by
        have a1 := (xor_two h2x).2.2.1
        have a2 := (xor_two hx02).2.2.1
        rw [e, a2] at a1
        omega
      have k2 : kn K' ((L / 2 ^ k) ^^^ 1) := q2 _ ((hc.bro h.one ⟨k, rfl⟩ hnx (by omega)).elim .inl fun m => .inr (List.mem_cons_of_mem _ (hmore _ m hne)))
      have hsup := hW.sup _ k1
      simp only [nt] at hsup
      generalize L / 2 ^ k = x at *
      rcases half_cases x with q | q
      · rw [(xor_half x).1 q] at k2; rw [q] at k1
        exact hW.clo (x / 2) (by omega) (by omega) k1 k2
      · rw [(xor_half x).2 q] at k2; rw [q] at k1
        exact hW.clo (x / 2) (by omega) (by omega) k2 k1
  have hk0 : kn K' x0 := by
    obtain ⟨k, e0⟩ := hu0
    have := hpos k (e0 ▸ hx0) (by omega) (e0 ▸ Upw.refl x0)
    rwa [← e0] at this
  have hmem : x0 ∈ fr := by
    by_cases hm : x0 ∈ fr
    · exact hm
    · exfalso
      have := hF.old (nt x0) (fun a ha e => hm (by have := nt_inj e; subst this; exact ha))
      unfold kn at hk0 hx0
      rw [this] at hk0
      exact hx0 hk0
  have hno : ¬ fr.all (okF K') = true := fun hall => by
    have := List.all_eq_true.1 hall x0 hmem
    unfold okF at this
    rw [Bool.and_eq_true] at this
    exact hsK this.1
  rw [if_neg hno] at e
  rw [e]
theorem need_rng {w L : Nat} {K : KM} (h1 : kn K 1) (hL : L < 2 * w) : ∀ a ∈ needF K L, 2 ≤ a ∧ a < 2 * w := fun a ha => by
  have h2 := (needF_le h1 L _ ha).2
  obtain ⟨x, hu, hx1, hx, rfl, _⟩ := needF_mem L a ha
  have hle := hu.le
  refine ⟨h2, ?_⟩
  rcases half_cases x with q | q
  · have := (xor_half x).1 q; omega
  · have := (xor_half x).2 q; omega
theorem need_short {w L : Nat} {K : KM} (h1 : kn K 1) (hL : L < 2 * w) (hw : w ≤ 512) : (needF K L).length ≤ 100000 := by
  have hnd := needF_nodup h1 L
  have := nodup_len (w := w) hnd (fun a ha => (need_rng h1 hL a ha).2)
  omega
theorem erase_take_ne {α : Type} {l : List α} {j k : Nat} {a : α} (h : l[j]? = some a) (hne : j ≠ k) : (l.take (j + 1)).eraseIdx k = (l.take j).eraseIdx k ++ [a] := by
  obtain ⟨hj, e⟩ := List.getElem?_eq_some_iff.1 h
  rw [List.take_succ_eq_append_getElem hj, e]
  rcases Nat.lt_or_ge k j with q | q
  · rw [List.eraseIdx_append_of_lt_length (by simp; omega)]
  · rw [List.eraseIdx_of_length_le (l := l.take j) (by simp; omega), List.eraseIdx_append_of_length_le (by simp; omega), List.eraseIdx_of_length_le (by simp; omega)]
theorem erase_take_eq {α : Type} {l : List α} {j : Nat} {a : α} (h : l[j]? = some a) : (l.take (j + 1)).eraseIdx j = (l.take j).eraseIdx j := by
  obtain ⟨hj, e⟩ := List.getElem?_eq_some_iff.1 h
  rw [List.take_succ_eq_append_getElem hj, e]
  rw [List.eraseIdx_of_length_le (l := l.take j) (by simp; omega), List.eraseIdx_append_of_length_le (by simp; omega)]
  have : (l.take j).length = j := by simp; omega
  rw [this]; simp
theorem ndl_snoc (T : Nat → Dg) (as : List Nat) (a : Nat) : ndl T as ++ [(nt a, T a)] = ndl T (as ++ [a]) := by simp [ndl]
theorem ndl_len (T : Nat → Dg) (as : List Nat) : (ndl T as).length = as.length := by simp [ndl]
theorem serve_F {n : Nat} {ls : List Dg} (h : wdE ls.length = 0) : Whl (wdM ls.length) (tnD ls) (newK ls.length (rootM ls)) := by
  have hb := wdE_iff.1 h
  have hwo := wd_ok hb.1 hb.2
  exact ⟨SupK_new hwo.1 hwo.2.2.2.2, Tru_new h, Clo_new hb.1 hb.2, by unfold kn; rw [show nt 1 = 1 from rfl, newK_root]; rfl⟩
end Go.ShM
/-
  The order in which nodes are put in says nothing of what comes of them. Plain: no program in sight. (Conditions: none.)
-/
set_option linter.all false
namespace Go.ShM
open Go.SL
/-- nodes that may stand together, and with what is known -/
def Con (w : Nat) (K : KM) (l : List Nd) : Prop := (∀ x ∈ l, 1 ≤ x.1 ∧ x.1 ≤ 2 * (w : Int) - 1) ∧ (∀ x ∈ l, ∀ d, K x.1 = some d → d = x.2) ∧ ∀ x ∈ l, ∀ y ∈ l, x.1 = y.1 → x.2 = y.2
theorem put1_zero {w : Nat} : ∀ (l : List Nd) (K : KM) (fr : List Nat), (put1 w K l fr).1 = 0 ↔ Con w K l
  | [], K, fr => ⟨fun _ => ⟨fun x h => (by cases h), fun x h => (by cases h), fun x h => (by cases h)⟩, fun _ => rfl⟩
  | x :: l, K, fr => by
    by_cases h : x.1 < 1 ∨ 2 * (w : Int) - 1 < x.1
    · rw [put1_bad h]
      exact ⟨fun h0 => (by cases h0), fun hc => by have := hc.1 x (by simp); omega⟩
    · cases e : K x.1 with
      | none =>
        rw [put1_new h (by rw [e]; rfl), put1_zero l]
        constructor
        · rintro ⟨c1, c2, c3⟩
          have hx : ∀ y ∈ l, x.1 = y.1 → x.2 = y.2 := fun y hy he => c2 y hy x.2 (by rw [← he, kset_eq])
          refine ⟨fun y hy => ?_, fun y hy d hd => ?_, fun y hy z hz he => ?_⟩
          · rcases List.mem_cons.1 hy with rfl | hy
            · omega
            · exact c1 y hy
          · rcases List.mem_cons.1 hy with rfl | hy
            · rw [e] at hd; cases hd
            · exact c2 y hy d (by rw [kset_ne K x.2 (fun q => by rw [q, e] at hd; cases hd)]; exact hd)
          · rcases List.mem_cons.1 hy with hy1 | hy1 <;> rcases List.mem_cons.1 hz with hz1 | hz1
            · rw [hy1, hz1]
            · rw [hy1]; exact hx z hz1 (by rw [← hy1]; exact he)
            · rw [hz1]; exact (hx y hy1 (by rw [← hz1]; exact he.symm)).symm
            · exact c3 y hy1 z hz1 he
        · rintro ⟨c1, c2, c3⟩
          refine ⟨fun y hy => c1 y (by simp [hy]), fun y hy d hd => ?_, fun y hy z hz => c3 y (by simp [hy]) z (by simp [hz])⟩
          by_cases q : y.1 = x.1
          · rw [q, kset_eq] at hd
            rw [← Option.some.inj hd]; exact c3 x (by simp) y (by simp [hy]) q.symm
          · rw [kset_ne K x.2 q] at hd; exact c2 y (by simp [hy]) d hd
      | some d =>
        by_cases he : d = x.2
        · rw [put1_old h (by rw [e]; rfl) (by rw [e]; exact he), put1_zero l]
          constructor
          · rintro ⟨c1, c2, c3⟩
            have hx : ∀ y ∈ l, x.1 = y.1 → x.2 = y.2 := fun y hy q => by have := c2 y hy d (by rw [← q, e]); rw [← he]; exact this
            refine ⟨fun y hy => ?_, fun y hy d' hd => ?_, fun y hy z hz q => ?_⟩
            · rcases List.mem_cons.1 hy with rfl | hy
              · omega
              · exact c1 y hy
            · rcases List.mem_cons.1 hy with rfl | hy
              · rw [e] at hd; rw [← Option.some.inj hd]; exact he
              · exact c2 y hy d' hd
            · rcases List.mem_cons.1 hy with hy1 | hy1 <;> rcases List.mem_cons.1 hz with hz1 | hz1
              · rw [hy1, hz1]
              · rw [hy1]; exact hx z hz1 (by rw [← hy1]; exact q)
              · rw [hz1]; exact (hx y hy1 (by rw [← hz1]; exact q.symm)).symm
              · exact c3 y hy1 z hz1 q
          · rintro ⟨c1, c2, c3⟩
            exact ⟨fun y hy => c1 y (by simp [hy]), fun y hy => c2 y (by simp [hy]), fun y hy z hz => c3 y (by simp [hy]) z (by simp [hz])⟩
        · rw [put1_oth h (by rw [e]; rfl) (by rw [e]; exact he)]
          exact ⟨fun h0 => (by cases h0), fun hc => absurd (hc.2.1 x (by simp) d e) he⟩
theorem put1_else {w : Nat} : ∀ (l : List Nd) (K : KM) (fr : List Nat) (t : Int), (∀ x ∈ l, x.1 ≠ t) → (put1 w K l fr).2.1 t = K t
  | [], K, fr, t, _ => rfl
  | x :: l, K, fr, t, ht => by
    have ih := fun K fr => put1_else (w := w) l K fr t (fun y hy => ht y (by simp [hy]))
    by_cases h : x.1 < 1 ∨ 2 * (w : Int) - 1 < x.1
    · rw [put1_bad h]
    · cases e : K x.1 with
      | none => rw [put1_new h (by rw [e]; rfl), ih, kset_ne K x.2 (fun q => ht x (by simp) q.symm)]
      | some d =>
        by_cases he : d = x.2
        · rw [put1_old h (by rw [e]; rfl) (by rw [e]; exact he), ih]
        · rw [put1_oth h (by rw [e]; rfl) (by rw [e]; exact he)]
theorem Con.mem {w : Nat} {K : KM} {l l' : List Nd} (hm : ∀ x, x ∈ l ↔ x ∈ l') (h : Con w K l) : Con w K l' :=
  ⟨fun x hx => h.1 x ((hm x).2 hx), fun x hx => h.2.1 x ((hm x).2 hx), fun x hx y hy => h.2.2 x ((hm x).2 hx) y ((hm y).2 hy)⟩
theorem put1_turn {w : Nat} {K : KM} {l l' : List Nd} {fr : List Nat} (hm : ∀ x, x ∈ l ↔ x ∈ l') (h : (put1 w K l fr).1 = 0) : (put1 w K l' fr).1 = 0 ∧ (put1 w K l' fr).2.1 = (put1 w K l fr).2.1 := by
  have h' := (put1_zero l' K fr).2 (((put1_zero l K fr).1 h).mem hm)
  refine ⟨h', funext fun t => ?_⟩
  by_cases e : ∃ x ∈ l, x.1 = t
  · obtain ⟨x, hx, rfl⟩ := e
    rw [(put1_has l K fr).2 h x hx, (put1_has l' K fr).2 h' x ((hm x).1 hx)]
  · rw [put1_else l K fr t (fun x hx q => e ⟨x, hx, q⟩), put1_else l' K fr t (fun x hx q => e ⟨x, (hm x).2 hx, q⟩)]
theorem Fre.mem {w : Nat} {K0 K : KM} {fr : List Nat} (h : Fre w K0 K fr) (a : Nat) : a ∈ fr ↔ K0 ((a : Nat) : Int) = none ∧ (K ((a : Nat) : Int)).isSome = true := by
  refine ⟨h.new a, fun ⟨h1, h2⟩ => ?_⟩
  by_cases hm : a ∈ fr
  · exact hm
  · exfalso
    rw [h.old ((a : Nat) : Int) (fun b hb e => hm (by have : b = a := by omega
                                                      subst this; exact hb)), h1] at h2
    cases h2
theorem cl2_turn : ∀ (m : Nat) (K : KM) (fr fr' : List Nat), (∀ a, a ∈ fr ↔ a ∈ fr') → (cl2 m K fr).1 = (cl2 m K fr').1 ∧ (cl2 m K fr).2.1 = (cl2 m K fr').2.1 ∧ ∀ a, a ∈ (cl2 m K fr).2.2 ↔ a ∈ (cl2 m K fr').2.2
  | 0, K, fr, fr', h => ⟨rfl, rfl, h⟩
  | m + 1, K, fr, fr', h => by
    have ih := cl2_turn m K fr fr' h
    rw [cl2, cl2]
    split
    · rename_i l r hl hr
      split
      · rename_i d hd
        by_cases e : (m + 1) ∉ fr ∧ 2 * (m + 1) ∉ fr ∧ 2 * (m + 1) + 1 ∉ fr
        · have e' : (m + 1) ∉ fr' ∧ 2 * (m + 1) ∉ fr' ∧ 2 * (m + 1) + 1 ∉ fr' := by simpa only [← h] using e
          rw [if_pos e, if_pos e']; exact ih
        · have e' : ¬ ((m + 1) ∉ fr' ∧ 2 * (m + 1) ∉ fr' ∧ 2 * (m + 1) + 1 ∉ fr') := by simpa only [← h] using e
          rw [if_neg e, if_neg e']
          split
          · exact ih
          · exact ⟨rfl, rfl, h⟩
      · exact cl2_turn m _ _ _ (fun a => by simp only [List.mem_append, h a])
    · exact ih
theorem putS_codes {w : Nat} {K : KM} {l : List Nd} : (put1 w K l []).1 ≠ 0 → (putS w K l).1 = (put1 w K l []).1 := fun h => by
  unfold putS; dsimp only; rw [if_neg h]
theorem put1_codes {w : Nat} : ∀ (l : List Nd) (K : KM) (fr : List Nat), (put1 w K l fr).1 = 0 ∨ (put1 w K l fr).1 = 120 ∨ (put1 w K l fr).1 = 121
  | [], K, fr => .inl rfl
  | x :: l, K, fr => by
    by_cases h : x.1 < 1 ∨ 2 * (w : Int) - 1 < x.1
    · rw [put1_bad h]; exact .inr (.inl rfl)
    · cases e : K x.1 with
      | none => rw [put1_new h (by rw [e]; rfl)]; exact put1_codes l _ _
      | some d =>
        by_cases he : d = x.2
        · rw [put1_old h (by rw [e]; rfl) (by rw [e]; exact he)]; exact put1_codes l _ _
        · rw [put1_oth h (by rw [e]; rfl) (by rw [e]; exact he)]; exact .inr (.inr rfl)
/-- the same nodes, in whatever order -/
theorem put_turn {w : Nat} {K : KM} {l l' : List Nd} (hm : ∀ x, x ∈ l ↔ x ∈ l') (h : SupK w K) (hw : 1 ≤ w) :
    ((putS w K l).1 = 0 ↔ (putS w K l').1 = 0) ∧ ((putS w K l).1 = 122 ∨ (putS w K l).1 = 123 → (putS w K l').1 = (putS w K l).1) ∧ putK w K l' = putK w K l := by
  by_cases h0 : (put1 w K l []).1 = 0
  · obtain ⟨h0', e⟩ := put1_turn hm h0
    have f1 := put1_fre l K [] (Fre_0 h)
    have f2 := put1_fre l' K [] (Fre_0 h)
    have hmf : ∀ a, a ∈ (put1 w K l []).2.2 ↔ a ∈ (put1 w K l' []).2.2 := fun a => by rw [f1.mem, f2.mem, e]
    obtain ⟨c1, c2, c3⟩ := cl2_turn (w - 1) (put1 w K l []).2.1 _ _ hmf
    have hall : (cl2 (w - 1) (put1 w K l []).2.1 (put1 w K l []).2.2).2.2.all (okF (cl2 (w - 1) (put1 w K l []).2.1 (put1 w K l []).2.2).2.1) = (cl2 (w - 1) (put1 w K l []).2.1 (put1 w K l' []).2.2).2.2.all (okF (cl2 (w - 1) (put1 w K l []).2.1 (put1 w K l' []).2.2).2.1) := by
      rw [c2, Bool.eq_iff_iff, List.all_eq_true, List.all_eq_true]
      exact ⟨fun q a ha => q a ((c3 a).2 ha), fun q a ha => q a ((c3 a).1 ha)⟩
    have hc : (putS w K l').1 = (putS w K l).1 ∧ (putS w K l').2.1 = (putS w K l).2.1 := by
      unfold putS; dsimp only
      rw [if_pos h0, if_pos h0', e, hall, c1, c2]
      split
      · split <;> exact ⟨rfl, rfl⟩
      · exact ⟨rfl, rfl⟩
    refine ⟨by rw [hc.1], fun _ => hc.1, ?_⟩
    by_cases e0 : (putS w K l).1 = 0
    · rw [putK_ok e0, putK_ok (l := l') (hc.1.trans e0), hc.2]
    · rw [putK_bad (l := l) h hw e0, putK_bad (l := l') h hw (by rw [hc.1]; exact e0)]
  · have h0' : (put1 w K l' []).1 ≠ 0 := fun q => h0 (put1_turn (fun x => (hm x).symm) q).1
    have e1 := putS_codes h0
    have e2 := putS_codes h0'
    have k1 := put1_codes (w := w) l K []
    refine ⟨by rw [e1, e2]; exact ⟨fun q => absurd q h0, fun q => absurd q h0'⟩, fun q => by rw [e1] at q; omega, ?_⟩
    rw [putK_bad (l := l) h hw (by rw [e1]; exact h0), putK_bad (l := l') h hw (by rw [e2]; exact h0')]
end Go.ShM
/-
  The ways that the document's put goes, one by one. Plain: no program in sight. (Conditions: none.)
-/
set_option linter.all false
namespace Go.ShM
open Go.SL
theorem put1D_bad {w : Nat} {K : KM} {i : Int} {d : Dg} {l : List Nd} (h : i < 1 ∨ 2 * (w : Int) ≤ i) : put1D w K ((i, d) :: l) = (120, K) := by rw [put1D, if_pos h]
theorem put1D_oth {w : Nat} {K : KM} {i : Int} {d : Dg} {l : List Nd} (h : ¬ (i < 1 ∨ 2 * (w : Int) ≤ i)) (hs : (K i).isSome = true) (he : ¬ (K i).getD zD = d) : put1D w K ((i, d) :: l) = (121, K) := by rw [put1D, if_neg h, if_pos ⟨hs, he⟩]
theorem put1D_ok {w : Nat} {K : KM} {i : Int} {d : Dg} {l : List Nd} (h : ¬ (i < 1 ∨ 2 * (w : Int) ≤ i)) (hs : (K i).isSome = false ∨ (K i).getD zD = d) : put1D w K ((i, d) :: l) = put1D w (kset K i d) l := by
  rw [put1D, if_neg h, if_neg (fun q => by rcases hs with z | z; (rw [z] at q; cases q.1); exact q.2 z)]
theorem put1D_nil {w : Nat} {K : KM} : put1D w K [] = (0, K) := rfl
theorem clD2_skip {K0 K : KM} {m : Nat} (h : (K ((2 * (m + 1) : Nat) : Int)).isSome = false ∨ (K ((2 * (m + 1) + 1 : Nat) : Int)).isSome = false ∨ ((K0 ((m + 1 : Nat) : Int)).isSome = true ∧ (K0 ((2 * (m + 1) : Nat) : Int)).isSome = true ∧ (K0 ((2 * (m + 1) + 1 : Nat) : Int)).isSome = true)) : clD2 K0 (m + 1) K = clD2 K0 m K := by rw [clD2, if_pos h]
theorem clD2_bad {K0 K : KM} {m : Nat} (h : ¬ ((K ((2 * (m + 1) : Nat) : Int)).isSome = false ∨ (K ((2 * (m + 1) + 1 : Nat) : Int)).isSome = false ∨ ((K0 ((m + 1 : Nat) : Int)).isSome = true ∧ (K0 ((2 * (m + 1) : Nat) : Int)).isSome = true ∧ (K0 ((2 * (m + 1) + 1 : Nat) : Int)).isSome = true)))
    (h1 : (K ((m + 1 : Nat) : Int)).isSome = true) (h2 : ¬ (K ((m + 1 : Nat) : Int)).getD zD = nodeD ((K ((2 * (m + 1) : Nat) : Int)).getD zD) ((K ((2 * (m + 1) + 1 : Nat) : Int)).getD zD)) : clD2 K0 (m + 1) K = (false, K) := by rw [clD2, if_neg h, if_pos ⟨h1, h2⟩]
theorem clD2_ok {K0 K : KM} {m : Nat} (h : ¬ ((K ((2 * (m + 1) : Nat) : Int)).isSome = false ∨ (K ((2 * (m + 1) + 1 : Nat) : Int)).isSome = false ∨ ((K0 ((m + 1 : Nat) : Int)).isSome = true ∧ (K0 ((2 * (m + 1) : Nat) : Int)).isSome = true ∧ (K0 ((2 * (m + 1) + 1 : Nat) : Int)).isSome = true)))
    (h1 : (K ((m + 1 : Nat) : Int)).isSome = false ∨ (K ((m + 1 : Nat) : Int)).getD zD = nodeD ((K ((2 * (m + 1) : Nat) : Int)).getD zD) ((K ((2 * (m + 1) + 1 : Nat) : Int)).getD zD)) : clD2 K0 (m + 1) K = clD2 K0 m (kset K ((m + 1 : Nat) : Int) (nodeD ((K ((2 * (m + 1) : Nat) : Int)).getD zD) ((K ((2 * (m + 1) + 1 : Nat) : Int)).getD zD))) := by
  rw [clD2, if_neg h, if_neg (fun q => by rcases h1 with z | z; (rw [z] at q; cases q.1); exact q.2 z)]
theorem putD_a {w : Nat} {K K' : KM} {l : List Nd} {e : Int} (h : put1D w K l = (e, K')) (he : e ≠ 0) : putD w K l = (e, K) := by unfold putD; dsimp only; rw [h]; dsimp only; rw [if_neg he]
theorem putD_b {w : Nat} {K K1 K2 : KM} {l : List Nd} (h : put1D w K l = (0, K1)) (h2 : clD2 K (w - 1) K1 = (false, K2)) : putD w K l = (123, K) := by unfold putD; dsimp only; rw [h]; dsimp only; rw [if_pos rfl, h2]; dsimp only; rw [if_neg (by decide)]
theorem putD_c {w i : Nat} {K K1 K2 : KM} {l : List Nd} (h : put1D w K l = (0, K1)) (h2 : clD2 K (w - 1) K1 = (true, K2)) (h3 : 2 ≤ i) (h4 : i < 2 * w) (h5 : loD K K2 i = true) : putD w K l = (122, K) := by
  unfold putD; dsimp only; rw [h]; dsimp only; rw [if_pos rfl, h2]; dsimp only
  rw [if_pos rfl, if_pos (List.any_eq_true.2 ⟨i, List.mem_range.2 h4, by rw [h5, Bool.and_true]; exact decide_eq_true h3⟩)]
theorem putD_d {w : Nat} {K K1 K2 : KM} {l : List Nd} (h : put1D w K l = (0, K1)) (h2 : clD2 K (w - 1) K1 = (true, K2)) (h3 : ∀ i, 2 ≤ i → i < 2 * w → loD K K2 i = false) : putD w K l = (0, K2) := by
  unfold putD; dsimp only; rw [h]; dsimp only; rw [if_pos rfl, h2]; dsimp only
  rw [if_pos rfl, if_neg (fun q => by
    obtain ⟨i, hi, h5⟩ := List.any_eq_true.1 q
    rw [Bool.and_eq_true] at h5
    rw [h3 i (of_decide_eq_true h5.1) (List.mem_range.1 hi)] at h5
    cases h5.2)]
theorem xor_lt {j w : Nat} (h : j < 2 * w) : j ^^^ 1 < 2 * w := by
  rcases half_cases j with q | q
  · have := (xor_half j).1 q; omega
  · have := (xor_half j).2 q; omega
end Go.ShM
/-
  Nodes held against one another; a list of nodes that is none. (Conditions: none; generic over the program.)
-/
set_option linter.all false
namespace Go.ShM
open Go.SL Go.RowKit
section
variable {P : Program} {n : Nat} {L : List (Nat × Value)} {A : List Asn} {d : Option Nat} {ty : TypeId} {pos' : String} {af : Array Edge} {g : Option (Nat × Bool)} {t t' : TypeId} {x y : Operand}
theorem svN {A : List Asn} : Sv A (.slice none 0 0) 33 eND ([] : List Nd) none 0 := ⟨rfl, fun h => absurd rfl h, fun x hx => by simp at hx, Nat.le_refl _, fun w _ i x hx => by simp at hx⟩
theorem Eqs_dg {td e : TypeId} {q : Nat} (ha : ais P td = some (32, e)) (a b : Dg) : Eqs P (q + 2) td (.agg (fD a).toArray) (.agg (fD b).toArray) (decide (a = b)) := by
  have h := Eqs_ints (P := P) (d := q) (k := .u8) (l := a.1.map fun x => (x.toNat : Int)) (m := b.1.map fun x => (x.toNat : Int)) ha (by simpa using a.2) (by simpa using b.2)
  rw [← aU_int, ← aU_int, dec_congr natInj] at h
  rw [fD_agg, fD_agg, show decide (a = b) = decide (a.1 = b.1) from dec_congr ⟨fun h => by rw [h], fun h => Subtype.ext h⟩]
  exact h
theorem eqL_nd {ti td e : TypeId} (hti : tk P ti = some none) (hui : P.underlying ti = some (.int .i64)) (htd : tk P td = some (some 32)) (ha : ais P td = some (32, e)) (a b : Nd) :
    EqL P 9999 (eND a) (eND b) [(0, ti), (1, td)] (decide (a.1 = b.1) && (decide (a.2 = b.2) && true)) :=
  EqL.sc hti rfl rfl (Eqs_int (d := 9998) hui _ _) (EqL.ag htd (eND_dg a) (eND_dg b) (Eqs_dg (q := 9997) ha a.2 b.2) EqL.nil)
theorem nd_dec (a b : Nd) : (decide (a.1 = b.1) && (decide (a.2 = b.2) && true)) = decide (a = b) := by
  rw [Bool.and_true, Bool.eq_iff_iff, Bool.and_eq_true, decide_eq_true_iff, decide_eq_true_iff, decide_eq_true_iff]
  exact ⟨fun h => Prod.ext h.1 h.2, fun h => by rw [h]; exact ⟨rfl, rfl⟩⟩
theorem Rd_neNd {ti td e : TypeId} {a b : Nd} (hx : ev L x = some (.agg (eND a).toArray)) (hy : ev L y = some (.agg (eND b).toArray)) (hf : fls P t = some [(0, ti), (1, td)]) (hti : tk P ti = some none) (hui : P.underlying ti = some (.int .i64)) (htd : tk P td = some (some 32)) (ha : ais P td = some (32, e)) :
    Rd P n ⟨d, .binOp .neq t x y t', ty, pos', af, g⟩ L A (.bool (!decide (a = b))) := by
  have h := Rd_neS (P := P) (n := n) (A := A) (dd := d) (ty := ty) (pos := pos') (af := af) (g := g) (t' := t') hx hy hf (eqL_nd hti hui htd ha a b)
  rwa [nd_dec] at h
end
/-! marks -/
end Go.ShM
/-
  The examples of ProofNames, plain. (Conditions: none.)
-/
set_option linter.all false
set_option maxRecDepth 20000
namespace Go.ShM
open Go.SL
def nmK : KM := newK 3 exR
theorem nmS : SupK 4 nmK := exS
theorem nm_bad {l : List Nd} {e : Int} (h : (putS 4 nmK l).1 = e) (he : e ≠ 0) : putK 4 nmK l = nmK := putK_bad nmS (by decide) (by rw [h]; exact he)
theorem pad_ne : padD 3 ≠ leafD 9 := fun e => by
  have h := congrArg (fun d : Dg => d.1.getD 2 0#8) e
  have h1 : (leafD 9).1.getD 2 0#8 = 1#8 := by decide
  have h2 : (padD 3).1.getD 2 0#8 ≠ 1#8 := by
    show (dgM (tagB 7#8 [big32 (BitVec.ofNat 32 3)])).getD 2 0#8 ≠ 1#8
    rw [← dgF_eq]
    decide +kernel
  exact h2 (h.trans h1)
theorem lf_ne : leafD 0 ≠ leafD 1 := fun e => by
  have h := congrArg (fun d : Dg => d.1.getD 0 0#8) e
  revert h; decide
theorem nmP1 : (putS 4 nmK [(7, leafD 9)]).1 = 121 := by
  have e1 : put1 4 nmK [(7, leafD 9)] [] = (121, nmK, []) := put1_oth (by decide) rfl (fun h => pad_ne h)
  rw [putS_a e1 (by decide)]
theorem nmP2 {d : Dg} : (putS 4 nmK [(8, d)]).1 = 120 := by
  have e1 : put1 4 nmK [(8, d)] [] = (120, nmK, []) := put1_bad (by simp)
  rw [putS_a e1 (by decide)]
theorem nmP3 {d : Dg} : (putS 4 nmK [(0, d)]).1 = 120 := by
  have e1 : put1 4 nmK [(0, d)] [] = (120, nmK, []) := put1_bad (by simp)
  rw [putS_a e1 (by decide)]
theorem nmP4 : (putS 4 nmK [(4, leafD 0), (4, leafD 1)]).1 = 121 := by
  have e1 : put1 4 nmK [(4, leafD 0), (4, leafD 1)] [] = (121, kset nmK 4 (leafD 0), [4]) := by
    rw [put1_new (by decide) rfl]
    exact put1_oth (by decide) rfl (fun h => lf_ne h)
  rw [putS_a e1 (by decide)]
theorem nmP5 : putS 4 nmK [] = (0, nmK, []) := by
  have e2 : cl2 3 nmK [] = (true, nmK, []) := by
    rw [cl2_nil (m := 2) (.inl rfl), cl2_nil (m := 1) (.inl rfl), cl2_nil (m := 0) (.inl rfl)]; rfl
  exact putS_d (K1 := nmK) (f1 := []) rfl e2 rfl
def nmT : Dg := nodeD (leafD 2) (padD 3)
def nmK2 : KM := kset (kset (kset (kset nmK 4 (leafD 0)) 5 (leafD 1)) 3 nmT) 2 (nodeD (leafD 0) (leafD 1))
theorem nmP6 : putS 4 nmK [(4, leafD 0), (5, leafD 1), (3, nmT)] = (0, nmK2, [4, 5, 3, 2]) := by
  have e1 : put1 4 nmK [(4, leafD 0), (5, leafD 1), (3, nmT)] [] = (0, kset (kset (kset nmK 4 (leafD 0)) 5 (leafD 1)) 3 nmT, [4, 5, 3]) := rfl
  have e2 : cl2 3 (kset (kset (kset nmK 4 (leafD 0)) 5 (leafD 1)) 3 nmT) [4, 5, 3] = (true, nmK2, [4, 5, 3, 2]) := by
    rw [cl2_nil (m := 2) (.inl rfl), cl2_new (m := 1) rfl rfl rfl, cl2_ok (m := 0) rfl rfl rfl (by decide) rfl]
    rfl
  exact putS_d e1 e2 rfl
theorem nmK2_of : putK 4 nmK [(4, leafD 0), (5, leafD 1), (3, nmT)] = nmK2 := by rw [putK_ok (by rw [nmP6]), nmP6]
theorem nmK5_of : putK 4 nmK [] = nmK := by rw [putK_ok (by rw [nmP5]), nmP5]
def nmQ : KM := newK 1 (leafD 5)
theorem nmQS : SupK 1 nmQ := SupK_new (n := 1) (by decide) (by decide)
theorem nmQ_1 : nmQ 1 = some (leafD 5) := newK_root
theorem nmQP : putS 1 nmQ [(1, leafD 5)] = (0, nmQ, []) := by
  have e1 : put1 1 nmQ [(1, leafD 5)] [] = (0, nmQ, []) := by
    rw [put1_old (by decide) (by show (nmQ 1).isSome = true; rw [nmQ_1]; rfl) (by show (nmQ 1).getD zD = _; rw [nmQ_1]; rfl)]; rfl
  exact putS_d e1 (show cl2 (1 - 1) nmQ [] = (true, nmQ, []) from rfl) rfl
theorem nmQK : putK 1 nmQ [(1, leafD 5)] = nmQ := by rw [putK_ok (by rw [nmQP]), nmQP]
theorem nmNd : ndsN 3 nmK 2 = [2] := by
  rw [show ndsN 3 nmK 2 = needF nmK 6 from rfl]
  rw [needF_has (i := 6) (by omega) rfl rfl, needF_add (i := 3) (by omega) rfl rfl, needF_stop (i := 1) rfl]
  rfl
theorem nmCh : chE 3 nmK2 0 = 0 ∧ chN 3 nmK2 0 = [(5, leafD 1), (3, nmT)] := by
  have h : chE 3 nmK2 0 = 0 := rfl
  refine ⟨h, ?_⟩
  unfold chN
  rw [if_pos h, show wdM 3 + Int.toNat 0 = 4 from rfl, chF_gt (i := 4) (by omega), chF_gt (i := 2) (by omega), chF_le (i := 1) (by omega)]
  rfl
end Go.ShM
/-
  What is handed in: a list of words of sixteen bits. (Conditions: none; generic over the program.)
-/
namespace Go.ShM
open Go.SL Go.RowKit Go.ChangeShapes Go.WideShapes
section
variable {H : Type} {enc : TypeId × Value → H} {P : Program} {W : World} {base : Nat} {sp : Nat → Bool} {hd : Bool}
theorem el_u16 {t : TypeId} (ht : P.underlying t = some (.int .u16)) : ∀ n c y, DataW.trod enc P W base sp hd n t c = some y → ∃ a : BitVec 16, c = eU .u16 a ∧ True := fun n c y h => by
  obtain ⟨i, rfl, _, hw⟩ := DataW.trod_int ht h
  refine ⟨BitVec.ofInt 16 i, ?_, trivial⟩
  have hb : 0 ≤ i ∧ i < 65536 := by simp [Lit.wf, IntKind.min, IntKind.max, IntKind.signed, IntKind.bits] at hw; omega
  unfold eU
  rw [BitVec.toNat_ofInt]
  congr 2
  omega
end
end Go.ShM
