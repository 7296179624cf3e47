/-
  Contracts of functions that the claim reaches, or the logic and the plain laws that they rest on, or the row over them. (Conditions: none beyond the statement.)
-/
import Derived.Test.YtgkpbeikcpecbaaPfL
set_option linter.all false
/-
  All that is known is proved up to the root. Plain: no program in sight. (Conditions: none.)
-/
set_option linter.all false
namespace Go.ShM
open Go.SL
abbrev nt (a : Nat) : Int := ((a : Nat) : Int)
theorem cl2_keep : ∀ (m : Nat) (K : KM) (fr : List Nat), (∀ t : Int, (m : Int) < t → (cl2 m K fr).2.1 t = K t) ∧ (∀ a : Nat, m < a → (a ∈ (cl2 m K fr).2.2 ↔ a ∈ fr))
  | 0, K, fr => ⟨fun _ _ => rfl, fun _ _ => Iff.rfl⟩
  | m + 1, K, fr => by
    have ih := fun K fr => cl2_keep m K fr
    unfold cl2
    split
    · split
      · split
        · exact ⟨fun t ht => (ih K fr).1 t (by omega), fun a ha => (ih K fr).2 a (by omega)⟩
        · split
          · exact ⟨fun t ht => (ih K fr).1 t (by omega), fun a ha => (ih K fr).2 a (by omega)⟩
          · exact ⟨fun _ _ => rfl, fun _ _ => Iff.rfl⟩
      · refine ⟨fun t ht => ?_, fun a ha => ?_⟩
        · rw [(ih _ _).1 t (by omega), kset_ne _ _ (by omega)]
        · rw [(ih _ _).2 a (by omega), List.mem_append, List.mem_singleton]
          exact ⟨fun h => h.elim id (fun e => by omega), .inl⟩
    · exact ⟨fun t ht => (ih K fr).1 t (by omega), fun a ha => (ih K fr).2 a (by omega)⟩
/-- what is known of a node is what its children make -/
def Made (K : KM) (i : Nat) : Prop := ∃ l r, K (nt (2 * i)) = some l ∧ K (nt (2 * i + 1)) = some r ∧ K (nt i) = some (nodeD l r)
theorem cl2_fin : ∀ (m : Nat) (K : KM) (fr : List Nat), (cl2 m K fr).1 = true → ∀ i, 1 ≤ i → i ≤ m → ((cl2 m K fr).2.1 (nt (2 * i))).isSome = true → ((cl2 m K fr).2.1 (nt (2 * i + 1))).isSome = true → (i ∈ (cl2 m K fr).2.2 ∨ 2 * i ∈ (cl2 m K fr).2.2 ∨ 2 * i + 1 ∈ (cl2 m K fr).2.2) → Made (cl2 m K fr).2.1 i
  | 0, K, fr, _, i, h1, h2, _, _, _ => absurd h2 (by omega)
  | m + 1, K, fr, hc, i, h1, h2, hl, hr, hf => by
    have step : ∀ K' fr', cl2 (m + 1) K fr = cl2 m K' fr' → (i = m + 1 → (K' (nt (2 * (m + 1)))).isSome = true → (K' (nt (2 * (m + 1) + 1))).isSome = true → (m + 1 ∈ fr' ∨ 2 * (m + 1) ∈ fr' ∨ 2 * (m + 1) + 1 ∈ fr') → Made K' (m + 1)) → Made (cl2 (m + 1) K fr).2.1 i := fun K' fr' he hm => by
      rw [he] at hc hl hr hf ⊢
      have kp := cl2_keep m K' fr'
      by_cases e : i = m + 1
      · subst e
        rw [kp.1 _ (by unfold nt; omega)] at hl hr
        rw [kp.2 _ (by omega), kp.2 _ (by omega), kp.2 _ (by omega)] at hf
        obtain ⟨l, r, e1, e2, e3⟩ := hm rfl hl hr hf
        exact ⟨l, r, by rw [kp.1 _ (by unfold nt; omega)]; exact e1, by rw [kp.1 _ (by unfold nt; omega)]; exact e2, by rw [kp.1 _ (by unfold nt; omega)]; exact e3⟩
      · exact cl2_fin m K' fr' hc i h1 (by omega) hl hr hf
    cases q1 : K (nt (2 * (m + 1))) with
    | none =>
      exact step K fr (cl2_nil (.inl (by rw [show ((2 * (m + 1) : Nat) : Int) = nt (2 * (m + 1)) from rfl, q1]; rfl))) fun _ h _ _ => by rw [q1] at h; cases h
    | some l =>
      cases q2 : K (nt (2 * (m + 1) + 1)) with
      | none => exact step K fr (cl2_nil (.inr (by rw [show ((2 * (m + 1) + 1 : Nat) : Int) = nt (2 * (m + 1) + 1) from rfl, q2]; rfl))) fun _ _ h _ => by rw [q2] at h; cases h
      | some r =>
        have s1 : (K ((2 * (m + 1) : Nat) : Int)).isSome = true := by rw [show ((2 * (m + 1) : Nat) : Int) = nt (2 * (m + 1)) from rfl, q1]; rfl
        have s2 : (K ((2 * (m + 1) + 1 : Nat) : Int)).isSome = true := by rw [show ((2 * (m + 1) + 1 : Nat) : Int) = nt (2 * (m + 1) + 1) from rfl, q2]; rfl
        have g1 : (K ((2 * (m + 1) : Nat) : Int)).getD zD = l := by rw [show ((2 * (m + 1) : Nat) : Int) = nt (2 * (m + 1)) from rfl, q1]; rfl
        have g2 : (K ((2 * (m + 1) + 1 : Nat) : Int)).getD zD = r := by rw [show ((2 * (m + 1) + 1 : Nat) : Int) = nt (2 * (m + 1) + 1) from rfl, q2]; rfl
        cases q3 : K (nt (m + 1)) with
        | none =>
          have s3 : (K ((m + 1 : Nat) : Int)).isSome = false := by rw [show ((m + 1 : Nat) : Int) = nt (m + 1) from rfl, q3]; rfl
          refine step _ _ (cl2_new s1 s2 s3) fun _ _ _ _ => ?_
          rw [g1, g2]
          exact ⟨l, r, by rw [kset_ne _ _ (by unfold nt; omega)]; exact q1, by rw [kset_ne _ _ (by unfold nt; omega)]; exact q2, kset_eq _ _ _⟩
        | some h =>
          have s3 : (K ((m + 1 : Nat) : Int)).isSome = true := by rw [show ((m + 1 : Nat) : Int) = nt (m + 1) from rfl, q3]; rfl
          have g3 : (K ((m + 1 : Nat) : Int)).getD zD = h := by rw [show ((m + 1 : Nat) : Int) = nt (m + 1) from rfl, q3]; rfl
          by_cases hF : inF fr (m + 1) + inF fr (2 * (m + 1)) + inF fr (2 * (m + 1) + 1) = 0
          · refine step K fr (cl2_old s1 s2 s3 hF) fun _ _ _ hf' => ?_
            have := inF_0.1 hF
            rcases hf' with q | q | q
            · exact absurd q this.1
            · exact absurd q this.2.1
            · exact absurd q this.2.2
          · by_cases he : nodeD l r = h
            · refine step K fr (cl2_ok s1 s2 s3 hF (by rw [g1, g2, g3]; exact he)) fun _ _ _ _ => ⟨l, r, q1, q2, by rw [he]; exact q3⟩
            · have hb := cl2_bad s1 s2 s3 hF (by rw [g1, g2, g3]; exact he)
              rw [hb] at hc; cases hc
/-- what is known and was not known from the beginning on has a known brother and a known parent, of the right digest -/
def Snd (w : Nat) (F K : KM) : Prop := ∀ t : Nat, 2 ≤ t → t < 2 * w → (K (nt t)).isSome = true → F (nt t) = none → Made K (t / 2)
theorem Snd_0 (w : Nat) (F : KM) : Snd w F F := fun t _ _ h e => by rw [e] at h; cases h
theorem Made.le {K K' : KM} {i : Nat} (h : Made K i) (hl : LeK K K') : Made K' i := by
  obtain ⟨l, r, a, b, c⟩ := h
  exact ⟨l, r, hl _ _ a, hl _ _ b, hl _ _ c⟩
theorem half_cases (t : Nat) : t = 2 * (t / 2) ∨ t = 2 * (t / 2) + 1 := by omega
theorem xor_half (t : Nat) : (t = 2 * (t / 2) → t ^^^ 1 = 2 * (t / 2) + 1) ∧ (t = 2 * (t / 2) + 1 → t ^^^ 1 = 2 * (t / 2)) := by
  constructor
  · intro h; rw [xor1, if_pos (by omega)]; omega
  · intro h; rw [xor1, if_neg (by omega)]; omega
theorem putK_snd {w : Nat} {F K : KM} {l : List Nd} (h : SupK w K) (hw : 1 ≤ w) (hF : LeK F K) (hs : Snd w F K) : Snd w F (putK w K l) := by
  by_cases he : (putS w K l).1 = 0
  · rw [putK_ok he]
    have hfre := putS_fre l h hw
    intro t h2 hw2 hk hFn
    by_cases ho : (K (nt t)).isSome = true
    · exact (hs t h2 hw2 ho hFn).le hfre.le
    · -- new: laid in
      have hmem : t ∈ (putS w K l).2.2 := by
        by_cases q : t ∈ (putS w K l).2.2
        · exact q
        · have := hfre.old (nt t) (fun b hb e => q (by rw [← Int.ofNat_inj.1 e]; exact hb))
          rw [this] at hk; exact absurd hk ho
      unfold putS at he hk hmem hfre ⊢
      dsimp only at he hk hmem hfre ⊢
      by_cases e0 : (put1 w K l []).1 = 0
      · rw [if_pos e0] at he hk hmem hfre ⊢
        by_cases e1 : (cl2 (w - 1) (put1 w K l []).2.1 (put1 w K l []).2.2).1 = true
        · rw [if_pos e1] at he hk hmem hfre ⊢
          by_cases e2 : (cl2 (w - 1) (put1 w K l []).2.1 (put1 w K l []).2.2).2.2.all (okF (cl2 (w - 1) (put1 w K l []).2.1 (put1 w K l []).2.2).2.1) = true
          · rw [if_pos e2] at hk hmem hfre ⊢
            have hok := List.all_eq_true.1 e2 t hmem
            unfold okF at hok
            rw [Bool.and_eq_true] at hok
            have hx := xor_half t
            have hc := half_cases t
            rcases hc with q | q
            · refine cl2_fin (w - 1) _ _ e1 (t / 2) (by omega) (by omega) (by rw [← q]; exact hk) (by rw [← hx.1 q]; exact hok.1) (.inr (.inl (by rw [← q]; exact hmem)))
            · refine cl2_fin (w - 1) _ _ e1 (t / 2) (by omega) (by omega) (by rw [← hx.2 q]; exact hok.1) (by rw [← q]; exact hk) (.inr (.inr (by rw [← q]; exact hmem)))
          · rw [if_neg e2] at he; cases he
        · rw [if_neg e1] at he; cases he
      · rw [if_neg e0] at he; exact absurd he e0
  · rw [putK_bad h hw he]; exact hs
/-! ### two proofs of one root -/
def Dif (K K' : KM) (u : Nat) : Prop := (K (nt u)).isSome = true ∧ (K' (nt u)).isSome = true ∧ (K (nt u)).getD zD ≠ (K' (nt u)).getD zD
def Meet (K K' : KM) (u : Nat) : Prop := Made K u ∧ Made K' u ∧ (K (nt u)).getD zD = (K' (nt u)).getD zD ∧ ¬ ((K (nt (2 * u))).getD zD = (K' (nt (2 * u))).getD zD ∧ (K (nt (2 * u + 1))).getD zD = (K' (nt (2 * u + 1))).getD zD)
def ClSt (K K' : KM) (u : Nat) (b : Bool) : Prop := bif b then Meet K K' u else Dif K K' u
theorem Made.is {K : KM} {i : Nat} (h : Made K i) : (K (nt (2 * i))).isSome = true ∧ (K (nt (2 * i + 1))).isSome = true ∧ (K (nt i)).isSome = true ∧ nodeD ((K (nt (2 * i))).getD zD) ((K (nt (2 * i + 1))).getD zD) = (K (nt i)).getD zD := by
  obtain ⟨l, r, a, b, c⟩ := h
  rw [a, b, c]; exact ⟨rfl, rfl, rfl, rfl⟩
theorem Dif.two {F K K' : KM} {u : Nat} (h : Dif K K' u) (h1 : 1 ≤ u) (hr : K 1 = K' 1) : 2 ≤ u := by
  rcases (show u = 1 ∨ 2 ≤ u from by omega) with q | q
  · subst q; exact absurd (by rw [show nt 1 = 1 from rfl, hr]) h.2.2
  · exact q
theorem Dif.none {F K K' : KM} {u : Nat} (h : Dif K K' u) (hK : LeK F K) (hK' : LeK F K') : F (nt u) = none := by
  cases e : F (nt u) with
  | none => rfl
  | some d => exact absurd (by rw [hK _ _ e, hK' _ _ e]) h.2.2
theorem Dif.up {w : Nat} {F K K' : KM} {u : Nat} (h : Dif K K' u) (h2 : 2 ≤ u) (hw : u < 2 * w) (hK : LeK F K) (hK' : LeK F K') (s : Snd w F K) (s' : Snd w F K') :
    Made K (u / 2) ∧ Made K' (u / 2) ∧ ¬ ((K (nt (2 * (u / 2)))).getD zD = (K' (nt (2 * (u / 2)))).getD zD ∧ (K (nt (2 * (u / 2) + 1))).getD zD = (K' (nt (2 * (u / 2) + 1))).getD zD) := by
  have hn := h.none hK hK'
  refine ⟨s u h2 hw h.1 hn, s' u h2 hw h.2.1 hn, fun ⟨a, b⟩ => ?_⟩
  rcases half_cases u with q | q
  · rw [← q] at a; exact h.2.2 a
  · rw [← q] at b; exact h.2.2 b
theorem clSt_up {w : Nat} {F K K' : KM} {u : Nat} (h : Dif K K' u) (h2 : 2 ≤ u) (hw : u < 2 * w) (hK : LeK F K) (hK' : LeK F K') (s : Snd w F K) (s' : Snd w F K') :
    ClSt K K' (u / 2) (decide (((K (nt (u / 2))).getD zD).1 = ((K' (nt (u / 2))).getD zD).1)) := by
  obtain ⟨a, b, c⟩ := h.up h2 hw hK hK' s s'
  unfold ClSt
  by_cases e : ((K (nt (u / 2))).getD zD).1 = ((K' (nt (u / 2))).getD zD).1
  · rw [decide_eq_true e]; exact ⟨a, b, Subtype.ext e, c⟩
  · rw [decide_eq_false e]; exact ⟨a.is.2.2.1, b.is.2.2.1, fun q => e (congrArg Subtype.val q)⟩
end Go.ShM
