/-
  Contracts of functions that the claim reaches, or the logic and the plain laws that they rest on, or the row over them. (Conditions: none beyond the statement.)
-/
import Derived.Test.YtgkpbeikcpecbaaTrArg
import Derived.Test.YtgkpbeikcpecbaaPfL
import Derived.Test.YtgkpbeikcpecbaaTrClimb
import Derived.Test.YtgkpbeikcpecbaaShA
import Derived.Test.YtgkpbeikcpecbaaTrLeaves
import Derived.Test.YtgkpbeikcpecbaaLibA
set_option linter.all false
/-
  What is handed in: lists of nodes. (Conditions: none; generic over the program.)
-/
set_option linter.all false
namespace Go.ShM
open Go.SL Go.RowKit Go.ChangeShapes Go.WideShapes
section
variable {H : Type} {enc : TypeId × Value → H} {P : Program} {W : World} {base : Nat} {sp : Nat → Bool} {hd : Bool}
def okN (x : Nd) : Prop := -9223372036854775808 ≤ x.1 ∧ x.1 ≤ 9223372036854775807
theorem el_nd {m : DataW H → Nat} (hm : Meas m) {t : TypeId} {n : Nat} (hk : cks P n t = some [.int .i64, .ints .u8 32]) : ∀ n' c y, DataW.trod enc P W base sp hd n' t c = some y → ∃ x : Nd, c = eND x ∧ okN x := fun n' c y h => by
  have hf := cks_fits (N := m y.1) hm n t _ n' c y hk h (Nat.le_refl _)
  simp only [Fits] at hf
  obtain ⟨i, cs1, rfl, hi, l, cs', rfl, ⟨hl, hw⟩, rfl⟩ := hf
  refine ⟨(i, ⟨l.map (BitVec.ofInt 8), by simpa using hl⟩), ?_, ?_⟩
  · rw [List.append_nil]
    show _ = Value.int .i64 i :: fD _
    rw [words_of l hw]; rfl
  · simp [Lit.wf, IntKind.min, IntKind.max, IntKind.signed, IntKind.bits] at hi
    exact ⟨by show _ ≤ i; omega, by show i ≤ _; omega⟩
end
end Go.ShM
/-
  All that is known is proved up to the root. Plain: no program in sight. (Conditions: none.)
-/
set_option linter.all false
namespace Go.ShM
open Go.SL
abbrev nt (a : Nat) : Int := ((a : Nat) : Int)
def Made (K : KM) (i : Nat) : Prop := ∃ l r, K (nt (2 * i)) = some l ∧ K (nt (2 * i + 1)) = some r ∧ K (nt i) = some (nodeD l r)
def Snd (w : Nat) (F K : KM) : Prop := ∀ t : Nat, 2 ≤ t → t < 2 * w → (K (nt t)).isSome = true → F (nt t) = none → Made K (t / 2)
theorem Made.le {K K' : KM} {i : Nat} (h : Made K i) (hl : LeK K K') : Made K' i := by
  obtain ⟨l, r, a, b, c⟩ := h
  exact ⟨l, r, hl _ _ a, hl _ _ b, hl _ _ c⟩
theorem half_cases (t : Nat) : t = 2 * (t / 2) ∨ t = 2 * (t / 2) + 1 := by omega
theorem xor_half (t : Nat) : (t = 2 * (t / 2) → t ^^^ 1 = 2 * (t / 2) + 1) ∧ (t = 2 * (t / 2) + 1 → t ^^^ 1 = 2 * (t / 2)) := by
  constructor
  · intro h; rw [xor1, if_pos (by omega)]; omega
  · intro h; rw [xor1, if_neg (by omega)]; omega
def Dif (K K' : KM) (u : Nat) : Prop := (K (nt u)).isSome = true ∧ (K' (nt u)).isSome = true ∧ (K (nt u)).getD zD ≠ (K' (nt u)).getD zD
theorem Made.is {K : KM} {i : Nat} (h : Made K i) : (K (nt (2 * i))).isSome = true ∧ (K (nt (2 * i + 1))).isSome = true ∧ (K (nt i)).isSome = true ∧ nodeD ((K (nt (2 * i))).getD zD) ((K (nt (2 * i + 1))).getD zD) = (K (nt i)).getD zD := by
  obtain ⟨l, r, a, b, c⟩ := h
  rw [a, b, c]; exact ⟨rfl, rfl, rfl, rfl⟩
theorem Dif.two {F K K' : KM} {u : Nat} (h : Dif K K' u) (h1 : 1 ≤ u) (hr : K 1 = K' 1) : 2 ≤ u := by
  rcases (show u = 1 ∨ 2 ≤ u from by omega) with q | q
  · subst q; exact absurd (by rw [show nt 1 = 1 from rfl, hr]) h.2.2
  · exact q
theorem Dif.none {F K K' : KM} {u : Nat} (h : Dif K K' u) (hK : LeK F K) (hK' : LeK F K') : F (nt u) = none := by
  cases e : F (nt u) with
  | none => rfl
  | some d => exact absurd (by rw [hK _ _ e, hK' _ _ e]) h.2.2
theorem Dif.up {w : Nat} {F K K' : KM} {u : Nat} (h : Dif K K' u) (h2 : 2 ≤ u) (hw : u < 2 * w) (hK : LeK F K) (hK' : LeK F K') (s : Snd w F K) (s' : Snd w F K') :
    Made K (u / 2) ∧ Made K' (u / 2) ∧ ¬ ((K (nt (2 * (u / 2)))).getD zD = (K' (nt (2 * (u / 2)))).getD zD ∧ (K (nt (2 * (u / 2) + 1))).getD zD = (K' (nt (2 * (u / 2) + 1))).getD zD) := by
  have hn := h.none hK hK'
  refine ⟨s u h2 hw h.1 hn, s' u h2 hw h.2.1 hn, fun ⟨a, b⟩ => ?_⟩
  rcases half_cases u with q | q
  · rw [← q] at a; exact h.2.2 a
  · rw [← q] at b; exact h.2.2 b
end Go.ShM
/-
  What is known from the beginning on; from a leaf up to the root. Plain: no program in sight. (Conditions: none.)
-/
set_option linter.all false
namespace Go.ShM
open Go.SL
def Anc (n w t : Nat) : Prop := ∃ k i, i < n ∧ t = (w + i) / 2 ^ k
theorem Anc.leaf {n w i : Nat} (h : i < n) : Anc n w (w + i) := ⟨0, i, h, by simp⟩
theorem chF_len {K : KM} : ∀ t : Nat, (chF K t).length = (chL t).length := by
  intro t
  induction t using Nat.strongRecOn with
  | ind t ih =>
    by_cases e : t ≤ 1
    · rw [chL_le e, chF_le e]; rfl
    · rw [chF_gt (by omega), show chL t = (t ^^^ 1) :: chL (t / 2) from by rw [chL, dif_neg (by omega)], List.length_cons, List.length_cons, ih (t / 2) (by omega)]
end Go.ShM
/-
  Lists of lists of nodes that were handed in; what put leaves behind. (Conditions: none; no program in sight.)
-/
set_option maxRecDepth 20000
namespace Go.ShM
open Go.SL Go.RowKit Go.ChangeShapes Go.WideShapes
structure NQ where
  l : List Nd
  ao : Option Addr
  cap : Nat
def NQ.v (q : NQ) : Value := .slice q.ao q.l.length q.cap
def OKnq (A : List Asn) (N : Nat) (q : NQ) : Prop := Sv A q.v 33 eND q.l q.ao q.cap ∧ q.l.length ≤ N
section
variable {H : Type} {enc : TypeId × Value → H} {P : Program} {W : World} {base : Nat} {sp : Nat → Bool} {hd : Bool}
end
end Go.ShM
/-
  Of the nodes of a whole tree none is refused, and what Needs tells is just enough. Plain: no program in sight. (Conditions: none.)
-/
set_option maxRecDepth 20000
set_option linter.all false
namespace Go.ShM
open Go.SL
abbrev kn (K : KM) (t : Nat) : Prop := (K (nt t)).isSome = true
def Tru (T : Nat → Dg) (K : KM) : Prop := ∀ (t : Nat) d, K (nt t) = some d → d = T t
def Clo (w : Nat) (K : KM) : Prop := ∀ i, 1 ≤ i → i < w → kn K (2 * i) → kn K (2 * i + 1) → kn K i
theorem nt_inj {a b : Nat} (h : nt a = nt b) : a = b := by simp only [nt] at h; omega
theorem Tru.set {T : Nat → Dg} {K : KM} {a : Nat} {d : Dg} (h : Tru T K) (e : d = T a) : Tru T (kset K (nt a) d) := fun t x hx => by
  by_cases q : t = a
  · subst q; rw [kset_eq] at hx; rw [← e]; exact (Option.some.inj hx).symm
  · rw [kset_ne K d (fun h => q (nt_inj h))] at hx; exact h t x hx
def Upw (L a : Nat) : Prop := ∃ k, a = L / 2 ^ k
theorem Upw.refl (L : Nat) : Upw L L := ⟨0, by simp⟩
theorem Upw.eq_or {a b : Nat} (h : Upw a b) : b = a ∨ b ≤ a / 2 := by
  obtain ⟨k, rfl⟩ := h
  cases k with
  | zero => left; simp
  | succ k => right; rw [Nat.pow_succ, Nat.mul_comm, ← Nat.div_div_eq_div_mul]; exact Nat.div_le_self _ _
theorem Upw.le {a b : Nat} (h : Upw a b) : b ≤ a := by rcases h.eq_or with q | q <;> omega
theorem xor_two {t : Nat} (h : 2 ≤ t) : 2 ≤ t ^^^ 1 ∧ (t ^^^ 1) / 2 = t / 2 ∧ (t ^^^ 1) ^^^ 1 = t ∧ t ^^^ 1 ≠ t ∧ t ^^^ 1 ≤ t + 1 := by
  refine ⟨?_, ?_, by rw [Nat.xor_assoc]; simp, ?_, ?_⟩
  all_goals
    rcases half_cases t with q | q
    · have := (xor_half t).1 q; omega
    · have := (xor_half t).2 q; omega
theorem needF_mem {K : KM} : ∀ (t : Nat), ∀ a ∈ needF K t, ∃ x, Upw t x ∧ 1 ≤ x ∧ ¬ kn K x ∧ a = x ^^^ 1 ∧ ¬ kn K a := by
  intro t
  induction t using Nat.strongRecOn with
  | ind t ih =>
    intro a ha
    by_cases h0 : t = 0
    · subst h0; rw [needF_0] at ha; cases ha
    · cases hk : (K ((t : Nat) : Int)).isSome with
      | true => rw [needF_stop hk] at ha; cases ha
      | false =>
        cases hx : (K ((t ^^^ 1 : Nat) : Int)).isSome with
        | true =>
          rw [needF_has (by omega) hk hx] at ha
          obtain ⟨x, h1, h2, h3⟩ := ih (t / 2) (by omega) a ha
          obtain ⟨k, rfl⟩ := h1
          exact ⟨_, ⟨k + 1, by rw [Nat.pow_succ, Nat.mul_comm, ← Nat.div_div_eq_div_mul]⟩, h2, h3⟩
        | false =>
          rw [needF_add (by omega) hk hx] at ha
          rcases List.mem_cons.1 ha with rfl | ha
          · exact ⟨t, Upw.refl t, by omega, by unfold kn; rw [show nt t = ((t : Nat) : Int) from rfl, hk]; simp, rfl, by unfold kn; rw [show nt (t ^^^ 1) = ((t ^^^ 1 : Nat) : Int) from rfl, hx]; simp⟩
          · obtain ⟨x, h1, h2, h3⟩ := ih (t / 2) (by omega) a ha
            obtain ⟨k, rfl⟩ := h1
            exact ⟨_, ⟨k + 1, by rw [Nat.pow_succ, Nat.mul_comm, ← Nat.div_div_eq_div_mul]⟩, h2, h3⟩
theorem needF_le {K : KM} (h1 : kn K 1) : ∀ t, ∀ a ∈ needF K t, a ≤ t + 1 ∧ 2 ≤ a := fun t a ha => by
  obtain ⟨x, hu, hx1, hx, rfl, _⟩ := needF_mem t a ha
  have h2 : 2 ≤ x := by
    rcases Nat.lt_or_ge x 2 with q | q
    · obtain rfl : x = 1 := by omega
      exact absurd h1 hx
    · exact q
  have := xor_two h2
  have := hu.le
  omega
theorem needF_nodup {K : KM} (h1 : kn K 1) : ∀ t : Nat, (needF K t).Nodup := by
  intro t
  induction t using Nat.strongRecOn with
  | ind t ih =>
    by_cases h0 : t = 0
    · subst h0; rw [needF_0]; exact List.nodup_nil
    · cases hk : (K ((t : Nat) : Int)).isSome with
      | true => rw [needF_stop hk]; exact List.nodup_nil
      | false =>
        have h2 : 2 ≤ t := by
          rcases Nat.lt_or_ge t 2 with q | q
          · obtain rfl : t = 1 := by omega
            unfold kn at h1; rw [show ((1 : Nat) : Int) = nt 1 from rfl, h1] at hk; cases hk
          · exact q
        cases hx : (K ((t ^^^ 1 : Nat) : Int)).isSome with
        | true => rw [needF_has (by omega) hk hx]; exact ih _ (by omega)
        | false =>
          rw [needF_add (by omega) hk hx]
          refine List.nodup_cons.2 ⟨fun hm => ?_, ih _ (by omega)⟩
          obtain ⟨x, hu, hx1, hx, he, _⟩ := needF_mem (t / 2) _ hm
          have hx2 : 2 ≤ x := by
            rcases Nat.lt_or_ge x 2 with q | q
            · obtain rfl : x = 1 := by omega
              exact absurd h1 hx
            · exact q
          have q1 := (xor_two hx2).2.2.1
          have q2 := (xor_two h2).2.2.1
          have := hu.le
          rw [← he, q2] at q1
          omega
structure Whl (w : Nat) (T : Nat → Dg) (K : KM) : Prop where
  sup : SupK w K
  tru : Tru T K
  clo : Clo w K
  one : kn K 1
theorem need_rng {w L : Nat} {K : KM} (h1 : kn K 1) (hL : L < 2 * w) : ∀ a ∈ needF K L, 2 ≤ a ∧ a < 2 * w := fun a ha => by
  have h2 := (needF_le h1 L _ ha).2
  obtain ⟨x, hu, hx1, hx, rfl, _⟩ := needF_mem L a ha
  have hle := hu.le
  refine ⟨h2, ?_⟩
  rcases half_cases x with q | q
  · have := (xor_half x).1 q; omega
  · have := (xor_half x).2 q; omega
theorem need_short {w L : Nat} {K : KM} (h1 : kn K 1) (hL : L < 2 * w) (hw : w ≤ 512) : (needF K L).length ≤ 100000 := by
  have hnd := needF_nodup h1 L
  have := nodup_len (w := w) hnd (fun a ha => (need_rng h1 hL a ha).2)
  omega
end Go.ShM
/-
  The order in which nodes are put in says nothing of what comes of them. Plain: no program in sight. (Conditions: none.)
-/
set_option linter.all false
namespace Go.ShM
open Go.SL
def Con (w : Nat) (K : KM) (l : List Nd) : Prop := (∀ x ∈ l, 1 ≤ x.1 ∧ x.1 ≤ 2 * (w : Int) - 1) ∧ (∀ x ∈ l, ∀ d, K x.1 = some d → d = x.2) ∧ ∀ x ∈ l, ∀ y ∈ l, x.1 = y.1 → x.2 = y.2
theorem Con.mem {w : Nat} {K : KM} {l l' : List Nd} (hm : ∀ x, x ∈ l ↔ x ∈ l') (h : Con w K l) : Con w K l' :=
  ⟨fun x hx => h.1 x ((hm x).2 hx), fun x hx => h.2.1 x ((hm x).2 hx), fun x hx y hy => h.2.2 x ((hm x).2 hx) y ((hm y).2 hy)⟩
theorem Fre.mem {w : Nat} {K0 K : KM} {fr : List Nat} (h : Fre w K0 K fr) (a : Nat) : a ∈ fr ↔ K0 ((a : Nat) : Int) = none ∧ (K ((a : Nat) : Int)).isSome = true := by
  refine ⟨h.new a, fun ⟨h1, h2⟩ => ?_⟩
  by_cases hm : a ∈ fr
  · exact hm
  · exfalso
    rw [h.old ((a : Nat) : Int) (fun b hb e => hm (by have : b = a := by omega
                                                      subst this; exact hb)), h1] at h2
    cases h2
end Go.ShM
/-
  The ways that the document's put goes, one by one. Plain: no program in sight. (Conditions: none.)
-/
set_option linter.all false
namespace Go.ShM
open Go.SL
theorem put1D_bad {w : Nat} {K : KM} {i : Int} {d : Dg} {l : List Nd} (h : i < 1 ∨ 2 * (w : Int) ≤ i) : put1D w K ((i, d) :: l) = (120, K) := by rw [put1D, if_pos h]
theorem put1D_oth {w : Nat} {K : KM} {i : Int} {d : Dg} {l : List Nd} (h : ¬ (i < 1 ∨ 2 * (w : Int) ≤ i)) (hs : (K i).isSome = true) (he : ¬ (K i).getD zD = d) : put1D w K ((i, d) :: l) = (121, K) := by rw [put1D, if_neg h, if_pos ⟨hs, he⟩]
theorem put1D_ok {w : Nat} {K : KM} {i : Int} {d : Dg} {l : List Nd} (h : ¬ (i < 1 ∨ 2 * (w : Int) ≤ i)) (hs : (K i).isSome = false ∨ (K i).getD zD = d) : put1D w K ((i, d) :: l) = put1D w (kset K i d) l := by
  rw [put1D, if_neg h, if_neg (fun q => by rcases hs with z | z; (rw [z] at q; cases q.1); exact q.2 z)]
theorem put1D_nil {w : Nat} {K : KM} : put1D w K [] = (0, K) := rfl
theorem clD2_skip {K0 K : KM} {m : Nat} (h : (K ((2 * (m + 1) : Nat) : Int)).isSome = false ∨ (K ((2 * (m + 1) + 1 : Nat) : Int)).isSome = false ∨ ((K0 ((m + 1 : Nat) : Int)).isSome = true ∧ (K0 ((2 * (m + 1) : Nat) : Int)).isSome = true ∧ (K0 ((2 * (m + 1) + 1 : Nat) : Int)).isSome = true)) : clD2 K0 (m + 1) K = clD2 K0 m K := by rw [clD2, if_pos h]
theorem clD2_bad {K0 K : KM} {m : Nat} (h : ¬ ((K ((2 * (m + 1) : Nat) : Int)).isSome = false ∨ (K ((2 * (m + 1) + 1 : Nat) : Int)).isSome = false ∨ ((K0 ((m + 1 : Nat) : Int)).isSome = true ∧ (K0 ((2 * (m + 1) : Nat) : Int)).isSome = true ∧ (K0 ((2 * (m + 1) + 1 : Nat) : Int)).isSome = true)))
    (h1 : (K ((m + 1 : Nat) : Int)).isSome = true) (h2 : ¬ (K ((m + 1 : Nat) : Int)).getD zD = nodeD ((K ((2 * (m + 1) : Nat) : Int)).getD zD) ((K ((2 * (m + 1) + 1 : Nat) : Int)).getD zD)) : clD2 K0 (m + 1) K = (false, K) := by rw [clD2, if_neg h, if_pos ⟨h1, h2⟩]
theorem clD2_ok {K0 K : KM} {m : Nat} (h : ¬ ((K ((2 * (m + 1) : Nat) : Int)).isSome = false ∨ (K ((2 * (m + 1) + 1 : Nat) : Int)).isSome = false ∨ ((K0 ((m + 1 : Nat) : Int)).isSome = true ∧ (K0 ((2 * (m + 1) : Nat) : Int)).isSome = true ∧ (K0 ((2 * (m + 1) + 1 : Nat) : Int)).isSome = true)))
    (h1 : (K ((m + 1 : Nat) : Int)).isSome = false ∨ (K ((m + 1 : Nat) : Int)).getD zD = nodeD ((K ((2 * (m + 1) : Nat) : Int)).getD zD) ((K ((2 * (m + 1) + 1 : Nat) : Int)).getD zD)) : clD2 K0 (m + 1) K = clD2 K0 m (kset K ((m + 1 : Nat) : Int) (nodeD ((K ((2 * (m + 1) : Nat) : Int)).getD zD) ((K ((2 * (m + 1) + 1 : Nat) : Int)).getD zD))) := by
  rw [clD2, if_neg h, if_neg (fun q => by rcases h1 with z | z; (rw [z] at q; cases q.1); exact q.2 z)]
theorem putD_a {w : Nat} {K K' : KM} {l : List Nd} {e : Int} (h : put1D w K l = (e, K')) (he : e ≠ 0) : putD w K l = (e, K) := by unfold putD; dsimp only; rw [h]; dsimp only; rw [if_neg he]
theorem putD_b {w : Nat} {K K1 K2 : KM} {l : List Nd} (h : put1D w K l = (0, K1)) (h2 : clD2 K (w - 1) K1 = (false, K2)) : putD w K l = (123, K) := by unfold putD; dsimp only; rw [h]; dsimp only; rw [if_pos rfl, h2]; dsimp only; rw [if_neg (by decide)]
theorem putD_c {w i : Nat} {K K1 K2 : KM} {l : List Nd} (h : put1D w K l = (0, K1)) (h2 : clD2 K (w - 1) K1 = (true, K2)) (h3 : 2 ≤ i) (h4 : i < 2 * w) (h5 : loD K K2 i = true) : putD w K l = (122, K) := by
  unfold putD; dsimp only; rw [h]; dsimp only; rw [if_pos rfl, h2]; dsimp only
  rw [if_pos rfl, if_pos (List.any_eq_true.2 ⟨i, List.mem_range.2 h4, by rw [h5, Bool.and_true]; exact decide_eq_true h3⟩)]
theorem putD_d {w : Nat} {K K1 K2 : KM} {l : List Nd} (h : put1D w K l = (0, K1)) (h2 : clD2 K (w - 1) K1 = (true, K2)) (h3 : ∀ i, 2 ≤ i → i < 2 * w → loD K K2 i = false) : putD w K l = (0, K2) := by
  unfold putD; dsimp only; rw [h]; dsimp only; rw [if_pos rfl, h2]; dsimp only
  rw [if_pos rfl, if_neg (fun q => by
    obtain ⟨i, hi, h5⟩ := List.any_eq_true.1 q
    rw [Bool.and_eq_true] at h5
    rw [h3 i (of_decide_eq_true h5.1) (List.mem_range.1 hi)] at h5
    cases h5.2)]
theorem xor_lt {j w : Nat} (h : j < 2 * w) : j ^^^ 1 < 2 * w := by
  rcases half_cases j with q | q
  · have := (xor_half j).1 q; omega
  · have := (xor_half j).2 q; omega
end Go.ShM
/-
  Nodes held against one another; a list of nodes that is none. (Conditions: none; generic over the program.)
-/
set_option linter.all false
namespace Go.ShM
open Go.SL Go.RowKit
section
variable {P : Program} {n : Nat} {L : List (Nat × Value)} {A : List Asn} {d : Option Nat} {ty : TypeId} {pos' : String} {af : Array Edge} {g : Option (Nat × Bool)} {t t' : TypeId} {x y : Operand}
theorem Eqs_dg {td e : TypeId} {q : Nat} (ha : ais P td = some (32, e)) (a b : Dg) : Eqs P (q + 2) td (.agg (fD a).toArray) (.agg (fD b).toArray) (decide (a = b)) := by
  have h := Eqs_ints (P := P) (d := q) (k := .u8) (l := a.1.map fun x => (x.toNat : Int)) (m := b.1.map fun x => (x.toNat : Int)) ha (by simpa using a.2) (by simpa using b.2)
  rw [← aU_int, ← aU_int, dec_congr natInj] at h
  rw [fD_agg, fD_agg, show decide (a = b) = decide (a.1 = b.1) from dec_congr ⟨fun h => by rw [h], fun h => Subtype.ext h⟩]
  exact h
theorem eqL_nd {ti td e : TypeId} (hti : tk P ti = some none) (hui : P.underlying ti = some (.int .i64)) (htd : tk P td = some (some 32)) (ha : ais P td = some (32, e)) (a b : Nd) :
    EqL P 9999 (eND a) (eND b) [(0, ti), (1, td)] (decide (a.1 = b.1) && (decide (a.2 = b.2) && true)) :=
  EqL.sc hti rfl rfl (Eqs_int (d := 9998) hui _ _) (EqL.ag htd (eND_dg a) (eND_dg b) (Eqs_dg (q := 9997) ha a.2 b.2) EqL.nil)
theorem nd_dec (a b : Nd) : (decide (a.1 = b.1) && (decide (a.2 = b.2) && true)) = decide (a = b) := by
  rw [Bool.and_true, Bool.eq_iff_iff, Bool.and_eq_true, decide_eq_true_iff, decide_eq_true_iff, decide_eq_true_iff]
  exact ⟨fun h => Prod.ext h.1 h.2, fun h => by rw [h]; exact ⟨rfl, rfl⟩⟩
theorem Rd_eqNd {ti td e : TypeId} {a b : Nd} (hx : ev L x = some (.agg (eND a).toArray)) (hy : ev L y = some (.agg (eND b).toArray)) (hf : fls P t = some [(0, ti), (1, td)]) (hti : tk P ti = some none) (hui : P.underlying ti = some (.int .i64)) (htd : tk P td = some (some 32)) (ha : ais P td = some (32, e)) :
    Rd P n ⟨d, .binOp .eql t x y t', ty, pos', af, g⟩ L A (.bool (decide (a = b))) := by
  have h := Rd_eqS (P := P) (n := n) (A := A) (dd := d) (ty := ty) (pos := pos') (af := af) (g := g) (t' := t') hx hy hf (eqL_nd hti hui htd ha a b)
  rwa [nd_dec] at h
theorem Rd_neNd {ti td e : TypeId} {a b : Nd} (hx : ev L x = some (.agg (eND a).toArray)) (hy : ev L y = some (.agg (eND b).toArray)) (hf : fls P t = some [(0, ti), (1, td)]) (hti : tk P ti = some none) (hui : P.underlying ti = some (.int .i64)) (htd : tk P td = some (some 32)) (ha : ais P td = some (32, e)) :
    Rd P n ⟨d, .binOp .neq t x y t', ty, pos', af, g⟩ L A (.bool (!decide (a = b))) := by
  have h := Rd_neS (P := P) (n := n) (A := A) (dd := d) (ty := ty) (pos := pos') (af := af) (g := g) (t' := t') hx hy hf (eqL_nd hti hui htd ha a b)
  rwa [nd_dec] at h
end
def mrkD : Dg := ⟨((List.replicate 32 0#8).set 0 9#8).set 1 9#8, by simp⟩
def ovrD : Dg := ⟨(List.replicate 32 0#8).set 0 7#8, by simp⟩
def bkL (l : List Nd) : List Nd := List.zipWith (fun a b => (a.1, b.2)) l.reverse l
theorem bkL_len (l : List Nd) : (bkL l).length = l.length := by simp [bkL]
theorem bkL_at {l : List Nd} {j : Nat} {x y : Nd} (hx : l[l.length - 1 - j]? = some x) (hy : l[j]? = some y) : (bkL l)[j]? = some (x.1, y.2) := by
  have hj := (List.getElem?_eq_some_iff.1 hy).1
  unfold bkL
  rw [List.getElem?_zipWith, List.getElem?_reverse hj, hx, hy]
theorem set_mid {α : Type} {a b : List α} {j : Nat} {x : α} (hab : a.length = b.length) (hx : b[j]? = some x) : (b.take j ++ a.drop j).set j x = b.take (j + 1) ++ a.drop (j + 1) := by
  obtain ⟨hj, e⟩ := List.getElem?_eq_some_iff.1 hx
  have h1 : (b.take j).length = j := by rw [List.length_take]; omega
  rw [List.set_append_right _ _ (by omega), h1, Nat.sub_self, List.take_succ_eq_append_getElem hj, e, List.drop_eq_getElem_cons (by omega : j < a.length), List.set_cons_zero]
  simp
end Go.ShM
/-
  The examples of ProofNames, plain. (Conditions: none.)
-/
set_option linter.all false
set_option maxRecDepth 20000
namespace Go.ShM
open Go.SL
end Go.ShM
/-
  What is handed in: a list of words of sixteen bits. (Conditions: none; generic over the program.)
-/
namespace Go.ShM
open Go.SL Go.RowKit Go.ChangeShapes Go.WideShapes
section
variable {H : Type} {enc : TypeId × Value → H} {P : Program} {W : World} {base : Nat} {sp : Nat → Bool} {hd : Bool}
end
end Go.ShM
