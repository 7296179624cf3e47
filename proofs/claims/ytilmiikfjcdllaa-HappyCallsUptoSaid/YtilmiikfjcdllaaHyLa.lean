/-
  Contracts of functions that the claim reaches, or the logic and the plain laws that they rest on, or the row over them. (Conditions: none beyond the statement.)
-/
import Derived.Laws.FloatArith
import Derived.Test.YtilmiikfjcdllaaLibA
import Derived.Test.YtilmiikfjcdllaaShA
import Derived.Test.YtilmiikfjcdllaaSvLA
import Derived.Test.YtilmiikfjcdllaaLibS
import Derived.Test.YtilmiikfjcdllaaLibC
import Derived.Test.YtilmiikfjcdllaaLibB
set_option linter.all false
/-
  Floats from nought to one: what is added up and multiplied of them stays there. (Conditions: none; no program in sight.)
-/
set_option maxRecDepth 20000
namespace Go.Fl
open Ieee
def ONE : Nat := 1023 * 2 ^ 52
def SW : Nat := 2 ^ 63
theorem c_bin : double.binade = 2 ^ 52 := rfl
theorem pwA {a b c : Nat} (h : a + b = c) (m i : Nat) : m * 2 ^ i * (2 ^ a * 2 ^ b) = m * 2 ^ (i + c) := by
  subst h
  rw [← Nat.pow_add, Nat.mul_assoc, ← Nat.pow_add]
theorem pwB {X Y a b : Nat} (h : 2 * X < Y * 2 ^ a) : 2 * (X * 2 ^ b) < Y * 2 ^ (a + b) := by
  rw [Nat.pow_add, ← Nat.mul_assoc, ← Nat.mul_assoc]
  exact Nat.mul_lt_mul_of_pos_right h (Nat.two_pow_pos _)
theorem pwD {T M a i b : Nat} (h : 2 * (T * 2 ^ a) < M * 2 ^ i) : 2 * (T * 2 ^ (a + b)) < M * 2 ^ (i + b) := by
  rw [Nat.pow_add, Nat.pow_add, ← Nat.mul_assoc T, ← Nat.mul_assoc 2, ← Nat.mul_assoc M]
  exact Nat.mul_lt_mul_of_pos_right h (Nat.two_pow_pos _)
theorem pwF (a : Nat) : (2 * 2 ^ 52 + 1) * 2 ^ a = 2 * (2 ^ 52 * 2 ^ a) + 2 ^ a := by rw [Nat.add_mul, Nat.one_mul, Nat.mul_assoc]
theorem pwG {X a b : Nat} (h : X ≤ 2 ^ 52 * 2 ^ a) : 2 * (X * 2 ^ b) < (2 * 2 ^ 52 + 1) * 2 ^ (a + b) := by
  rw [Nat.pow_add, ← Nat.mul_assoc, ← Nat.mul_assoc]
  refine Nat.mul_lt_mul_of_pos_right ?_ (Nat.two_pow_pos _)
  rw [pwF]
  have := Nat.two_pow_pos a
  generalize 2 ^ 52 * 2 ^ a = z at *
  omega
theorem pwH {D a b : Nat} (h0 : D ≠ 0) (h : D < 2 ^ a * 2 ^ b) : D.log2 < a + b := (Nat.log2_lt h0).2 (by rw [Nat.pow_add]; exact h)
theorem pwI {g a : Nat} (h : g ≤ a) : 2 ^ g ≤ 2 ^ a := Nat.pow_le_pow_right (by omega) h
theorem pwJ {V a c : Nat} (hc : c = 2 + a) (h : V ≤ 2 ^ 52 * 2 ^ c + 2 ^ a) : 2 * V < (2 * 2 ^ 52 + 1) * 2 ^ c := by
  have e2 : 2 ^ c = 4 * 2 ^ a := by rw [hc, Nat.pow_add]
  have := Nat.two_pow_pos a
  rw [pwF]
  rw [e2] at h ⊢
  generalize 2 ^ a = w at *
  omega
theorem c_lp : double.leastPlace = -1074 := by decide
theorem c_inf : double.infRung = 2047 * 2 ^ 52 := by decide
theorem c_sw : double.signWeight = 2 ^ 63 := rfl
theorem cut_near {neg : Bool} {n drop q : Nat} (h : 2 * n < (2 * q + 1) * 2 ^ drop) : Toward.even.cut neg n drop ≤ q := by
  unfold Toward.cut
  simp only [Nat.shiftLeft_eq, Nat.one_mul]
  by_cases hd : drop ≤ n.log2 + 2
  · rw [Nat.min_eq_left hd]
    have hg : 0 < 2 ^ drop := Nat.two_pow_pos _
    generalize 2 ^ drop = g at *
    have e := Nat.div_add_mod n g
    have hr := Nat.mod_lt n hg
    generalize n / g = lo at *
    generalize n % g = re at *
    have hlo : lo ≤ q := by
      rcases Nat.lt_or_ge q lo with k | k
      · exfalso
        have h1 : g * (q + 1) ≤ g * lo := Nat.mul_le_mul_left _ k
        have h2 : (2 * q + 1) * g = 2 * (g * q) + g := by rw [Nat.add_mul, Nat.one_mul, Nat.mul_assoc, Nat.mul_comm q g]
        rw [Nat.mul_add, Nat.mul_one] at h1
        omega
      · exact k
    by_cases hq : lo = q
    · subst hq
      have h2 : (2 * lo + 1) * g = 2 * (g * lo) + g := by rw [Nat.add_mul, Nat.one_mul, Nat.mul_assoc, Nat.mul_comm lo g]
      have h3 : 2 * re < g := by omega
      have e1 : decide (g < 2 * re) = false := by simp; omega
      have e2 : (g == 2 * re) = false := by simp; omega
      rw [e1, e2]; simp
    · have : ∀ b : Bool, b.toNat ≤ 1 := fun b => by cases b <;> decide
      have := this (decide (g < 2 * re) || (g == 2 * re && lo % 2 == 1))
      omega
  · rw [Nat.min_eq_right (by omega)]
    have hn : n < 2 ^ (n.log2 + 1) := Nat.lt_log2_self
    have hp : 2 ^ (n.log2 + 2) = 2 * 2 ^ (n.log2 + 1) := by rw [Nat.pow_succ, Nat.mul_comm]
    have hlt : n < 2 ^ (n.log2 + 2) := by omega
    rw [Nat.div_eq_of_lt hlt, Nat.mod_eq_of_lt hlt]
    have e1 : decide (2 ^ (n.log2 + 2) < 2 * n) = false := by simp; omega
    have e2 : (2 ^ (n.log2 + 2) == 2 * n) = false := by simp; omega
    rw [e1, e2]; simp
theorem near_le {mag a m i : Nat} {pl : Int} (hpl : pl = (a : Int) - 2148) (hm : m < 2 ^ 53) (hn : i = 0 ∨ 2 ^ 52 ≤ m) (h : 2 * (mag * 2 ^ a) < (2 * m + 1) * 2 ^ (i + 1074)) : double.nearest false mag pl ≤ i * 2 ^ 52 + m := by
  unfold Format.nearest
  by_cases h0 : mag = 0
  · rw [if_pos h0]; exact Nat.zero_le _
  rw [if_neg h0]
  simp only [c_lp, c_bin, Format.word, Bool.false_eq_true, if_false]
  rw [show (double.fractionBits : Int) = 52 from rfl]
  generalize hL : ((max (pl + (mag.log2 : Int) - 52) (-1074)) + 1074).toNat = L
  have hlast : max (pl + (mag.log2 : Int) - 52) (-1074) = (L : Int) - 1074 := by omega
  rw [hlast]
  have hLv : L = a + mag.log2 - 1126 := by omega
  have e1 : ((L : Int) - 1074 - -1074).toNat = L := by omega
  have e2 : (pl - ((L : Int) - 1074)).toNat = a - 1074 - L := by omega
  have e3 : ((L : Int) - 1074 - pl).toNat = L + 1074 - a := by omega
  rw [e1, e2, e3]
  refine Nat.le_trans (Nat.min_le_left _ _) ?_
  have hlo : 2 ^ mag.log2 ≤ mag := Nat.log2_self_le h0
  have hhi : mag < 2 ^ (mag.log2 + 1) := Nat.lt_log2_self
  have hLi : L ≤ i := by
    have h1 : 2 ^ (mag.log2 + a + 1) ≤ 2 * (mag * 2 ^ a) := by
      rw [Nat.pow_succ, Nat.pow_add, Nat.mul_comm _ 2]
      exact Nat.mul_le_mul_left _ (Nat.mul_le_mul_right _ hlo)
    have h2 : (2 * m + 1) * 2 ^ (i + 1074) ≤ 2 ^ (i + 1128) := by
      rw [show i + 1128 = 54 + (i + 1074) by omega, Nat.pow_add 2 54]
      exact Nat.mul_le_mul_right _ (by omega)
    have h3 : mag.log2 + a + 1 < i + 1128 := (Nat.pow_lt_pow_iff_right (by omega : 1 < 2)).1 (Nat.lt_of_le_of_lt h1 (Nat.lt_of_lt_of_le h h2))
    omega
  -- what is kept, held against a bound that is given at the scale of all
  have key : ∀ q : Nat, 2 * (mag * 2 ^ a) < (2 * q + 1) * 2 ^ (L + 1074) → Toward.even.cut false (mag <<< (a - 1074 - L)) (L + 1074 - a) ≤ q := fun q hq => by
    refine cut_near ?_
    rw [Nat.shiftLeft_eq]
    have hp : 0 < 2 ^ (min a (L + 1074)) := Nat.two_pow_pos _
    refine Nat.lt_of_mul_lt_mul_right (a := 2 ^ (min a (L + 1074))) ?_
    have f1 : 2 * (mag * 2 ^ (a - 1074 - L)) * 2 ^ (min a (L + 1074)) = 2 * (mag * 2 ^ a) := by
      rw [Nat.mul_assoc, Nat.mul_assoc, ← Nat.pow_add]
      rw [show a - 1074 - L + min a (L + 1074) = a by omega]
    have f2 : (2 * q + 1) * 2 ^ (L + 1074 - a) * 2 ^ (min a (L + 1074)) = (2 * q + 1) * 2 ^ (L + 1074) := by
      rw [Nat.mul_assoc, ← Nat.pow_add]
      rw [show L + 1074 - a + min a (L + 1074) = L + 1074 by omega]
    rw [f1, f2]; exact hq
  by_cases hLe : L = i
  · subst hLe
    have := key m h
    omega
  · have h53 := key (2 ^ 53) (by
      have g1 : mag * 2 ^ a < 2 ^ (mag.log2 + 1) * 2 ^ a := Nat.mul_lt_mul_of_pos_right hhi (Nat.two_pow_pos _)
      have g2 : 2 ^ (mag.log2 + 1) * 2 ^ a ≤ 2 ^ 53 * 2 ^ (L + 1074) := by
        rw [← Nat.pow_add, ← Nat.pow_add]
        exact Nat.pow_le_pow_right (by omega) (by omega)
      have g3 : (2 * 2 ^ 53 + 1) * 2 ^ (L + 1074) = 2 * (2 ^ 53 * 2 ^ (L + 1074)) + 2 ^ (L + 1074) := by rw [Nat.add_mul, Nat.one_mul, Nat.mul_assoc]
      omega)
    have h4 : (L + 1) * 2 ^ 52 ≤ i * 2 ^ 52 := Nat.mul_le_mul_right _ (by omega)
    rw [Nat.add_mul, Nat.one_mul] at h4
    omega
def rM (b : Nat) : Nat := if b < 2 ^ 52 then b else 2 ^ 52 + b % 2 ^ 52
def rI (b : Nat) : Nat := if b < 2 ^ 52 then 0 else b / 2 ^ 52 - 1
def val (b : Nat) : Nat := rM b * 2 ^ rI b
theorem read_fin {b : Nat} (h : b < 2047 * 2 ^ 52) : double.read b = .number false (rM b) ((rI b : Int) - 1074) := by
  unfold Format.read rM rI
  simp only [c_sw, c_bin, c_lp, c_inf]
  rw [Nat.mod_eq_of_lt (show b < 2 ^ 63 by omega), Nat.div_eq_of_lt (show b < 2 ^ 63 by omega)]
  by_cases h1 : b < 2 ^ 52
  · rw [if_pos h1, if_pos h1, if_pos h1]; rfl
  · rw [if_neg h1, if_pos h, if_neg h1, if_neg h1]
    have e : ((-1074 : Int) + ((b / 2 ^ 52 - 1 : Nat) : Int)) = ((b / 2 ^ 52 - 1 : Nat) : Int) - 1074 := by omega
    rw [e]; rfl
theorem read_nz : double.read SW = .number true 0 (-1074) := by decide
theorem rung_eq (b : Nat) : rI b * 2 ^ 52 + rM b = b := by
  unfold rI rM
  split
  · omega
  · have := Nat.div_add_mod b (2 ^ 52)
    have h1 : 1 ≤ b / 2 ^ 52 := Nat.div_pos (by omega) (by omega)
    omega
theorem rM_lt (b : Nat) : rM b < 2 ^ 53 := by unfold rM; split <;> omega
theorem rM_n (b : Nat) : rI b = 0 ∨ 2 ^ 52 ≤ rM b := by
  unfold rI rM
  split
  · exact .inl rfl
  · exact .inr (by omega)
theorem rI_le {b : Nat} (h : b ≤ ONE) : rI b ≤ 1022 := by
  unfold rI; unfold ONE at h
  split <;> omega
theorem val_mono {b c : Nat} (h : b ≤ c) : val b ≤ val c := by
  have e1 := rung_eq b
  have e2 := rung_eq c
  have m1 := rM_lt b
  have m2 := rM_lt c
  have n1 := rM_n b
  have n2 := rM_n c
  unfold val
  generalize rM b = mb at *
  generalize rM c = mc at *
  generalize rI b = ib at *
  generalize rI c = ic at *
  rcases Nat.lt_trichotomy ib ic with q | q | q
  · have hc : 2 ^ 52 ≤ mc := by omega
    calc mb * 2 ^ ib ≤ 2 ^ 53 * 2 ^ ib := Nat.mul_le_mul_right _ (by omega)
      _ = 2 ^ 52 * 2 ^ (ib + 1) := by rw [← Nat.pow_add, ← Nat.pow_add]; congr 1; omega
      _ ≤ 2 ^ 52 * 2 ^ ic := Nat.mul_le_mul_left _ (Nat.pow_le_pow_right (by omega) q)
      _ ≤ mc * 2 ^ ic := Nat.mul_le_mul_right _ hc
  · subst q
    exact Nat.mul_le_mul_right _ (by omega)
  · exfalso
    omega
theorem val_rung {i m : Nat} (hn : i = 0 ∨ 2 ^ 52 ≤ m) (hm : m < 2 ^ 53) : val (i * 2 ^ 52 + m) = m * 2 ^ i := by
  unfold val rM rI
  by_cases h : i * 2 ^ 52 + m < 2 ^ 52
  · rw [if_pos h, if_pos h]
    have hi : i = 0 := by omega
    subst hi; simp
  · rw [if_neg h, if_neg h]
    by_cases hm2 : m < 2 ^ 52
    · exfalso; omega
    · have e1 : (i * 2 ^ 52 + m) / 2 ^ 52 = i + 1 := by omega
      have e2 : (i * 2 ^ 52 + m) % 2 ^ 52 = m - 2 ^ 52 := by omega
      rw [e1, e2, Nat.add_sub_cancel, show 2 ^ 52 + (m - 2 ^ 52) = m by omega]
theorem val_one : val ONE = 2 ^ 52 * 2 ^ 1022 := by
  have h1 : rM ONE = 2 ^ 52 := by decide
  have h2 : rI ONE = 1022 := by decide
  unfold val; rw [h1, h2]
theorem val_le {b : Nat} (h : b ≤ ONE) : val b ≤ 2 ^ 52 * 2 ^ 1022 := by
  rw [← val_one]; exact val_mono h
theorem one_eq : ONE = 1022 * 2 ^ 52 + 2 ^ 52 := by decide
theorem mul_le {a b : Nat} (ha : a ≤ ONE) (hb : b ≤ ONE) : ∃ r, double.mul a b = some r ∧ r ≤ a ∧ r ≤ b := by
  have la : a < 2047 * 2 ^ 52 := by unfold ONE at ha; omega
  have lb : b < 2047 * 2 ^ 52 := by unfold ONE at hb; omega
  unfold Format.mul
  rw [read_fin la, read_fin lb]
  have half : ∀ m k w : Nat, k * w ≤ 2 ^ 52 * 2 ^ 1022 → ∀ i, 2 * (m * k * 2 ^ i * w) < (2 * m + 1) * 2 ^ (i + 1074) := fun m k w hw i => by
    have e : m * k * 2 ^ i * w = m * 2 ^ i * (k * w) := by rw [Nat.mul_assoc, Nat.mul_assoc, Nat.mul_assoc, Nat.mul_left_comm k]
    rw [e]
    have h1 : m * 2 ^ i * (k * w) ≤ m * 2 ^ i * (2 ^ 52 * 2 ^ 1022) := Nat.mul_le_mul_left _ hw
    have h2 : m * 2 ^ i * (2 ^ 52 * 2 ^ 1022) = m * 2 ^ (i + 1074) := pwA (a := 52) (b := 1022) (c := 1074) rfl m i
    have h3 : 0 < 2 ^ (i + 1074) := Nat.two_pow_pos _
    have h4 : (2 * m + 1) * 2 ^ (i + 1074) = 2 * (m * 2 ^ (i + 1074)) + 2 ^ (i + 1074) := by rw [Nat.add_mul, Nat.one_mul, Nat.mul_assoc]
    rw [h2] at h1
    generalize 2 ^ (i + 1074) = z at *
    omega
  have hpl : ((rI a : Int) - 1074) + ((rI b : Int) - 1074) = ((rI a + rI b : Nat) : Int) - 2148 := by omega
  refine ⟨_, rfl, ?_, ?_⟩
  · have := near_le (mag := rM a * rM b) hpl (rM_lt a) (rM_n a) (by
      have := half (rM a) (rM b) (2 ^ rI b) (val_le hb) (rI a)
      rw [Nat.pow_add, ← Nat.mul_assoc (rM a * rM b)]; exact this)
    rw [rung_eq] at this; exact this
  · have := near_le (mag := rM a * rM b) hpl (rM_lt b) (rM_n b) (by
      have := half (rM b) (rM a) (2 ^ rI a) (val_le ha) (rI b)
      rw [Nat.pow_add, Nat.mul_comm (2 ^ rI a), Nat.mul_comm (rM a), ← Nat.mul_assoc (rM b * rM a)]; exact this)
    rw [rung_eq] at this; exact this
theorem signed_f (m u : Nat) : signed false m u = ((m * 2 ^ u : Nat) : Int) := by unfold signed; simp [Nat.shiftLeft_eq]
theorem signed_t (m u : Nat) : signed true m u = -((m * 2 ^ u : Nat) : Int) := by unfold signed; simp [Nat.shiftLeft_eq]
theorem sum_pos {m n i j : Nat} {a b : Int} (ha : a = (i : Int) - 1074) (hb : b = (j : Int) - 1074) : Datum.sum (.number false m a) (.number false n b) = some (.number false (m * 2 ^ (i - min i j) + n * 2 ^ (j - min i j)) (((min i j : Nat) : Int) - 1074)) := by
  unfold Datum.sum
  have e0 : min a b = ((min i j : Nat) : Int) - 1074 := by omega
  simp only [e0]
  have e1 : (a - (((min i j : Nat) : Int) - 1074)).toNat = i - min i j := by omega
  have e2 : (b - (((min i j : Nat) : Int) - 1074)).toNat = j - min i j := by omega
  rw [e1, e2, signed_f, signed_f]
  have e3 : ((m * 2 ^ (i - min i j) : Nat) : Int) + ((n * 2 ^ (j - min i j) : Nat) : Int) = ((m * 2 ^ (i - min i j) + n * 2 ^ (j - min i j) : Nat) : Int) := by omega
  rw [e3]
  generalize m * 2 ^ (i - min i j) + n * 2 ^ (j - min i j) = T
  congr 2
  · by_cases h : (T : Int) = 0
    · rw [if_pos h]; rfl
    · rw [if_neg h]; simp
theorem add_one {u v : Nat} (hu : u ≤ ONE) (hv : v ≤ ONE) (h : 2 * (val u + val v) < (2 * 2 ^ 52 + 1) * 2 ^ 1022) : ∃ r, double.add u v = some r ∧ r ≤ ONE := by
  have lu : u < 2047 * 2 ^ 52 := by unfold ONE at hu; omega
  have lv : v < 2047 * 2 ^ 52 := by unfold ONE at hv; omega
  unfold Format.add
  rw [read_fin lu, read_fin lv, sum_pos rfl rfl]
  refine ⟨_, rfl, ?_⟩
  rw [one_eq]
  refine near_le (a := min (rI u) (rI v) + 1074) (by omega) (by omega) (.inr (Nat.le_refl _)) ?_
  have e : (rM u * 2 ^ (rI u - min (rI u) (rI v)) + rM v * 2 ^ (rI v - min (rI u) (rI v))) * 2 ^ (min (rI u) (rI v) + 1074) = (val u + val v) * 2 ^ 1074 := by
    rw [Nat.pow_add, ← Nat.mul_assoc, Nat.add_mul, Nat.mul_assoc, Nat.mul_assoc, ← Nat.pow_add, ← Nat.pow_add]
    rw [show rI u - min (rI u) (rI v) + min (rI u) (rI v) = rI u by omega, show rI v - min (rI u) (rI v) + min (rI u) (rI v) = rI v by omega]
    rfl
  rw [e]
  have e3 := pwB (X := val u + val v) (Y := 2 * 2 ^ 52 + 1) (a := 1022) (b := 1074) h
  exact e3
theorem sub_one {x : Nat} (hx : x ≤ ONE) : ∃ y, double.sub ONE x = some y ∧ y ≤ ONE ∧ 2 * (val y + val x) < (2 * 2 ^ 52 + 1) * 2 ^ 1022 := by
  have lx : x < 2047 * 2 ^ 52 := by unfold ONE at hx; omega
  have hix := rI_le hx
  have hvx := val_le hx
  have r1 : double.read ONE = .number false (2 ^ 52) ((1022 : Nat) - 1074 : Int) := by decide
  unfold Format.sub
  rw [r1, read_fin lx]
  simp only [Datum.opposite, Bool.not_false]
  -- the exact difference
  have hsum : Datum.sum (.number false (2 ^ 52) ((1022 : Nat) - 1074 : Int)) (.number true (rM x) ((rI x : Int) - 1074)) = some (.number false (2 ^ 52 * 2 ^ (1022 - rI x) - rM x) ((rI x : Int) - 1074)) := by
    unfold Datum.sum
    have e0 : min (((1022 : Nat) : Int) - 1074) ((rI x : Int) - 1074) = (rI x : Int) - 1074 := by omega
    simp only [e0]
    have e1 : (((1022 : Nat) : Int) - 1074 - ((rI x : Int) - 1074)).toNat = 1022 - rI x := by omega
    have e2 : ((rI x : Int) - 1074 - ((rI x : Int) - 1074)).toNat = 0 := by omega
    rw [e1, e2, signed_f, signed_t, Nat.pow_zero, Nat.mul_one]
    have hle : rM x ≤ 2 ^ 52 * 2 ^ (1022 - rI x) := by
      refine Nat.le_of_mul_le_mul_right (c := 2 ^ rI x) ?_ (Nat.two_pow_pos _)
      rw [Nat.mul_assoc, ← Nat.pow_add, show 1022 - rI x + rI x = 1022 by omega]
      exact hvx
    have e3 : ((2 ^ 52 * 2 ^ (1022 - rI x) : Nat) : Int) + -((rM x : Nat) : Int) = ((2 ^ 52 * 2 ^ (1022 - rI x) - rM x : Nat) : Int) := by omega
    rw [e3]
    generalize 2 ^ 52 * 2 ^ (1022 - rI x) - rM x = T
    congr 2
    by_cases h : (T : Int) = 0
    · rw [if_pos h]; rfl
    · rw [if_neg h]; simp
  rw [hsum]
  generalize hT : 2 ^ 52 * 2 ^ (1022 - rI x) - rM x = T
  -- at the scale of all
  have hD : T * 2 ^ rI x + val x = 2 ^ 52 * 2 ^ 1022 := by
    rw [← hT, Nat.sub_mul, Nat.mul_assoc, ← Nat.pow_add, show 1022 - rI x + rI x = 1022 by omega]
    generalize 2 ^ 52 * 2 ^ 1022 = Z at hvx ⊢
    exact Nat.sub_add_cancel hvx
  have near : ∀ m i : Nat, m < 2 ^ 53 → (i = 0 ∨ 2 ^ 52 ≤ m) → 2 * (T * 2 ^ rI x) < (2 * m + 1) * 2 ^ i → double.nearest false T ((rI x : Int) - 1074) ≤ i * 2 ^ 52 + m := fun m i h1 h2 h3 => by
    refine near_le (a := rI x + 1074) (by omega) h1 h2 ?_
    exact pwD (b := 1074) h3
  refine ⟨_, rfl, ?_⟩
  show double.nearest false T ((rI x : Int) - 1074) ≤ ONE ∧ 2 * (val (double.nearest false T ((rI x : Int) - 1074)) + val x) < (2 * 2 ^ 52 + 1) * 2 ^ 1022
  have hone : double.nearest false T ((rI x : Int) - 1074) ≤ ONE := by
    rw [one_eq]
    refine near _ _ (by omega) (.inr (Nat.le_refl _)) ?_
    have := Nat.two_pow_pos 1022
    have e := pwF 1022
    rw [e]
    generalize 2 ^ 52 * 2 ^ 1022 = z at *
    omega
  refine ⟨hone, ?_⟩
  generalize hy : double.nearest false T ((rI x : Int) - 1074) = y at *
  -- the value of what is written is at most that of a rung that is at most a bit above
  have hbound : val y + val x ≤ 2 ^ 52 * 2 ^ 1022 + 2 ^ 1020 := by
    generalize hDd : T * 2 ^ rI x = D at *
    by_cases hx0 : D = 2 ^ 52 * 2 ^ 1022
    · have := val_le hone
      omega
    · have hDlt : D < 2 ^ 52 * 2 ^ 1022 := by omega
      by_cases hD0 : D = 0
      · have h0 := near 0 0 (by omega) (.inl rfl) (by rw [hD0]; decide)
        have : val y ≤ val 0 := val_mono (by omega)
        have hv0 : val 0 = 0 := by decide
        omega
      -- the scale of the difference
      have hlog := pwH (a := 52) (b := 1022) hD0 hDlt
      generalize hi : D.log2 - 52 = i
      have hi1 : i ≤ 1021 := by omega
      have hlo : 2 ^ D.log2 ≤ D := Nat.log2_self_le hD0
      have hhi : D < 2 ^ (D.log2 + 1) := Nat.lt_log2_self
      have hDi : D < 2 ^ 53 * 2 ^ i := by
        rw [← Nat.pow_add]
        exact Nat.lt_of_lt_of_le hhi (Nat.pow_le_pow_right (by omega) (by omega))
      by_cases hi0 : i = 0
      · rw [hi0, Nat.pow_zero, Nat.mul_one] at hDi
        have h1 := near D 0 (by omega) (.inl rfl) (by rw [Nat.pow_zero]; omega)
        have h2 : val y ≤ val D := val_mono (by omega)
        have h3 : val D ≤ D := by
          have e := rung_eq D
          have hn := rM_n D
          have hm := rM_lt D
          unfold val
          have : rI D = 0 ∨ rI D = 1 := by unfold rI; split <;> omega
          rcases this with q | q
          · rw [q] at e ⊢; rw [Nat.pow_zero]; omega
          · exfalso
            rw [q] at e; omega
        have := Nat.two_pow_pos 1020
        omega
      · have hlo2 : 2 ^ 52 * 2 ^ i ≤ D := by
          rw [← Nat.pow_add]
          exact Nat.le_trans (Nat.pow_le_pow_right (by omega) (by omega)) hlo
        obtain ⟨g, hg⟩ : ∃ g, i = g + 1 := ⟨i - 1, by omega⟩
        have hpg : 2 ^ i = 2 * 2 ^ g := by rw [hg, Nat.pow_succ, Nat.mul_comm]
        have hgp := Nat.two_pow_pos g
        have hgl := pwI (g := g) (a := 1020) (by omega)
        -- rounded to the nearer, up at a half
        generalize hm : (D + 2 ^ g) / 2 ^ i = m
        have hmd := Nat.div_add_mod (D + 2 ^ g) (2 ^ i)
        have hmr := Nat.mod_lt (D + 2 ^ g) (Nat.two_pow_pos i)
        rw [hm] at hmd
        have hup : 2 ^ i * m ≤ D + 2 ^ g := by omega
        have hdn : 2 * D < (2 * m + 1) * 2 ^ i := by
          have e : (2 * m + 1) * 2 ^ i = 2 * (2 ^ i * m) + 2 ^ i := by rw [Nat.add_mul, Nat.one_mul, Nat.mul_assoc, Nat.mul_comm m]
          rw [e]; omega
        have hm52 : 2 ^ 52 ≤ m := by
          rw [← hm]
          exact (Nat.le_div_iff_mul_le (Nat.two_pow_pos i)).2 (by omega)
        have hm53 : m ≤ 2 ^ 53 := by
          rcases Nat.lt_or_ge (2 ^ 53) m with k | k
          · exfalso
            have : 2 ^ i * (2 ^ 53 + 1) ≤ 2 ^ i * m := Nat.mul_le_mul_left _ k
            rw [Nat.mul_add, Nat.mul_one, Nat.mul_comm (2 ^ i) (2 ^ 53)] at this
            omega
          · exact k
        have hval : val y ≤ 2 ^ i * m := by
          rcases Nat.lt_or_ge m (2 ^ 53) with k | k
          · have h1 := near m i k (.inr hm52) hdn
            have h2 : val y ≤ val (i * 2 ^ 52 + m) := val_mono h1
            have h3 : val (i * 2 ^ 52 + m) = m * 2 ^ i := val_rung (.inr hm52) k
            rw [h3, Nat.mul_comm] at h2; exact h2
          · have km : m = 2 ^ 53 := by omega
            have h1 := near (2 ^ 52) (i + 1) (by omega) (.inr (Nat.le_refl _)) (by
              rw [Nat.pow_succ]
              rw [km] at hdn
              have : (2 * 2 ^ 53 + 1) * 2 ^ i ≤ (2 * 2 ^ 52 + 1) * (2 ^ i * 2) := by
                rw [Nat.mul_comm (2 ^ i) 2, ← Nat.mul_assoc]
                exact Nat.mul_le_mul_right _ (by omega)
              omega)
            have h2 : val y ≤ val ((i + 1) * 2 ^ 52 + 2 ^ 52) := val_mono h1
            have h3 : val ((i + 1) * 2 ^ 52 + 2 ^ 52) = 2 ^ 52 * 2 ^ (i + 1) := val_rung (.inr (Nat.le_refl _)) (by omega)
            rw [h3, Nat.pow_succ] at h2
            rw [km]
            have : 2 ^ 52 * (2 ^ i * 2) = 2 ^ i * 2 ^ 53 := by generalize 2 ^ i = z; omega
            omega
        omega
  have k := pwJ (a := 1020) (c := 1022) rfl hbound
  exact k
end Go.Fl
/-
  Operations on floats, as a walk meets them; sums of what is not below nought. (Conditions: none; generic over the program.)
-/
set_option maxRecDepth 20000
namespace Go.Fl
open Ieee Go.SL Go.RowKit
def U (x : Nat) : Prop := x ≤ ONE ∨ x = SW
def chB (x : Nat) : Bool := (double.order x 0 == some .gt || double.order x 0 == some .eq) && (double.order x ONE == some .lt || double.order x ONE == some .eq)
theorem read_pos {x : Nat} (h : x < 2 ^ 63) : double.read x = if x < 2047 * 2 ^ 52 then .number false (rM x) ((rI x : Int) - 1074) else if x = 2047 * 2 ^ 52 then .infinity false else .nan false (x - 2047 * 2 ^ 52) := by
  by_cases h1 : x < 2047 * 2 ^ 52
  · rw [if_pos h1, read_fin h1]
  · rw [if_neg h1]
    unfold Format.read
    simp only [c_sw, c_bin, c_lp, c_inf]
    rw [Nat.mod_eq_of_lt h, Nat.div_eq_of_lt h, if_neg (by omega), if_neg h1]
    rfl
theorem read_neg {x : Nat} (h0 : 2 ^ 63 ≤ x) (h : x < 2 ^ 64) : double.read x = if x - 2 ^ 63 < 2047 * 2 ^ 52 then .number true (rM (x - 2 ^ 63)) ((rI (x - 2 ^ 63) : Int) - 1074) else if x - 2 ^ 63 = 2047 * 2 ^ 52 then .infinity true else .nan true (x - 2 ^ 63 - 2047 * 2 ^ 52) := by
  have e1 : x / 2 ^ 63 = 1 := by omega
  obtain ⟨z, hz⟩ : ∃ z, x - 2 ^ 63 = z := ⟨_, rfl⟩
  have e2 : x % 2 ^ 63 = z := by omega
  rw [hz]
  unfold Format.read rM rI
  simp only [c_sw, c_bin, c_lp, c_inf]
  rw [e1, e2]
  by_cases h1 : z < 2 ^ 52
  · rw [if_pos h1, if_pos (by omega : z < 2047 * 2 ^ 52), if_pos h1, if_pos h1]; rfl
  · rw [if_neg h1]
    by_cases h2 : z < 2047 * 2 ^ 52
    · rw [if_pos h2, if_pos h2, if_neg h1, if_neg h1]
      have e : ((-1074 : Int) + ((z / 2 ^ 52 - 1 : Nat) : Int)) = ((z / 2 ^ 52 - 1 : Nat) : Int) - 1074 := by omega
      rw [e]; rfl
    · rw [if_neg h2, if_neg h2]; rfl
theorem r_zero : double.read 0 = .number false 0 (-1074) := by decide
theorem r_one : double.read ONE = .number false (2 ^ 52) (((1022 : Nat) : Int) - 1074) := by decide
theorem chB_U {x : Nat} (hx : x < 2 ^ 64) (h : chB x = true) : U x := by
  unfold chB Format.order at h
  rw [r_zero, r_one] at h
  rcases Nat.lt_or_ge x (2 ^ 63) with k | k
  · rw [read_pos k] at h
    by_cases h1 : x < 2047 * 2 ^ 52
    · rw [if_pos h1] at h
      left
      rcases Nat.lt_or_ge ONE x with q | q
      · exfalso
        unfold Datum.order at h
        have e1 := rung_eq x
        have e2 := rM_lt x
        have e3 := rM_n x
        have hone := one_eq
        have hI : 1022 ≤ rI x := by omega
        have e4 : min ((rI x : Int) - 1074) (((1022 : Nat) : Int) - 1074) = ((1022 : Nat) : Int) - 1074 := by omega
        have e5 : ((rI x : Int) - 1074 - (((1022 : Nat) : Int) - 1074)).toNat = rI x - 1022 := by omega
        have e6 : ((((1022 : Nat) : Int) - 1074) - (((1022 : Nat) : Int) - 1074)).toNat = 0 := by omega
        simp only [e4, e5, e6, signed_f, Nat.pow_zero, Nat.mul_one] at h
        have hgt : 2 ^ 52 < rM x * 2 ^ (rI x - 1022) := by
          rcases Nat.lt_or_ge 1022 (rI x) with w | w
          · have : 2 ^ 52 * 2 ≤ rM x * 2 ^ (rI x - 1022) := Nat.mul_le_mul (by omega) (by
              have := Nat.pow_le_pow_right (n := 2) (by omega) (show 1 ≤ rI x - 1022 by omega)
              rw [Nat.pow_one] at this; exact this)
            omega
          · have w2 : rI x = 1022 := by omega
            rw [w2, Nat.sub_self, Nat.pow_zero, Nat.mul_one]
            omega
        generalize rM x * 2 ^ (rI x - 1022) = z at *
        have hc : compare ((z : Nat) : Int) ((2 ^ 52 : Nat) : Int) = .gt := by
          rw [Int.compare_eq_gt]; omega
        rw [hc] at h
        simp at h
      · exact q
    · rw [if_neg h1] at h
      exfalso
      split at h
      · simp [Datum.order] at h
      · simp [Datum.order] at h
  · rw [read_neg k hx] at h
    by_cases h1 : x - 2 ^ 63 < 2047 * 2 ^ 52
    · rw [if_pos h1] at h
      right
      unfold Datum.order at h
      have e4 : min ((rI (x - 2 ^ 63) : Int) - 1074) (-1074) = -1074 := by omega
      simp only [e4, signed_t, signed_f] at h
      rw [Bool.and_eq_true] at h
      have h2 := h.1
      have hz : rM (x - 2 ^ 63) = 0 := by
        rcases Nat.eq_zero_or_pos (rM (x - 2 ^ 63)) with q | q
        · exact q
        · exfalso
          have hp : 0 < rM (x - 2 ^ 63) * 2 ^ ((rI (x - 2 ^ 63) : Int) - 1074 - -1074).toNat := Nat.mul_pos q (Nat.two_pow_pos _)
          generalize rM (x - 2 ^ 63) * 2 ^ ((rI (x - 2 ^ 63) : Int) - 1074 - -1074).toNat = z at *
          have hc : compare (-((z : Nat) : Int)) ((0 * 2 ^ ((-1074 : Int) - -1074).toNat : Nat) : Int) = .lt := by
            rw [Int.compare_eq_lt]; omega
          rw [hc] at h2
          simp at h2
      have := rung_eq (x - 2 ^ 63)
      have h3 := rM_n (x - 2 ^ 63)
      unfold SW
      omega
    · rw [if_neg h1] at h
      exfalso
      split at h
      · simp [Datum.order] at h
      · simp [Datum.order] at h
def NN (b : Nat) : Prop := b ≤ 2047 * 2 ^ 52
theorem NN.of_one {b : Nat} (h : b ≤ ONE) : NN b := by unfold NN; unfold ONE at h; omega
theorem near_NN (mag : Nat) (pl : Int) : NN (double.nearest false mag pl) := by
  unfold Format.nearest NN
  simp only [Format.word, Bool.false_eq_true, if_false, c_inf]
  split
  · exact Nat.zero_le _
  · exact Nat.min_le_right _ _
theorem read_NN {b : Nat} (h : NN b) : (∃ m i : Nat, double.read b = .number false m ((i : Int) - 1074)) ∨ double.read b = .infinity false := by
  unfold NN at h
  rw [read_pos (by omega)]
  by_cases h1 : b < 2047 * 2 ^ 52
  · rw [if_pos h1]; exact .inl ⟨_, _, rfl⟩
  · rw [if_neg h1, if_pos (by omega)]; exact .inr rfl
theorem add_NN {a b : Nat} (ha : NN a) (hb : NN b) : ∃ r, double.add a b = some r ∧ NN r := by
  unfold Format.add
  rcases read_NN ha with ⟨m, i, e1⟩ | e1 <;> rcases read_NN hb with ⟨n, j, e2⟩ | e2 <;> rw [e1, e2]
  · rw [sum_pos rfl rfl]
    exact ⟨_, rfl, near_NN _ _⟩
  · exact ⟨_, rfl, by show NN (double.word false double.infRung); unfold NN; rw [c_inf]; exact Nat.le_refl _⟩
  · exact ⟨_, rfl, by show NN (double.word false double.infRung); unfold NN; rw [c_inf]; exact Nat.le_refl _⟩
  · exact ⟨_, rfl, by show NN (double.word false double.infRung); unfold NN; rw [c_inf]; exact Nat.le_refl _⟩
theorem ord_refl {a : Nat} (h : NN a) : double.order a a = some .eq := by
  unfold Format.order
  rcases read_NN h with ⟨m, i, e1⟩ | e1 <;> rw [e1]
  · unfold Datum.order; simp
  · unfold Datum.order; simp
theorem div_NN {a : Nat} (h : NN a) : ∃ r, double.div ONE a = some r ∧ NN r := by
  unfold Format.div
  rw [r_one]
  rcases read_NN h with ⟨m, i, e1⟩ | e1 <;> rw [e1]
  · unfold Datum.quotient
    dsimp only
    by_cases hm : m = 0
    · rw [if_pos hm, if_neg (by decide)]
      exact ⟨_, rfl, by show NN (double.word (false ^^ false) double.infRung); unfold NN; rw [c_inf]; exact Nat.le_refl _⟩
    · rw [if_neg hm]
      exact ⟨_, rfl, near_NN _ _⟩
  · exact ⟨_, rfl, near_NN _ _⟩
theorem mul_nz {p : Nat} (hp : p ≤ ONE) : double.mul p SW = some SW := by
  have lp : p < 2047 * 2 ^ 52 := by unfold ONE at hp; omega
  unfold Format.mul
  rw [read_fin lp, read_nz]
  unfold Datum.product
  dsimp only
  rw [Nat.mul_zero]
  show some (double.nearest (false ^^ true) 0 _) = some SW
  unfold Format.nearest
  rw [if_pos rfl]; rfl
theorem add_nz {u : Nat} (hu : u ≤ ONE) : ∃ r, double.add u SW = some r ∧ r ≤ ONE := by
  have lu : u < 2047 * 2 ^ 52 := by unfold ONE at hu; omega
  have hv := val_le hu
  unfold Format.add
  rw [read_fin lu, read_nz]
  have hs : Datum.sum (.number false (rM u) ((rI u : Int) - 1074)) (.number true 0 (-1074)) = some (.number false (rM u * 2 ^ rI u) ((0 : Nat) - 1074 : Int)) := by
    unfold Datum.sum
    have e0 : min ((rI u : Int) - 1074) (-1074) = ((0 : Nat) : Int) - 1074 := by omega
    simp only [e0]
    have e1 : ((rI u : Int) - 1074 - (((0 : Nat) : Int) - 1074)).toNat = rI u := by omega
    rw [e1, signed_f, signed_t, Nat.zero_mul]
    have e3 : ((rM u * 2 ^ rI u : Nat) : Int) + -((0 : Nat) : Int) = ((rM u * 2 ^ rI u : Nat) : Int) := by omega
    rw [e3]
    generalize rM u * 2 ^ rI u = T
    congr 2
    by_cases h : (T : Int) = 0
    · rw [if_pos h]; rfl
    · rw [if_neg h]; simp
  rw [hs]
  refine ⟨_, rfl, ?_⟩
  rw [one_eq]
  refine near_le (a := 1074) (by omega) (by omega) (.inr (Nat.le_refl _)) ?_
  unfold val at hv
  have k := pwG (b := 1074) hv
  exact k
theorem step1 {p q x : Nat} (hp : p ≤ ONE) (hq : q ≤ ONE) (hx : U x) : ∃ y a b c, double.sub ONE x = some y ∧ y ≤ ONE ∧ double.mul p y = some a ∧ a ≤ ONE ∧ double.mul q x = some b ∧ double.add a b = some c ∧ c ≤ ONE := by
  rcases hx with hx | rfl
  · obtain ⟨y, h1, h2, h3⟩ := sub_one hx
    obtain ⟨a, h4, h5, h6⟩ := mul_le hp h2
    obtain ⟨b, h7, h8, h9⟩ := mul_le hq hx
    obtain ⟨c, h10, h11⟩ := add_one (u := a) (v := b) (by omega) (by omega) (by
      have := val_mono h6
      have := val_mono h9
      omega)
    exact ⟨y, a, b, c, h1, h2, h4, by omega, h7, h10, h11⟩
  · obtain ⟨a, h4, h5, h6⟩ := mul_le hp (Nat.le_refl ONE)
    obtain ⟨c, h10, h11⟩ := add_nz (u := a) (by omega)
    exact ⟨ONE, a, SW, c, by decide +kernel, Nat.le_refl _, h4, by omega, mul_nz hq, h10, h11⟩
section
variable {P : Program} {n : Nat} {L : List (Nat × Value)} {A : List Asn} {d : Option Tmp} {ty : TypeId} {pos : String} {af : Array Edge} {g : Option (Nat × Bool)}
theorem Rd_fl {op : BinOp} {t t' : TypeId} {x y : Operand} {a b : Nat} {r : Value} (hx : ev L x = some (.float .f64 a)) (hy : ev L y = some (.float .f64 b))
    (h : ∀ w, (binOp op t (.float .f64 a) (.float .f64 b)).run P w = .ok r w) : Rd P n ⟨d, .binOp op t x y t', ty, pos, af, g⟩ L A r := fun ac w hf _ => by
  have e : eqGuard op t x y (.float .f64 a) (.float .f64 b) = pure () := by cases op <;> rfl
  simp only [execOp, hf.eval hx, hf.eval hy, e, Sem.run_bind, Sem.run_pure, Result.andThen_ok, h]
theorem Rd_fop {op : BinOp} {t t' : TypeId} {x y : Operand} {a b r : Nat} (hx : ev L x = some (.float .f64 a)) (hy : ev L y = some (.float .f64 b)) (h : floatBits op .f64 a b = some r) : Rd P n ⟨d, .binOp op t x y t', ty, pos, af, g⟩ L A (.float .f64 r) :=
  Rd_fl hx hy fun w => run_float_arith w op t .f64 a b r h
theorem Rd_fgeq {t t' : TypeId} {x y : Operand} {a b : Nat} (hx : ev L x = some (.float .f64 a)) (hy : ev L y = some (.float .f64 b)) : Rd P n ⟨d, .binOp .geq t x y t', ty, pos, af, g⟩ L A (.bool (double.order a b == some .gt || double.order a b == some .eq)) :=
  Rd_fl hx hy fun w => by rw [binOp_float_cmp_geq]; rfl
theorem Rd_fleq {t t' : TypeId} {x y : Operand} {a b : Nat} (hx : ev L x = some (.float .f64 a)) (hy : ev L y = some (.float .f64 b)) : Rd P n ⟨d, .binOp .leq t x y t', ty, pos, af, g⟩ L A (.bool (double.order a b == some .lt || double.order a b == some .eq)) :=
  Rd_fl hx hy fun w => by rw [binOp_float_cmp_leq]; rfl
theorem Rd_feql {t t' : TypeId} {x y : Operand} {a b : Nat} (hx : ev L x = some (.float .f64 a)) (hy : ev L y = some (.float .f64 b)) : Rd P n ⟨d, .binOp .eql t x y t', ty, pos, af, g⟩ L A (.bool (double.order a b == some .eq)) :=
  Rd_fl hx hy fun w => by rw [binOp_float_cmp_eql]; rfl
theorem Rd_fneq {t t' : TypeId} {x y : Operand} {a b : Nat} (hx : ev L x = some (.float .f64 a)) (hy : ev L y = some (.float .f64 b)) : Rd P n ⟨d, .binOp .neq t x y t', ty, pos, af, g⟩ L A (.bool (double.order a b != some .eq)) :=
  Rd_fl hx hy fun w => by rw [binOp_float_cmp_neq]; rfl
end
def eF (x : Nat) : List Value := [.float .f64 x]
theorem encF : Enc eF 1 := ⟨fun _ => rfl, fun x v hv => by simp [eF] at hv; subst hv; rfl⟩
end Go.Fl
/-
  How likely so many last: the floats, in plain words. (Conditions: none; no program in sight.)
-/
set_option maxRecDepth 20000
namespace Go.HyM
open Ieee Go.SL Go.RowKit Go.Fl
def fadd (a b : Nat) : Nat := (double.add a b).getD 0
def fmul (a b : Nat) : Nat := (double.mul a b).getD 0
def fsub (a b : Nat) : Nat := (double.sub a b).getD 0
theorem fsub_ok {x : Nat} (hx : U x) : floatBits .sub .f64 ONE x = some (fsub ONE x) ∧ fsub ONE x ≤ ONE := by
  obtain ⟨y, a, b, c, h1, h2, _⟩ := step1 (p := 0) (q := 0) (Nat.zero_le _) (Nat.zero_le _) hx
  unfold fsub
  rw [h1]; exact ⟨h1, h2⟩
theorem fmul_y {p x : Nat} (hp : p ≤ ONE) (hx : U x) : floatBits .mul .f64 p (fsub ONE x) = some (fmul p (fsub ONE x)) ∧ fmul p (fsub ONE x) ≤ ONE := by
  obtain ⟨y, a, b, c, h1, h2, h3, h4, _⟩ := step1 (p := p) (q := 0) hp (Nat.zero_le _) hx
  have e : fsub ONE x = y := by unfold fsub; rw [h1]; rfl
  rw [e]
  unfold fmul
  rw [h3]; exact ⟨h3, h4⟩
theorem fmul_x {q x : Nat} (hq : q ≤ ONE) (hx : U x) : floatBits .mul .f64 q x = some (fmul q x) := by
  obtain ⟨y, a, b, c, h1, h2, h3, h4, h5, _⟩ := step1 (p := 0) (q := q) (Nat.zero_le _) hq hx
  unfold fmul
  rw [h5]; exact h5
theorem fadd_xy {p q x : Nat} (hp : p ≤ ONE) (hq : q ≤ ONE) (hx : U x) : floatBits .add .f64 (fmul p (fsub ONE x)) (fmul q x) = some (fadd (fmul p (fsub ONE x)) (fmul q x)) ∧ fadd (fmul p (fsub ONE x)) (fmul q x) ≤ ONE := by
  obtain ⟨y, a, b, c, h1, h2, h3, h4, h5, h6, h7⟩ := step1 hp hq hx
  have e : fsub ONE x = y := by unfold fsub; rw [h1]; rfl
  have e2 : fmul p y = a := by unfold fmul; rw [h3]; rfl
  have e3 : fmul q x = b := by unfold fmul; rw [h5]; rfl
  rw [e, e2, e3]
  unfold fadd
  rw [h6]; exact ⟨h6, h7⟩
theorem fadd_nn {a b : Nat} (ha : NN a) (hb : NN b) : floatBits .add .f64 a b = some (fadd a b) ∧ NN (fadd a b) := by
  obtain ⟨r, h1, h2⟩ := add_NN ha hb
  unfold fadd
  rw [h1]; exact ⟨h1, h2⟩
def takeAt (p : List Nat) (c x j : Nat) : Nat := if c ≤ j then fadd (fmul (p.getD j 0) (fsub ONE x)) (fmul (p.getD (j - c) 0) x) else fmul (p.getD j 0) (fsub ONE x)
def takenM (p : List Nat) (c x : Nat) : List Nat := (List.range p.length).map (takeAt p c x)
theorem takenM_len (p : List Nat) (c x : Nat) : (takenM p c x).length = p.length := by unfold takenM; simp
def Un (p : List Nat) : Prop := ∀ v ∈ p, v ≤ ONE
theorem Un.at {p : List Nat} (h : Un p) (j : Nat) : p.getD j 0 ≤ ONE := by
  rw [List.getD_eq_getElem?_getD]
  cases e : p[j]? with
  | none => exact Nat.zero_le _
  | some v => exact h v (List.mem_of_getElem? e)
theorem takeAt_un {p : List Nat} {c x j : Nat} (h : Un p) (hx : U x) : takeAt p c x j ≤ ONE := by
  unfold takeAt
  split
  · exact (fadd_xy (h.at j) (h.at (j - c)) hx).2
  · exact (fmul_y (h.at j) hx).2
theorem takenM_un {p : List Nat} {c x : Nat} (h : Un p) (hx : U x) : Un (takenM p c x) := fun v hv => by
  unfold takenM at hv
  obtain ⟨j, _, rfl⟩ := List.mem_map.1 hv
  exact takeAt_un h hx
def mixL (p q : List Nat) (k : Nat) : List Nat := p.take k ++ q.drop k
theorem mixL_len {p q : List Nat} {k : Nat} (h : q.length = p.length) (hk : k ≤ p.length) : (mixL p q k).length = p.length := by unfold mixL; simp; omega
theorem mixL_all {p q : List Nat} (h : q.length = p.length) : mixL p q p.length = p := by unfold mixL; rw [List.take_length, List.drop_of_length_le (by omega), List.append_nil]
theorem mixL_0 (p q : List Nat) : mixL p q 0 = q := by unfold mixL; simp
theorem mixL_lo {p q : List Nat} {k j : Nat} (hj : j < k) (hk : k ≤ p.length) : (mixL p q k)[j]? = some (p.getD j 0) := by
  unfold mixL
  rw [List.getElem?_append_left (by simp; omega), List.getElem?_take_of_lt hj, List.getD_eq_getElem?_getD, List.getElem?_eq_getElem (by omega)]; rfl
theorem mixL_set {p q : List Nat} {k v : Nat} (h : q.length = p.length) (hk : k < p.length) (hv : q[k]? = some v) : (mixL p q (k + 1)).set k v = mixL p q k := by
  apply List.ext_getElem?
  intro i
  have hl1 := mixL_len (k := k + 1) h (by omega)
  rw [List.getElem?_set]
  by_cases e : k = i
  · subst e
    rw [if_pos rfl, if_pos (by omega)]
    unfold mixL
    rw [List.getElem?_append_right (by simp; omega), List.length_take, Nat.min_eq_left (by omega), Nat.sub_self, List.getElem?_drop, Nat.add_zero]
    exact hv.symm
  · rw [if_neg e]
    unfold mixL
    rcases Nat.lt_or_ge i k with q1 | q1
    · rw [List.getElem?_append_left (by simp; omega), List.getElem?_append_left (by simp; omega), List.getElem?_take_of_lt (by omega), List.getElem?_take_of_lt q1]
    · rw [List.getElem?_append_right (by simp; omega), List.getElem?_append_right (by simp; omega), List.length_take, List.length_take, Nat.min_eq_left (by omega), Nat.min_eq_left (by omega), List.getElem?_drop, List.getElem?_drop]
      congr 1; omega
theorem takenM_at {p : List Nat} {c x k : Nat} (hk : k < p.length) : (takenM p c x)[k]? = some (takeAt p c x k) := by
  unfold takenM
  rw [List.getElem?_map, List.getElem?_range hk]; rfl
def tailF (p : List Nat) (n : Nat) : Nat := ((p.drop n).reverse).foldl fadd 0
def tailM (p : List Nat) (k : Int) : Nat := tailF p (max k 0).toNat
theorem tailF_end {p : List Nat} {n : Nat} (h : p.length ≤ n) : tailF p n = 0 := by unfold tailF; rw [List.drop_of_length_le h]; rfl
theorem tailF_step {p : List Nat} {n : Nat} (h : n < p.length) : tailF p n = fadd (tailF p (n + 1)) (p.getD n 0) := by
  unfold tailF
  have e : p.drop n = p.getD n 0 :: p.drop (n + 1) := by
    rw [List.drop_eq_getElem_cons h, List.getD_eq_getElem?_getD, List.getElem?_eq_getElem h]; rfl
  rw [e, List.reverse_cons, List.foldl_append]; rfl
theorem tailF_nn {p : List Nat} (h : Un p) : ∀ (m n : Nat), p.length ≤ n + m → NN (tailF p n)
  | 0, n, hm => by rw [tailF_end (by omega)]; unfold NN; omega
  | m + 1, n, hm => by
    rcases Nat.lt_or_ge n p.length with q | q
    · rw [tailF_step q]
      exact (fadd_nn (tailF_nn h m (n + 1) (by omega)) (NN.of_one (h.at n))).2
    · rw [tailF_end q]; unfold NN; omega
def begP (n : Nat) : List Nat := ONE :: List.replicate n 0
theorem begP_un (n : Nat) : Un (begP n) := fun v hv => by
  unfold begP at hv
  rcases List.mem_cons.1 hv with rfl | h
  · exact Nat.le_refl _
  · rw [List.eq_of_mem_replicate h]; exact Nat.zero_le _
def allT (p : List Nat) (l : List Nat) : List Nat := l.foldl (fun q x => takenM q 1 x) p
theorem allT_len : ∀ (l p : List Nat), (allT p l).length = p.length
  | [], p => rfl
  | x :: l, p => by
    show (allT (takenM p 1 x) l).length = _
    rw [allT_len l, takenM_len]
theorem allT_un : ∀ (l : List Nat) {p : List Nat}, Un p → (∀ x ∈ l, U x) → Un (allT p l)
  | [], p, h, _ => h
  | x :: l, p, h, hl => allT_un l (takenM_un h (hl x List.mem_cons_self)) fun y hy => hl y (List.mem_cons_of_mem _ hy)
theorem allT_snoc {p l : List Nat} {i x : Nat} (h : l[i]? = some x) : allT p (l.take (i + 1)) = takenM (allT p (l.take i)) 1 x := by
  rw [List.take_add_one, h]
  unfold allT
  rw [List.foldl_append]; rfl
def oddsP (l : List Nat) (k : Int) : Nat := tailM (allT (begP l.length) l) k
def oddsOk (l : List Nat) : Bool := l.all chB
theorem oddsOk_U {l : List Nat} (hw : ∀ x ∈ l, x < 2 ^ 64) (h : oddsOk l = true) : ∀ x ∈ l, U x := fun x hx => by
  unfold oddsOk at h
  rw [List.all_eq_true] at h
  exact chB_U (hw x hx) (h x hx)
end Go.HyM
/-
  What the walks over floats ask besides. (Conditions: none; no program in sight.)
-/
set_option maxRecDepth 20000
namespace Go.HyM
open Ieee Go.SL Go.RowKit Go.Fl
theorem all_snoc {l : List Nat} {i x : Nat} (h : l[i]? = some x) (h0 : (l.take i).all chB = true) (h1 : chB x = true) : (l.take (i + 1)).all chB = true := by
  rw [List.take_add_one, h, List.all_append, h0]
  simpa using h1
theorem all_no {l : List Nat} {i x : Nat} (h : l[i]? = some x) (h1 : chB x = false) : oddsOk l = false := by
  unfold oddsOk
  cases e : l.all chB with
  | false => rfl
  | true =>
    rw [List.all_eq_true] at e
    rw [e x (List.mem_of_getElem? h)] at h1; cases h1
theorem tail_fin {p : List Nat} {n m : Nat} {k0 : Int} (hl : p.length = n) (h : m = (max k0 0).toNat ∨ (m = n ∧ n ≤ (max k0 0).toNat)) : Value.float .f64 (tailF p m) = .float .f64 (tailM p k0) := by
  congr 1
  unfold tailM
  rcases h with h | ⟨h, h2⟩
  · rw [h]
  · rw [tailF_end (by omega), tailF_end (by omega)]
end Go.HyM
/-
  An entry of a map taken first and stored into later: maps of any keys. (Conditions: none; generic over the program.)
-/
set_option maxRecDepth 20000
namespace Go.SL
open Go.RowKit
section
variable {P : Program} {n : Nat} {L : List (Nat × Value)} {A : List Asn} {d : Option Tmp} {ty : TypeId} {pos' : String} {af : Array Edge} {g : Option (Nat × Bool)}
variable {κ β : Type} [DecidableEq κ] {kf : κ → Value} {vf : β → Value} {l : List (κ × β)}
def mpEP (m : Nat) (kf : κ → Value) (vf : β → Value) (l : List (κ × β)) (k : κ) (s : Int) : Asn := fun h => ∃ x : Array MapEntry × Nat, (MWP kf vf x.1.toList x.2 l ∧ ∃ (j : Nat) (e : MapEntry), x.1.toList[j]? = some e ∧ e.key = kf k ∧ (e.born : Int) = s) ∧ pt m (.map x.1 x.2) h
theorem Ac_entryP {t kt et : TypeId} {x y : Operand} {m : Nat} {k : κ} {z : Value} {R : List Asn} (bz : β) (hz0 : vf bz = z) (hK : KeyT P kt kf) (hx : ev L x = some (.map (some m))) (hy : ev L y = some (kf k)) (hu : P.underlying t = some (.map kt et))
    (hz : ∀ w, (zeroValue et).run P w = .ok z w) (hE : Ext A (mpP m kf vf l) R := by repeat (first | with_reducible exact Ext.here | with_reducible apply Ext.there)) :
    Ac P n ⟨d, .mapEntry t x y, ty, pos', af, g⟩ L A (fun v A' => ∃ s, v = .tuple #[vf ((getL k l).getD bz), .int .i64 s] ∧ A' = mpEP m kf vf (putL k ((getL k l).getD bz) l) k s :: R) :=
  Ac_run fun a w hf hs => by
    obtain ⟨es, ck, hM, hs'⟩ := mpP_open (sat_perm hE hs)
    have hm := sat_pt hs'
    cases hp : posV (kf k) es.toList with
    | some j =>
      obtain ⟨e, he, hke⟩ := posV_some hp
      have he' : es[j]? = some e := by simpa using he
      obtain ⟨b, hb1, hb2, hb3⟩ := hM.at hK.inj he hke
      have hl : (es.modify j fun e => { e with key := kf k }).toList = es.toList.set j { key := kf k, val := vf b, born := e.born } := by
        rw [Array.toList_modify, modify_set he, hb1]
      rw [hb3]
      refine ⟨.tuple #[vf b, .int .i64 e.born], { w with heap := w.heap.setIfInBounds m (.map (es.modify j fun e => { e with key := kf k }) ck) }, _, .inl ?_, ⟨e.born, rfl, rfl⟩, ?_, kept_set⟩
      · simp [execOp, hf.eval hx, hf.eval hy, Instr.mapEntry, run_und hu, run_getObj hm, hK.check, hK.find k _ _ hM.keys, hp, he', Instr.keyThatStays, hke, hK.stay, run_setObj hm, goInt, hb1]
      · refine sat_ex.2 ⟨(_, ck), sat_and.2 ⟨⟨?_, j, { key := kf k, val := vf b, born := e.born }, ?_, rfl, rfl⟩, set_map hs'⟩⟩
        · show MWP kf vf (es.modify j fun e => { e with key := kf k }).toList ck _
          rw [hl]; exact hM.set hK.inj he hke
        · show (es.modify j fun e => { e with key := kf k }).toList[j]? = _
          rw [hl, List.getElem?_set, if_pos rfl, if_pos (List.getElem?_eq_some_iff.1 he).1]
    | none =>
      have hg : getL k l = none := getL_none (hM.absent hp)
      rw [hg]
      refine ⟨.tuple #[vf bz, .int .i64 ck], { w with heap := w.heap.setIfInBounds m (.map (es.push { key := kf k, val := z, born := ck }) (ck + 1)) }, _, .inl ?_, ⟨ck, rfl, rfl⟩, ?_, kept_set⟩
      · simp [execOp, hf.eval hx, hf.eval hy, Instr.mapEntry, run_und hu, run_getObj hm, hK.check, hK.find k _ _ hM.keys, hp, hz, run_setObj hm, goInt, hz0]
      · refine sat_ex.2 ⟨(_, ck + 1), sat_and.2 ⟨⟨?_, es.size, { key := kf k, val := z, born := ck }, ?_, rfl, rfl⟩, set_map hs'⟩⟩
        · show MWP kf vf (es.push { key := kf k, val := z, born := ck }).toList (ck + 1) _
          rw [Array.toList_push, ← hz0]; exact hM.push bz hp
        · simp
theorem Ac_storeP {t : TypeId} {x y z : Operand} {m : Nat} {k : κ} {s : Int} {R : List Asn} (b : β) (hinj : ∀ a b, kf a = kf b → a = b) (hx : ev L x = some (.map (some m))) (hy : ev L y = some (.int .i64 s)) (hz : ev L z = some (vf b)) (hE : Ext A (mpEP m kf vf l k s) R := by repeat (first | with_reducible exact Ext.here | with_reducible apply Ext.there)) :
    Ac P n ⟨d, .entryStore t x y z, ty, pos', af, g⟩ L A (fun _ A' => A' = mpP m kf vf (putL k b l) :: R) :=
  Ac_run fun a w hf hs => by
    obtain ⟨⟨es, ck⟩, h1⟩ := sat_ex.1 (sat_perm hE hs)
    obtain ⟨⟨hM, j, e, he, hke, hbs⟩, hs'⟩ := sat_and.1 h1
    dsimp only at hM he hs'
    have hm := sat_pt hs'
    have hlt := (List.getElem?_eq_some_iff.1 he).1
    have he' : es[j]? = some e := by simpa using he
    have hfi : es.findIdx? (fun e => (e.born : Int) == s) = some j := by
      rw [Array.findIdx?_eq_some_iff_getElem]
      have hje : es[j]'(by simpa using hlt) = e := by have := (Array.getElem?_eq_some_iff.1 he').2; exact this
      refine ⟨by simpa using hlt, by rw [hje]; simpa using hbs, fun i hi => ?_⟩
      have hi' : i < es.size := by simp at hlt; omega
      intro hb
      have hb' : es[i].born = es[j].born := by
        rw [hje]
        have : (es[i].born : Int) = s := by simpa using hb
        omega
      have := (List.getElem_inj (h₀ := (by simpa using hi')) (h₁ := (by simpa using hlt)) hM.bnd (i := i) (j := j)).1 (by simpa using hb')
      omega
    refine ⟨_, { w with heap := w.heap.setIfInBounds m (.map (es.modify j fun e => { e with val := vf b }) ck) }, _, .inr ⟨?_, rfl⟩, rfl, ?_, kept_set⟩
    · simp [execOp, hf.eval hx, hf.eval hy, hf.eval hz, Instr.entryStore, run_getObj hm, asInt, asIntOf, hfi, run_setObj hm]
    · refine mpP_shut ?_ (set_map hs')
      have : (es.modify j fun e => { e with val := vf b }).toList = es.toList.set j { key := kf k, val := vf b, born := e.born } := by
        rw [Array.toList_modify, modify_set he, hke]
      rw [this]
      exact hM.set hinj he hke
theorem Rd_lookEP {t kt et : TypeId} {x y : Operand} {m : Nat} {k k' : κ} {s : Int} {z : Value} (hK : KeyT P kt kf) (hx : ev L x = some (.map (some m))) (hy : ev L y = some (kf k)) (hu : P.underlying t = some (.map kt et)) (hz : ∀ w, (zeroValue et).run P w = .ok z w)
    (hA : Has A (mpEP m kf vf l k' s) := by repeat (first | with_reducible exact Has.here | with_reducible refine Has.there ?_)) : Rd P n ⟨d, .lookup t x y false, ty, pos', af, g⟩ L A (((getL k l).map vf).getD z) := fun a w hf hs => by
  obtain ⟨R, p⟩ := hA
  obtain ⟨⟨es, ck⟩, h1⟩ := sat_ex.1 (sat_perm p hs)
  obtain ⟨⟨hM, _⟩, hs'⟩ := sat_and.1 h1
  have h := run_lookP (c := false) hK (hf.eval hx) (hf.eval hy) hu hz hM (sat_pt hs')
  simp only [execOp, Sem.run_bind, h, Result.andThen_ok, Sem.run_pure]; rfl
theorem getL_putL {k : κ} {b : β} : getL k (putL k b l) = some b := by
  unfold getL putL
  rw [List.find?_cons_of_pos (by simp)]; rfl
theorem keys_putL {k j : κ} {b : β} : j ∈ keysL (putL k b l) ↔ j = k ∨ j ∈ keysL l := by
  unfold putL
  rw [show keysL ((k, b) :: delL k l) = k :: keysL (delL k l) from rfl, List.mem_cons, keys_delL]
  constructor
  · rintro (h | ⟨h, _⟩)
    · exact .inl h
    · exact .inr h
  · rintro (h | h)
    · exact .inl h
    · by_cases e : j = k
      · exact .inl e
      · exact .inr ⟨h, e⟩
end
end Go.SL
/-
  Pairs of servers and numbers, counted and matched, in plain words. (Conditions: none; no program in sight.)
-/
set_option maxRecDepth 20000
namespace Go.HyM
open Go.SL Go.RowKit Go.Sort Go.Shelf Go.Proofs
abbrev Pr := Int × Int
def ePr (p : Pr) : List Value := [.int .i64 p.1, .int .i64 p.2]
theorem encPr : Enc ePr 2 := ⟨fun _ => rfl, fun p v hv => by
  simp only [ePr, List.mem_cons, List.not_mem_nil, or_false] at hv
  rcases hv with rfl | rfl <;> rfl⟩
def kfR (p : Pr) : Value := .agg (ePr p).toArray
theorem kfR_inj (a b : Pr) (h : kfR a = kfR b) : a = b := by
  unfold kfR ePr at h
  simp only [Value.agg.injEq, List.toArray_eq_toArray_eq, List.cons.injEq, Value.int.injEq, true_and, and_true] at h
  exact Prod.ext h.1 h.2
def pOk (p : Pr) : Prop := (0 ≤ p.1 ∧ p.1 < 32) ∧ 0 ≤ p.2 ∧ p.2 < 255
instance (p : Pr) : Decidable (pOk p) := by unfold pOk; infer_instance
def mayP (ps : List Pr) : Prop := ps.length ≤ 8192 ∧ ∀ p ∈ ps, pOk p
instance (ps : List Pr) : Decidable (mayP ps) := by unfold mayP; infer_instance
def prLt (a b : Pr) : Prop := a.1 < b.1 ∨ (a.1 = b.1 ∧ a.2 < b.2)
instance (a b : Pr) : Decidable (prLt a b) := by unfold prLt; infer_instance
theorem prLt_irr (a : Pr) : ¬ prLt a a := by unfold prLt; omega
theorem prLt_tr {a b c : Pr} : prLt a b → prLt b c → prLt a c := by unfold prLt; omega
theorem prLt_tot {a b : Pr} (h : ¬ prLt a b) (k : ¬ prLt b a) : a = b := by
  unfold prLt at h k
  exact Prod.ext (by omega) (by omega)
def cmpI (x y : Int) : Int := if x < y then -1 else if y < x then 1 else 0
def cfP (a b : Pr) : Int := if cmpI a.1 b.1 ≠ 0 then cmpI a.1 b.1 else cmpI a.2 b.2
theorem cfP_lt (a b : Pr) : cfP a b < 0 ↔ prLt a b := by
  unfold cfP prLt cmpI
  split <;> split <;> (try split) <;> (try split) <;> omega
theorem cfP_ltOf (a b : Pr) : (ltOf cfP) a b = decide (prLt a b) := decide_eq_decide.2 (cfP_lt a b)
theorem cfP_swo : SWO (ltOf cfP) := ⟨fun x => by rw [cfP_ltOf]; simpa using prLt_irr x, fun x y z h1 h2 => by
    rw [cfP_ltOf, decide_eq_true_eq] at *; exact prLt_tr h1 h2, fun x y z h1 h2 => by
    rw [cfP_ltOf, decide_eq_false_iff_not] at *
    intro h
    by_cases q : prLt y x
    · exact h2 (prLt_tr q h)
    · have := prLt_tot h1 q
      rw [this] at h
      exact h2 h⟩
theorem cfP_tot (x y : Pr) (h1 : (ltOf cfP) x y = false) (h2 : (ltOf cfP) y x = false) : x = y := by
  rw [cfP_ltOf, decide_eq_false_iff_not] at *
  exact prLt_tot h1 h2
theorem sortPr {l l' : List Pr} (p : l.Perm l') (h : l'.Pairwise prLt) : (l.mergeSort fun x y => !(ltOf cfP) y x) = l' := by
  have e : (fun x y : Pr => !(ltOf cfP) y x) = fun x y => decide (¬ prLt y x) := by funext x y; rw [cfP_ltOf]; simp
  rw [e]
  have h1 : (l.mergeSort fun x y : Pr => decide (¬ prLt y x)).Pairwise (fun x y => decide (¬ prLt y x) = true) := List.pairwise_mergeSort (fun a b c => by
    simp only [decide_eq_true_eq]
    intro q1 q2 q3
    by_cases z : prLt a b
    · exact q2 (prLt_tr q3 z)
    · exact q2 (prLt_tot z q1 ▸ q3)) (fun a b => by
    simp only [Bool.or_eq_true, decide_eq_true_eq]
    by_cases z : prLt b a
    · right; intro q; exact prLt_irr a (prLt_tr q z)
    · exact .inl z) l
  have h2 : l'.Pairwise (fun x y => decide (¬ prLt y x) = true) := h.imp fun {a b} q => by
    simp only [decide_eq_true_eq]
    intro z; exact prLt_irr _ (prLt_tr q z)
  exact ((List.mergeSort_perm _ _).trans p).eq_of_pairwise (fun a b _ _ q1 q2 => by
    simp only [decide_eq_true_eq] at q1 q2
    exact prLt_tot q2 q1) h1 h2
def gridP : List Pr := (List.range 32).flatMap fun s : Nat => (List.range 255).map fun n : Nat => (((s : Nat) : Int), ((n : Nat) : Int))
theorem grid_mem (p : Pr) : p ∈ gridP ↔ pOk p := by
  unfold gridP pOk
  rw [List.mem_flatMap]
  constructor
  · rintro ⟨s, hs, h⟩
    rw [List.mem_range] at hs
    obtain ⟨n, hn, rfl⟩ := List.mem_map.1 h
    rw [List.mem_range] at hn
    dsimp only
    omega
  · rintro ⟨⟨h1, h2⟩, h3, h4⟩
    exact ⟨p.1.toNat, List.mem_range.2 (by omega), List.mem_map.2 ⟨p.2.toNat, List.mem_range.2 (by omega), Prod.ext (by dsimp only; omega) (by dsimp only; omega)⟩⟩
theorem grid_pw : gridP.Pairwise prLt := by
  unfold gridP
  rw [List.pairwise_flatMap]
  constructor
  · intro s _
    rw [List.pairwise_map]
    exact List.pairwise_lt_range.imp fun {a b} h => .inr ⟨rfl, by dsimp only; omega⟩
  · exact List.pairwise_lt_range.imp fun {a b} h x hx y hy => by
      obtain ⟨n, _, rfl⟩ := List.mem_map.1 hx
      obtain ⟨m, _, rfl⟩ := List.mem_map.1 hy
      exact .inl (by dsimp only; omega)
def lookP (ps : List Pr) : List Pr := gridP.filter fun p => decide (p ∈ ps)
theorem lookP_pw (ps : List Pr) : (lookP ps).Pairwise prLt := grid_pw.filter _
theorem lookP_mem {ps : List Pr} (h : ∀ p ∈ ps, pOk p) (p : Pr) : p ∈ lookP ps ↔ p ∈ ps := by
  unfold lookP
  rw [List.mem_filter, grid_mem, decide_eq_true_eq]
  exact ⟨fun q => q.2, fun q => ⟨h p q, q⟩⟩
theorem lookP_ok (ps : List Pr) : ∀ p ∈ lookP ps, pOk p := fun p hp => (grid_mem p).1 (List.mem_filter.1 hp).1
theorem pw_nodup {l : List Pr} (h : l.Pairwise prLt) : l.Nodup := List.Pairwise.imp (fun {a b} (q : prLt a b) (e : a = b) => prLt_irr a (by rw [← e] at q; exact q)) h
theorem lookP_perm {ps ks : List Pr} (h : ∀ p ∈ ps, pOk p) (hn : ks.Nodup) (hk : ∀ p, p ∈ ks ↔ p ∈ ps) : ks.Perm (lookP ps) :=
  (List.perm_ext_iff_of_nodup hn (pw_nodup (lookP_pw ps))).2 fun p => (hk p).trans (lookP_mem h p).symm
theorem lookP_len (ps : List Pr) : (lookP ps).length ≤ 8160 := by
  refine Nat.le_trans (List.length_filter_le _ _) ?_
  unfold gridP
  rw [List.length_flatMap]
  simp only [List.length_map, List.length_range]
  decide
def cntM (l : List Pr) (f : Pr → Int) : Nat := ((List.range 255).filter fun v : Nat => l.any fun p => decide (f p = ((v : Nat) : Int))).length
theorem cnt_len {l : List Pr} {f : Pr → Int} {ks : List Int} (hn : ks.Nodup) (hk : ∀ v, v ∈ ks ↔ ∃ p ∈ l, f p = v) (hf : ∀ p ∈ l, 0 ≤ f p ∧ f p < 255) : ks.length = cntM l f := by
  unfold cntM
  rw [← List.length_map (f := fun v : Nat => (v : Int))]
  refine List.Perm.length_eq ((List.perm_ext_iff_of_nodup hn ?_).2 fun v => ?_)
  · refine List.pairwise_map.2 (List.Pairwise.imp (fun {a b} (h : a ≠ b) (e : ((a : Nat) : Int) = ((b : Nat) : Int)) => h (by omega)) (List.Pairwise.filter _ List.nodup_range))
  · rw [hk, List.mem_map]
    constructor
    · rintro ⟨p, hp, rfl⟩
      have := hf p hp
      exact ⟨(f p).toNat, List.mem_filter.2 ⟨List.mem_range.2 (by omega), List.any_eq_true.2 ⟨p, hp, by simp; omega⟩⟩, by omega⟩
    · rintro ⟨n, h1, rfl⟩
      obtain ⟨p, hp, h2⟩ := List.any_eq_true.1 (List.mem_filter.1 h1).2
      exact ⟨p, hp, by simpa using h2⟩
structure Gs where
  T : List (Int × Int)
  W : List (Int × Int)
def at0 (x : Int) (l : List (Int × Int)) : Int := (getL x l).getD 0
def numsM (l : List Pr) (s : Int) : List Int := (l.filter fun p => decide (p.1 = s)).map Prod.snd
def growL (rec : Int → Gs → Bool × Gs) (s : Int) : List Int → Gs → Bool × Gs
  | [], st => (false, st)
  | x :: xs, st =>
    if 0 < at0 x st.T then growL rec s xs st
    else if at0 x st.W = 0 then (true, ⟨putL x 1 st.T, putL x (s + 1) st.W⟩)
    else if (rec (at0 x st.W - 1) ⟨putL x 1 st.T, st.W⟩).1 then (true, ⟨(rec (at0 x st.W - 1) ⟨putL x 1 st.T, st.W⟩).2.T, putL x (s + 1) (rec (at0 x st.W - 1) ⟨putL x 1 st.T, st.W⟩).2.W⟩)
    else growL rec s xs (rec (at0 x st.W - 1) ⟨putL x 1 st.T, st.W⟩).2
def growM (adj : Int → List Int) : Nat → Int → Gs → Bool × Gs
  | 0, _, st => (false, st)
  | f + 1, s, st => growL (growM adj f) s (adj s) st
def sizeStep (adj : Int → List Int) (c : Nat × List (Int × Int)) (s : Nat) : Nat × List (Int × Int) :=
  (if (growM adj 256 (s : Int) ⟨[], c.2⟩).1 then c.1 + 1 else c.1, (growM adj 256 (s : Int) ⟨[], c.2⟩).2.W)
def sizeTo (adj : Int → List Int) (n : Nat) : Nat × List (Int × Int) := (List.range n).foldl (sizeStep adj) (0, [])
def sizeM (l : List Pr) : Nat := (sizeTo (numsM l) 32).1
theorem sizeTo_succ (adj : Int → List Int) (n : Nat) : sizeTo adj (n + 1) = sizeStep adj (sizeTo adj n) n := by
  unfold sizeTo
  rw [List.range_succ, List.foldl_append]; rfl
theorem lives_size : sizeM (lookP [(0, 0), (0, 1), (1, 0)]) = 2 ∧ cntM (lookP [(0, 0), (0, 1), (1, 0)]) Prod.fst = 2 ∧ cntM (lookP [(0, 0), (0, 1), (1, 0)]) Prod.snd = 2 := by decide +kernel
end Go.HyM
/-
  Growing a matching: what is tried grows, what is matched stays what it may be. (Conditions: none; no program in sight.)
-/
set_option maxRecDepth 20000
namespace Go.HyM
open Go.SL Go.RowKit
def kfN (k : Int) : Value := .int .i64 k
def vfN (k : Int) : Value := .int .i64 k
theorem look_at0 {x : Int} {l : List (Int × Int)} : ((getL x l).map vfN).getD (.int .i64 0) = .int .i64 (at0 x l) := by
  unfold at0
  cases getL x l <;> rfl
theorem at0_put {x y b : Int} {l : List (Int × Int)} : at0 y (putL x b l) = if y = x then b else at0 y l := by
  unfold at0
  by_cases h : y = x
  · subst h; rw [if_pos rfl, getL_putL]; rfl
  · rw [if_neg h]
    congr 1
    unfold getL putL delL
    rw [List.find?_cons_of_neg (by simpa using fun e : x = y => h e.symm), List.find?_filter]
    congr 1
    apply congrArg (fun f => List.find? f l)
    funext p
    by_cases q : p.1 = y
    · have : p.1 ≠ x := fun e => h (q.symm.trans e)
      simp [q, h]
    · simp [q]
def untried (T : List (Int × Int)) : Nat := ((List.range 255).filter fun n : Nat => decide (at0 ((n : Nat) : Int) T ≤ 0)).length
theorem untried_le (T : List (Int × Int)) : untried T ≤ 255 := by
  unfold untried
  have := List.length_filter_le (fun n : Nat => decide (at0 ((n : Nat) : Int) T ≤ 0)) (List.range 255)
  rw [List.length_range] at this; exact this
theorem filter_le {p q : Nat → Bool} (h : ∀ x, q x = true → p x = true) : ∀ l : List Nat, (l.filter q).length ≤ (l.filter p).length
  | [] => Nat.le_refl _
  | x :: l => by
    have ih := filter_le h l
    by_cases hq : q x = true
    · rw [List.filter_cons_of_pos hq, List.filter_cons_of_pos (h x hq)]; simpa using ih
    · rw [List.filter_cons_of_neg hq]
      by_cases hp : p x = true
      · rw [List.filter_cons_of_pos hp, List.length_cons]; omega
      · rw [List.filter_cons_of_neg hp]; exact ih
theorem filter_lt {p q : Nat → Bool} (h : ∀ x, q x = true → p x = true) {y : Nat} (h1 : p y = true) (h2 : q y = false) : ∀ l : List Nat, y ∈ l → (l.filter q).length < (l.filter p).length
  | [], hy => by cases hy
  | x :: l, hy => by
    rcases List.mem_cons.1 hy with rfl | hy
    · rw [List.filter_cons_of_neg (by rw [h2]; decide), List.filter_cons_of_pos h1, List.length_cons]
      exact Nat.lt_succ_of_le (filter_le h l)
    · have ih := filter_lt h h1 h2 l hy
      by_cases hq : q x = true
      · rw [List.filter_cons_of_pos hq, List.filter_cons_of_pos (h x hq)]; simpa using ih
      · rw [List.filter_cons_of_neg hq]
        by_cases hp : p x = true
        · rw [List.filter_cons_of_pos hp, List.length_cons]; omega
        · rw [List.filter_cons_of_neg hp]; exact ih
theorem untried_put {x : Int} {T : List (Int × Int)} (hx : 0 ≤ x ∧ x < 255) (h : at0 x T ≤ 0) : untried (putL x 1 T) < untried T := by
  unfold untried
  refine filter_lt (y := x.toNat) (fun n hn => ?_) ?_ ?_ _ (List.mem_range.2 (by omega))
  · simp only [decide_eq_true_eq] at *
    rw [at0_put] at hn
    split at hn
    · omega
    · exact hn
  · simp only [decide_eq_true_eq]
    rw [show ((x.toNat : Nat) : Int) = x by omega]; exact h
  · simp only [decide_eq_false_iff_not]
    rw [show ((x.toNat : Nat) : Int) = x by omega, at0_put, if_pos rfl]; omega
def okW (W : List (Int × Int)) : Prop := ∀ x, 0 ≤ at0 x W ∧ at0 x W ≤ 32
theorem okW_nil : okW [] := fun x => by unfold at0 getL; simp
theorem okW_put {x s : Int} {W : List (Int × Int)} (h : okW W) (hs : 0 ≤ s ∧ s < 32) : okW (putL x (s + 1) W) := fun y => by
  rw [at0_put]
  split
  · omega
  · exact h y
structure GrK (st st' : Gs) : Prop where
  un : untried st'.T ≤ untried st.T
  w : okW st'.W
theorem growL_K {rec : Int → Gs → Bool × Gs} {s : Int} (hs : 0 ≤ s ∧ s < 32) (hr : ∀ s' st, 0 ≤ s' ∧ s' < 32 → okW st.W → GrK st (rec s' st).2) : ∀ (xs : List Int) (st : Gs), (∀ x ∈ xs, 0 ≤ x ∧ x < 255) → okW st.W → GrK st (growL rec s xs st).2
  | [], st, _, hw => ⟨Nat.le_refl _, hw⟩
  | x :: xs, st, hx, hw => by
    have hx0 := hx x List.mem_cons_self
    have hxs : ∀ y ∈ xs, 0 ≤ y ∧ y < 255 := fun y hy => hx y (List.mem_cons_of_mem _ hy)
    unfold growL
    split
    · exact growL_K hs hr xs st hxs hw
    · rename_i h0
      have hu := untried_put hx0 (show at0 x st.T ≤ 0 by omega)
      split
      · exact ⟨Nat.le_of_lt hu, okW_put hw hs⟩
      · rename_i h1
        have hb := hw x
        have hk := hr (at0 x st.W - 1) ⟨putL x 1 st.T, st.W⟩ (by omega) hw
        split
        · exact ⟨Nat.le_trans hk.un (Nat.le_of_lt hu), okW_put hk.w hs⟩
        · have h2 := growL_K hs hr xs (rec (at0 x st.W - 1) ⟨putL x 1 st.T, st.W⟩).2 hxs hk.w
          exact ⟨Nat.le_trans h2.un (Nat.le_trans hk.un (Nat.le_of_lt hu)), h2.w⟩
theorem growM_K {adj : Int → List Int} (ha : ∀ s, ∀ x ∈ adj s, 0 ≤ x ∧ x < 255) : ∀ (f : Nat) (s : Int) (st : Gs), 0 ≤ s ∧ s < 32 → okW st.W → GrK st (growM adj f s st).2
  | 0, s, st, _, hw => ⟨Nat.le_refl _, hw⟩
  | f + 1, s, st, hs, hw => growL_K hs (fun s' st' h1 h2 => growM_K ha f s' st' h1 h2) (adj s) st (ha s) hw
structure OS where
  a : Option Nat
  cap : Nat
  l : List Int
def vfS (x : OS) : Value := sl x.a x.l.length x.cap
def adjO (LF : List (Int × OS)) (s : Int) : List Int := ((getL s LF).map OS.l).getD []
theorem adjO_put {s s' : Int} {x : OS} {LF : List (Int × OS)} : adjO (putL s x LF) s' = if s' = s then x.l else adjO LF s' := by
  unfold adjO
  by_cases h : s' = s
  · subst h; rw [if_pos rfl, getL_putL]; rfl
  · rw [if_neg h]
    congr 2
    unfold getL putL delL
    rw [List.find?_cons_of_neg (by simpa using fun e : s = s' => h e.symm), List.find?_filter]
    congr 1
    apply congrArg (fun f => List.find? f LF)
    funext p
    by_cases q : p.1 = s'
    · simp [q, h]
    · simp [q]
theorem nums_snoc {l : List Pr} {i : Nat} {p : Pr} (h : l[i]? = some p) (s : Int) : numsM (l.take (i + 1)) s = if s = p.1 then numsM (l.take i) s ++ [p.2] else numsM (l.take i) s := by
  unfold numsM
  rw [List.take_add_one, h]
  simp only [Option.toList_some, List.filter_append, List.map_append]
  by_cases e : s = p.1
  · rw [if_pos e, List.filter_cons_of_pos (by simp [e])]; rfl
  · rw [if_neg e, List.filter_cons_of_neg (by simpa using fun q : p.1 = s => e q.symm)]; simp
theorem nums_ok {l : List Pr} (h : ∀ p ∈ l, pOk p) (s : Int) : ∀ x ∈ numsM l s, 0 ≤ x ∧ x < 255 := fun x hx => by
  unfold numsM at hx
  obtain ⟨p, hp, rfl⟩ := List.mem_map.1 hx
  exact (h p (List.mem_filter.1 hp).1).2
def outO (s : Int) (LF : List (Int × OS)) : OS := (getL s LF).getD ⟨none, 0, []⟩
theorem outO_l (s : Int) (LF : List (Int × OS)) : (outO s LF).l = adjO LF s := by
  unfold outO adjO
  cases getL s LF <;> rfl
theorem look_out {s : Int} {LF : List (Int × OS)} : ((getL s LF).map vfS).getD (.slice none 0 0) = sl (outO s LF).a (outO s LF).l.length (outO s LF).cap := by
  unfold outO
  cases getL s LF <;> rfl
section
variable {tI : TypeId} {eI : Int → List Value}
def FS (tI : TypeId) (eI : Int → List Value) (e : Int × OS) : Asn := arr e.2.a e.2.cap 1 tI eI e.2.l
theorem sat_out {s : Int} {LF : List (Int × OS)} {R : List Asn} {w : World} (hn : (keysL LF).Nodup) (h : sat w (star (FS tI eI) LF :: R)) : sat w (arr (outO s LF).a (outO s LF).cap 1 tI eI (outO s LF).l :: star (FS tI eI) (delL s LF) :: R) := by
  unfold outO
  cases hg : getL s LF with
  | none =>
    have hno : s ∉ keysL LF := fun hk => by
      have := getL_isSome.2 hk
      rw [hg] at this; cases this
    rw [delL_no hno]
    exact sat_nil h
  | some x => exact star_cons.1 (star_perm (delL_perm hn (getL_mem hg)) h)
theorem sat_in {s : Int} {x : OS} {LF : List (Int × OS)} {R : List Asn} {w : World} (h : sat w (arr x.a x.cap 1 tI eI x.l :: star (FS tI eI) (delL s LF) :: R)) : sat w (star (FS tI eI) (putL s x LF) :: R) := star_cons (F := FS tI eI) (x := (s, x)).2 h
theorem adj_view {LF : List (Int × OS)} {R : List Asn} {w : World} (hE : Enc eI 1) (h : sat w (star (FS tI eI) LF :: R)) : ∀ s, Sv [star (FS tI eI) LF] (sl (outO s LF).a (outO s LF).l.length (outO s LF).cap) 1 eI (outO s LF).l ((outO s LF).a.map fun g => ⟨g, 0, none⟩) (outO s LF).cap := fun s => by
  unfold outO
  cases hg : getL s LF with
  | none => exact ⟨rfl, fun q => absurd rfl q, (fun x hx => by cases hx), Nat.le_refl _, fun w hs i x hx => by simp at hx⟩
  | some x =>
    have hm := getL_mem hg
    obtain ⟨i, hi, hx⟩ := List.mem_iff_getElem.1 hm
    have hx' : LF[i]? = some (s, x) := by rw [List.getElem?_eq_getElem hi, hx]
    have h1 := star_open i hx' h
    have f1 := arr_facts (a := x.a) (cap := x.cap) (e := 1) (T := tI) (f := eI) (l := x.l) Has.here h1
    have s1 : Sv [arr x.a x.cap 1 tI eI x.l] (sl x.a x.l.length x.cap) 1 eI x.l (x.a.map fun g => ⟨g, 0, none⟩) x.cap := Sv_own' hE f1.1 f1.2
    exact s1.imp fun w' hw => (Sub.cons Ext.here Sub.nil).sat (star_open (F := FS tI eI) (l := LF) (R := []) i hx' hw)
theorem adj_viewA {LF : List (Int × OS)} {A : List Asn} {w : World} (hE : Enc eI 1) (hA : Has A (star (FS tI eI) LF)) (h : sat w A) : ∀ s, Sv [star (FS tI eI) LF] (sl (outO s LF).a (outO s LF).l.length (outO s LF).cap) 1 eI (outO s LF).l ((outO s LF).a.map fun g => ⟨g, 0, none⟩) (outO s LF).cap := by
  obtain ⟨R, p⟩ := hA
  exact adj_view hE (sat_perm p h)
variable {P : Program} {m : Md} {ops : Array Oper} {Q : Exit → Act → World → Prop} {w0 : World} {n : Nat} {rest : List Oper} {L : List (Nat × Value)} {A R : List Asn} {c : Code}
theorem WC_out {LF : List (Int × OS)} (tI : TypeId) (eI : Int → List Value) (s : Int) (hn : (keysL LF).Nodup) (k : WC P m Q w0 n c L (arr (outO s LF).a (outO s LF).cap 1 tI eI (outO s LF).l :: star (FS tI eI) (delL s LF) :: R)) (hE : Ext A (star (FS tI eI) LF) R := by repeat (first | with_reducible exact Ext.here | with_reducible apply Ext.there)) : WC P m Q w0 n c L A :=
  WC_imp (fun _ h => sat_out hn (sat_perm hE h)) k
theorem WL_in {LF : List (Int × OS)} (tI : TypeId) (eI : Int → List Value) (s : Int) (x : OS) (k : WL P m ops Q w0 n rest L (star (FS tI eI) (putL s x LF) :: R)) (hG : Gv A [arr x.a x.cap 1 tI eI x.l, star (FS tI eI) (delL s LF)] R := by repeat (first | with_reducible exact Gv.nil | (with_reducible apply Gv.cons; · (repeat (first | with_reducible exact Ext.here | with_reducible apply Ext.there))))) : WL P m ops Q w0 n rest L A :=
  WL_imp (fun _ h => sat_in (sat_perm hG h)) k
end
theorem adj_step {l : List Pr} {i : Nat} {p : Pr} {LF : List (Int × OS)} {a : Option Nat} {c : Nat} (hp : l[i]? = some p) (h : ∀ s, adjO LF s = numsM (l.take i) s) : ∀ s, adjO (putL p.1 ⟨a, c, (outO p.1 LF).l ++ [p.2]⟩ LF) s = numsM (l.take (i + 1)) s := fun s => by
  rw [adjO_put, nums_snoc hp]
  split
  · rename_i e; subst e
    show (outO p.1 LF).l ++ [p.2] = _
    rw [outO_l, h]
  · exact h s
theorem nums_len (l : List Pr) (s : Int) : (numsM l s).length ≤ l.length := by
  unfold numsM
  rw [List.length_map]; exact List.length_filter_le _ _
theorem size_yes {adj : Int → List Int} {s c : Nat} {W : List (Int × Int)} (h : (c, W) = sizeTo adj s) (h1 : (growM adj 256 (s : Int) ⟨[], W⟩).1 = true) : (c + 1, (growM adj 256 (s : Int) ⟨[], W⟩).2.W) = sizeTo adj (s + 1) := by
  rw [sizeTo_succ, ← h]
  unfold sizeStep
  rw [if_pos h1]
theorem size_no {adj : Int → List Int} {s c : Nat} {W : List (Int × Int)} (h : (c, W) = sizeTo adj s) (h1 : ¬ (growM adj 256 (s : Int) ⟨[], W⟩).1 = true) : (c, (growM adj 256 (s : Int) ⟨[], W⟩).2.W) = sizeTo adj (s + 1) := by
  rw [sizeTo_succ, ← h]
  unfold sizeStep
  rw [if_neg h1]
theorem size_fin {l : List Pr} {c : Nat} {W : List (Int × Int)} {LF : List (Int × OS)} (h : (c, W) = sizeTo (adjO LF) 32) (ha : ∀ s, adjO LF s = numsM l s) : c = sizeM l := by
  unfold sizeM
  rw [← show adjO LF = numsM l from funext ha, ← h]
end Go.HyM
/-
  The first that is not nought; keys of a map filled step by step. (Conditions: none; no program in sight.)
-/
set_option maxRecDepth 20000
namespace Go.HyM
open Go.SL Go.RowKit
theorem or_step {c1 c2 x : Int} {i : Nat} (hi : i ≤ 2) (hx : ([c1, c2] : List Int)[i]? = some x) (h0 : x = 0) (h1 : 0 < i → c1 = 0) (h2 : 1 < i → c2 = 0) : i + 1 ≤ 2 ∧ (0 < i + 1 → c1 = 0) ∧ (1 < i + 1 → c2 = 0) := by
  match i, hi with
  | 0, _ => simp only [List.getElem?_cons_zero, Option.some.injEq] at hx; exact ⟨by omega, fun _ => by omega, fun h => by omega⟩
  | 1, _ => simp only [List.getElem?_cons_succ, List.getElem?_cons_zero, Option.some.injEq] at hx; exact ⟨by omega, fun _ => h1 (by omega), fun _ => by omega⟩
  | 2, _ => simp at hx
theorem or_hit {c1 c2 x : Int} {i : Nat} (hx : ([c1, c2] : List Int)[i]? = some x) (h0 : ¬ x = 0) (h1 : 0 < i → c1 = 0) : Value.int .i64 x = .int .i64 (if c1 ≠ 0 then c1 else c2) := by
  congr 1
  match i with
  | 0 => simp only [List.getElem?_cons_zero, Option.some.injEq] at hx; rw [if_pos (by omega)]; exact hx.symm
  | 1 => simp only [List.getElem?_cons_succ, List.getElem?_cons_zero, Option.some.injEq] at hx; rw [if_neg (by have := h1 (by omega); omega)]; exact hx.symm
  | n + 2 => simp at hx
theorem or_end {c1 c2 : Int} (h1 : c1 = 0) (h2 : c2 = 0) : Value.int .i64 0 = .int .i64 (if c1 ≠ 0 then c1 else c2) := by
  subst h1; subst h2; rfl
theorem all_takeP {ps : List Pr} {i : Nat} {p : Pr} (h : ps[i]? = some p) (h0 : ∀ q ∈ ps.take i, pOk q) (h1 : pOk p) : ∀ q ∈ ps.take (i + 1), pOk q := fun q hq => by
  rw [List.take_add_one, h, List.mem_append] at hq
  rcases hq with hq | hq
  · exact h0 q hq
  · simp at hq; subst hq; exact h1
theorem look_g {p : Pr} {L : List (Pr × Int)} : ((getL p L).map vfN).getD (.int .i64 0) = .int .i64 ((getL p L).getD 0) := by
  cases getL p L <;> rfl
theorem look_gE {p : Pr} {L : List (Pr × Int)} {x : Int} : ((getL p (putL p x L)).map vfN).getD (.int .i64 0) = .int .i64 x := by rw [getL_putL]; rfl
theorem keys_step {ps : List Pr} {i : Nat} {p : Pr} {x y : Int} {L : List (Pr × Int)} (h : ps[i]? = some p) (h0 : ∀ q, q ∈ keysL L ↔ q ∈ ps.take i) : ∀ q, q ∈ keysL (putL p x (putL p y L)) ↔ q ∈ ps.take (i + 1) := fun q => by
  rw [keys_putL, keys_putL, h0, List.take_add_one, h, List.mem_append]
  simp only [Option.toList_some, List.mem_singleton]
  constructor
  · rintro (e | e | e)
    · exact .inr e
    · exact .inr e
    · exact .inl e
  · rintro (e | e)
    · exact .inr (.inr e)
    · exact .inl e
end Go.HyM
/-
  A matching that is grown along alternating ways is a greatest one. (Conditions: none; no program in sight.)
-/
set_option maxRecDepth 20000
namespace Go.HyM
open Go.SL Go.RowKit
def cN (p : Nat → Bool) (m : Nat) : Nat := ((List.range m).filter p).length
theorem cN_succ (p : Nat → Bool) (m : Nat) : cN p (m + 1) = cN p m + (if p m = true then 1 else 0) := by
  unfold cN
  rw [List.range_succ, List.filter_append, List.length_append]
  by_cases h : p m = true
  · rw [List.filter_cons_of_pos h, if_pos h]; rfl
  · rw [List.filter_cons_of_neg h, if_neg h]; rfl
theorem cN_same {p q : Nat → Bool} : ∀ {m : Nat}, (∀ n, n < m → p n = q n) → cN p m = cN q m
  | 0, _ => rfl
  | m + 1, h => by rw [cN_succ, cN_succ, cN_same fun n hn => h n (by omega), h m (by omega)]
theorem cN_upd {p q : Nat → Bool} {x : Nat} : ∀ {m : Nat}, x < m → (∀ n, n ≠ x → p n = q n) → cN q m + (if p x = true then 1 else 0) = cN p m + (if q x = true then 1 else 0)
  | 0, h, _ => by omega
  | m + 1, h, hs => by
    rw [cN_succ, cN_succ]
    by_cases e : x = m
    · subst e
      rw [cN_same (p := q) (q := p) fun n hn => (hs n (by omega)).symm]; omega
    · have ih := cN_upd (m := m) (by omega) hs
      rw [hs m fun h => e h.symm]; omega
def deg (W : List (Int × Int)) (v : Int) : Nat := cN (fun n => decide (at0 ((n : Nat) : Int) W = v)) 255
def mat (W : List (Int × Int)) : Nat := cN (fun n => decide (at0 ((n : Nat) : Int) W ≠ 0)) 255
theorem deg_put {x s v : Int} {W : List (Int × Int)} (hx : 0 ≤ x ∧ x < 255) : deg (putL x s W) v + (if at0 x W = v then 1 else 0) = deg W v + (if s = v then 1 else 0) := by
  have h := cN_upd (p := fun n => decide (at0 ((n : Nat) : Int) W = v)) (q := fun n => decide (at0 ((n : Nat) : Int) (putL x s W) = v)) (x := x.toNat) (m := 255) (by omega) (fun n hn => by
    rw [at0_put, if_neg (by omega)])
  simp only [decide_eq_true_eq, show ((x.toNat : Nat) : Int) = x by omega] at h
  rw [show at0 x (putL x s W) = s by rw [at0_put, if_pos rfl]] at h
  exact h
theorem mat_put {x s : Int} {W : List (Int × Int)} (hx : 0 ≤ x ∧ x < 255) (hs : s ≠ 0) : mat (putL x s W) + (if at0 x W ≠ 0 then 1 else 0) = mat W + 1 := by
  have h := cN_upd (p := fun n => decide (at0 ((n : Nat) : Int) W ≠ 0)) (q := fun n => decide (at0 ((n : Nat) : Int) (putL x s W) ≠ 0)) (x := x.toNat) (m := 255) (by omega) (fun n hn => by
    rw [at0_put, if_neg (by omega)])
  simp only [decide_eq_true_eq, show ((x.toNat : Nat) : Int) = x by omega] at h
  rw [show at0 x (putL x s W) = s by rw [at0_put, if_pos rfl]] at h
  rw [if_pos hs] at h
  exact h
section
variable {adj : Int → List Int}
def EV (adj : Int → List Int) (W : List (Int × Int)) : Prop := ∀ x, at0 x W ≠ 0 → (1 ≤ at0 x W ∧ at0 x W ≤ 32) ∧ x ∈ adj (at0 x W - 1)
def Clo (adj : Int → List Int) (W : List (Int × Int)) (C : Int → Prop) : Prop := ∀ x, C x → at0 x W ≠ 0 ∧ ∀ y ∈ adj (at0 x W - 1), C y
structure Suc (adj : Int → List Int) (xs : List Int) (s : Int) (T W : List (Int × Int)) (r : Gs) : Prop where
  ev : EV adj r.W
  tr : ∀ x, 0 < at0 x T → at0 x r.W = at0 x W
  dg : ∀ v, v ≠ 0 → deg r.W v = deg W v + (if s + 1 = v then 1 else 0)
  mt : mat r.W = mat W + 1
  cl : ∀ C : Int → Prop, Clo adj W C → (¬ ∀ y ∈ xs, C y) ∧ ∀ x, C x → at0 x r.W = at0 x W
structure Fai (adj : Int → List Int) (xs : List Int) (T W : List (Int × Int)) (r : Gs) : Prop where
  same : r.W = W
  mono : ∀ x, 0 < at0 x T → 0 < at0 x r.T
  un : untried r.T ≤ untried T
  new : ∀ x, 0 < at0 x r.T → ¬ 0 < at0 x T → at0 x W ≠ 0 ∧ ∀ y ∈ adj (at0 x W - 1), 0 < at0 y r.T
  all : ∀ y ∈ xs, 0 < at0 y r.T
def Good (adj : Int → List Int) (xs : List Int) (s : Int) (T W : List (Int × Int)) (r : Bool × Gs) : Prop := (r.1 = true ∧ Suc adj xs s T W r.2) ∨ (r.1 = false ∧ Fai adj xs T W r.2)
theorem growL_good {rec : Int → Gs → Bool × Gs} {f : Nat} {s : Int} (hs : 0 ≤ s ∧ s < 32)
    (hr : ∀ s' T W, 0 ≤ s' ∧ s' < 32 → EV adj W → untried T < f → Good adj (adj s') s' T W (rec s' ⟨T, W⟩)) :
    ∀ (xs : List Int) (T W : List (Int × Int)), (∀ x ∈ xs, (0 ≤ x ∧ x < 255) ∧ x ∈ adj s) → EV adj W → untried T < f + 1 → Good adj xs s T W (growL rec s xs ⟨T, W⟩)
  | [], T, W, _, _, _ => .inr ⟨rfl, rfl, fun _ h => h, Nat.le_refl _, fun x h1 h2 => absurd h1 h2, fun y h => by cases h⟩
  | x :: xs, T, W, hx, hw, hf => by
    have hx0 := hx x List.mem_cons_self
    have hxs : ∀ y ∈ xs, (0 ≤ y ∧ y < 255) ∧ y ∈ adj s := fun y hy => hx y (List.mem_cons_of_mem _ hy)
    unfold growL
    dsimp only
    by_cases h0 : 0 < at0 x T
    · rw [if_pos h0]
      rcases growL_good hs hr xs T W hxs hw hf with ⟨e, h⟩ | ⟨e, h⟩
      · exact .inl ⟨e, h.ev, h.tr, h.dg, h.mt, fun C hC => ⟨fun k => (h.cl C hC).1 fun y hy => k y (List.mem_cons_of_mem _ hy), (h.cl C hC).2⟩⟩
      · refine .inr ⟨e, h.same, h.mono, h.un, h.new, fun y hy => ?_⟩
        rcases List.mem_cons.1 hy with rfl | hy
        · exact h.mono _ h0
        · exact h.all y hy
    · rw [if_neg h0]
      have hu := untried_put hx0.1 (show at0 x T ≤ 0 by omega)
      by_cases h1 : at0 x W = 0
      · rw [if_pos h1]
        refine .inl ⟨rfl, fun y hy => ?_, fun y hy => ?_, fun v hv => ?_, ?_, fun C hC => ⟨fun k => ?_, fun y hy => ?_⟩⟩
        · dsimp only at hy ⊢
          rw [at0_put] at hy ⊢
          by_cases e : y = x
          · rw [if_pos e, e]
            refine ⟨by omega, ?_⟩
            rw [show s + 1 - 1 = s by omega]; exact hx0.2
          · rw [if_neg e] at hy ⊢
            exact hw y hy
        · dsimp only
          rw [at0_put, if_neg (fun (e : y = x) => h0 (e ▸ hy))]
        · dsimp only
          have := deg_put (x := x) (s := s + 1) (v := v) (W := W) hx0.1
          rw [h1, if_neg (fun e => hv e.symm)] at this; omega
        · dsimp only
          have := mat_put (x := x) (s := s + 1) (W := W) hx0.1 (by omega)
          rw [if_neg (fun k => k h1)] at this; omega
        · exact (hC x (k x List.mem_cons_self)).1 h1
        · dsimp only
          rw [at0_put, if_neg (fun (e : y = x) => (hC y hy).1 (e ▸ h1))]
      · rw [if_neg h1]
        have hb := hw x h1
        generalize hR : rec (at0 x W - 1) ⟨putL x 1 T, W⟩ = R
        have hk := hr (at0 x W - 1) (putL x 1 T) W (by omega) hw (by omega)
        rw [hR] at hk
        have ht : 0 < at0 x (putL x 1 T) := by rw [at0_put, if_pos rfl]; omega
        rcases hk with ⟨e, h⟩ | ⟨e, h⟩
        · rw [if_pos e]
          have hxw : at0 x R.2.W = at0 x W := h.tr x ht
          refine .inl ⟨rfl, fun y hy => ?_, fun y hy => ?_, fun v hv => ?_, ?_, fun C hC => ?_⟩
          · dsimp only at hy ⊢
            rw [at0_put] at hy ⊢
            by_cases e : y = x
            · rw [if_pos e, e]
              refine ⟨by omega, ?_⟩
              rw [show s + 1 - 1 = s by omega]; exact hx0.2
            · rw [if_neg e] at hy ⊢
              exact h.ev y hy
          · dsimp only
            rw [at0_put, if_neg (fun (e : y = x) => h0 (e ▸ hy))]
            refine h.tr y ?_
            rw [at0_put, if_neg (fun (e : y = x) => h0 (e ▸ hy))]; exact hy
          · dsimp only
            have h3 := deg_put (x := x) (s := s + 1) (v := v) (W := R.2.W) hx0.1
            have h4 := h.dg v hv
            rw [hxw] at h3
            rw [show at0 x W - 1 + 1 = at0 x W by omega] at h4
            omega
          · dsimp only
            have h3 := mat_put (x := x) (s := s + 1) (W := R.2.W) hx0.1 (by omega)
            rw [hxw, if_pos h1] at h3
            have := h.mt
            omega
          · have hc := h.cl C hC
            have hnx : ¬ C x := fun k => hc.1 (hC x k).2
            refine ⟨fun k => hnx (k x List.mem_cons_self), fun y hy => ?_⟩
            dsimp only
            rw [at0_put, if_neg (fun (e : y = x) => hnx (e ▸ hy))]
            exact hc.2 y hy
        · rw [if_neg (by rw [e]; decide)]
          have hRW : R.2 = ⟨R.2.T, W⟩ := by rw [← h.same]
          rw [hRW]
          have hx3 : 0 < at0 x R.2.T := h.mono x ht
          have hun := h.un
          rcases growL_good hs hr xs R.2.T W hxs hw (by omega) with ⟨e2, h2⟩ | ⟨e2, h2⟩
          · refine .inl ⟨e2, h2.ev, fun y hy => h2.tr y (h.mono y ?_), h2.dg, h2.mt, fun C hC => ⟨fun k => (h2.cl C hC).1 fun y hy => k y (List.mem_cons_of_mem _ hy), (h2.cl C hC).2⟩⟩
            rw [at0_put]; split
            · omega
            · exact hy
          · refine .inr ⟨e2, h2.same, fun y hy => h2.mono y (h.mono y ?_), by have := h2.un; omega, fun y hy hny => ?_, fun y hy => ?_⟩
            · rw [at0_put]; split
              · omega
              · exact hy
            · by_cases q : 0 < at0 y R.2.T
              · by_cases q2 : 0 < at0 y (putL x 1 T)
                · have : y = x := by
                    rw [at0_put] at q2
                    split at q2
                    · assumption
                    · exact absurd q2 hny
                  subst this
                  exact ⟨h1, fun z hz => h2.mono z (h.all z hz)⟩
                · obtain ⟨a1, a2⟩ := h.new y q q2
                  exact ⟨a1, fun z hz => h2.mono z (a2 z hz)⟩
              · exact h2.new y hy q
            · rcases List.mem_cons.1 hy with rfl | hy
              · exact h2.mono _ hx3
              · exact h2.all y hy
theorem growM_good (ha : ∀ s, ∀ x ∈ adj s, 0 ≤ x ∧ x < 255) : ∀ (f : Nat) (s : Int) (T W : List (Int × Int)), 0 ≤ s ∧ s < 32 → EV adj W → untried T < f → Good adj (adj s) s T W (growM adj f s ⟨T, W⟩)
  | 0, _, _, _, _, _, h => by omega
  | f + 1, s, T, W, hs, hw, hf => growL_good hs (fun s' T' W' h1 h2 h3 => growM_good ha f s' T' W' h1 h2 h3) (adj s) T W (fun x hx => ⟨ha s x hx, hx⟩) hw hf
structure Inv (adj : Int → List Int) (n : Nat) (c : Nat) (W : List (Int × Int)) (C : Int → Prop) : Prop where
  ev : EV adj W
  one : ∀ v, v ≠ 0 → deg W v ≤ 1
  cnt : mat W = c
  low : ∀ x, at0 x W ≤ n
  clo : Clo adj W C
  cov : ∀ s : Nat, s < n → deg W ((s : Int) + 1) = 0 → ∀ y ∈ adj s, C y
theorem deg_zero {W : List (Int × Int)} {v x : Int} (hx : 0 ≤ x ∧ x < 255) (h : deg W v = 0) : at0 x W ≠ v := fun e => by
  unfold deg cN at h
  have h2 := List.filter_eq_nil_iff.1 (List.length_eq_zero_iff.1 h) x.toNat (List.mem_range.2 (by omega))
  simp only [decide_eq_true_eq, show ((x.toNat : Nat) : Int) = x by omega] at h2
  exact h2 e
theorem deg_none {W : List (Int × Int)} {v : Int} (h : ∀ x, at0 x W ≠ v) : deg W v = 0 := by
  unfold deg cN
  refine List.length_eq_zero_iff.2 (List.filter_eq_nil_iff.2 fun n _ => ?_)
  simp only [decide_eq_true_eq]
  exact h _
theorem at0_nil (x : Int) : at0 x [] = 0 := rfl
theorem inv_zero : Inv adj 0 0 [] fun _ => False := by
  refine ⟨fun x h => absurd (at0_nil x) h, fun v hv => ?_, ?_, fun x => ?_, fun x h => h.elim, fun s h => by omega⟩
  · rw [deg_none fun x => by rw [at0_nil]; exact fun e => hv e.symm]; omega
  · unfold mat cN
    refine List.length_eq_zero_iff.2 (List.filter_eq_nil_iff.2 fun n _ => ?_)
    simp only [decide_eq_true_eq]
    exact fun h => h (at0_nil _)
  · rw [at0_nil]; omega
theorem untried_nil : untried [] < 256 := by have := untried_le []; omega
theorem inv_step (ha : ∀ s, ∀ x ∈ adj s, 0 ≤ x ∧ x < 255) {n c : Nat} {W : List (Int × Int)} {C : Int → Prop} (hn : n < 32) (h : Inv adj n c W C) :
    ∃ C', Inv adj (n + 1) (sizeStep adj (c, W) n).1 (sizeStep adj (c, W) n).2 C' := by
  have hd : deg W ((n : Int) + 1) = 0 := deg_none fun x => by have := h.low x; omega
  unfold sizeStep
  dsimp only
  rcases growM_good ha 256 (n : Int) [] W (by omega) h.ev untried_nil with ⟨e, k⟩ | ⟨e, k⟩
  · rw [if_pos e]
    refine ⟨C, k.ev, fun v hv => ?_, by rw [k.mt, h.cnt], fun x => ?_, fun x hx => ?_, fun s hs h0 => ?_⟩
    · have h1 := k.dg v hv
      have h2 := h.one v hv
      split at h1
      · rename_i q; rw [← q, hd] at h1; rw [← q]; omega
      · omega
    · rcases Int.lt_or_le ((n : Int) + 1) (at0 x (growM adj 256 (n : Int) ⟨[], W⟩).2.W) with q | q
      · exfalso
        have hv := k.ev x (by omega)
        have h1 := k.dg (at0 x (growM adj 256 (n : Int) ⟨[], W⟩).2.W) (by omega)
        rw [if_neg (by omega), deg_none (W := W) fun y => by have := h.low y; omega] at h1
        exact deg_zero (ha _ x hv.2) h1 rfl
      · omega
    · have hc := (k.cl C h.clo).2
      rw [hc x hx]
      exact h.clo x hx
    · have h1 := k.dg ((s : Int) + 1) (by omega)
      split at h1
      · omega
      · exact h.cov s (by omega) (by omega)
  · rw [if_neg (by rw [e]; decide), k.same]
    refine ⟨fun x => C x ∨ 0 < at0 x (growM adj 256 (n : Int) ⟨[], W⟩).2.T, h.ev, h.one, h.cnt, fun x => ?_, fun x hx => ?_, fun s hs h0 y hy => ?_⟩
    · have := h.low x; omega
    · rcases hx with hx | hx
      · exact ⟨(h.clo x hx).1, fun y hy => .inl ((h.clo x hx).2 y hy)⟩
      · obtain ⟨a1, a2⟩ := k.new x hx (by rw [at0_nil]; omega)
        exact ⟨a1, fun y hy => .inr (a2 y hy)⟩
    · by_cases q : s = n
      · subst q; exact .inr (k.all y hy)
      · exact .inl (h.cov s (by omega) h0 y hy)
theorem inv_all (ha : ∀ s, ∀ x ∈ adj s, 0 ≤ x ∧ x < 255) : ∀ n, n ≤ 32 → ∃ C, Inv adj n (sizeTo adj n).1 (sizeTo adj n).2 C
  | 0, _ => ⟨_, inv_zero⟩
  | n + 1, hn => by
    obtain ⟨C, h⟩ := inv_all ha n (by omega)
    rw [sizeTo_succ]
    exact inv_step ha (by omega) h
end
structure IsM (l M : List Pr) : Prop where
  sub : ∀ p ∈ M, p ∈ l
  fst : (M.map Prod.fst).Nodup
  snd : (M.map Prod.snd).Nodup
theorem IsM.mono {l l' M : List Pr} (h : IsM l M) (k : ∀ p ∈ l, p ∈ l') : IsM l' M := ⟨fun p hp => k p (h.sub p hp), h.fst, h.snd⟩
theorem nums_mem {l : List Pr} {s x : Int} : x ∈ numsM l s ↔ (s, x) ∈ l := by
  unfold numsM
  rw [List.mem_map]
  constructor
  · rintro ⟨p, hp, rfl⟩
    obtain ⟨h1, h2⟩ := List.mem_filter.1 hp
    rw [← of_decide_eq_true h2]; exact h1
  · exact fun h => ⟨_, List.mem_filter.2 ⟨h, by simp⟩, rfl⟩
def matL (W : List (Int × Int)) : List Int := ((List.range 255).filter fun n : Nat => decide (at0 ((n : Nat) : Int) W ≠ 0)).map fun n : Nat => ((n : Nat) : Int)
theorem matL_len (W : List (Int × Int)) : (matL W).length = mat W := by unfold matL; rw [List.length_map]; rfl
theorem matL_mem {W : List (Int × Int)} {x : Int} : x ∈ matL W ↔ (0 ≤ x ∧ x < 255) ∧ at0 x W ≠ 0 := by
  unfold matL
  rw [List.mem_map]
  constructor
  · rintro ⟨n, hn, rfl⟩
    obtain ⟨h1, h2⟩ := List.mem_filter.1 hn
    rw [List.mem_range] at h1
    exact ⟨by omega, of_decide_eq_true h2⟩
  · rintro ⟨h1, h2⟩
    refine ⟨x.toNat, List.mem_filter.2 ⟨List.mem_range.2 (by omega), ?_⟩, by omega⟩
    rw [show ((x.toNat : Nat) : Int) = x by omega]; exact decide_eq_true h2
theorem matL_nodup (W : List (Int × Int)) : (matL W).Nodup := by
  unfold matL
  exact List.pairwise_map.2 (List.Pairwise.imp (fun {a b} (h : a ≠ b) (e : ((a : Nat) : Int) = ((b : Nat) : Int)) => h (by omega)) (List.Pairwise.filter _ List.nodup_range))
theorem cN_two {p : Nat → Bool} {x y : Nat} : ∀ {m : Nat}, x < y → y < m → p x = true → p y = true → 2 ≤ cN p m
  | 0, _, h, _, _ => by omega
  | m + 1, h1, h2, h3, h4 => by
    rw [cN_succ]
    by_cases e : y = m
    · subst e
      rw [if_pos h4]
      have : 1 ≤ cN p y := by
        unfold cN
        exact List.length_pos_of_mem (List.mem_filter.2 ⟨List.mem_range.2 h1, h3⟩)
      omega
    · have := cN_two (m := m) h1 (by omega) h3 h4; omega
theorem deg_inj {W : List (Int × Int)} {x y : Int} (hx : 0 ≤ x ∧ x < 255) (hy : 0 ≤ y ∧ y < 255) (h : deg W (at0 x W) ≤ 1) (e : at0 x W = at0 y W) : x = y := by
  rcases Int.lt_trichotomy x y with q | q | q
  · exfalso
    have := cN_two (p := fun n => decide (at0 ((n : Nat) : Int) W = at0 x W)) (x := x.toNat) (y := y.toNat) (m := 255) (by omega) (by omega) (by simp only [decide_eq_true_eq, show ((x.toNat : Nat) : Int) = x by omega]) (by simp only [decide_eq_true_eq, show ((y.toNat : Nat) : Int) = y by omega]; exact e.symm)
    unfold deg at h; omega
  · exact q
  · exfalso
    have := cN_two (p := fun n => decide (at0 ((n : Nat) : Int) W = at0 x W)) (x := y.toNat) (y := x.toNat) (m := 255) (by omega) (by omega) (by simp only [decide_eq_true_eq, show ((y.toNat : Nat) : Int) = y by omega]; exact e.symm) (by simp only [decide_eq_true_eq, show ((x.toNat : Nat) : Int) = x by omega])
    unfold deg at h; omega
theorem nd_len {β : Type} [DecidableEq β] : ∀ {l k : List β}, l.Nodup → (∀ b ∈ l, b ∈ k) → l.length ≤ k.length
  | [], _, _, _ => Nat.zero_le _
  | x :: l, k, hn, h => by
    rw [List.nodup_cons] at hn
    have hx := h x List.mem_cons_self
    have ih := nd_len (l := l) (k := k.erase x) hn.2 fun b hb => (List.mem_erase_of_ne (fun (e : b = x) => hn.1 (e ▸ hb))).2 (h b (List.mem_cons_of_mem _ hb))
    have := List.length_pos_of_mem hx
    rw [List.length_erase_of_mem hx] at ih
    rw [List.length_cons]; omega
theorem len_inj {α β : Type} [DecidableEq β] {f : α → β} {l : List α} {k : List β} (hl : l.Nodup) (hf : ∀ a ∈ l, f a ∈ k) (hi : ∀ a ∈ l, ∀ b ∈ l, f a = f b → a = b) : l.length ≤ k.length := by
  rw [← List.length_map (f := f)]
  refine nd_len ?_ fun b hb => ?_
  · refine List.pairwise_map.2 ?_
    exact List.Pairwise.imp_of_mem (fun {a b} ha hb (h : a ≠ b) (e : f a = f b) => h (hi a ha b hb e)) hl
  · obtain ⟨a, ha, rfl⟩ := List.mem_map.1 hb
    exact hf a ha
theorem nodup_of_map {α β : Type} {f : α → β} {l : List α} (h : (l.map f).Nodup) : l.Nodup := by
  have := List.pairwise_map.1 h
  exact this.imp fun {a b} (q : f a ≠ f b) (e : a = b) => q (by rw [e])
theorem inj_of_map {α β : Type} {f : α → β} : ∀ {l : List α}, (l.map f).Nodup → ∀ a ∈ l, ∀ b ∈ l, f a = f b → a = b
  | [], _, a, h, _, _, _ => by cases h
  | x :: l, h, a, ha, b, hb, e => by
    rw [List.map_cons, List.nodup_cons] at h
    rcases List.mem_cons.1 ha with q | q
    · rcases List.mem_cons.1 hb with z | z
      · rw [q, z]
      · exact absurd (List.mem_map.2 ⟨b, z, by rw [← e, q]⟩) h.1
    · rcases List.mem_cons.1 hb with z | z
      · exact absurd (List.mem_map.2 ⟨a, q, by rw [e, z]⟩) h.1
      · exact inj_of_map h.2 a q b z e
theorem sizeM_max {l : List Pr} (hl : ∀ p ∈ l, pOk p) : (∃ M, IsM l M ∧ M.length = sizeM l) ∧ ∀ M, IsM l M → M.length ≤ sizeM l := by
  have ha : ∀ s, ∀ x ∈ numsM l s, 0 ≤ x ∧ x < 255 := fun s => nums_ok hl s
  obtain ⟨C, h⟩ := inv_all ha 32 (Nat.le_refl _)
  have hsz : sizeM l = mat (sizeTo (numsM l) 32).2 := h.cnt.symm
  generalize (sizeTo (numsM l) 32).2 = W at *
  have hinj : ∀ x ∈ matL W, ∀ y ∈ matL W, at0 x W = at0 y W → x = y := fun x hx y hy e => by
    obtain ⟨h1, h2⟩ := matL_mem.1 hx
    obtain ⟨h3, h4⟩ := matL_mem.1 hy
    exact deg_inj h1 h3 (h.one _ h2) e
  constructor
  · refine ⟨(matL W).map fun x => (at0 x W - 1, x), ⟨fun p hp => ?_, ?_, ?_⟩, by rw [List.length_map, matL_len, hsz]⟩
    · obtain ⟨x, hx, rfl⟩ := List.mem_map.1 hp
      exact nums_mem.1 (h.ev x (matL_mem.1 hx).2).2
    · rw [List.map_map]
      refine List.pairwise_map.2 (List.Pairwise.imp_of_mem (fun {a b} ha hb (q : a ≠ b) (e : at0 a W - 1 = at0 b W - 1) => q (hinj a ha b hb (by omega))) (matL_nodup W))
    · rw [List.map_map, show (Prod.snd ∘ fun x : Int => (at0 x W - 1, x)) = id from rfl, List.map_id]
      exact matL_nodup W
  · intro M hM
    classical
    -- of a pair: its number, if that is one of these; else the number that its server is matched with
    have key : ∀ p ∈ M, ∃ z, z ∈ matL W ∧ ((C p.2 ∧ z = p.2) ∨ (¬ C p.2 ∧ ¬ C z ∧ at0 z W = p.1 + 1)) := fun p hp => by
      have hpl := hM.sub p hp
      have hpo := hl p hpl
      have hpa : p.2 ∈ numsM l p.1 := nums_mem.2 hpl
      by_cases q : C p.2
      · exact ⟨p.2, matL_mem.2 ⟨ha _ _ hpa, (h.clo _ q).1⟩, .inl ⟨q, rfl⟩⟩
      · have hs : ((p.1.toNat : Nat) : Int) = p.1 := by unfold pOk at hpo; omega
        have hne : deg W (p.1 + 1) ≠ 0 := fun e => q (by
          have := h.cov p.1.toNat (by unfold pOk at hpo; omega) (by rw [hs]; exact e) p.2 (by rw [hs]; exact hpa)
          exact this)
        have hpos : 0 < deg W (p.1 + 1) := by omega
        unfold deg cN at hpos
        obtain ⟨n, hn⟩ := List.exists_mem_of_length_pos hpos
        obtain ⟨h1, h2⟩ := List.mem_filter.1 hn
        rw [List.mem_range] at h1
        have h3 : at0 ((n : Nat) : Int) W = p.1 + 1 := of_decide_eq_true h2
        refine ⟨((n : Nat) : Int), matL_mem.2 ⟨by omega, by unfold pOk at hpo; omega⟩, .inr ⟨q, fun k => q ?_, h3⟩⟩
        have := (h.clo _ k).2 p.2
        rw [h3, show p.1 + 1 - 1 = p.1 by omega] at this
        exact this hpa
    have key2 : ∀ p : Pr, ∃ z, p ∈ M → z ∈ matL W ∧ ((C p.2 ∧ z = p.2) ∨ (¬ C p.2 ∧ ¬ C z ∧ at0 z W = p.1 + 1)) := fun p => by
      by_cases hp : p ∈ M
      · obtain ⟨z, hz⟩ := key p hp; exact ⟨z, fun _ => hz⟩
      · exact ⟨0, fun k => absurd k hp⟩
    rw [hsz, ← matL_len]
    refine len_inj (f := fun p => (key2 p).choose) (nodup_of_map hM.fst) (fun p hp => ((key2 p).choose_spec hp).1) (fun a ha' b hb e => ?_)
    have h1 := ((key2 a).choose_spec ha').2
    have h2 := ((key2 b).choose_spec hb).2
    rw [e] at h1
    generalize (key2 b).choose = z at *
    rcases h1 with ⟨c1, c2⟩ | ⟨c1, c2, c3⟩ <;> rcases h2 with ⟨d1, d2⟩ | ⟨d1, d2, d3⟩
    · exact inj_of_map hM.snd a ha' b hb (by rw [← c2, ← d2])
    · exact absurd (c2 ▸ c1) d2
    · exact absurd (d2 ▸ d1) c2
    · exact inj_of_map hM.fst a ha' b hb (by omega)
end Go.HyM
/-
  What a pair more does to how pairs are spread. (Conditions: none; no program in sight.)
-/
set_option maxRecDepth 20000
namespace Go.HyM
open Go.SL Go.RowKit Go.ChangeShapes Go.WideShapes
theorem cnt_le (l : List Pr) (f : Pr → Int) : cntM l f ≤ 255 := by
  unfold cntM
  exact Nat.le_trans (List.length_filter_le _ _) (by rw [List.length_range]; exact Nat.le_refl _)
theorem size_cnt {l : List Pr} (hl : ∀ p ∈ l, pOk p) {f : Pr → Int} (hf : ∀ p, pOk p → 0 ≤ f p ∧ f p < 255) (hM : ∀ M, IsM l M → (M.map f).Nodup) : sizeM l ≤ cntM l f := by
  obtain ⟨⟨M, h1, h2⟩, _⟩ := sizeM_max hl
  have h3 := nd_len (k := ((List.range 255).filter fun v : Nat => l.any fun p => decide (f p = ((v : Nat) : Int))).map fun n : Nat => ((n : Nat) : Int)) (hM M h1) (fun b hb => by
    obtain ⟨p, hp, rfl⟩ := List.mem_map.1 hb
    have hb := hf p (hl p (h1.sub p hp))
    exact List.mem_map.2 ⟨(f p).toNat, List.mem_filter.2 ⟨List.mem_range.2 (by omega), List.any_eq_true.2 ⟨p, h1.sub p hp, by simp; omega⟩⟩, by omega⟩)
  rw [List.length_map, List.length_map, h2] at h3
  exact h3
theorem size_fst {l : List Pr} (hl : ∀ p ∈ l, pOk p) : sizeM l ≤ cntM l Prod.fst := size_cnt hl (fun p h => by unfold pOk at h; omega) fun _ h => h.fst
section
variable {H : Type} {enc : TypeId × Value → H} {P : Program} {W : World} {base : Nat} {sp : Nat → Bool} {hd : Bool}
end
end Go.HyM
/-
  How likely numbers last that lie on servers. (Conditions: none; no program in sight.)
-/
set_option maxRecDepth 20000
namespace Go.HyM
open Go.SL Go.RowKit Go.Fl
def cS (l : List Pr) (s : Int) : Nat := (l.map Prod.fst).count s
def cD (l : List Pr) (x : Int) : Nat := (l.map Prod.snd).count x
def goodL (l : List Pr) (n : Nat) : Prop := (∀ x, cD l x ≤ 1) ∧ ∀ q ∈ l, q.1 < (n : Int)
theorem cS_snoc {l : List Pr} {i : Nat} {p : Pr} (h : l[i]? = some p) (x : Int) : cS (l.take (i + 1)) x = cS (l.take i) x + (if x = p.1 then 1 else 0) := by
  unfold cS
  rw [List.take_add_one, h]
  simp only [Option.toList_some, List.map_append, List.map_cons, List.map_nil, List.count_append, List.count_singleton, beq_iff_eq]
  congr 1
  by_cases e : x = p.1
  · rw [if_pos e, if_pos e.symm]
  · rw [if_neg e, if_neg fun h => e h.symm]
theorem cD_snoc {l : List Pr} {i : Nat} {p : Pr} (h : l[i]? = some p) (x : Int) : cD (l.take (i + 1)) x = cD (l.take i) x + (if x = p.2 then 1 else 0) := by
  unfold cD
  rw [List.take_add_one, h]
  simp only [Option.toList_some, List.map_append, List.map_cons, List.map_nil, List.count_append, List.count_singleton, beq_iff_eq]
  congr 1
  by_cases e : x = p.2
  · rw [if_pos e, if_pos e.symm]
  · rw [if_neg e, if_neg fun h => e h.symm]
theorem cS_le (l : List Pr) (x : Int) : cS l x ≤ l.length := by unfold cS; have := List.count_le_length (a := x) (l := l.map Prod.fst); rwa [List.length_map] at this
theorem cD_le (l : List Pr) (x : Int) : cD l x ≤ l.length := by unfold cD; have := List.count_le_length (a := x) (l := l.map Prod.snd); rwa [List.length_map] at this
theorem cD_take (l : List Pr) (i : Nat) (x : Int) : cD (l.take i) x ≤ cD l x := by
  unfold cD
  exact ((List.take_sublist i l).map _).count_le x
theorem cntS_step {l : List Pr} {i : Nat} {p : Pr} {M : List (Int × Int)} (h : l[i]? = some p) (hc : ∀ x, at0 x M = ((cS (l.take i) x : Nat) : Int)) : ∀ x, at0 x (putL p.1 (((cS (l.take i) p.1 + 1 : Nat)) : Int) M) = ((cS (l.take (i + 1)) x : Nat) : Int) := fun x => by
  rw [at0_put, cS_snoc h]
  split
  · rename_i e; rw [e]
  · rw [hc]; rfl
theorem cntD_step {l : List Pr} {i : Nat} {p : Pr} {M : List (Int × Int)} (h : l[i]? = some p) (hc : ∀ x, at0 x M = ((cD (l.take i) x : Nat) : Int)) : ∀ x, at0 x (putL p.2 (((cD (l.take i) p.2 + 1 : Nat)) : Int) M) = ((cD (l.take (i + 1)) x : Nat) : Int) := fun x => by
  rw [at0_put, cD_snoc h]
  split
  · rename_i e; rw [e]
  · rw [hc]; rfl
theorem look_c {x : Int} {n : Nat} {M : List (Int × Int)} (h : at0 x M = ((n : Nat) : Int)) : ((getL x M).map vfN).getD (.int .i64 0) = .int .i64 ((n : Nat) : Int) := by rw [look_at0, h]
theorem look_p {x b : Int} {M : List (Int × Int)} : ((getL x (putL x b M)).map vfN).getD (.int .i64 0) = .int .i64 b := by rw [getL_putL]; rfl
theorem good_step {l : List Pr} {i n : Nat} {p : Pr} (h : l[i]? = some p) (hg : goodL l n) : cD (l.take i) p.2 = 0 ∧ p.1 < (n : Int) := by
  refine ⟨?_, hg.2 p (List.mem_of_getElem? h)⟩
  have h1 := cD_snoc h p.2
  rw [if_pos rfl] at h1
  have h2 := cD_take l (i + 1) p.2
  have := hg.1 p.2
  omega
theorem good_snoc {l : List Pr} {i n : Nat} {p : Pr} (h : l[i]? = some p) (h1 : ∀ x, cD (l.take i) x ≤ 1) (h2 : ∀ q ∈ l.take i, q.1 < (n : Int)) (k1 : ¬ 1 < cD (l.take i) p.2 + 1) (k2 : ¬ (n : Int) ≤ p.1) : (∀ x, cD (l.take (i + 1)) x ≤ 1) ∧ ∀ q ∈ l.take (i + 1), q.1 < (n : Int) := by
  constructor
  · intro x
    rw [cD_snoc h]
    split
    · rename_i e; rw [e]; omega
    · have := h1 x; omega
  · intro q hq
    rw [List.take_add_one, h, List.mem_append] at hq
    rcases hq with hq | hq
    · exact h2 q hq
    · rw [Option.toList_some, List.mem_singleton] at hq
      rw [hq]; omega
def lasStep (l : List Pr) (p : List Nat) (s : Nat) (x : Nat) : List Nat := if 0 < cS l (s : Int) then takenM p (cS l (s : Int)) x else p
def lasT (l : List Pr) (p fl : List Nat) : List Nat := fl.zipIdx.foldl (fun q y => lasStep l q y.2 y.1) p
def lastP (l : List Pr) (fl : List Nat) (k : Int) : Nat := tailM (lasT l (begP l.length) fl) k
theorem lasT_snoc {l : List Pr} {p fl : List Nat} {s x : Nat} (h : fl[s]? = some x) : lasT l p (fl.take (s + 1)) = lasStep l (lasT l p (fl.take s)) s x := by
  have hs : s < fl.length := by
    rcases Nat.lt_or_ge s fl.length with q | q
    · exact q
    · rw [List.getElem?_eq_none q] at h; cases h
  rw [List.take_add_one, h]
  unfold lasT
  rw [List.zipIdx_append, List.foldl_append]
  simp only [Option.toList_some, List.zipIdx_cons, List.zipIdx_nil, List.foldl_cons, List.foldl_nil, List.length_take]
  rw [show 0 + min s fl.length = s by omega]
theorem lasT_yes {l : List Pr} {p fl : List Nat} {s x : Nat} (h : fl[s]? = some x) (k : 0 < cS l (s : Int)) : takenM (lasT l p (fl.take s)) (cS l (s : Int)) x = lasT l p (fl.take (s + 1)) := by
  rw [lasT_snoc h]; unfold lasStep; rw [if_pos k]
theorem lasT_no {l : List Pr} {p fl : List Nat} {s x : Nat} (h : fl[s]? = some x) (k : ¬ 0 < cS l (s : Int)) : lasT l p (fl.take s) = lasT l p (fl.take (s + 1)) := by
  rw [lasT_snoc h]; unfold lasStep; rw [if_neg k]
theorem lasT_len (l : List Pr) (p fl : List Nat) : (lasT l p fl).length = p.length := by
  unfold lasT
  generalize fl.zipIdx = z
  induction z generalizing p with
  | nil => rfl
  | cons y z ih =>
    rw [List.foldl_cons, ih]
    unfold lasStep
    split
    · rw [takenM_len]
    · rfl
theorem lasT_un (l : List Pr) {p fl : List Nat} (h : Un p) (hx : ∀ x ∈ fl, U x) : Un (lasT l p fl) := by
  unfold lasT
  have hz : ∀ y ∈ fl.zipIdx, U y.1 := fun y hy => hx _ (List.fst_mem_of_mem_zipIdx hy)
  generalize fl.zipIdx = z at *
  induction z generalizing p with
  | nil => exact h
  | cons y z ih =>
    rw [List.foldl_cons]
    refine ih ?_ fun w hw => hz w (List.mem_cons_of_mem _ hw)
    unfold lasStep
    split
    · exact takenM_un h (hz y List.mem_cons_self)
    · exact h
theorem begP_len (n : Nat) : (begP n).length = n + 1 := by unfold begP; simp
end Go.HyM
/-
  Each server with one number; noughts and ones. (Conditions: none; no program in sight.)
-/
set_option maxRecDepth 20000
namespace Go.HyM
open Ieee Go.SL Go.RowKit Go.Fl
def CR (p : List Nat) : Prop := (∀ v ∈ p, v = 0 ∨ v = ONE) ∧ p.count ONE ≤ 1
theorem CR.at {p : List Nat} (h : CR p) (j : Nat) : p.getD j 0 = 0 ∨ p.getD j 0 = ONE := by
  rw [List.getD_eq_getElem?_getD]
  cases e : p[j]? with
  | none => exact .inl rfl
  | some v => exact h.1 v (List.mem_of_getElem? e)
theorem odds_NN {l : List Nat} {k : Int} (hU : ∀ x ∈ l, U x) : NN (oddsP l k) := tailF_nn (allT_un l (begP_un _) hU) _ _ (Nat.le_add_left _ _)
theorem fdiv_ok {x : Nat} (h : NN x) : ∃ y, floatBits .quo .f64 ONE x = some y ∧ NN y := div_NN h
end Go.HyM
/-
  What is handed in: floats. (Conditions: none; generic over the program.)
-/
set_option maxRecDepth 20000
namespace Go.HyM
open Go.SL Go.RowKit Go.Fl
section
variable {H : Type} {enc : TypeId × Value → H} {P : Program} {W : World} {base : Nat} {sp : Nat → Bool} {hd : Bool}
theorem trod_fl {t : TypeId} {n : Nat} {c : List Value} {y : DataW H × List MemPlace} (ht : P.underlying t = some (.float .f64)) (h : DataW.trod enc P W base sp hd n t c = some y) : ∃ b, c = [.float .f64 b] ∧ (Lit.float .f64 b).wf = true := by
  cases n with
  | zero => simp [DataW.trod] at h
  | succ n =>
    unfold DataW.trod at h
    rw [ht] at h
    split at h <;> simp_all
theorem el_fl {t : TypeId} (ht : P.underlying t = some (.float .f64)) : ∀ n' c y, DataW.trod enc P W base sp hd n' t c = some y → ∃ x : Nat, c = eF x ∧ x < 2 ^ 64 := fun n' c y h => by
  obtain ⟨b, rfl, hw⟩ := trod_fl ht h
  exact ⟨b, rfl, of_decide_eq_true hw⟩
end
end Go.HyM
/-
  The first greatest matching, and that as many servers and numbers as it has pairs meet every pair. (Conditions: none; no program in sight.)
-/
set_option maxRecDepth 20000
namespace Go.HyM
open Go.SL Go.RowKit
def leftP (l : List Pr) (p : Pr) : List Pr := l.filter fun q => !(decide (q.1 ≤ p.1) || decide (q.2 = p.2))
theorem leftP_mem {l : List Pr} {p q : Pr} : q ∈ leftP l p ↔ q ∈ l ∧ p.1 < q.1 ∧ q.2 ≠ p.2 := by
  unfold leftP
  rw [List.mem_filter]
  simp only [Bool.not_eq_true', Bool.or_eq_false_iff, decide_eq_false_iff_not, Int.not_le, ne_eq]
theorem leftP_ok {l : List Pr} {p : Pr} (hl : ∀ p ∈ l, pOk p) : ∀ q ∈ leftP l p, pOk q := fun q hq => hl q (leftP_mem.1 hq).1
theorem isM_cons {l M : List Pr} {p : Pr} (hp : p ∈ l) (h : IsM (leftP l p) M) : IsM l (p :: M) := by
  refine ⟨fun q hq => ?_, ?_, ?_⟩
  · rcases List.mem_cons.1 hq with rfl | hq
    · exact hp
    · exact (leftP_mem.1 (h.sub q hq)).1
  · rw [List.map_cons, List.nodup_cons]
    refine ⟨fun k => ?_, h.fst⟩
    obtain ⟨q, hq, e⟩ := List.mem_map.1 k
    have := (leftP_mem.1 (h.sub q hq)).2.1
    omega
  · rw [List.map_cons, List.nodup_cons]
    refine ⟨fun k => ?_, h.snd⟩
    obtain ⟨q, hq, e⟩ := List.mem_map.1 k
    exact (leftP_mem.1 (h.sub q hq)).2.2 e
theorem left_le {l : List Pr} {p : Pr} (hl : ∀ p ∈ l, pOk p) (hp : p ∈ l) : sizeM (leftP l p) + 1 ≤ sizeM l := by
  obtain ⟨⟨M, h1, h2⟩, _⟩ := sizeM_max (leftP_ok (p := p) hl)
  have := (sizeM_max hl).2 _ (isM_cons hp h1)
  rw [List.length_cons, h2] at this
  exact this
theorem min_fst : ∀ {M : List Pr}, M ≠ [] → ∃ p ∈ M, ∀ q ∈ M, p.1 ≤ q.1
  | [], h => absurd rfl h
  | [p], _ => ⟨p, by simp, fun q hq => by rw [List.mem_singleton] at hq; rw [hq]; exact Int.le_refl _⟩
  | p :: r :: M, _ => by
    obtain ⟨z, hz, h⟩ := min_fst (M := r :: M) (by simp)
    rcases Int.lt_or_le p.1 z.1 with k | k
    · refine ⟨p, List.mem_cons_self, fun q hq => ?_⟩
      rcases List.mem_cons.1 hq with e | hq
      · rw [e]; exact Int.le_refl _
      · have := h q hq; omega
    · refine ⟨z, List.mem_cons_of_mem _ hz, fun q hq => ?_⟩
      rcases List.mem_cons.1 hq with e | hq
      · rw [e]; exact k
      · exact h q hq
theorem left_ex {l : List Pr} (hl : ∀ p ∈ l, pOk p) {w : Nat} (h : sizeM l = w + 1) : ∃ p ∈ l, sizeM (leftP l p) = w := by
  obtain ⟨⟨M, h1, h2⟩, _⟩ := sizeM_max hl
  have hne : M ≠ [] := fun e => by rw [e, h] at h2; cases h2
  obtain ⟨p, hp, hmin⟩ := min_fst hne
  have hpl := h1.sub p hp
  refine ⟨p, hpl, ?_⟩
  have h3 := left_le hl hpl
  have hnd : M.Nodup := nodup_of_map h1.fst
  have hs : (M.erase p).Sublist M := List.erase_sublist
  have h4 := (sizeM_max (leftP_ok (p := p) hl)).2 (M.erase p) ⟨fun q hq => ?_, h1.fst.sublist (hs.map _), h1.snd.sublist (hs.map _)⟩
  · rw [List.length_erase_of_mem hp, h2] at h4
    omega
  · rw [hnd.mem_erase_iff] at hq
    refine leftP_mem.2 ⟨h1.sub q hq.2, ?_, fun e => hq.1 (inj_of_map h1.snd q hq.2 p hp e)⟩
    have := hmin q hq.2
    have : q.1 ≠ p.1 := fun e => hq.1 (inj_of_map h1.fst q hq.2 p hp e)
    omega
def pickM (l : List Pr) (w : Nat) : Option Pr := l.find? fun p => decide (sizeM (leftP l p) = w)
def matM : Nat → List Pr → List Pr
  | 0, _ => []
  | w + 1, l => match pickM l w with
    | some p => p :: matM w (leftP l p)
    | none => matM w l
theorem pickM_some {l : List Pr} (hl : ∀ p ∈ l, pOk p) {w : Nat} (h : sizeM l = w + 1) : ∃ p, pickM l w = some p ∧ p ∈ l ∧ sizeM (leftP l p) = w := by
  obtain ⟨p, hp, e⟩ := left_ex hl h
  cases k : pickM l w with
  | none => exact absurd (decide_eq_true e) (List.find?_eq_none.1 k p hp)
  | some q =>
    unfold pickM at k
    have k2 := List.find?_some k
    exact ⟨q, rfl, List.mem_of_find?_eq_some k, of_decide_eq_true k2⟩
theorem matM_ok : ∀ (w : Nat) {l : List Pr}, (∀ p ∈ l, pOk p) → sizeM l = w → IsM l (matM w l) ∧ (matM w l).length = w ∧ (matM w l).Pairwise fun a b => a.1 < b.1
  | 0, l, _, _ => ⟨⟨(fun p h => absurd h List.not_mem_nil), List.Pairwise.nil, List.Pairwise.nil⟩, rfl, List.Pairwise.nil⟩
  | w + 1, l, hl, h => by
    obtain ⟨p, h1, h2, h3⟩ := pickM_some hl h
    obtain ⟨a, b, c⟩ := matM_ok w (leftP_ok (p := p) hl) h3
    unfold matM
    rw [h1]
    exact ⟨isM_cons h2 a, by rw [List.length_cons, b], List.pairwise_cons.2 ⟨fun q hq => (leftP_mem.1 (a.sub q hq)).2.1, c⟩⟩
section
variable {l m : List Pr}
def Free (l m : List Pr) (N : Int → Prop) (s : Int) : Prop := ∃ M, IsM l M ∧ M.length = m.length ∧ (∀ q ∈ M, q.1 ≠ s) ∧ (∀ q ∈ M, ∃ z ∈ m, z.2 = q.2) ∧ ∀ q ∈ m, ¬ N q.2 → q ∈ M
theorem Free.mono {N N' : Int → Prop} {s : Int} (h : Free l m N s) (k : ∀ n, N n → N' n) : Free l m N' s := by
  obtain ⟨M, h1, h2, h3, h4, h5⟩ := h
  exact ⟨M, h1, h2, h3, h4, fun q hq hn => h5 q hq fun z => hn (k _ z)⟩
structure KOk (l m : List Pr) (S N : Int → Prop) : Prop where
  sv : ∀ s, S s → Free l m N s
  nm : ∀ n, N n → ∃ q ∈ m, q.2 = n ∧ Free l m N q.1
theorem KOk.zero : KOk l m (fun _ => False) fun _ => False := ⟨fun _ h => h.elim, fun _ h => h.elim⟩
theorem KOk.lone {S N : Int → Prop} (h : KOk l m S N) (hm : IsM l m) {s : Int} (hs : ∀ q ∈ m, q.1 ≠ s) : KOk l m (fun x => S x ∨ x = s) N := by
  refine ⟨fun x hx => ?_, h.nm⟩
  rcases hx with hx | hx
  · exact h.sv x hx
  · rw [hx]; exact ⟨m, hm, rfl, hs, fun q hq => ⟨q, hq, rfl⟩, fun q hq _ => hq⟩
theorem KOk.back {S N : Int → Prop} (h : KOk l m S N) (hm : IsM l m) {q : Pr} (hq : q ∈ m) (hn : N q.2) : KOk l m (fun x => S x ∨ x = q.1) N := by
  refine ⟨fun x hx => ?_, h.nm⟩
  rcases hx with hx | hx
  · exact h.sv x hx
  · obtain ⟨z, hz, e, hF⟩ := h.nm _ hn
    have : z = q := inj_of_map hm.snd z hz q hq e
    rw [hx, ← this]; exact hF
theorem KOk.along {S N : Int → Prop} (h : KOk l m S N) (hmax : ∀ M, IsM l M → M.length ≤ m.length) {p : Pr} (hp : p ∈ l) (hs : S p.1) (hn : ¬ N p.2) : KOk l m S fun x => N x ∨ x = p.2 := by
  have hup : ∀ n, N n → N n ∨ n = p.2 := fun n k => .inl k
  obtain ⟨M, h1, h2, h3, h4, h5⟩ := h.sv _ hs
  have hfst : p.1 ∉ M.map Prod.fst := fun k => by
    obtain ⟨q, hq, e⟩ := List.mem_map.1 k
    exact h3 q hq e
  obtain ⟨z, hz, ez⟩ : ∃ z ∈ m, z.2 = p.2 := by
    refine Classical.byContradiction fun k => ?_
    have hsnd : p.2 ∉ M.map Prod.snd := fun k2 => by
      obtain ⟨q, hq, e⟩ := List.mem_map.1 k2
      obtain ⟨z, hz, e2⟩ := h4 q hq
      exact k ⟨z, hz, e2.trans e⟩
    have := hmax (p :: M) ⟨fun q hq => by
      rcases List.mem_cons.1 hq with e | hq
      · rw [e]; exact hp
      · exact h1.sub q hq, by rw [List.map_cons, List.nodup_cons]; exact ⟨hfst, h1.fst⟩, by rw [List.map_cons, List.nodup_cons]; exact ⟨hsnd, h1.snd⟩⟩
    rw [List.length_cons, h2] at this
    omega
  have hzM : z ∈ M := h5 z hz (by rw [ez]; exact hn)
  have hnd : M.Nodup := nodup_of_map h1.fst
  have hsub : (M.erase z).Sublist M := List.erase_sublist
  have hpos := List.length_pos_of_mem hzM
  refine ⟨fun x hx => (h.sv x hx).mono hup, fun x hx => ?_⟩
  rcases hx with hx | hx
  · obtain ⟨q, hq, e, hF⟩ := h.nm x hx
    exact ⟨q, hq, e, hF.mono hup⟩
  · refine ⟨z, hz, ez.trans hx.symm, p :: M.erase z, ⟨fun q hq => ?_, ?_, ?_⟩, ?_, fun q hq => ?_, fun q hq => ?_, fun q hq hn2 => ?_⟩
    · rcases List.mem_cons.1 hq with e | hq
      · rw [e]; exact hp
      · exact h1.sub q (hsub.mem hq)
    · rw [List.map_cons, List.nodup_cons]
      exact ⟨fun k => hfst ((hsub.map _).mem k), h1.fst.sublist (hsub.map _)⟩
    · rw [List.map_cons, List.nodup_cons]
      refine ⟨fun k => ?_, h1.snd.sublist (hsub.map _)⟩
      obtain ⟨q, hq, e⟩ := List.mem_map.1 k
      rw [hnd.mem_erase_iff] at hq
      exact hq.1 (inj_of_map h1.snd q hq.2 z hzM (e.trans ez.symm))
    · rw [List.length_cons, List.length_erase_of_mem hzM]; omega
    · rcases List.mem_cons.1 hq with e | hq
      · rw [e]; exact fun k => h3 z hzM k.symm
      · rw [hnd.mem_erase_iff] at hq
        exact fun e => hq.1 (inj_of_map h1.fst q hq.2 z hzM e)
    · rcases List.mem_cons.1 hq with e | hq
      · rw [e]; exact ⟨z, hz, ez⟩
      · exact h4 q (hsub.mem hq)
    · refine List.mem_cons_of_mem _ (hnd.mem_erase_iff.2 ⟨fun e => hn2 (.inr (by rw [e]; exact ez)), h5 q hq fun k => hn2 (.inl k)⟩)
end
end Go.HyM
/-
  Marks on servers and numbers, and their count. (Conditions: none; no program in sight.)
-/
set_option maxRecDepth 20000
namespace Go.HyM
open Go.SL Go.RowKit
def bAt (b : List Bool) (x : Int) : Bool := b.getD x.toNat false
def bSet (b : List Bool) (x : Int) : List Bool := b.set x.toNat true
structure Shut (ps m : List Pr) (mb sb nb : List Bool) : Prop where
  mat : ∀ x, 0 ≤ x → (bAt mb x = true ↔ ∃ q ∈ m, q.1 = x)
  lone : ∀ q ∈ ps, bAt mb q.1 = false → bAt sb q.1 = true
  fwd : ∀ q ∈ ps, bAt sb q.1 = true → bAt nb q.2 = true
  back : ∀ q ∈ m, bAt nb q.2 = true → bAt sb q.1 = true
end Go.HyM
/-
  Leaving things out of a list in its own place. (Conditions: none; no program in sight.)
-/
set_option maxRecDepth 20000
namespace Go.HyM
open Go.SL Go.RowKit
def delB (p q : Pr) : Bool := decide (q.1 ≤ p.1) || decide (q.2 = p.2)
theorem delB_self (p : Pr) : delB p p = true := by unfold delB; simp
theorem leftP_del (l : List Pr) (p : Pr) : leftP l p = l.filter fun q => !delB p q := rfl
structure FstD (l : List Pr) (p : Pr) (i : Nat) : Prop where
  lt : i < l.length
  pre : ∀ y ∈ l.take i, delB p y = false
  hit : ∀ y, l[i]? = some y → delB p y = true
structure HalfD (l : List Pr) (p : Pr) (j i : Nat) (A : List Pr) : Prop where
  len : A.length = l.length
  kept : A.take i = leftP (l.take j) p
  cnt : i = (leftP (l.take j) p).length
  rest : A.drop j = l.drop j
  ij : i < j
  jl : j ≤ l.length
theorem del_snoc {l : List Pr} {p y : Pr} {i : Nat} (h : l[i]? = some y) (ha : ∀ y ∈ l.take i, delB p y = false) (hd : delB p y = false) : ∀ y ∈ l.take (i + 1), delB p y = false := fun z hz => by
  rw [List.take_add_one, h, List.mem_append] at hz
  rcases hz with hz | hz
  · exact ha z hz
  · rw [Option.toList_some, List.mem_singleton] at hz
    rw [hz]; exact hd
theorem filter_all {l : List Pr} {p : Pr} (h : ∀ y ∈ l, delB p y = false) : leftP l p = l := by
  rw [leftP_del]
  exact List.filter_eq_self.2 fun y hy => by rw [h y hy]; rfl
theorem half_beg {l : List Pr} {p : Pr} {i : Nat} (h : FstD l p i) : HalfD l p (i + 1) i l := by
  obtain ⟨x, hx⟩ : ∃ x, l[i]? = some x := ⟨_, List.getElem?_eq_getElem h.lt⟩
  have e : leftP (l.take (i + 1)) p = l.take i := by
    rw [leftP_del, List.take_add_one, hx, List.filter_append, ← leftP_del, filter_all h.pre]
    simp only [Option.toList_some]
    rw [List.filter_cons_of_neg (by rw [h.hit _ hx]; decide)]
    simp
  exact ⟨rfl, e.symm, by rw [e, List.length_take]; have := h.lt; omega, rfl, by omega, h.lt⟩
theorem half_at {l A : List Pr} {p : Pr} {j i : Nat} (h : HalfD l p j i A) (hj : j < l.length) : A[j]? = l[j]? := by
  have h1 : (A.drop j)[0]? = (l.drop j)[0]? := by rw [h.rest]
  rwa [List.getElem?_drop, List.getElem?_drop, Nat.add_zero] at h1
theorem half_rest {l A : List Pr} {p : Pr} {j i : Nat} (h : HalfD l p j i A) : A.drop (j + 1) = l.drop (j + 1) := by
  rw [← List.drop_drop, ← List.drop_drop, h.rest]
theorem half_no {l A : List Pr} {p y : Pr} {j i : Nat} (h : HalfD l p j i A) (hy : l[j]? = some y) (hd : delB p y = true) : HalfD l p (j + 1) i A := by
  have hj : j < l.length := (List.getElem?_eq_some_iff.1 hy).1
  have e : leftP (l.take (j + 1)) p = leftP (l.take j) p := by
    rw [leftP_del, List.take_add_one, hy, List.filter_append]
    simp only [Option.toList_some]
    rw [List.filter_cons_of_neg (by rw [hd]; decide)]
    simp [leftP_del]
  exact ⟨h.len, by rw [e]; exact h.kept, by rw [e]; exact h.cnt, half_rest h, by have := h.ij; omega, hj⟩
theorem half_yes {l A : List Pr} {p y : Pr} {j i : Nat} (h : HalfD l p j i A) (hy : l[j]? = some y) (hd : delB p y = false) : HalfD l p (j + 1) (i + 1) (A.set i y) := by
  have hj : j < l.length := (List.getElem?_eq_some_iff.1 hy).1
  have hij := h.ij
  have hl := h.len
  have e : leftP (l.take (j + 1)) p = leftP (l.take j) p ++ [y] := by
    rw [leftP_del, List.take_add_one, hy, List.filter_append]
    simp only [Option.toList_some]
    rw [List.filter_cons_of_pos (by rw [hd]; decide)]
    simp [leftP_del]
  refine ⟨by rw [List.length_set]; exact hl, ?_, by rw [e, List.length_append, ← h.cnt]; rfl, ?_, by omega, hj⟩
  · rw [e, ← h.kept, List.take_add_one, List.take_set, List.getElem?_set_self (by omega)]
    rw [List.set_eq_of_length_le (by rw [List.length_take]; omega)]
    rfl
  · rw [List.drop_set_of_lt (by omega)]
    exact half_rest h
theorem half_end {l A : List Pr} {p : Pr} {i : Nat} (h : HalfD l p l.length i A) : A.take i = leftP l p ∧ i = (leftP l p).length := by
  have h1 := h.kept
  have h2 := h.cnt
  rw [List.take_length] at h1 h2
  exact ⟨h1, h2⟩
theorem find_at {α : Type} {l : List α} {q : α → Bool} {i : Nat} {p : α} (h : l[i]? = some p) (hn : ∀ y ∈ l.take i, q y = false) (he : q p = true) : l.find? q = some p := by
  have hi := (List.getElem?_eq_some_iff.1 h)
  rw [← List.take_append_drop i l, List.find?_append, List.find?_eq_none.2 (fun y hy => by rw [hn y hy]; decide), List.drop_eq_getElem_cons hi.1, hi.2, List.find?_cons_of_pos he]
  rfl
theorem pick_at {l : List Pr} {i w : Nat} {p : Pr} (h : l[i]? = some p) (hn : ∀ y ∈ l.take i, sizeM (leftP l y) ≠ w) (he : sizeM (leftP l p) = w) : pickM l w = some p :=
  find_at h (fun y hy => decide_eq_false (hn y hy)) (decide_eq_true he)
theorem pick_snoc {l : List Pr} {i w : Nat} {p : Pr} (h : l[i]? = some p) (hn : ∀ y ∈ l.take i, sizeM (leftP l y) ≠ w) (he : sizeM (leftP l p) ≠ w) : ∀ y ∈ l.take (i + 1), sizeM (leftP l y) ≠ w := fun z hz => by
  rw [List.take_add_one, h, List.mem_append] at hz
  rcases hz with hz | hz
  · exact hn z hz
  · rw [Option.toList_some, List.mem_singleton] at hz
    rw [hz]; exact he
theorem pick_never {l : List Pr} (hl : ∀ p ∈ l, pOk p) {w : Nat} (h : sizeM l = w + 1) (hn : ∀ y ∈ l, sizeM (leftP l y) ≠ w) : False := by
  obtain ⟨p, hp, e⟩ := left_ex hl h
  exact hn p hp e
theorem mat_step {l out M : List Pr} {w : Nat} {p : Pr} (h : pickM l w = some p) (ho : out ++ matM (w + 1) l = M) : (out ++ [p]) ++ matM w (leftP l p) = M := by
  rw [← ho]
  conv => rhs; unfold matM
  rw [h, List.append_assoc]; rfl
theorem leftP_len (l : List Pr) (p : Pr) : (leftP l p).length ≤ l.length := List.length_filter_le _ _
theorem WL_cut {P : Program} {m : Md} {ops : Array Oper} {Q : Exit → Act → World → Prop} {w0 : World} {n : Nat} {rest : List Oper} {L : List (Nat × Value)} {A : List Asn} {a : Option Nat} {cap e : Nat} {T : TypeId} {f : Pr → List Value} {l l2 : List Pr} (k : WL P m ops Q w0 n rest L (arr a cap e T f l :: A)) : WL P m ops Q w0 n rest L (arr a cap e T f (l ++ l2) :: A) :=
  WL_imp (fun _ h => sat_imp arr_takeN h) k
end Go.HyM
