/-
  Contracts of functions that the claim reaches, or the logic and the plain laws that they rest on, or the row over them. (Conditions: none beyond the statement.)
-/
import Derived.Laws.FloatArith
import Derived.Test.YtilmiikfjcdllaaLibA
import Derived.Test.YtilmiikfjcdllaaShA
import Derived.Test.YtilmiikfjcdllaaSvLA
import Derived.Test.YtilmiikfjcdllaaLibS
import Derived.Test.YtilmiikfjcdllaaLibC
import Derived.Test.YtilmiikfjcdllaaLibB
set_option linter.all false
/-
  Floats from nought to one: what is added up and multiplied of them stays there. (Conditions: none; no program in sight.)
-/
set_option maxRecDepth 20000
namespace Go.Fl
open Ieee
def ONE : Nat := 1023 * 2 ^ 52
def SW : Nat := 2 ^ 63
theorem c_bin : double.binade = 2 ^ 52 := rfl
theorem pwA {a b c : Nat} (h : a + b = c) (m i : Nat) : m * 2 ^ i * (2 ^ a * 2 ^ b) = m * 2 ^ (i + c) := by
  subst h
  rw [← Nat.pow_add, Nat.mul_assoc, ← Nat.pow_add]
theorem pwB {X Y a b : Nat} (h : 2 * X < Y * 2 ^ a) : 2 * (X * 2 ^ b) < Y * 2 ^ (a + b) := by
  rw [Nat.pow_add, ← Nat.mul_assoc, ← Nat.mul_assoc]
  exact Nat.mul_lt_mul_of_pos_right h (Nat.two_pow_pos _)
theorem pwD {T M a i b : Nat} (h : 2 * (T * 2 ^ a) < M * 2 ^ i) : 2 * (T * 2 ^ (a + b)) < M * 2 ^ (i + b) := by
  rw [Nat.pow_add, Nat.pow_add, ← Nat.mul_assoc T, ← Nat.mul_assoc 2, ← Nat.mul_assoc M]
  exact Nat.mul_lt_mul_of_pos_right h (Nat.two_pow_pos _)
theorem pwF (a : Nat) : (2 * 2 ^ 52 + 1) * 2 ^ a = 2 * (2 ^ 52 * 2 ^ a) + 2 ^ a := by rw [Nat.add_mul, Nat.one_mul, Nat.mul_assoc]
theorem pwG {X a b : Nat} (h : X ≤ 2 ^ 52 * 2 ^ a) : 2 * (X * 2 ^ b) < (2 * 2 ^ 52 + 1) * 2 ^ (a + b) := by
  rw [Nat.pow_add, ← Nat.mul_assoc, ← Nat.mul_assoc]
  refine Nat.mul_lt_mul_of_pos_right ?_ (Nat.two_pow_pos _)
  rw [pwF]
  have := Nat.two_pow_pos a
  generalize 2 ^ 52 * 2 ^ a = z at *
  omega
theorem pwH {D a b : Nat} (h0 : D ≠ 0) (h : D < 2 ^ a * 2 ^ b) : D.log2 < a + b := (Nat.log2_lt h0).2 (by rw [Nat.pow_add]; exact h)
theorem pwI {g a : Nat} (h : g ≤ a) : 2 ^ g ≤ 2 ^ a := Nat.pow_le_pow_right (by omega) h
theorem pwJ {V a c : Nat} (hc : c = 2 + a) (h : V ≤ 2 ^ 52 * 2 ^ c + 2 ^ a) : 2 * V < (2 * 2 ^ 52 + 1) * 2 ^ c := by
  have e2 : 2 ^ c = 4 * 2 ^ a := by rw [hc, Nat.pow_add]
  have := Nat.two_pow_pos a
  rw [pwF]
  rw [e2] at h ⊢
  generalize 2 ^ a = w at *
  omega
theorem c_lp : double.leastPlace = -1074 := by decide
theorem c_inf : double.infRung = 2047 * 2 ^ 52 := by decide
theorem c_sw : double.signWeight = 2 ^ 63 := rfl
theorem cut_near {neg : Bool} {n drop q : Nat} (h : 2 * n < (2 * q + 1) * 2 ^ drop) : Toward.even.cut neg n drop ≤ q := by
  unfold Toward.cut
  simp only [Nat.shiftLeft_eq, Nat.one_mul]
  by_cases hd : drop ≤ n.log2 + 2
  · rw [Nat.min_eq_left hd]
    have hg : 0 < 2 ^ drop := Nat.two_pow_pos _
    generalize 2 ^ drop = g at *
    have e := Nat.div_add_mod n g
    have hr := Nat.mod_lt n hg
    generalize n / g = lo at *
    generalize n % g = re at *
    have hlo : lo ≤ q := by
      rcases Nat.lt_or_ge q lo with k | k
      · exfalso
        have h1 : g * (q + 1) ≤ g * lo := Nat.mul_le_mul_left _ k
        have h2 : (2 * q + 1) * g = 2 * (g * q) + g := by rw [Nat.add_mul, Nat.one_mul, Nat.mul_assoc, Nat.mul_comm q g]
        rw [Nat.mul_add, Nat.mul_one] at h1
        omega
      · exact k
    by_cases hq : lo = q
    · subst hq
      have h2 : (2 * lo + 1) * g = 2 * (g * lo) + g := by rw [Nat.add_mul, Nat.one_mul, Nat.mul_assoc, Nat.mul_comm lo g]
      have h3 : 2 * re < g := by omega
      have e1 : decide (g < 2 * re) = false := by simp; omega
      have e2 : (g == 2 * re) = false := by simp; omega
      rw [e1, e2]; simp
    · have : ∀ b : Bool, b.toNat ≤ 1 := fun b => by cases b <;> decide
      have := this (decide (g < 2 * re) || (g == 2 * re && lo % 2 == 1))
      omega
  · rw [Nat.min_eq_right (by omega)]
    have hn : n < 2 ^ (n.log2 + 1) := Nat.lt_log2_self
    have hp : 2 ^ (n.log2 + 2) = 2 * 2 ^ (n.log2 + 1) := by rw [Nat.pow_succ, Nat.mul_comm]
    have hlt : n < 2 ^ (n.log2 + 2) := by omega
    rw [Nat.div_eq_of_lt hlt, Nat.mod_eq_of_lt hlt]
    have e1 : decide (2 ^ (n.log2 + 2) < 2 * n) = false := by simp; omega
    have e2 : (2 ^ (n.log2 + 2) == 2 * n) = false := by simp; omega
    rw [e1, e2]; simp
theorem near_le {mag a m i : Nat} {pl : Int} (hpl : pl = (a : Int) - 2148) (hm : m < 2 ^ 53) (hn : i = 0 ∨ 2 ^ 52 ≤ m) (h : 2 * (mag * 2 ^ a) < (2 * m + 1) * 2 ^ (i + 1074)) : double.nearest false mag pl ≤ i * 2 ^ 52 + m := by
  unfold Format.nearest
  by_cases h0 : mag = 0
  · rw [if_pos h0]; exact Nat.zero_le _
  rw [if_neg h0]
  simp only [c_lp, c_bin, Format.word, Bool.false_eq_true, if_false]
  rw [show (double.fractionBits : Int) = 52 from rfl]
  generalize hL : ((max (pl + (mag.log2 : Int) - 52) (-1074)) + 1074).toNat = L
  have hlast : max (pl + (mag.log2 : Int) - 52) (-1074) = (L : Int) - 1074 := by omega
  rw [hlast]
  have hLv : L = a + mag.log2 - 1126 := by omega
  have e1 : ((L : Int) - 1074 - -1074).toNat = L := by omega
  have e2 : (pl - ((L : Int) - 1074)).toNat = a - 1074 - L := by omega
  have e3 : ((L : Int) - 1074 - pl).toNat = L + 1074 - a := by omega
  rw [e1, e2, e3]
  refine Nat.le_trans (Nat.min_le_left _ _) ?_
  have hlo : 2 ^ mag.log2 ≤ mag := Nat.log2_self_le h0
  have hhi : mag < 2 ^ (mag.log2 + 1) := Nat.lt_log2_self
  have hLi : L ≤ i := by
    have h1 : 2 ^ (mag.log2 + a + 1) ≤ 2 * (mag * 2 ^ a) := by
      rw [Nat.pow_succ, Nat.pow_add, Nat.mul_comm _ 2]
      exact Nat.mul_le_mul_left _ (Nat.mul_le_mul_right _ hlo)
    have h2 : (2 * m + 1) * 2 ^ (i + 1074) ≤ 2 ^ (i + 1128) := by
      rw [show i + 1128 = 54 + (i + 1074) by omega, Nat.pow_add 2 54]
      exact Nat.mul_le_mul_right _ (by omega)
    have h3 : mag.log2 + a + 1 < i + 1128 := (Nat.pow_lt_pow_iff_right (by omega : 1 < 2)).1 (Nat.lt_of_le_of_lt h1 (Nat.lt_of_lt_of_le h h2))
    omega
  -- what is kept, held against a bound that is given at the scale of all
  have key : ∀ q : Nat, 2 * (mag * 2 ^ a) < (2 * q + 1) * 2 ^ (L + 1074) → Toward.even.cut false (mag <<< (a - 1074 - L)) (L + 1074 - a) ≤ q := fun q hq => by
    refine cut_near ?_
    rw [Nat.shiftLeft_eq]
    have hp : 0 < 2 ^ (min a (L + 1074)) := Nat.two_pow_pos _
    refine Nat.lt_of_mul_lt_mul_right (a := 2 ^ (min a (L + 1074))) ?_
    have f1 : 2 * (mag * 2 ^ (a - 1074 - L)) * 2 ^ (min a (L + 1074)) = 2 * (mag * 2 ^ a) := by
      rw [Nat.mul_assoc, Nat.mul_assoc, ← Nat.pow_add]
      rw [show a - 1074 - L + min a (L + 1074) = a by omega]
    have f2 : (2 * q + 1) * 2 ^ (L + 1074 - a) * 2 ^ (min a (L + 1074)) = (2 * q + 1) * 2 ^ (L + 1074) := by
      rw [Nat.mul_assoc, ← Nat.pow_add]
      rw [show L + 1074 - a + min a (L + 1074) = L + 1074 by omega]
    rw [f1, f2]; exact hq
  by_cases hLe : L = i
  · subst hLe
    have := key m h
    omega
  · have h53 := key (2 ^ 53) (by
      have g1 : mag * 2 ^ a < 2 ^ (mag.log2 + 1) * 2 ^ a := Nat.mul_lt_mul_of_pos_right hhi (Nat.two_pow_pos _)
      have g2 : 2 ^ (mag.log2 + 1) * 2 ^ a ≤ 2 ^ 53 * 2 ^ (L + 1074) := by
        rw [← Nat.pow_add, ← Nat.pow_add]
        exact Nat.pow_le_pow_right (by omega) (by omega)
      have g3 : (2 * 2 ^ 53 + 1) * 2 ^ (L + 1074) = 2 * (2 ^ 53 * 2 ^ (L + 1074)) + 2 ^ (L + 1074) := by rw [Nat.add_mul, Nat.one_mul, Nat.mul_assoc]
      omega)
    have h4 : (L + 1) * 2 ^ 52 ≤ i * 2 ^ 52 := Nat.mul_le_mul_right _ (by omega)
    rw [Nat.add_mul, Nat.one_mul] at h4
    omega
def rM (b : Nat) : Nat := if b < 2 ^ 52 then b else 2 ^ 52 + b % 2 ^ 52
def rI (b : Nat) : Nat := if b < 2 ^ 52 then 0 else b / 2 ^ 52 - 1
def val (b : Nat) : Nat := rM b * 2 ^ rI b
theorem read_fin {b : Nat} (h : b < 2047 * 2 ^ 52) : double.read b = .number false (rM b) ((rI b : Int) - 1074) := by
  unfold Format.read rM rI
  simp only [c_sw, c_bin, c_lp, c_inf]
  rw [Nat.mod_eq_of_lt (show b < 2 ^ 63 by omega), Nat.div_eq_of_lt (show b < 2 ^ 63 by omega)]
  by_cases h1 : b < 2 ^ 52
  · rw [if_pos h1, if_pos h1, if_pos h1]; rfl
  · rw [if_neg h1, if_pos h, if_neg h1, if_neg h1]
    have e : ((-1074 : Int) + ((b / 2 ^ 52 - 1 : Nat) : Int)) = ((b / 2 ^ 52 - 1 : Nat) : Int) - 1074 := by omega
    rw [e]; rfl
theorem read_nz : double.read SW = .number true 0 (-1074) := by decide
theorem rung_eq (b : Nat) : rI b * 2 ^ 52 + rM b = b := by
  unfold rI rM
  split
  · omega
  · have := Nat.div_add_mod b (2 ^ 52)
    have h1 : 1 ≤ b / 2 ^ 52 := Nat.div_pos (by omega) (by omega)
    omega
theorem rM_lt (b : Nat) : rM b < 2 ^ 53 := by unfold rM; split <;> omega
theorem rM_n (b : Nat) : rI b = 0 ∨ 2 ^ 52 ≤ rM b := by
  unfold rI rM
  split
  · exact .inl rfl
  · exact .inr (by omega)
theorem rI_le {b : Nat} (h : b ≤ ONE) : rI b ≤ 1022 := by
  unfold rI; unfold ONE at h
  split <;> omega
theorem val_mono {b c : Nat} (h : b ≤ c) : val b ≤ val c := by
  have e1 := rung_eq b
  have e2 := rung_eq c
  have m1 := rM_lt b
  have m2 := rM_lt c
  have n1 := rM_n b
  have n2 := rM_n c
  unfold val
  generalize rM b = mb at *
  generalize rM c = mc at *
  generalize rI b = ib at *
  generalize rI c = ic at *
  rcases Nat.lt_trichotomy ib ic with q | q | q
  · have hc : 2 ^ 52 ≤ mc := by omega
    calc mb * 2 ^ ib ≤ 2 ^ 53 * 2 ^ ib := Nat.mul_le_mul_right _ (by omega)
      _ = 2 ^ 52 * 2 ^ (ib + 1) := by rw [← Nat.pow_add, ← Nat.pow_add]; congr 1; omega
      _ ≤ 2 ^ 52 * 2 ^ ic := Nat.mul_le_mul_left _ (Nat.pow_le_pow_right (by omega) q)
      _ ≤ mc * 2 ^ ic := Nat.mul_le_mul_right _ hc
  · subst q
    exact Nat.mul_le_mul_right _ (by omega)
  · exfalso
    omega
theorem val_rung {i m : Nat} (hn : i = 0 ∨ 2 ^ 52 ≤ m) (hm : m < 2 ^ 53) : val (i * 2 ^ 52 + m) = m * 2 ^ i := by
  unfold val rM rI
  by_cases h : i * 2 ^ 52 + m < 2 ^ 52
  · rw [if_pos h, if_pos h]
    have hi : i = 0 := by omega
    subst hi; simp
  · rw [if_neg h, if_neg h]
    by_cases hm2 : m < 2 ^ 52
    · exfalso; omega
    · have e1 : (i * 2 ^ 52 + m) / 2 ^ 52 = i + 1 := by omega
      have e2 : (i * 2 ^ 52 + m) % 2 ^ 52 = m - 2 ^ 52 := by omega
      rw [e1, e2, Nat.add_sub_cancel, show 2 ^ 52 + (m - 2 ^ 52) = m by omega]
theorem val_one : val ONE = 2 ^ 52 * 2 ^ 1022 := by
  have h1 : rM ONE = 2 ^ 52 := by decide
  have h2 : rI ONE = 1022 := by decide
  unfold val; rw [h1, h2]
theorem val_le {b : Nat} (h : b ≤ ONE) : val b ≤ 2 ^ 52 * 2 ^ 1022 := by
  rw [← val_one]; exact val_mono h
theorem one_eq : ONE = 1022 * 2 ^ 52 + 2 ^ 52 := by decide
theorem mul_le {a b : Nat} (ha : a ≤ ONE) (hb : b ≤ ONE) : ∃ r, double.mul a b = some r ∧ r ≤ a ∧ r ≤ b := by
  have la : a < 2047 * 2 ^ 52 := by unfold ONE at ha; omega
  have lb : b < 2047 * 2 ^ 52 := by unfold ONE at hb; omega
  unfold Format.mul
  rw [read_fin la, read_fin lb]
  have half : ∀ m k w : Nat, k * w ≤ 2 ^ 52 * 2 ^ 1022 → ∀ i, 2 * (m * k * 2 ^ i * w) < (2 * m + 1) * 2 ^ (i + 1074) := fun m k w hw i => by
    have e : m * k * 2 ^ i * w = m * 2 ^ i * (k * w) := by rw [Nat.mul_assoc, Nat.mul_assoc, Nat.mul_assoc, Nat.mul_left_comm k]
    rw [e]
    have h1 : m * 2 ^ i * (k * w) ≤ m * 2 ^ i * (2 ^ 52 * 2 ^ 1022) := Nat.mul_le_mul_left _ hw
    have h2 : m * 2 ^ i * (2 ^ 52 * 2 ^ 1022) = m * 2 ^ (i + 1074) := pwA (a := 52) (b := 1022) (c := 1074) rfl m i
    have h3 : 0 < 2 ^ (i + 1074) := Nat.two_pow_pos _
    have h4 : (2 * m + 1) * 2 ^ (i + 1074) = 2 * (m * 2 ^ (i + 1074)) + 2 ^ (i + 1074) := by rw [Nat.add_mul, Nat.one_mul, Nat.mul_assoc]
    rw [h2] at h1
    generalize 2 ^ (i + 1074) = z at *
    omega
  have hpl : ((rI a : Int) - 1074) + ((rI b : Int) - 1074) = ((rI a + rI b : Nat) : Int) - 2148 := by omega
  refine ⟨_, rfl, ?_, ?_⟩
  · have := near_le (mag := rM a * rM b) hpl (rM_lt a) (rM_n a) (by
      have := half (rM a) (rM b) (2 ^ rI b) (val_le hb) (rI a)
      rw [Nat.pow_add, ← Nat.mul_assoc (rM a * rM b)]; exact this)
    rw [rung_eq] at this; exact this
  · have := near_le (mag := rM a * rM b) hpl (rM_lt b) (rM_n b) (by
      have := half (rM b) (rM a) (2 ^ rI a) (val_le ha) (rI b)
      rw [Nat.pow_add, Nat.mul_comm (2 ^ rI a), Nat.mul_comm (rM a), ← Nat.mul_assoc (rM b * rM a)]; exact this)
    rw [rung_eq] at this; exact this
theorem signed_f (m u : Nat) : signed false m u = ((m * 2 ^ u : Nat) : Int) := by unfold signed; simp [Nat.shiftLeft_eq]
theorem signed_t (m u : Nat) : signed true m u = -((m * 2 ^ u : Nat) : Int) := by unfold signed; simp [Nat.shiftLeft_eq]
theorem sum_pos {m n i j : Nat} {a b : Int} (ha : a = (i : Int) - 1074) (hb : b = (j : Int) - 1074) : Datum.sum (.number false m a) (.number false n b) = some (.number false (m * 2 ^ (i - min i j) + n * 2 ^ (j - min i j)) (((min i j : Nat) : Int) - 1074)) := by
  unfold Datum.sum
  have e0 : min a b = ((min i j : Nat) : Int) - 1074 := by omega
  simp only [e0]
  have e1 : (a - (((min i j : Nat) : Int) - 1074)).toNat = i - min i j := by omega
  have e2 : (b - (((min i j : Nat) : Int) - 1074)).toNat = j - min i j := by omega
  rw [e1, e2, signed_f, signed_f]
  have e3 : ((m * 2 ^ (i - min i j) : Nat) : Int) + ((n * 2 ^ (j - min i j) : Nat) : Int) = ((m * 2 ^ (i - min i j) + n * 2 ^ (j - min i j) : Nat) : Int) := by omega
  rw [e3]
  generalize m * 2 ^ (i - min i j) + n * 2 ^ (j - min i j) = T
  congr 2
  · by_cases h : (T : Int) = 0
    · rw [if_pos h]; rfl
    · rw [if_neg h]; simp
theorem add_one {u v : Nat} (hu : u ≤ ONE) (hv : v ≤ ONE) (h : 2 * (val u + val v) < (2 * 2 ^ 52 + 1) * 2 ^ 1022) : ∃ r, double.add u v = some r ∧ r ≤ ONE := by
  have lu : u < 2047 * 2 ^ 52 := by unfold ONE at hu; omega
  have lv : v < 2047 * 2 ^ 52 := by unfold ONE at hv; omega
  unfold Format.add
  rw [read_fin lu, read_fin lv, sum_pos rfl rfl]
  refine ⟨_, rfl, ?_⟩
  rw [one_eq]
  refine near_le (a := min (rI u) (rI v) + 1074) (by omega) (by omega) (.inr (Nat.le_refl _)) ?_
  have e : (rM u * 2 ^ (rI u - min (rI u) (rI v)) + rM v * 2 ^ (rI v - min (rI u) (rI v))) * 2 ^ (min (rI u) (rI v) + 1074) = (val u + val v) * 2 ^ 1074 := by
    rw [Nat.pow_add, ← Nat.mul_assoc, Nat.add_mul, Nat.mul_assoc, Nat.mul_assoc, ← Nat.pow_add, ← Nat.pow_add]
    rw [show rI u - min (rI u) (rI v) + min (rI u) (rI v) = rI u by omega, show rI v - min (rI u) (rI v) + min (rI u) (rI v) = rI v by omega]
    rfl
  rw [e]
  have e3 := pwB (X := val u + val v) (Y := 2 * 2 ^ 52 + 1) (a := 1022) (b := 1074) h
  exact e3
theorem sub_one {x : Nat} (hx : x ≤ ONE) : ∃ y, double.sub ONE x = some y ∧ y ≤ ONE ∧ 2 * (val y + val x) < (2 * 2 ^ 52 + 1) * 2 ^ 1022 := by
  have lx : x < 2047 * 2 ^ 52 := by unfold ONE at hx; omega
  have hix := rI_le hx
  have hvx := val_le hx
  have r1 : double.read ONE = .number false (2 ^ 52) ((1022 : Nat) - 1074 : Int) := by decide
  unfold Format.sub
  rw [r1, read_fin lx]
  simp only [Datum.opposite, Bool.not_false]
  -- the exact difference
  have hsum : Datum.sum (.number false (2 ^ 52) ((1022 : Nat) - 1074 : Int)) (.number true (rM x) ((rI x : Int) - 1074)) = some (.number false (2 ^ 52 * 2 ^ (1022 - rI x) - rM x) ((rI x : Int) - 1074)) := by
    unfold Datum.sum
    have e0 : min (((1022 : Nat) : Int) - 1074) ((rI x : Int) - 1074) = (rI x : Int) - 1074 := by omega
    simp only [e0]
    have e1 : (((1022 : Nat) : Int) - 1074 - ((rI x : Int) - 1074)).toNat = 1022 - rI x := by omega
    have e2 : ((rI x : Int) - 1074 - ((rI x : Int) - 1074)).toNat = 0 := by omega
    rw [e1, e2, signed_f, signed_t, Nat.pow_zero, Nat.mul_one]
    have hle : rM x ≤ 2 ^ 52 * 2 ^ (1022 - rI x) := by
      refine Nat.le_of_mul_le_mul_right (c := 2 ^ rI x) ?_ (Nat.two_pow_pos _)
      rw [Nat.mul_assoc, ← Nat.pow_add, show 1022 - rI x + rI x = 1022 by omega]
      exact hvx
    have e3 : ((2 ^ 52 * 2 ^ (1022 - rI x) : Nat) : Int) + -((rM x : Nat) : Int) = ((2 ^ 52 * 2 ^ (1022 - rI x) - rM x : Nat) : Int) := by omega
    rw [e3]
    generalize 2 ^ 52 * 2 ^ (1022 - rI x) - rM x = T
    congr 2
    by_cases h : (T : Int) = 0
    · rw [if_pos h]; rfl
    · rw [if_neg h]; simp
  rw [hsum]
  generalize hT : 2 ^ 52 * 2 ^ (1022 - rI x) - rM x = T
  -- at the scale of all
  have hD : T * 2 ^ rI x + val x = 2 ^ 52 * 2 ^ 1022 := by
    rw [← hT, Nat.sub_mul, Nat.mul_assoc, ← Nat.pow_add, show 1022 - rI x + rI x = 1022 by omega]
    generalize 2 ^ 52 * 2 ^ 1022 = Z at hvx ⊢
    exact Nat.sub_add_cancel hvx
  have near : ∀ m i : Nat, m < 2 ^ 53 → (i = 0 ∨ 2 ^ 52 ≤ m) → 2 * (T * 2 ^ rI x) < (2 * m + 1) * 2 ^ i → double.nearest false T ((rI x : Int) - 1074) ≤ i * 2 ^ 52 + m := fun m i h1 h2 h3 => by
    refine near_le (a := rI x + 1074) (by omega) h1 h2 ?_
    exact pwD (b := 1074) h3
  refine ⟨_, rfl, ?_⟩
  show double.nearest false T ((rI x : Int) - 1074) ≤ ONE ∧ 2 * (val (double.nearest false T ((rI x : Int) - 1074)) + val x) < (2 * 2 ^ 52 + 1) * 2 ^ 1022
  have hone : double.nearest false T ((rI x : Int) - 1074) ≤ ONE := by
    rw [one_eq]
    refine near _ _ (by omega) (.inr (Nat.le_refl _)) ?_
    have := Nat.two_pow_pos 1022
    have e := pwF 1022
    rw [e]
    generalize 2 ^ 52 * 2 ^ 1022 = z at *
    omega
  refine ⟨hone, ?_⟩
  generalize hy : double.nearest false T ((rI x : Int) - 1074) = y at *
  -- the value of what is written is at most that of a rung that is at most a bit above
  have hbound : val y + val x ≤ 2 ^ 52 * 2 ^ 1022 + 2 ^ 1020 := by
    generalize hDd : T * 2 ^ rI x = D at *
    by_cases hx0 : D = 2 ^ 52 * 2 ^ 1022
    · have := val_le hone
      omega
    · have hDlt : D < 2 ^ 52 * 2 ^ 1022 := by omega
      by_cases hD0 : D = 0
      · have h0 := near 0 0 (by omega) (.inl rfl) (by rw [hD0]; decide)
        have : val y ≤ val 0 := val_mono (by omega)
        have hv0 : val 0 = 0 := by decide
        omega
      -- the scale of the difference
      have hlog := pwH (a := 52) (b := 1022) hD0 hDlt
      generalize hi : D.log2 - 52 = i
      have hi1 : i ≤ 1021 := by omega
      have hlo : 2 ^ D.log2 ≤ D := Nat.log2_self_le hD0
      have hhi : D < 2 ^ (D.log2 + 1) := Nat.lt_log2_self
      have hDi : D < 2 ^ 53 * 2 ^ i := by
        rw [← Nat.pow_add]
        exact Nat.lt_of_lt_of_le hhi (Nat.pow_le_pow_right (by omega) (by omega))
      by_cases hi0 : i = 0
      · rw [hi0, Nat.pow_zero, Nat.mul_one] at hDi
        have h1 := near D 0 (by omega) (.inl rfl) (by rw [Nat.pow_zero]; omega)
        have h2 : val y ≤ val D := val_mono (by omega)
        have h3 : val D ≤ D := by
          have e := rung_eq D
          have hn := rM_n D
          have hm := rM_lt D
          unfold val
          have : rI D = 0 ∨ rI D = 1 := by unfold rI; split <;> omega
          rcases this with q | q
          · rw [q] at e ⊢; rw [Nat.pow_zero]; omega
          · exfalso
            rw [q] at e; omega
        have := Nat.two_pow_pos 1020
        omega
      · have hlo2 : 2 ^ 52 * 2 ^ i ≤ D := by
          rw [← Nat.pow_add]
          exact Nat.le_trans (Nat.pow_le_pow_right (by omega) (by omega)) hlo
        obtain ⟨g, hg⟩ : ∃ g, i = g + 1 := ⟨i - 1, by omega⟩
        have hpg : 2 ^ i = 2 * 2 ^ g := by rw [hg, Nat.pow_succ, Nat.mul_comm]
        have hgp := Nat.two_pow_pos g
        have hgl := pwI (g := g) (a := 1020) (by omega)
        -- rounded to the nearer, up at a half
        generalize hm : (D + 2 ^ g) / 2 ^ i = m
        have hmd := Nat.div_add_mod (D + 2 ^ g) (2 ^ i)
        have hmr := Nat.mod_lt (D + 2 ^ g) (Nat.two_pow_pos i)
        rw [hm] at hmd
        have hup : 2 ^ i * m ≤ D + 2 ^ g := by omega
        have hdn : 2 * D < (2 * m + 1) * 2 ^ i := by
          have e : (2 * m + 1) * 2 ^ i = 2 * (2 ^ i * m) + 2 ^ i := by rw [Nat.add_mul, Nat.one_mul, Nat.mul_assoc, Nat.mul_comm m]
          rw [e]; omega
        have hm52 : 2 ^ 52 ≤ m := by
          rw [← hm]
          exact (Nat.le_div_iff_mul_le (Nat.two_pow_pos i)).2 (by omega)
        have hm53 : m ≤ 2 ^ 53 := by
          rcases Nat.lt_or_ge (2 ^ 53) m with k | k
          · exfalso
            have : 2 ^ i * (2 ^ 53 + 1) ≤ 2 ^ i * m := Nat.mul_le_mul_left _ k
            rw [Nat.mul_add, Nat.mul_one, Nat.mul_comm (2 ^ i) (2 ^ 53)] at this
            omega
          · exact k
        have hval : val y ≤ 2 ^ i * m := by
          rcases Nat.lt_or_ge m (2 ^ 53) with k | k
          · have h1 := near m i k (.inr hm52) hdn
            have h2 : val y ≤ val (i * 2 ^ 52 + m) := val_mono h1
            have h3 : val (i * 2 ^ 52 + m) = m * 2 ^ i := val_rung (.inr hm52) k
            rw [h3, Nat.mul_comm] at h2; exact h2
          · have km : m = 2 ^ 53 := by omega
            have h1 := near (2 ^ 52) (i + 1) (by omega) (.inr (Nat.le_refl _)) (by
              rw [Nat.pow_succ]
              rw [km] at hdn
              have : (2 * 2 ^ 53 + 1) * 2 ^ i ≤ (2 * 2 ^ 52 + 1) * (2 ^ i * 2) := by
                rw [Nat.mul_comm (2 ^ i) 2, ← Nat.mul_assoc]
                exact Nat.mul_le_mul_right _ (by omega)
              omega)
            have h2 : val y ≤ val ((i + 1) * 2 ^ 52 + 2 ^ 52) := val_mono h1
            have h3 : val ((i + 1) * 2 ^ 52 + 2 ^ 52) = 2 ^ 52 * 2 ^ (i + 1) := val_rung (.inr (Nat.le_refl _)) (by omega)
            rw [h3, Nat.pow_succ] at h2
            rw [km]
            have : 2 ^ 52 * (2 ^ i * 2) = 2 ^ i * 2 ^ 53 := by generalize 2 ^ i = z; omega
            omega
        omega
  have k := pwJ (a := 1020) (c := 1022) rfl hbound
  exact k
end Go.Fl
/-
  Operations on floats, as a walk meets them; sums of what is not below nought. (Conditions: none; generic over the program.)
-/
set_option maxRecDepth 20000
namespace Go.Fl
open Ieee Go.SL Go.RowKit
def U (x : Nat) : Prop := x ≤ ONE ∨ x = SW
def chB (x : Nat) : Bool := (double.order x 0 == some .gt || double.order x 0 == some .eq) && (double.order x ONE == some .lt || double.order x ONE == some .eq)
theorem read_pos {x : Nat} (h : x < 2 ^ 63) : double.read x = if x < 2047 * 2 ^ 52 then .number false (rM x) ((rI x : Int) - 1074) else if x = 2047 * 2 ^ 52 then .infinity false else .nan false (x - 2047 * 2 ^ 52) := by
  by_cases h1 : x < 2047 * 2 ^ 52
  · rw [if_pos h1, read_fin h1]
  · rw [if_neg h1]
    unfold Format.read
    simp only [c_sw, c_bin, c_lp, c_inf]
    rw [Nat.mod_eq_of_lt h, Nat.div_eq_of_lt h, if_neg (by omega), if_neg h1]
    rfl
theorem read_neg {x : Nat} (h0 : 2 ^ 63 ≤ x) (h : x < 2 ^ 64) : double.read x = if x - 2 ^ 63 < 2047 * 2 ^ 52 then .number true (rM (x - 2 ^ 63)) ((rI (x - 2 ^ 63) : Int) - 1074) else if x - 2 ^ 63 = 2047 * 2 ^ 52 then .infinity true else .nan true (x - 2 ^ 63 - 2047 * 2 ^ 52) := by
  have e1 : x / 2 ^ 63 = 1 := by omega
  obtain ⟨z, hz⟩ : ∃ z, x - 2 ^ 63 = z := ⟨_, rfl⟩
  have e2 : x % 2 ^ 63 = z := by omega
  rw [hz]
  unfold Format.read rM rI
  simp only [c_sw, c_bin, c_lp, c_inf]
  rw [e1, e2]
  by_cases h1 : z < 2 ^ 52
  · rw [if_pos h1, if_pos (by omega : z < 2047 * 2 ^ 52), if_pos h1, if_pos h1]; rfl
  · rw [if_neg h1]
    by_cases h2 : z < 2047 * 2 ^ 52
    · rw [if_pos h2, if_pos h2, if_neg h1, if_neg h1]
      have e : ((-1074 : Int) + ((z / 2 ^ 52 - 1 : Nat) : Int)) = ((z / 2 ^ 52 - 1 : Nat) : Int) - 1074 := by omega
      rw [e]; rfl
    · rw [if_neg h2, if_neg h2]; rfl
theorem r_zero : double.read 0 = .number false 0 (-1074) := by decide
theorem r_one : double.read ONE = .number false (2 ^ 52) (((1022 : Nat) : Int) - 1074) := by decide
theorem chB_U {x : Nat} (hx : x < 2 ^ 64) (h : chB x = true) : U x := by
  unfold chB Format.order at h
  rw [r_zero, r_one] at h
  rcases Nat.lt_or_ge x (2 ^ 63) with k | k
  · rw [read_pos k] at h
    by_cases h1 : x < 2047 * 2 ^ 52
    · rw [if_pos h1] at h
      left
      rcases Nat.lt_or_ge ONE x with q | q
      · exfalso
        unfold Datum.order at h
        have e1 := rung_eq x
        have e2 := rM_lt x
        have e3 := rM_n x
        have hone := one_eq
        have hI : 1022 ≤ rI x := by omega
        have e4 : min ((rI x : Int) - 1074) (((1022 : Nat) : Int) - 1074) = ((1022 : Nat) : Int) - 1074 := by omega
        have e5 : ((rI x : Int) - 1074 - (((1022 : Nat) : Int) - 1074)).toNat = rI x - 1022 := by omega
        have e6 : ((((1022 : Nat) : Int) - 1074) - (((1022 : Nat) : Int) - 1074)).toNat = 0 := by omega
        simp only [e4, e5, e6, signed_f, Nat.pow_zero, Nat.mul_one] at h
        have hgt : 2 ^ 52 < rM x * 2 ^ (rI x - 1022) := by
          rcases Nat.lt_or_ge 1022 (rI x) with w | w
          · have : 2 ^ 52 * 2 ≤ rM x * 2 ^ (rI x - 1022) := Nat.mul_le_mul (by omega) (by
              have := Nat.pow_le_pow_right (n := 2) (by omega) (show 1 ≤ rI x - 1022 by omega)
              rw [Nat.pow_one] at this; exact this)
            omega
          · have w2 : rI x = 1022 := by omega
            rw [w2, Nat.sub_self, Nat.pow_zero, Nat.mul_one]
            omega
        generalize rM x * 2 ^ (rI x - 1022) = z at *
        have hc : compare ((z : Nat) : Int) ((2 ^ 52 : Nat) : Int) = .gt := by
          rw [Int.compare_eq_gt]; omega
        rw [hc] at h
        simp at h
      · exact q
    · rw [if_neg h1] at h
      exfalso
      split at h
      · simp [Datum.order] at h
      · simp [Datum.order] at h
  · rw [read_neg k hx] at h
    by_cases h1 : x - 2 ^ 63 < 2047 * 2 ^ 52
    · rw [if_pos h1] at h
      right
      unfold Datum.order at h
      have e4 : min ((rI (x - 2 ^ 63) : Int) - 1074) (-1074) = -1074 := by omega
      simp only [e4, signed_t, signed_f] at h
      rw [Bool.and_eq_true] at h
      have h2 := h.1
      have hz : rM (x - 2 ^ 63) = 0 := by
        rcases Nat.eq_zero_or_pos (rM (x - 2 ^ 63)) with q | q
        · exact q
        · exfalso
          have hp : 0 < rM (x - 2 ^ 63) * 2 ^ ((rI (x - 2 ^ 63) : Int) - 1074 - -1074).toNat := Nat.mul_pos q (Nat.two_pow_pos _)
          generalize rM (x - 2 ^ 63) * 2 ^ ((rI (x - 2 ^ 63) : Int) - 1074 - -1074).toNat = z at *
          have hc : compare (-((z : Nat) : Int)) ((0 * 2 ^ ((-1074 : Int) - -1074).toNat : Nat) : Int) = .lt := by
            rw [Int.compare_eq_lt]; omega
          rw [hc] at h2
          simp at h2
      have := rung_eq (x - 2 ^ 63)
      have h3 := rM_n (x - 2 ^ 63)
      unfold SW
      omega
    · rw [if_neg h1] at h
      exfalso
      split at h
      · simp [Datum.order] at h
      · simp [Datum.order] at h
def NN (b : Nat) : Prop := b ≤ 2047 * 2 ^ 52
theorem NN.of_one {b : Nat} (h : b ≤ ONE) : NN b := by unfold NN; unfold ONE at h; omega
theorem near_NN (mag : Nat) (pl : Int) : NN (double.nearest false mag pl) := by
  unfold Format.nearest NN
  simp only [Format.word, Bool.false_eq_true, if_false, c_inf]
  split
  · exact Nat.zero_le _
  · exact Nat.min_le_right _ _
theorem read_NN {b : Nat} (h : NN b) : (∃ m i : Nat, double.read b = .number false m ((i : Int) - 1074)) ∨ double.read b = .infinity false := by
  unfold NN at h
  rw [read_pos (by omega)]
  by_cases h1 : b < 2047 * 2 ^ 52
  · rw [if_pos h1]; exact .inl ⟨_, _, rfl⟩
  · rw [if_neg h1, if_pos (by omega)]; exact .inr rfl
theorem add_NN {a b : Nat} (ha : NN a) (hb : NN b) : ∃ r, double.add a b = some r ∧ NN r := by
  unfold Format.add
  rcases read_NN ha with ⟨m, i, e1⟩ | e1 <;> rcases read_NN hb with ⟨n, j, e2⟩ | e2 <;> rw [e1, e2]
  · rw [sum_pos rfl rfl]
    exact ⟨_, rfl, near_NN _ _⟩
  · exact ⟨_, rfl, by show NN (double.word false double.infRung); unfold NN; rw [c_inf]; exact Nat.le_refl _⟩
  · exact ⟨_, rfl, by show NN (double.word false double.infRung); unfold NN; rw [c_inf]; exact Nat.le_refl _⟩
  · exact ⟨_, rfl, by show NN (double.word false double.infRung); unfold NN; rw [c_inf]; exact Nat.le_refl _⟩
theorem ord_refl {a : Nat} (h : NN a) : double.order a a = some .eq := by
  unfold Format.order
  rcases read_NN h with ⟨m, i, e1⟩ | e1 <;> rw [e1]
  · unfold Datum.order; simp
  · unfold Datum.order; simp
theorem div_NN {a : Nat} (h : NN a) : ∃ r, double.div ONE a = some r ∧ NN r := by
  unfold Format.div
  rw [r_one]
  rcases read_NN h with ⟨m, i, e1⟩ | e1 <;> rw [e1]
  · unfold Datum.quotient
    dsimp only
    by_cases hm : m = 0
    · rw [if_pos hm, if_neg (by decide)]
      exact ⟨_, rfl, by show NN (double.word (false ^^ false) double.infRung); unfold NN; rw [c_inf]; exact Nat.le_refl _⟩
    · rw [if_neg hm]
      exact ⟨_, rfl, near_NN _ _⟩
  · exact ⟨_, rfl, near_NN _ _⟩
theorem mul_nz {p : Nat} (hp : p ≤ ONE) : double.mul p SW = some SW := by
  have lp : p < 2047 * 2 ^ 52 := by unfold ONE at hp; omega
  unfold Format.mul
  rw [read_fin lp, read_nz]
  unfold Datum.product
  dsimp only
  rw [Nat.mul_zero]
  show some (double.nearest (false ^^ true) 0 _) = some SW
  unfold Format.nearest
  rw [if_pos rfl]; rfl
theorem add_nz {u : Nat} (hu : u ≤ ONE) : ∃ r, double.add u SW = some r ∧ r ≤ ONE := by
  have lu : u < 2047 * 2 ^ 52 := by unfold ONE at hu; omega
  have hv := val_le hu
  unfold Format.add
  rw [read_fin lu, read_nz]
  have hs : Datum.sum (.number false (rM u) ((rI u : Int) - 1074)) (.number true 0 (-1074)) = some (.number false (rM u * 2 ^ rI u) ((0 : Nat) - 1074 : Int)) := by
    unfold Datum.sum
    have e0 : min ((rI u : Int) - 1074) (-1074) = ((0 : Nat) : Int) - 1074 := by omega
    simp only [e0]
    have e1 : ((rI u : Int) - 1074 - (((0 : Nat) : Int) - 1074)).toNat = rI u := by omega
    rw [e1, signed_f, signed_t, Nat.zero_mul]
    have e3 : ((rM u * 2 ^ rI u : Nat) : Int) + -((0 : Nat) : Int) = ((rM u * 2 ^ rI u : Nat) : Int) := by omega
    rw [e3]
    generalize rM u * 2 ^ rI u = T
    congr 2
    by_cases h : (T : Int) = 0
    · rw [if_pos h]; rfl
    · rw [if_neg h]; simp
  rw [hs]
  refine ⟨_, rfl, ?_⟩
  rw [one_eq]
  refine near_le (a := 1074) (by omega) (by omega) (.inr (Nat.le_refl _)) ?_
  unfold val at hv
  have k := pwG (b := 1074) hv
  exact k
theorem step1 {p q x : Nat} (hp : p ≤ ONE) (hq : q ≤ ONE) (hx : U x) : ∃ y a b c, double.sub ONE x = some y ∧ y ≤ ONE ∧ double.mul p y = some a ∧ a ≤ ONE ∧ double.mul q x = some b ∧ double.add a b = some c ∧ c ≤ ONE := by
  rcases hx with hx | rfl
  · obtain ⟨y, h1, h2, h3⟩ := sub_one hx
    obtain ⟨a, h4, h5, h6⟩ := mul_le hp h2
    obtain ⟨b, h7, h8, h9⟩ := mul_le hq hx
    obtain ⟨c, h10, h11⟩ := add_one (u := a) (v := b) (by omega) (by omega) (by
      have := val_mono h6
      have := val_mono h9
      omega)
    exact ⟨y, a, b, c, h1, h2, h4, by omega, h7, h10, h11⟩
  · obtain ⟨a, h4, h5, h6⟩ := mul_le hp (Nat.le_refl ONE)
    obtain ⟨c, h10, h11⟩ := add_nz (u := a) (by omega)
    exact ⟨ONE, a, SW, c, by decide +kernel, Nat.le_refl _, h4, by omega, mul_nz hq, h10, h11⟩
section
variable {P : Program} {n : Nat} {L : List (Nat × Value)} {A : List Asn} {d : Option Tmp} {ty : TypeId} {pos : String} {af : Array Edge} {g : Option (Nat × Bool)}
theorem Rd_fl {op : BinOp} {t t' : TypeId} {x y : Operand} {a b : Nat} {r : Value} (hx : ev L x = some (.float .f64 a)) (hy : ev L y = some (.float .f64 b))
    (h : ∀ w, (binOp op t (.float .f64 a) (.float .f64 b)).run P w = .ok r w) : Rd P n ⟨d, .binOp op t x y t', ty, pos, af, g⟩ L A r := fun ac w hf _ => by
  have e : eqGuard op t x y (.float .f64 a) (.float .f64 b) = pure () := by cases op <;> rfl
  simp only [execOp, hf.eval hx, hf.eval hy, e, Sem.run_bind, Sem.run_pure, Result.andThen_ok, h]
theorem Rd_fop {op : BinOp} {t t' : TypeId} {x y : Operand} {a b r : Nat} (hx : ev L x = some (.float .f64 a)) (hy : ev L y = some (.float .f64 b)) (h : floatBits op .f64 a b = some r) : Rd P n ⟨d, .binOp op t x y t', ty, pos, af, g⟩ L A (.float .f64 r) :=
  Rd_fl hx hy fun w => run_float_arith w op t .f64 a b r h
theorem Rd_fgeq {t t' : TypeId} {x y : Operand} {a b : Nat} (hx : ev L x = some (.float .f64 a)) (hy : ev L y = some (.float .f64 b)) : Rd P n ⟨d, .binOp .geq t x y t', ty, pos, af, g⟩ L A (.bool (double.order a b == some .gt || double.order a b == some .eq)) :=
  Rd_fl hx hy fun w => by rw [binOp_float_cmp_geq]; rfl
theorem Rd_fleq {t t' : TypeId} {x y : Operand} {a b : Nat} (hx : ev L x = some (.float .f64 a)) (hy : ev L y = some (.float .f64 b)) : Rd P n ⟨d, .binOp .leq t x y t', ty, pos, af, g⟩ L A (.bool (double.order a b == some .lt || double.order a b == some .eq)) :=
  Rd_fl hx hy fun w => by rw [binOp_float_cmp_leq]; rfl
theorem Rd_feql {t t' : TypeId} {x y : Operand} {a b : Nat} (hx : ev L x = some (.float .f64 a)) (hy : ev L y = some (.float .f64 b)) : Rd P n ⟨d, .binOp .eql t x y t', ty, pos, af, g⟩ L A (.bool (double.order a b == some .eq)) :=
  Rd_fl hx hy fun w => by rw [binOp_float_cmp_eql]; rfl
theorem Rd_fneq {t t' : TypeId} {x y : Operand} {a b : Nat} (hx : ev L x = some (.float .f64 a)) (hy : ev L y = some (.float .f64 b)) : Rd P n ⟨d, .binOp .neq t x y t', ty, pos, af, g⟩ L A (.bool (double.order a b != some .eq)) :=
  Rd_fl hx hy fun w => by rw [binOp_float_cmp_neq]; rfl
end
def eF (x : Nat) : List Value := [.float .f64 x]
theorem encF : Enc eF 1 := ⟨fun _ => rfl, fun x v hv => by simp [eF] at hv; subst hv; rfl⟩
end Go.Fl
/-
  How likely so many last: the floats, in plain words. (Conditions: none; no program in sight.)
-/
set_option maxRecDepth 20000
namespace Go.HyM
open Ieee Go.SL Go.RowKit Go.Fl
def fadd (a b : Nat) : Nat := (double.add a b).getD 0
def fmul (a b : Nat) : Nat := (double.mul a b).getD 0
def fsub (a b : Nat) : Nat := (double.sub a b).getD 0
theorem fsub_ok {x : Nat} (hx : U x) : floatBits .sub .f64 ONE x = some (fsub ONE x) ∧ fsub ONE x ≤ ONE := by
  obtain ⟨y, a, b, c, h1, h2, _⟩ := step1 (p := 0) (q := 0) (Nat.zero_le _) (Nat.zero_le _) hx
  unfold fsub
  rw [h1]; exact ⟨h1, h2⟩
theorem fmul_y {p x : Nat} (hp : p ≤ ONE) (hx : U x) : floatBits .mul .f64 p (fsub ONE x) = some (fmul p (fsub ONE x)) ∧ fmul p (fsub ONE x) ≤ ONE := by
  obtain ⟨y, a, b, c, h1, h2, h3, h4, _⟩ := step1 (p := p) (q := 0) hp (Nat.zero_le _) hx
  have e : fsub ONE x = y := by unfold fsub; rw [h1]; rfl
  rw [e]
  unfold fmul
  rw [h3]; exact ⟨h3, h4⟩
theorem fmul_x {q x : Nat} (hq : q ≤ ONE) (hx : U x) : floatBits .mul .f64 q x = some (fmul q x) := by
  obtain ⟨y, a, b, c, h1, h2, h3, h4, h5, _⟩ := step1 (p := 0) (q := q) (Nat.zero_le _) hq hx
  unfold fmul
  rw [h5]; exact h5
theorem fadd_xy {p q x : Nat} (hp : p ≤ ONE) (hq : q ≤ ONE) (hx : U x) : floatBits .add .f64 (fmul p (fsub ONE x)) (fmul q x) = some (fadd (fmul p (fsub ONE x)) (fmul q x)) ∧ fadd (fmul p (fsub ONE x)) (fmul q x) ≤ ONE := by
  obtain ⟨y, a, b, c, h1, h2, h3, h4, h5, h6, h7⟩ := step1 hp hq hx
  have e : fsub ONE x = y := by unfold fsub; rw [h1]; rfl
  have e2 : fmul p y = a := by unfold fmul; rw [h3]; rfl
  have e3 : fmul q x = b := by unfold fmul; rw [h5]; rfl
  rw [e, e2, e3]
  unfold fadd
  rw [h6]; exact ⟨h6, h7⟩
theorem fadd_nn {a b : Nat} (ha : NN a) (hb : NN b) : floatBits .add .f64 a b = some (fadd a b) ∧ NN (fadd a b) := by
  obtain ⟨r, h1, h2⟩ := add_NN ha hb
  unfold fadd
  rw [h1]; exact ⟨h1, h2⟩
def takeAt (p : List Nat) (c x j : Nat) : Nat := if c ≤ j then fadd (fmul (p.getD j 0) (fsub ONE x)) (fmul (p.getD (j - c) 0) x) else fmul (p.getD j 0) (fsub ONE x)
def takenM (p : List Nat) (c x : Nat) : List Nat := (List.range p.length).map (takeAt p c x)
theorem takenM_len (p : List Nat) (c x : Nat) : (takenM p c x).length = p.length := by unfold takenM; simp
def Un (p : List Nat) : Prop := ∀ v ∈ p, v ≤ ONE
theorem Un.at {p : List Nat} (h : Un p) (j : Nat) : p.getD j 0 ≤ ONE := by
  rw [List.getD_eq_getElem?_getD]
  cases e : p[j]? with
  | none => exact Nat.zero_le _
  | some v => exact h v (List.mem_of_getElem? e)
theorem takeAt_un {p : List Nat} {c x j : Nat} (h : Un p) (hx : U x) : takeAt p c x j ≤ ONE := by
  unfold takeAt
  split
  · exact (fadd_xy (h.at j) (h.at (j - c)) hx).2
  · exact (fmul_y (h.at j) hx).2
theorem takenM_un {p : List Nat} {c x : Nat} (h : Un p) (hx : U x) : Un (takenM p c x) := fun v hv => by
  unfold takenM at hv
  obtain ⟨j, _, rfl⟩ := List.mem_map.1 hv
  exact takeAt_un h hx
def mixL (p q : List Nat) (k : Nat) : List Nat := p.take k ++ q.drop k
theorem mixL_len {p q : List Nat} {k : Nat} (h : q.length = p.length) (hk : k ≤ p.length) : (mixL p q k).length = p.length := by unfold mixL; simp; omega
theorem mixL_all {p q : List Nat} (h : q.length = p.length) : mixL p q p.length = p := by unfold mixL; rw [List.take_length, List.drop_of_length_le (by omega), List.append_nil]
theorem mixL_0 (p q : List Nat) : mixL p q 0 = q := by unfold mixL; simp
theorem mixL_lo {p q : List Nat} {k j : Nat} (hj : j < k) (hk : k ≤ p.length) : (mixL p q k)[j]? = some (p.getD j 0) := by
  unfold mixL
  rw [List.getElem?_append_left (by simp; omega), List.getElem?_take_of_lt hj, List.getD_eq_getElem?_getD, List.getElem?_eq_getElem (by omega)]; rfl
theorem mixL_set {p q : List Nat} {k v : Nat} (h : q.length = p.length) (hk : k < p.length) (hv : q[k]? = some v) : (mixL p q (k + 1)).set k v = mixL p q k := by
  apply List.ext_getElem?
  intro i
  have hl1 := mixL_len (k := k + 1) h (by omega)
  rw [List.getElem?_set]
  by_cases e : k = i
  · subst e
    rw [if_pos rfl, if_pos (by omega)]
    unfold mixL
    rw [List.getElem?_append_right (by simp; omega), List.length_take, Nat.min_eq_left (by omega), Nat.sub_self, List.getElem?_drop, Nat.add_zero]
    exact hv.symm
  · rw [if_neg e]
    unfold mixL
    rcases Nat.lt_or_ge i k with q1 | q1
    · rw [List.getElem?_append_left (by simp; omega), List.getElem?_append_left (by simp; omega), List.getElem?_take_of_lt (by omega), List.getElem?_take_of_lt q1]
    · rw [List.getElem?_append_right (by simp; omega), List.getElem?_append_right (by simp; omega), List.length_take, List.length_take, Nat.min_eq_left (by omega), Nat.min_eq_left (by omega), List.getElem?_drop, List.getElem?_drop]
      congr 1; omega
theorem takenM_at {p : List Nat} {c x k : Nat} (hk : k < p.length) : (takenM p c x)[k]? = some (takeAt p c x k) := by
  unfold takenM
  rw [List.getElem?_map, List.getElem?_range hk]; rfl
def tailF (p : List Nat) (n : Nat) : Nat := ((p.drop n).reverse).foldl fadd 0
def tailM (p : List Nat) (k : Int) : Nat := tailF p (max k 0).toNat
theorem tailF_end {p : List Nat} {n : Nat} (h : p.length ≤ n) : tailF p n = 0 := by unfold tailF; rw [List.drop_of_length_le h]; rfl
theorem tailF_step {p : List Nat} {n : Nat} (h : n < p.length) : tailF p n = fadd (tailF p (n + 1)) (p.getD n 0) := by
  unfold tailF
  have e : p.drop n = p.getD n 0 :: p.drop (n + 1) := by
    rw [List.drop_eq_getElem_cons h, List.getD_eq_getElem?_getD, List.getElem?_eq_getElem h]; rfl
  rw [e, List.reverse_cons, List.foldl_append]; rfl
theorem tailF_nn {p : List Nat} (h : Un p) : ∀ (m n : Nat), p.length ≤ n + m → NN (tailF p n)
  | 0, n, hm => by rw [tailF_end (by omega)]; unfold NN; omega
  | m + 1, n, hm => by
    rcases Nat.lt_or_ge n p.length with q | q
    · rw [tailF_step q]
      exact (fadd_nn (tailF_nn h m (n + 1) (by omega)) (NN.of_one (h.at n))).2
    · rw [tailF_end q]; unfold NN; omega
def begP (n : Nat) : List Nat := ONE :: List.replicate n 0
theorem begP_un (n : Nat) : Un (begP n) := fun v hv => by
  unfold begP at hv
  rcases List.mem_cons.1 hv with rfl | h
  · exact Nat.le_refl _
  · rw [List.eq_of_mem_replicate h]; exact Nat.zero_le _
def allT (p : List Nat) (l : List Nat) : List Nat := l.foldl (fun q x => takenM q 1 x) p
theorem allT_len : ∀ (l p : List Nat), (allT p l).length = p.length
  | [], p => rfl
  | x :: l, p => by
    show (allT (takenM p 1 x) l).length = _
    rw [allT_len l, takenM_len]
theorem allT_un : ∀ (l : List Nat) {p : List Nat}, Un p → (∀ x ∈ l, U x) → Un (allT p l)
  | [], p, h, _ => h
  | x :: l, p, h, hl => allT_un l (takenM_un h (hl x List.mem_cons_self)) fun y hy => hl y (List.mem_cons_of_mem _ hy)
theorem allT_snoc {p l : List Nat} {i x : Nat} (h : l[i]? = some x) : allT p (l.take (i + 1)) = takenM (allT p (l.take i)) 1 x := by
  rw [List.take_add_one, h]
  unfold allT
  rw [List.foldl_append]; rfl
def oddsP (l : List Nat) (k : Int) : Nat := tailM (allT (begP l.length) l) k
def oddsOk (l : List Nat) : Bool := l.all chB
theorem oddsOk_U {l : List Nat} (hw : ∀ x ∈ l, x < 2 ^ 64) (h : oddsOk l = true) : ∀ x ∈ l, U x := fun x hx => by
  unfold oddsOk at h
  rw [List.all_eq_true] at h
  exact chB_U (hw x hx) (h x hx)
end Go.HyM
/-
  What the walks over floats ask besides. (Conditions: none; no program in sight.)
-/
set_option maxRecDepth 20000
namespace Go.HyM
open Ieee Go.SL Go.RowKit Go.Fl
theorem all_snoc {l : List Nat} {i x : Nat} (h : l[i]? = some x) (h0 : (l.take i).all chB = true) (h1 : chB x = true) : (l.take (i + 1)).all chB = true := by
  rw [List.take_add_one, h, List.all_append, h0]
  simpa using h1
theorem all_no {l : List Nat} {i x : Nat} (h : l[i]? = some x) (h1 : chB x = false) : oddsOk l = false := by
  unfold oddsOk
  cases e : l.all chB with
  | false => rfl
  | true =>
    rw [List.all_eq_true] at e
    rw [e x (List.mem_of_getElem? h)] at h1; cases h1
theorem tail_fin {p : List Nat} {n m : Nat} {k0 : Int} (hl : p.length = n) (h : m = (max k0 0).toNat ∨ (m = n ∧ n ≤ (max k0 0).toNat)) : Value.float .f64 (tailF p m) = .float .f64 (tailM p k0) := by
  congr 1
  unfold tailM
  rcases h with h | ⟨h, h2⟩
  · rw [h]
  · rw [tailF_end (by omega), tailF_end (by omega)]
end Go.HyM
/-
  An entry of a map taken first and stored into later: maps of any keys. (Conditions: none; generic over the program.)
-/
set_option maxRecDepth 20000
namespace Go.SL
open Go.RowKit
section
variable {P : Program} {n : Nat} {L : List (Nat × Value)} {A : List Asn} {d : Option Tmp} {ty : TypeId} {pos' : String} {af : Array Edge} {g : Option (Nat × Bool)}
variable {κ β : Type} [DecidableEq κ] {kf : κ → Value} {vf : β → Value} {l : List (κ × β)}
def mpEP (m : Nat) (kf : κ → Value) (vf : β → Value) (l : List (κ × β)) (k : κ) (s : Int) : Asn := fun h => ∃ x : Array MapEntry × Nat, (MWP kf vf x.1.toList x.2 l ∧ ∃ (j : Nat) (e : MapEntry), x.1.toList[j]? = some e ∧ e.key = kf k ∧ (e.born : Int) = s) ∧ pt m (.map x.1 x.2) h
theorem Ac_entryP {t kt et : TypeId} {x y : Operand} {m : Nat} {k : κ} {z : Value} {R : List Asn} (bz : β) (hz0 : vf bz = z) (hK : KeyT P kt kf) (hx : ev L x = some (.map (some m))) (hy : ev L y = some (kf k)) (hu : P.underlying t = some (.map kt et))
    (hz : ∀ w, (zeroValue et).run P w = .ok z w) (hE : Ext A (mpP m kf vf l) R := by repeat (first | with_reducible exact Ext.here | with_reducible apply Ext.there)) :
    Ac P n ⟨d, .mapEntry t x y, ty, pos', af, g⟩ L A (fun v A' => ∃ s, v = .tuple #[vf ((getL k l).getD bz), .int .i64 s] ∧ A' = mpEP m kf vf (putL k ((getL k l).getD bz) l) k s :: R) :=
  Ac_run fun a w hf hs => by
    obtain ⟨es, ck, hM, hs'⟩ := mpP_open (sat_perm hE hs)
    have hm := sat_pt hs'
    cases hp : posV (kf k) es.toList with
    | some j =>
      obtain ⟨e, he, hke⟩ := posV_some hp
      have he' : es[j]? = some e := by simpa using he
      obtain ⟨b, hb1, hb2, hb3⟩ := hM.at hK.inj he hke
      have hl : (es.modify j fun e => { e with key := kf k }).toList = es.toList.set j { key := kf k, val := vf b, born := e.born } := by
        rw [Array.toList_modify, modify_set he, hb1]
      rw [hb3]
      refine ⟨.tuple #[vf b, .int .i64 e.born], { w with heap := w.heap.setIfInBounds m (.map (es.modify j fun e => { e with key := kf k }) ck) }, _, .inl ?_, ⟨e.born, rfl, rfl⟩, ?_, kept_set⟩
      · simp [execOp, hf.eval hx, hf.eval hy, Instr.mapEntry, run_und hu, run_getObj hm, hK.check, hK.find k _ _ hM.keys, hp, he', Instr.keyThatStays, hke, hK.stay, run_setObj hm, goInt, hb1]
      · refine sat_ex.2 ⟨(_, ck), sat_and.2 ⟨⟨?_, j, { key := kf k, val := vf b, born := e.born }, ?_, rfl, rfl⟩, set_map hs'⟩⟩
        · show MWP kf vf (es.modify j fun e => { e with key := kf k }).toList ck _
          rw [hl]; exact hM.set hK.inj he hke
        · show (es.modify j fun e => { e with key := kf k }).toList[j]? = _
          rw [hl, List.getElem?_set, if_pos rfl, if_pos (List.getElem?_eq_some_iff.1 he).1]
    | none =>
      have hg : getL k l = none := getL_none (hM.absent hp)
      rw [hg]
      refine ⟨.tuple #[vf bz, .int .i64 ck], { w with heap := w.heap.setIfInBounds m (.map (es.push { key := kf k, val := z, born := ck }) (ck + 1)) }, _, .inl ?_, ⟨ck, rfl, rfl⟩, ?_, kept_set⟩
      · simp [execOp, hf.eval hx, hf.eval hy, Instr.mapEntry, run_und hu, run_getObj hm, hK.check, hK.find k _ _ hM.keys, hp, hz, run_setObj hm, goInt, hz0]
      · refine sat_ex.2 ⟨(_, ck + 1), sat_and.2 ⟨⟨?_, es.size, { key := kf k, val := z, born := ck }, ?_, rfl, rfl⟩, set_map hs'⟩⟩
        · show MWP kf vf (es.push { key := kf k, val := z, born := ck }).toList (ck + 1) _
          rw [Array.toList_push, ← hz0]; exact hM.push bz hp
        · simp
theorem Ac_storeP {t : TypeId} {x y z : Operand} {m : Nat} {k : κ} {s : Int} {R : List Asn} (b : β) (hinj : ∀ a b, kf a = kf b → a = b) (hx : ev L x = some (.map (some m))) (hy : ev L y = some (.int .i64 s)) (hz : ev L z = some (vf b)) (hE : Ext A (mpEP m kf vf l k s) R := by repeat (first | with_reducible exact Ext.here | with_reducible apply Ext.there)) :
    Ac P n ⟨d, .entryStore t x y z, ty, pos', af, g⟩ L A (fun _ A' => A' = mpP m kf vf (putL k b l) :: R) :=
  Ac_run fun a w hf hs => by
    obtain ⟨⟨es, ck⟩, h1⟩ := sat_ex.1 (sat_perm hE hs)
    obtain ⟨⟨hM, j, e, he, hke, hbs⟩, hs'⟩ := sat_and.1 h1
    dsimp only at hM he hs'
    have hm := sat_pt hs'
    have hlt := (List.getElem?_eq_some_iff.1 he).1
    have he' : es[j]? = some e := by simpa using he
    have hfi : es.findIdx? (fun e => (e.born : Int) == s) = some j := by
      rw [Array.findIdx?_eq_some_iff_getElem]
      have hje : es[j]'(by simpa using hlt) = e := by have := (Array.getElem?_eq_some_iff.1 he').2; exact this
      refine ⟨by simpa using hlt, by rw [hje]; simpa using hbs, fun i hi => ?_⟩
      have hi' : i < es.size := by simp at hlt; omega
      intro hb
      have hb' : es[i].born = es[j].born := by
        rw [hje]
        have : (es[i].born : Int) = s := by simpa using hb
        omega
      have := (List.getElem_inj (h₀ := (by simpa using hi')) (h₁ := (by simpa using hlt)) hM.bnd (i := i) (j := j)).1 (by simpa using hb')
      omega
    refine ⟨_, { w with heap := w.heap.setIfInBounds m (.map (es.modify j fun e => { e with val := vf b }) ck) }, _, .inr ⟨?_, rfl⟩, rfl, ?_, kept_set⟩
    · simp [execOp, hf.eval hx, hf.eval hy, hf.eval hz, Instr.entryStore, run_getObj hm, asInt, asIntOf, hfi, run_setObj hm]
    · refine mpP_shut ?_ (set_map hs')
      have : (es.modify j fun e => { e with val := vf b }).toList = es.toList.set j { key := kf k, val := vf b, born := e.born } := by
        rw [Array.toList_modify, modify_set he, hke]
      rw [this]
      exact hM.set hinj he hke
theorem Rd_lookEP {t kt et : TypeId} {x y : Operand} {m : Nat} {k k' : κ} {s : Int} {z : Value} (hK : KeyT P kt kf) (hx : ev L x = some (.map (some m))) (hy : ev L y = some (kf k)) (hu : P.underlying t = some (.map kt et)) (hz : ∀ w, (zeroValue et).run P w = .ok z w)
    (hA : Has A (mpEP m kf vf l k' s) := by repeat (first | with_reducible exact Has.here | with_reducible refine Has.there ?_)) : Rd P n ⟨d, .lookup t x y false, ty, pos', af, g⟩ L A (((getL k l).map vf).getD z) := fun a w hf hs => by
  obtain ⟨R, p⟩ := hA
  obtain ⟨⟨es, ck⟩, h1⟩ := sat_ex.1 (sat_perm p hs)
  obtain ⟨⟨hM, _⟩, hs'⟩ := sat_and.1 h1
  have h := run_lookP (c := false) hK (hf.eval hx) (hf.eval hy) hu hz hM (sat_pt hs')
  simp only [execOp, Sem.run_bind, h, Result.andThen_ok, Sem.run_pure]; rfl
theorem getL_putL {k : κ} {b : β} : getL k (putL k b l) = some b := by
  unfold getL putL
  rw [List.find?_cons_of_pos (by simp)]; rfl
theorem keys_putL {k j : κ} {b : β} : j ∈ keysL (putL k b l) ↔ j = k ∨ j ∈ keysL l := by
  unfold putL
  rw [show keysL ((k, b) :: delL k l) = k :: keysL (delL k l) from rfl, List.mem_cons, keys_delL]
  constructor
  · rintro (h | ⟨h, _⟩)
    · exact .inl h
    · exact .inr h
  · rintro (h | h)
    · exact .inl h
    · by_cases e : j = k
      · exact .inl e
      · exact .inr ⟨h, e⟩
end
end Go.SL
/-
  Pairs of servers and numbers, counted and matched, in plain words. (Conditions: none; no program in sight.)
-/
set_option maxRecDepth 20000
namespace Go.HyM
open Go.SL Go.RowKit Go.Sort Go.Shelf Go.Proofs
abbrev Pr := Int × Int
def ePr (p : Pr) : List Value := [.int .i64 p.1, .int .i64 p.2]
theorem encPr : Enc ePr 2 := ⟨fun _ => rfl, fun p v hv => by
  simp only [ePr, List.mem_cons, List.not_mem_nil, or_false] at hv
  rcases hv with rfl | rfl <;> rfl⟩
def kfR (p : Pr) : Value := .agg (ePr p).toArray
theorem kfR_inj (a b : Pr) (h : kfR a = kfR b) : a = b := by
  unfold kfR ePr at h
  simp only [Value.agg.injEq, List.toArray_eq_toArray_eq, List.cons.injEq, Value.int.injEq, true_and, and_true] at h
  exact Prod.ext h.1 h.2
def pOk (p : Pr) : Prop := (0 ≤ p.1 ∧ p.1 < 32) ∧ 0 ≤ p.2 ∧ p.2 < 255
instance (p : Pr) : Decidable (pOk p) := by unfold pOk; infer_instance
def mayP (ps : List Pr) : Prop := ps.length ≤ 8192 ∧ ∀ p ∈ ps, pOk p
instance (ps : List Pr) : Decidable (mayP ps) := by unfold mayP; infer_instance
def prLt (a b : Pr) : Prop := a.1 < b.1 ∨ (a.1 = b.1 ∧ a.2 < b.2)
instance (a b : Pr) : Decidable (prLt a b) := by unfold prLt; infer_instance
theorem prLt_irr (a : Pr) : ¬ prLt a a := by unfold prLt; omega
theorem prLt_tr {a b c : Pr} : prLt a b → prLt b c → prLt a c := by unfold prLt; omega
theorem prLt_tot {a b : Pr} (h : ¬ prLt a b) (k : ¬ prLt b a) : a = b := by
  unfold prLt at h k
  exact Prod.ext (by omega) (by omega)
def cmpI (x y : Int) : Int := if x < y then -1 else if y < x then 1 else 0
def cfP (a b : Pr) : Int := if cmpI a.1 b.1 ≠ 0 then cmpI a.1 b.1 else cmpI a.2 b.2
theorem cfP_lt (a b : Pr) : cfP a b < 0 ↔ prLt a b := by
  unfold cfP prLt cmpI
  split <;> split <;> (try split) <;> (try split) <;> omega
theorem cfP_ltOf (a b : Pr) : (ltOf cfP) a b = decide (prLt a b) := decide_eq_decide.2 (cfP_lt a b)
theorem cfP_swo : SWO (ltOf cfP) := ⟨fun x => by rw [cfP_ltOf]; simpa using prLt_irr x, fun x y z h1 h2 => by
    rw [cfP_ltOf, decide_eq_true_eq] at *; exact prLt_tr h1 h2, fun x y z h1 h2 => by
    rw [cfP_ltOf, decide_eq_false_iff_not] at *
    intro h
    by_cases q : prLt y x
    · exact h2 (prLt_tr q h)
    · have := prLt_tot h1 q
      rw [this] at h
      exact h2 h⟩
theorem cfP_tot (x y : Pr) (h1 : (ltOf cfP) x y = false) (h2 : (ltOf cfP) y x = false) : x = y := by
  rw [cfP_ltOf, decide_eq_false_iff_not] at *
  exact prLt_tot h1 h2
theorem sortPr {l l' : List Pr} (p : l.Perm l') (h : l'.Pairwise prLt) : (l.mergeSort fun x y => !(ltOf cfP) y x) = l' := by
  have e : (fun x y : Pr => !(ltOf cfP) y x) = fun x y => decide (¬ prLt y x) := by funext x y; rw [cfP_ltOf]; simp
  rw [e]
  have h1 : (l.mergeSort fun x y : Pr => decide (¬ prLt y x)).Pairwise (fun x y => decide (¬ prLt y x) = true) := List.pairwise_mergeSort (fun a b c => by
    simp only [decide_eq_true_eq]
    intro q1 q2 q3
    by_cases z : prLt a b
    · exact q2 (prLt_tr q3 z)
    · exact q2 (prLt_tot z q1 ▸ q3)) (fun a b => by
    simp only [Bool.or_eq_true, decide_eq_true_eq]
    by_cases z : prLt b a
    · right; intro q; exact prLt_irr a (prLt_tr q z)
    · exact .inl z) l
  have h2 : l'.Pairwise (fun x y => decide (¬ prLt y x) = true) := h.imp fun {a b} q => by
    simp only [decide_eq_true_eq]
    intro z; exact prLt_irr _ (prLt_tr q z)
  exact ((List.mergeSort_perm _ _).trans p).eq_of_pairwise (fun a b _ _ q1 q2 => by
    simp only [decide_eq_true_eq] at q1 q2
    exact prLt_tot q2 q1) h1 h2
def gridP : List Pr := (List.range 32).flatMap fun s : Nat => (List.range 255).map fun n : Nat => (((s : Nat) : Int), ((n : Nat) : Int))
theorem grid_mem (p : Pr) : p ∈ gridP ↔ pOk p := by
  unfold gridP pOk
  rw [List.mem_flatMap]
  constructor
  · rintro ⟨s, hs, h⟩
    rw [List.mem_range] at hs
    obtain ⟨n, hn, rfl⟩ := List.mem_map.1 h
    rw [List.mem_range] at hn
    dsimp only
    omega
  · rintro ⟨⟨h1, h2⟩, h3, h4⟩
    exact ⟨p.1.toNat, List.mem_range.2 (by omega), List.mem_map.2 ⟨p.2.toNat, List.mem_range.2 (by omega), Prod.ext (by dsimp only; omega) (by dsimp only; omega)⟩⟩
theorem grid_pw : gridP.Pairwise prLt := by
  unfold gridP
  rw [List.pairwise_flatMap]
  constructor
  · intro s _
    rw [List.pairwise_map]
    exact List.pairwise_lt_range.imp fun {a b} h => .inr ⟨rfl, by dsimp only; omega⟩
  · exact List.pairwise_lt_range.imp fun {a b} h x hx y hy => by
      obtain ⟨n, _, rfl⟩ := List.mem_map.1 hx
      obtain ⟨m, _, rfl⟩ := List.mem_map.1 hy
      exact .inl (by dsimp only; omega)
def lookP (ps : List Pr) : List Pr := gridP.filter fun p => decide (p ∈ ps)
theorem lookP_pw (ps : List Pr) : (lookP ps).Pairwise prLt := grid_pw.filter _
theorem lookP_mem {ps : List Pr} (h : ∀ p ∈ ps, pOk p) (p : Pr) : p ∈ lookP ps ↔ p ∈ ps := by
  unfold lookP
  rw [List.mem_filter, grid_mem, decide_eq_true_eq]
  exact ⟨fun q => q.2, fun q => ⟨h p q, q⟩⟩
theorem lookP_ok (ps : List Pr) : ∀ p ∈ lookP ps, pOk p := fun p hp => (grid_mem p).1 (List.mem_filter.1 hp).1
theorem pw_nodup {l : List Pr} (h : l.Pairwise prLt) : l.Nodup := List.Pairwise.imp (fun {a b} (q : prLt a b) (e : a = b) => prLt_irr a (by rw [← e] at q; exact q)) h
theorem lookP_perm {ps ks : List Pr} (h : ∀ p ∈ ps, pOk p) (hn : ks.Nodup) (hk : ∀ p, p ∈ ks ↔ p ∈ ps) : ks.Perm (lookP ps) :=
  (List.perm_ext_iff_of_nodup hn (pw_nodup (lookP_pw ps))).2 fun p => (hk p).trans (lookP_mem h p).symm
theorem lookP_len (ps : List Pr) : (lookP ps).length ≤ 8160 := by
  refine Nat.le_trans (List.length_filter_le _ _) ?_
  unfold gridP
  rw [List.length_flatMap]
  simp only [List.length_map, List.length_range]
  decide
def cntM (l : List Pr) (f : Pr → Int) : Nat := ((List.range 255).filter fun v : Nat => l.any fun p => decide (f p = ((v : Nat) : Int))).length
theorem cnt_len {l : List Pr} {f : Pr → Int} {ks : List Int} (hn : ks.Nodup) (hk : ∀ v, v ∈ ks ↔ ∃ p ∈ l, f p = v) (hf : ∀ p ∈ l, 0 ≤ f p ∧ f p < 255) : ks.length = cntM l f := by
  unfold cntM
  rw [← List.length_map (f := fun v : Nat => (v : Int))]
  refine List.Perm.length_eq ((List.perm_ext_iff_of_nodup hn ?_).2 fun v => ?_)
  · refine List.pairwise_map.2 (List.Pairwise.imp (fun {a b} (h : a ≠ b) (e : ((a : Nat) : Int) = ((b : Nat) : Int)) => h (by omega)) (List.Pairwise.filter _ List.nodup_range))
  · rw [hk, List.mem_map]
    constructor
    · rintro ⟨p, hp, rfl⟩
      have := hf p hp
      exact ⟨(f p).toNat, List.mem_filter.2 ⟨List.mem_range.2 (by omega), List.any_eq_true.2 ⟨p, hp, by simp; omega⟩⟩, by omega⟩
    · rintro ⟨n, h1, rfl⟩
      obtain ⟨p, hp, h2⟩ := List.any_eq_true.1 (List.mem_filter.1 h1).2
      exact ⟨p, hp, by simpa using h2⟩
structure Gs where
  T : List (Int × Int)
  W : List (Int × Int)
def at0 (x : Int) (l : List (Int × Int)) : Int := (getL x l).getD 0
def numsM (l : List Pr) (s : Int) : List Int := (l.filter fun p => decide (p.1 = s)).map Prod.snd
def growL (rec : Int → Gs → Bool × Gs) (s : Int) : List Int → Gs → Bool × Gs
  | [], st => (false, st)
  | x :: xs, st =>
    if 0 < at0 x st.T then growL rec s xs st
    else if at0 x st.W = 0 then (true, ⟨putL x 1 st.T, putL x (s + 1) st.W⟩)
    else if (rec (at0 x st.W - 1) ⟨putL x 1 st.T, st.W⟩).1 then (true, ⟨(rec (at0 x st.W - 1) ⟨putL x 1 st.T, st.W⟩).2.T, putL x (s + 1) (rec (at0 x st.W - 1) ⟨putL x 1 st.T, st.W⟩).2.W⟩)
    else growL rec s xs (rec (at0 x st.W - 1) ⟨putL x 1 st.T, st.W⟩).2
def growM (adj : Int → List Int) : Nat → Int → Gs → Bool × Gs
  | 0, _, st => (false, st)
  | f + 1, s, st => growL (growM adj f) s (adj s) st
def sizeStep (adj : Int → List Int) (c : Nat × List (Int × Int)) (s : Nat) : Nat × List (Int × Int) :=
  (if (growM adj 256 (s : Int) ⟨[], c.2⟩).1 then c.1 + 1 else c.1, (growM adj 256 (s : Int) ⟨[], c.2⟩).2.W)
def sizeTo (adj : Int → List Int) (n : Nat) : Nat × List (Int × Int) := (List.range n).foldl (sizeStep adj) (0, [])
def sizeM (l : List Pr) : Nat := (sizeTo (numsM l) 32).1
theorem sizeTo_succ (adj : Int → List Int) (n : Nat) : sizeTo adj (n + 1) = sizeStep adj (sizeTo adj n) n := by
  unfold sizeTo
  rw [List.range_succ, List.foldl_append]; rfl
theorem lives_size : sizeM (lookP [(0, 0), (0, 1), (1, 0)]) = 2 ∧ cntM (lookP [(0, 0), (0, 1), (1, 0)]) Prod.fst = 2 ∧ cntM (lookP [(0, 0), (0, 1), (1, 0)]) Prod.snd = 2 := by decide +kernel
end Go.HyM
/-
  Growing a matching: what is tried grows, what is matched stays what it may be. (Conditions: none; no program in sight.)
-/
set_option maxRecDepth 20000
namespace Go.HyM
open Go.SL Go.RowKit
def kfN (k : Int) : Value := .int .i64 k
def vfN (k : Int) : Value := .int .i64 k
theorem look_at0 {x : Int} {l : List (Int × Int)} : ((getL x l).map vfN).getD (.int .i64 0) = .int .i64 (at0 x l) := by
  unfold at0
  cases getL x l <;> rfl
theorem at0_put {x y b : Int} {l : List (Int × Int)} : at0 y (putL x b l) = if y = x then b else at0 y l := by
  unfold at0
  by_cases h : y = x
  · subst h; rw [if_pos rfl, getL_putL]; rfl
  · rw [if_neg h]
    congr 1
    unfold getL putL delL
    rw [List.find?_cons_of_neg (by simpa using fun e : x = y => h e.symm), List.find?_filter]
    congr 1
    apply congrArg (fun f => List.find? f l)
    funext p
    by_cases q : p.1 = y
    · have : p.1 ≠ x := fun e => h (q.symm.trans e)
      simp [q, h]
    · simp [q]
def untried (T : List (Int × Int)) : Nat := ((List.range 255).filter fun n : Nat => decide (at0 ((n : Nat) : Int) T ≤ 0)).length
theorem untried_le (T : List (Int × Int)) : untried T ≤ 255 := by
  unfold untried
  have := List.length_filter_le (fun n : Nat => decide (at0 ((n : Nat) : Int) T ≤ 0)) (List.range 255)
  rw [List.length_range] at this; exact this
theorem filter_le {p q : Nat → Bool} (h : ∀ x, q x = true → p x = true) : ∀ l : List Nat, (l.filter q).length ≤ (l.filter p).length
  | [] => Nat.le_refl _
  | x :: l => by
    have ih := filter_le h l
    by_cases hq : q x = true
    · rw [List.filter_cons_of_pos hq, List.filter_cons_of_pos (h x hq)]; simpa using ih
    · rw [List.filter_cons_of_neg hq]
      by_cases hp : p x = true
      · rw [List.filter_cons_of_pos hp, List.length_cons]; omega
      · rw [List.filter_cons_of_neg hp]; exact ih
theorem filter_lt {p q : Nat → Bool} (h : ∀ x, q x = true → p x = true) {y : Nat} (h1 : p y = true) (h2 : q y = false) : ∀ l : List Nat, y ∈ l → (l.filter q).length < (l.filter p).length
  | [], hy => by cases hy
  | x :: l, hy => by
    rcases List.mem_cons.1 hy with rfl | hy
    · rw [List.filter_cons_of_neg (by rw [h2]; decide), List.filter_cons_of_pos h1, List.length_cons]
      exact Nat.lt_succ_of_le (filter_le h l)
    · have ih := filter_lt h h1 h2 l hy
      by_cases hq : q x = true
      · rw [List.filter_cons_of_pos hq, List.filter_cons_of_pos (h x hq)]; simpa using ih
      · rw [List.filter_cons_of_neg hq]
        by_cases hp : p x = true
        · rw [List.filter_cons_of_pos hp, List.length_cons]; omega
        · rw [List.filter_cons_of_neg hp]; exact ih
theorem untried_put {x : Int} {T : List (Int × Int)} (hx : 0 ≤ x ∧ x < 255) (h : at0 x T ≤ 0) : untried (putL x 1 T) < untried T := by
  unfold untried
  refine filter_lt (y := x.toNat) (fun n hn => ?_) ?_ ?_ _ (List.mem_range.2 (by omega))
  · simp only [decide_eq_true_eq] at *
    rw [at0_put] at hn
    split at hn
    · omega
    · exact hn
  · simp only [decide_eq_true_eq]
    rw [show ((x.toNat : Nat) : Int) = x by omega]; exact h
  · simp only [decide_eq_false_iff_not]
    rw [show ((x.toNat : Nat) : Int) = x by omega, at0_put, if_pos rfl]; omega
def okW (W : List (Int × Int)) : Prop := ∀ x, 0 ≤ at0 x W ∧ at0 x W ≤ 32
theorem okW_nil : okW [] := fun x => by unfold at0 getL; simp
theorem okW_put {x s : Int} {W : List (Int × Int)} (h : okW W) (hs : 0 ≤ s ∧ s < 32) : okW (putL x (s + 1) W) := fun y => by
  rw [at0_put]
  split
  · omega
  · exact h y
structure GrK (st st' : Gs) : Prop where
  un : untried st'.T ≤ untried st.T
  w : okW st'.W
theorem growL_K {rec : Int → Gs → Bool × Gs} {s : Int} (hs : 0 ≤ s ∧ s < 32) (hr : ∀ s' st, 0 ≤ s' ∧ s' < 32 → okW st.W → GrK st (rec s' st).2) : ∀ (xs : List Int) (st : Gs), (∀ x ∈ xs, 0 ≤ x ∧ x < 255) → okW st.W → GrK st (growL rec s xs st).2
  | [], st, _, hw => ⟨Nat.le_refl _, hw⟩
  | x :: xs, st, hx, hw => by
    have hx0 := hx x List.mem_cons_self
    have hxs : ∀ y ∈ xs, 0 ≤ y ∧ y < 255 := fun y hy => hx y (List.mem_cons_of_mem _ hy)
    unfold growL
    split
    · exact growL_K hs hr xs st hxs hw
    · rename_i h0
      have hu := untried_put hx0 (show at0 x st.T ≤ 0 by omega)
      split
      · exact ⟨Nat.le_of_lt hu, okW_put hw hs⟩
      · rename_i h1
        have hb := hw x
        have hk := hr (at0 x st.W - 1) ⟨putL x 1 st.T, st.W⟩ (by omega) hw
        split
        · exact ⟨Nat.le_trans hk.un (Nat.le_of_lt hu), okW_put hk.w hs⟩
        · have h2 := growL_K hs hr xs (rec (at0 x st.W - 1) ⟨putL x 1 st.T, st.W⟩).2 hxs hk.w
          exact ⟨Nat.le_trans h2.un (Nat.le_trans hk.un (Nat.le_of_lt hu)), h2.w⟩
theorem growM_K {adj : Int → List Int} (ha : ∀ s, ∀ x ∈ adj s, 0 ≤ x ∧ x < 255) : ∀ (f : Nat) (s : Int) (st : Gs), 0 ≤ s ∧ s < 32 → okW st.W → GrK st (growM adj f s st).2
  | 0, s, st, _, hw => ⟨Nat.le_refl _, hw⟩
  | f + 1, s, st, hs, hw => growL_K hs (fun s' st' h1 h2 => growM_K ha f s' st' h1 h2) (adj s) st (ha s) hw
structure OS where
  a : Option Nat
  cap : Nat
  l : List Int
def vfS (x : OS) : Value := sl x.a x.l.length x.cap
def adjO (LF : List (Int × OS)) (s : Int) : List Int := ((getL s LF).map OS.l).getD []
theorem adjO_put {s s' : Int} {x : OS} {LF : List (Int × OS)} : adjO (putL s x LF) s' = if s' = s then x.l else adjO LF s' := by
  unfold adjO
  by_cases h : s' = s
  · subst h; rw [if_pos rfl, getL_putL]; rfl
  · rw [if_neg h]
    congr 2
    unfold getL putL delL
    rw [List.find?_cons_of_neg (by simpa using fun e : s = s' => h e.symm), List.find?_filter]
    congr 1
    apply congrArg (fun f => List.find? f LF)
    funext p
    by_cases q : p.1 = s'
    · simp [q, h]
    · simp [q]
theorem nums_snoc {l : List Pr} {i : Nat} {p : Pr} (h : l[i]? = some p) (s : Int) : numsM (l.take (i + 1)) s = if s = p.1 then numsM (l.take i) s ++ [p.2] else numsM (l.take i) s := by
  unfold numsM
  rw [List.take_add_one, h]
  simp only [Option.toList_some, List.filter_append, List.map_append]
  by_cases e : s = p.1
  · rw [if_pos e, List.filter_cons_of_pos (by simp [e])]; rfl
  · rw [if_neg e, List.filter_cons_of_neg (by simpa using fun q : p.1 = s => e q.symm)]; simp
theorem nums_ok {l : List Pr} (h : ∀ p ∈ l, pOk p) (s : Int) : ∀ x ∈ numsM l s, 0 ≤ x ∧ x < 255 := fun x hx => by
  unfold numsM at hx
  obtain ⟨p, hp, rfl⟩ := List.mem_map.1 hx
  exact (h p (List.mem_filter.1 hp).1).2
def outO (s : Int) (LF : List (Int × OS)) : OS := (getL s LF).getD ⟨none, 0, []⟩
theorem outO_l (s : Int) (LF : List (Int × OS)) : (outO s LF).l = adjO LF s := by
  unfold outO adjO
  cases getL s LF <;> rfl
theorem look_out {s : Int} {LF : List (Int × OS)} : ((getL s LF).map vfS).getD (.slice none 0 0) = sl (outO s LF).a (outO s LF).l.length (outO s LF).cap := by
  unfold outO
  cases getL s LF <;> rfl
section
variable {tI : TypeId} {eI : Int → List Value}
def FS (tI : TypeId) (eI : Int → List Value) (e : Int × OS) : Asn := arr e.2.a e.2.cap 1 tI eI e.2.l
theorem sat_out {s : Int} {LF : List (Int × OS)} {R : List Asn} {w : World} (hn : (keysL LF).Nodup) (h : sat w (star (FS tI eI) LF :: R)) : sat w (arr (outO s LF).a (outO s LF).cap 1 tI eI (outO s LF).l :: star (FS tI eI) (delL s LF) :: R) := by
  unfold outO
  cases hg : getL s LF with
  | none =>
    have hno : s ∉ keysL LF := fun hk => by
      have := getL_isSome.2 hk
      rw [hg] at this; cases this
    rw [delL_no hno]
    exact sat_nil h
  | some x => exact star_cons.1 (star_perm (delL_perm hn (getL_mem hg)) h)
theorem sat_in {s : Int} {x : OS} {LF : List (Int × OS)} {R : List Asn} {w : World} (h : sat w (arr x.a x.cap 1 tI eI x.l :: star (FS tI eI) (delL s LF) :: R)) : sat w (star (FS tI eI) (putL s x LF) :: R) := star_cons (F := FS tI eI) (x := (s, x)).2 h
theorem adj_view {LF : List (Int × OS)} {R : List Asn} {w : World} (hE : Enc eI 1) (h : sat w (star (FS tI eI) LF :: R)) : ∀ s, Sv [star (FS tI eI) LF] (sl (outO s LF).a (outO s LF).l.length (outO s LF).cap) 1 eI (outO s LF).l ((outO s LF).a.map fun g => ⟨g, 0, none⟩) (outO s LF).cap := fun s => by
  unfold outO
  cases hg : getL s LF with
  | none => exact ⟨rfl, fun q => absurd rfl q, (fun x hx => by cases hx), Nat.le_refl _, fun w hs i x hx => by simp at hx⟩
  | some x =>
    have hm := getL_mem hg
    obtain ⟨i, hi, hx⟩ := List.mem_iff_getElem.1 hm
    have hx' : LF[i]? = some (s, x) := by rw [List.getElem?_eq_getElem hi, hx]
    have h1 := star_open i hx' h
    have f1 := arr_facts (a := x.a) (cap := x.cap) (e := 1) (T := tI) (f := eI) (l := x.l) Has.here h1
    have s1 : Sv [arr x.a x.cap 1 tI eI x.l] (sl x.a x.l.length x.cap) 1 eI x.l (x.a.map fun g => ⟨g, 0, none⟩) x.cap := Sv_own' hE f1.1 f1.2
    exact s1.imp fun w' hw => (Sub.cons Ext.here Sub.nil).sat (star_open (F := FS tI eI) (l := LF) (R := []) i hx' hw)
theorem adj_viewA {LF : List (Int × OS)} {A : List Asn} {w : World} (hE : Enc eI 1) (hA : Has A (star (FS tI eI) LF)) (h : sat w A) : ∀ s, Sv [star (FS tI eI) LF] (sl (outO s LF).a (outO s LF).l.length (outO s LF).cap) 1 eI (outO s LF).l ((outO s LF).a.map fun g => ⟨g, 0, none⟩) (outO s LF).cap := by
  obtain ⟨R, p⟩ := hA
  exact adj_view hE (sat_perm p h)
variable {P : Program} {m : Md} {ops : Array Oper} {Q : Exit → Act → World → Prop} {w0 : World} {n : Nat} {rest : List Oper} {L : List (Nat × Value)} {A R : List Asn} {c : Code}
theorem WC_out {LF : List (Int × OS)} (tI : TypeId) (eI : Int → List Value) (s : Int) (hn : (keysL LF).Nodup) (k : WC P m Q w0 n c L (arr (outO s LF).a (outO s LF).cap 1 tI eI (outO s LF).l :: star (FS tI eI) (delL s LF) :: R)) (hE : Ext A (star (FS tI eI) LF) R := by repeat (first | with_reducible exact Ext.here | with_reducible apply Ext.there)) : WC P m Q w0 n c L A :=
  WC_imp (fun _ h => sat_out hn (sat_perm hE h)) k
theorem WL_in {LF : List (Int × OS)} (tI : TypeId) (eI : Int → List Value) (s : Int) (x : OS) (k : WL P m ops Q w0 n rest L (star (FS tI eI) (putL s x LF) :: R)) (hG : Gv A [arr x.a x.cap 1 tI eI x.l, star (FS tI eI) (delL s LF)] R := by repeat (first | with_reducible exact Gv.nil | (with_reducible apply Gv.cons; · (repeat (first | with_reducible exact Ext.here | with_reducible apply Ext.there))))) : WL P m ops Q w0 n rest L A :=
  WL_imp (fun _ h => sat_in (sat_perm hG h)) k
end
theorem adj_step {l : List Pr} {i : Nat} {p : Pr} {LF : List (Int × OS)} {a : Option Nat} {c : Nat} (hp : l[i]? = some p) (h : ∀ s, adjO LF s = numsM (l.take i) s) : ∀ s, adjO (putL p.1 ⟨a, c, (outO p.1 LF).l ++ [p.2]⟩ LF) s = numsM (l.take (i + 1)) s := fun s => by
  rw [adjO_put, nums_snoc hp]
  split
  · rename_i e; subst e
    show (outO p.1 LF).l ++ [p.2] = _
    rw [outO_l, h]
  · exact h s
theorem nums_len (l : List Pr) (s : Int) : (numsM l s).length ≤ l.length := by
  unfold numsM
  rw [List.length_map]; exact List.length_filter_le _ _
theorem size_yes {adj : Int → List Int} {s c : Nat} {W : List (Int × Int)} (h : (c, W) = sizeTo adj s) (h1 : (growM adj 256 (s : Int) ⟨[], W⟩).1 = true) : (c + 1, (growM adj 256 (s : Int) ⟨[], W⟩).2.W) = sizeTo adj (s + 1) := by
  rw [sizeTo_succ, ← h]
  unfold sizeStep
  rw [if_pos h1]
theorem size_no {adj : Int → List Int} {s c : Nat} {W : List (Int × Int)} (h : (c, W) = sizeTo adj s) (h1 : ¬ (growM adj 256 (s : Int) ⟨[], W⟩).1 = true) : (c, (growM adj 256 (s : Int) ⟨[], W⟩).2.W) = sizeTo adj (s + 1) := by
  rw [sizeTo_succ, ← h]
  unfold sizeStep
  rw [if_neg h1]
theorem size_fin {l : List Pr} {c : Nat} {W : List (Int × Int)} {LF : List (Int × OS)} (h : (c, W) = sizeTo (adjO LF) 32) (ha : ∀ s, adjO LF s = numsM l s) : c = sizeM l := by
  unfold sizeM
  rw [← show adjO LF = numsM l from funext ha, ← h]
end Go.HyM
/-
  The first that is not nought; keys of a map filled step by step. (Conditions: none; no program in sight.)
-/
set_option maxRecDepth 20000
namespace Go.HyM
open Go.SL Go.RowKit
theorem or_step {c1 c2 x : Int} {i : Nat} (hi : i ≤ 2) (hx : ([c1, c2] : List Int)[i]? = some x) (h0 : x = 0) (h1 : 0 < i → c1 = 0) (h2 : 1 < i → c2 = 0) : i + 1 ≤ 2 ∧ (0 < i + 1 → c1 = 0) ∧ (1 < i + 1 → c2 = 0) := by
  match i, hi with
  | 0, _ => simp only [List.getElem?_cons_zero, Option.some.injEq] at hx; exact ⟨by omega, fun _ => by omega, fun h => by omega⟩
  | 1, _ => simp only [List.getElem?_cons_succ, List.getElem?_cons_zero, Option.some.injEq] at hx; exact ⟨by omega, fun _ => h1 (by omega), fun _ => by omega⟩
  | 2, _ => simp at hx
theorem or_hit {c1 c2 x : Int} {i : Nat} (hx : ([c1, c2] : List Int)[i]? = some x) (h0 : ¬ x = 0) (h1 : 0 < i → c1 = 0) : Value.int .i64 x = .int .i64 (if c1 ≠ 0 then c1 else c2) := by
  congr 1
  match i with
  | 0 => simp only [List.getElem?_cons_zero, Option.some.injEq] at hx; rw [if_pos (by omega)]; exact hx.symm
  | 1 => simp only [List.getElem?_cons_succ, List.getElem?_cons_zero, Option.some.injEq] at hx; rw [if_neg (by have := h1 (by omega); omega)]; exact hx.symm
  | n + 2 => simp at hx
theorem or_end {c1 c2 : Int} (h1 : c1 = 0) (h2 : c2 = 0) : Value.int .i64 0 = .int .i64 (if c1 ≠ 0 then c1 else c2) := by
  subst h1; subst h2; rfl
theorem all_takeP {ps : List Pr} {i : Nat} {p : Pr} (h : ps[i]? = some p) (h0 : ∀ q ∈ ps.take i, pOk q) (h1 : pOk p) : ∀ q ∈ ps.take (i + 1), pOk q := fun q hq => by
  rw [List.take_add_one, h, List.mem_append] at hq
  rcases hq with hq | hq
  · exact h0 q hq
  · simp at hq; subst hq; exact h1
theorem look_g {p : Pr} {L : List (Pr × Int)} : ((getL p L).map vfN).getD (.int .i64 0) = .int .i64 ((getL p L).getD 0) := by
  cases getL p L <;> rfl
theorem look_gE {p : Pr} {L : List (Pr × Int)} {x : Int} : ((getL p (putL p x L)).map vfN).getD (.int .i64 0) = .int .i64 x := by rw [getL_putL]; rfl
theorem keys_step {ps : List Pr} {i : Nat} {p : Pr} {x y : Int} {L : List (Pr × Int)} (h : ps[i]? = some p) (h0 : ∀ q, q ∈ keysL L ↔ q ∈ ps.take i) : ∀ q, q ∈ keysL (putL p x (putL p y L)) ↔ q ∈ ps.take (i + 1) := fun q => by
  rw [keys_putL, keys_putL, h0, List.take_add_one, h, List.mem_append]
  simp only [Option.toList_some, List.mem_singleton]
  constructor
  · rintro (e | e | e)
    · exact .inr e
    · exact .inr e
    · exact .inl e
  · rintro (e | e)
    · exact .inr (.inr e)
    · exact .inl e
end Go.HyM
/-
  A matching that is grown along alternating ways is a greatest one. (Conditions: none; no program in sight.)
-/
set_option maxRecDepth 20000
namespace Go.HyM
open Go.SL Go.RowKit
def cN (p : Nat → Bool) (m : Nat) : Nat := ((List.range m).filter p).length
def deg (W : List (Int × Int)) (v : Int) : Nat := cN (fun n => decide (at0 ((n : Nat) : Int) W = v)) 255
def mat (W : List (Int × Int)) : Nat := cN (fun n => decide (at0 ((n : Nat) : Int) W ≠ 0)) 255
section
variable {adj : Int → List Int}
def EV (adj : Int → List Int) (W : List (Int × Int)) : Prop := ∀ x, at0 x W ≠ 0 → (1 ≤ at0 x W ∧ at0 x W ≤ 32) ∧ x ∈ adj (at0 x W - 1)
def Clo (adj : Int → List Int) (W : List (Int × Int)) (C : Int → Prop) : Prop := ∀ x, C x → at0 x W ≠ 0 ∧ ∀ y ∈ adj (at0 x W - 1), C y
structure Suc (adj : Int → List Int) (xs : List Int) (s : Int) (T W : List (Int × Int)) (r : Gs) : Prop where
  ev : EV adj r.W
  tr : ∀ x, 0 < at0 x T → at0 x r.W = at0 x W
  dg : ∀ v, v ≠ 0 → deg r.W v = deg W v + (if s + 1 = v then 1 else 0)
  mt : mat r.W = mat W + 1
  cl : ∀ C : Int → Prop, Clo adj W C → (¬ ∀ y ∈ xs, C y) ∧ ∀ x, C x → at0 x r.W = at0 x W
structure Fai (adj : Int → List Int) (xs : List Int) (T W : List (Int × Int)) (r : Gs) : Prop where
  same : r.W = W
  mono : ∀ x, 0 < at0 x T → 0 < at0 x r.T
  un : untried r.T ≤ untried T
  new : ∀ x, 0 < at0 x r.T → ¬ 0 < at0 x T → at0 x W ≠ 0 ∧ ∀ y ∈ adj (at0 x W - 1), 0 < at0 y r.T
  all : ∀ y ∈ xs, 0 < at0 y r.T
structure Inv (adj : Int → List Int) (n : Nat) (c : Nat) (W : List (Int × Int)) (C : Int → Prop) : Prop where
  ev : EV adj W
  one : ∀ v, v ≠ 0 → deg W v ≤ 1
  cnt : mat W = c
  low : ∀ x, at0 x W ≤ n
  clo : Clo adj W C
  cov : ∀ s : Nat, s < n → deg W ((s : Int) + 1) = 0 → ∀ y ∈ adj s, C y
end
structure IsM (l M : List Pr) : Prop where
  sub : ∀ p ∈ M, p ∈ l
  fst : (M.map Prod.fst).Nodup
  snd : (M.map Prod.snd).Nodup
theorem IsM.mono {l l' M : List Pr} (h : IsM l M) (k : ∀ p ∈ l, p ∈ l') : IsM l' M := ⟨fun p hp => k p (h.sub p hp), h.fst, h.snd⟩
end Go.HyM
/-
  What a pair more does to how pairs are spread. (Conditions: none; no program in sight.)
-/
set_option maxRecDepth 20000
namespace Go.HyM
open Go.SL Go.RowKit Go.ChangeShapes Go.WideShapes
section
variable {H : Type} {enc : TypeId × Value → H} {P : Program} {W : World} {base : Nat} {sp : Nat → Bool} {hd : Bool}
end
end Go.HyM
/-
  How likely numbers last that lie on servers. (Conditions: none; no program in sight.)
-/
set_option maxRecDepth 20000
namespace Go.HyM
open Go.SL Go.RowKit Go.Fl
def cS (l : List Pr) (s : Int) : Nat := (l.map Prod.fst).count s
def cD (l : List Pr) (x : Int) : Nat := (l.map Prod.snd).count x
def goodL (l : List Pr) (n : Nat) : Prop := (∀ x, cD l x ≤ 1) ∧ ∀ q ∈ l, q.1 < (n : Int)
theorem cS_snoc {l : List Pr} {i : Nat} {p : Pr} (h : l[i]? = some p) (x : Int) : cS (l.take (i + 1)) x = cS (l.take i) x + (if x = p.1 then 1 else 0) := by
  unfold cS
  rw [List.take_add_one, h]
  simp only [Option.toList_some, List.map_append, List.map_cons, List.map_nil, List.count_append, List.count_singleton, beq_iff_eq]
  congr 1
  by_cases e : x = p.1
  · rw [if_pos e, if_pos e.symm]
  · rw [if_neg e, if_neg fun h => e h.symm]
theorem cD_snoc {l : List Pr} {i : Nat} {p : Pr} (h : l[i]? = some p) (x : Int) : cD (l.take (i + 1)) x = cD (l.take i) x + (if x = p.2 then 1 else 0) := by
  unfold cD
  rw [List.take_add_one, h]
  simp only [Option.toList_some, List.map_append, List.map_cons, List.map_nil, List.count_append, List.count_singleton, beq_iff_eq]
  congr 1
  by_cases e : x = p.2
  · rw [if_pos e, if_pos e.symm]
  · rw [if_neg e, if_neg fun h => e h.symm]
theorem cS_le (l : List Pr) (x : Int) : cS l x ≤ l.length := by unfold cS; have := List.count_le_length (a := x) (l := l.map Prod.fst); rwa [List.length_map] at this
theorem cD_le (l : List Pr) (x : Int) : cD l x ≤ l.length := by unfold cD; have := List.count_le_length (a := x) (l := l.map Prod.snd); rwa [List.length_map] at this
theorem cD_take (l : List Pr) (i : Nat) (x : Int) : cD (l.take i) x ≤ cD l x := by
  unfold cD
  exact ((List.take_sublist i l).map _).count_le x
theorem cntS_step {l : List Pr} {i : Nat} {p : Pr} {M : List (Int × Int)} (h : l[i]? = some p) (hc : ∀ x, at0 x M = ((cS (l.take i) x : Nat) : Int)) : ∀ x, at0 x (putL p.1 (((cS (l.take i) p.1 + 1 : Nat)) : Int) M) = ((cS (l.take (i + 1)) x : Nat) : Int) := fun x => by
  rw [at0_put, cS_snoc h]
  split
  · rename_i e; rw [e]
  · rw [hc]; rfl
theorem cntD_step {l : List Pr} {i : Nat} {p : Pr} {M : List (Int × Int)} (h : l[i]? = some p) (hc : ∀ x, at0 x M = ((cD (l.take i) x : Nat) : Int)) : ∀ x, at0 x (putL p.2 (((cD (l.take i) p.2 + 1 : Nat)) : Int) M) = ((cD (l.take (i + 1)) x : Nat) : Int) := fun x => by
  rw [at0_put, cD_snoc h]
  split
  · rename_i e; rw [e]
  · rw [hc]; rfl
theorem look_c {x : Int} {n : Nat} {M : List (Int × Int)} (h : at0 x M = ((n : Nat) : Int)) : ((getL x M).map vfN).getD (.int .i64 0) = .int .i64 ((n : Nat) : Int) := by rw [look_at0, h]
theorem look_p {x b : Int} {M : List (Int × Int)} : ((getL x (putL x b M)).map vfN).getD (.int .i64 0) = .int .i64 b := by rw [getL_putL]; rfl
theorem good_step {l : List Pr} {i n : Nat} {p : Pr} (h : l[i]? = some p) (hg : goodL l n) : cD (l.take i) p.2 = 0 ∧ p.1 < (n : Int) := by
  refine ⟨?_, hg.2 p (List.mem_of_getElem? h)⟩
  have h1 := cD_snoc h p.2
  rw [if_pos rfl] at h1
  have h2 := cD_take l (i + 1) p.2
  have := hg.1 p.2
  omega
theorem good_snoc {l : List Pr} {i n : Nat} {p : Pr} (h : l[i]? = some p) (h1 : ∀ x, cD (l.take i) x ≤ 1) (h2 : ∀ q ∈ l.take i, q.1 < (n : Int)) (k1 : ¬ 1 < cD (l.take i) p.2 + 1) (k2 : ¬ (n : Int) ≤ p.1) : (∀ x, cD (l.take (i + 1)) x ≤ 1) ∧ ∀ q ∈ l.take (i + 1), q.1 < (n : Int) := by
  constructor
  · intro x
    rw [cD_snoc h]
    split
    · rename_i e; rw [e]; omega
    · have := h1 x; omega
  · intro q hq
    rw [List.take_add_one, h, List.mem_append] at hq
    rcases hq with hq | hq
    · exact h2 q hq
    · rw [Option.toList_some, List.mem_singleton] at hq
      rw [hq]; omega
def lasStep (l : List Pr) (p : List Nat) (s : Nat) (x : Nat) : List Nat := if 0 < cS l (s : Int) then takenM p (cS l (s : Int)) x else p
def lasT (l : List Pr) (p fl : List Nat) : List Nat := fl.zipIdx.foldl (fun q y => lasStep l q y.2 y.1) p
def lastP (l : List Pr) (fl : List Nat) (k : Int) : Nat := tailM (lasT l (begP l.length) fl) k
theorem lasT_snoc {l : List Pr} {p fl : List Nat} {s x : Nat} (h : fl[s]? = some x) : lasT l p (fl.take (s + 1)) = lasStep l (lasT l p (fl.take s)) s x := by
  have hs : s < fl.length := by
    rcases Nat.lt_or_ge s fl.length with q | q
    · exact q
    · rw [List.getElem?_eq_none q] at h; cases h
  rw [List.take_add_one, h]
  unfold lasT
  rw [List.zipIdx_append, List.foldl_append]
  simp only [Option.toList_some, List.zipIdx_cons, List.zipIdx_nil, List.foldl_cons, List.foldl_nil, List.length_take]
  rw [show 0 + min s fl.length = s by omega]
theorem lasT_yes {l : List Pr} {p fl : List Nat} {s x : Nat} (h : fl[s]? = some x) (k : 0 < cS l (s : Int)) : takenM (lasT l p (fl.take s)) (cS l (s : Int)) x = lasT l p (fl.take (s + 1)) := by
  rw [lasT_snoc h]; unfold lasStep; rw [if_pos k]
theorem lasT_no {l : List Pr} {p fl : List Nat} {s x : Nat} (h : fl[s]? = some x) (k : ¬ 0 < cS l (s : Int)) : lasT l p (fl.take s) = lasT l p (fl.take (s + 1)) := by
  rw [lasT_snoc h]; unfold lasStep; rw [if_neg k]
theorem lasT_len (l : List Pr) (p fl : List Nat) : (lasT l p fl).length = p.length := by
  unfold lasT
  generalize fl.zipIdx = z
  induction z generalizing p with
  | nil => rfl
  | cons y z ih =>
    rw [List.foldl_cons, ih]
    unfold lasStep
    split
    · rw [takenM_len]
    · rfl
theorem lasT_un (l : List Pr) {p fl : List Nat} (h : Un p) (hx : ∀ x ∈ fl, U x) : Un (lasT l p fl) := by
  unfold lasT
  have hz : ∀ y ∈ fl.zipIdx, U y.1 := fun y hy => hx _ (List.fst_mem_of_mem_zipIdx hy)
  generalize fl.zipIdx = z at *
  induction z generalizing p with
  | nil => exact h
  | cons y z ih =>
    rw [List.foldl_cons]
    refine ih ?_ fun w hw => hz w (List.mem_cons_of_mem _ hw)
    unfold lasStep
    split
    · exact takenM_un h (hz y List.mem_cons_self)
    · exact h
theorem begP_len (n : Nat) : (begP n).length = n + 1 := by unfold begP; simp
end Go.HyM
/-
  Each server with one number; noughts and ones. (Conditions: none; no program in sight.)
-/
set_option maxRecDepth 20000
namespace Go.HyM
open Ieee Go.SL Go.RowKit Go.Fl
theorem ord_0 {x : Nat} (h : x ≤ ONE) (k : double.order x 0 = some .eq) : x = 0 := by
  have hx : x < 2047 * 2 ^ 52 := by unfold ONE at h; omega
  unfold Format.order at k
  rw [read_fin hx, r_zero] at k
  unfold Datum.order at k
  have e4 : min ((rI x : Int) - 1074) (-1074) = -1074 := by omega
  have e5 : ((rI x : Int) - 1074 - -1074).toNat = rI x := by omega
  simp only [e4, e5, signed_f, Nat.zero_mul] at k
  have hz : rM x = 0 := by
    rcases Nat.eq_zero_or_pos (rM x) with q | q
    · exact q
    · exfalso
      have hp : 0 < rM x * 2 ^ rI x := Nat.mul_pos q (Nat.two_pow_pos _)
      generalize rM x * 2 ^ rI x = z at *
      have hc : compare ((z : Nat) : Int) ((0 : Nat) : Int) = .gt := by
        rw [Int.compare_eq_gt]; omega
      rw [hc] at k
      cases k
  have := rung_eq x
  have h3 := rM_n x
  omega
theorem ord_1 {x : Nat} (h : x ≤ ONE) (k : double.order x ONE = some .eq) : x = ONE := by
  have hx : x < 2047 * 2 ^ 52 := by unfold ONE at h; omega
  unfold Format.order at k
  rw [read_fin hx, r_one] at k
  unfold Datum.order at k
  have hI := rI_le h
  have e4 : min ((rI x : Int) - 1074) (((1022 : Nat) : Int) - 1074) = (rI x : Int) - 1074 := by omega
  have e5 : ((rI x : Int) - 1074 - ((rI x : Int) - 1074)).toNat = 0 := by omega
  have e6 : (((1022 : Nat) : Int) - 1074 - ((rI x : Int) - 1074)).toNat = 1022 - rI x := by omega
  simp only [e4, e5, e6, signed_f, Nat.pow_zero, Nat.mul_one] at k
  have e1 := rung_eq x
  have e2 := rM_lt x
  have hone := one_eq
  rcases Nat.lt_or_ge (rI x) 1022 with q | q
  · exfalso
    have : 2 ^ 52 * 2 ≤ 2 ^ 52 * 2 ^ (1022 - rI x) := Nat.mul_le_mul (Nat.le_refl _) (by
      have := Nat.pow_le_pow_right (n := 2) (by omega) (show 1 ≤ 1022 - rI x by omega)
      rw [Nat.pow_one] at this; exact this)
    generalize 2 ^ 52 * 2 ^ (1022 - rI x) = z at *
    have hc : compare ((rM x : Nat) : Int) ((z : Nat) : Int) = .lt := by
      rw [Int.compare_eq_lt]; omega
    rw [hc] at k
    cases k
  · have w2 : rI x = 1022 := by omega
    rw [w2, Nat.sub_self, Nat.pow_zero, Nat.mul_one] at k
    by_cases c : rM x = 2 ^ 52
    · omega
    · exfalso
      have h3 := rM_n x
      have hc : compare ((rM x : Nat) : Int) ((2 ^ 52 : Nat) : Int) = .gt := by
        rw [Int.compare_eq_gt]; omega
      rw [hc] at k
      cases k
def crB (x : Nat) : Bool := double.order x 0 == some .eq || double.order x ONE == some .eq
theorem crB_cases {x : Nat} (hU : U x) (h : crB x = true) : x = 0 ∨ x = SW ∨ x = ONE := by
  rcases hU with hU | hU
  · unfold crB at h
    rw [Bool.or_eq_true, beq_iff_eq, beq_iff_eq] at h
    rcases h with h | h
    · exact .inl (ord_0 hU h)
    · exact .inr (.inr (ord_1 hU h))
  · exact .inr (.inl hU)
theorem fl_facts : (fsub ONE 0 = ONE ∧ fsub ONE SW = ONE ∧ fsub ONE ONE = 0) ∧ (fmul 0 ONE = 0 ∧ fmul ONE ONE = ONE ∧ fmul 0 0 = 0 ∧ fmul ONE 0 = 0 ∧ fmul 0 SW = SW ∧ fmul ONE SW = SW) ∧ (fadd 0 0 = 0 ∧ fadd ONE 0 = ONE ∧ fadd 0 ONE = ONE ∧ fadd 0 SW = 0 ∧ fadd ONE SW = ONE) := by decide +kernel
def CR (p : List Nat) : Prop := (∀ v ∈ p, v = 0 ∨ v = ONE) ∧ p.count ONE ≤ 1
theorem CR.at {p : List Nat} (h : CR p) (j : Nat) : p.getD j 0 = 0 ∨ p.getD j 0 = ONE := by
  rw [List.getD_eq_getElem?_getD]
  cases e : p[j]? with
  | none => exact .inl rfl
  | some v => exact h.1 v (List.mem_of_getElem? e)
theorem CR.beg (n : Nat) : CR (begP n) := by
  unfold begP
  constructor
  · intro v hv
    rcases List.mem_cons.1 hv with rfl | h
    · exact .inr rfl
    · exact .inl (List.eq_of_mem_replicate h)
  · rw [List.count_cons, List.count_replicate, if_neg (by decide), if_pos (by decide)]; omega
theorem getD_get {p : List Nat} {j : Nat} (h : j < p.length) : p[j]? = some (p.getD j 0) := by
  rw [List.getD_eq_getElem?_getD, List.getElem?_eq_getElem h]; rfl
theorem taken_0 {p : List Nat} {x : Nat} (h : CR p) (hx : x = 0 ∨ x = SW) : takenM p 1 x = p := by
  apply List.ext_getElem?
  intro j
  obtain ⟨⟨f1, f2, f3⟩, ⟨m1, m2, m3, m4, m5, m6⟩, a1, a2, a3, a4, a5⟩ := fl_facts
  rcases Nat.lt_or_ge j p.length with q | q
  · rw [takenM_at q, getD_get q]
    congr 1
    unfold takeAt
    have hy : fsub ONE x = ONE := by rcases hx with rfl | rfl <;> assumption
    rw [hy]
    split
    · rcases h.at j with e | e <;> rw [e] <;> rcases h.at (j - 1) with z | z <;> rw [z] <;> rcases hx with rfl | rfl <;> simp only [m1, m2, m3, m4, m5, m6, a1, a2, a3, a4, a5]
    · rcases h.at j with e | e <;> rw [e] <;> assumption
  · rw [List.getElem?_eq_none (by rw [takenM_len]; exact q), List.getElem?_eq_none q]
theorem taken_1 {p : List Nat} (h : CR p) : takenM p 1 ONE = (0 :: p).take p.length := by
  apply List.ext_getElem?
  intro j
  obtain ⟨⟨f1, f2, f3⟩, ⟨m1, m2, m3, m4, m5, m6⟩, a1, a2, a3, a4, a5⟩ := fl_facts
  rcases Nat.lt_or_ge j p.length with q | q
  · rw [takenM_at q, List.getElem?_take_of_lt q]
    unfold takeAt
    rw [f3]
    cases j with
    | zero =>
      rw [if_neg (by omega)]
      show some _ = some 0
      congr 1
      rcases h.at 0 with e | e <;> rw [e] <;> assumption
    | succ j =>
      rw [if_pos (by omega), List.getElem?_cons_succ, getD_get (by omega), Nat.add_sub_cancel]
      congr 1
      rcases h.at (j + 1) with e | e <;> rw [e] <;> rcases h.at j with z | z <;> rw [z] <;> simp only [m1, m2, m3, m4, a1, a3]
  · rw [List.getElem?_eq_none (by rw [takenM_len]; exact q), List.getElem?_eq_none (by rw [List.length_take]; omega)]
theorem taken_CR {p : List Nat} {x : Nat} (h : CR p) (hx : x = 0 ∨ x = SW ∨ x = ONE) : CR (takenM p 1 x) := by
  have h0 : (x = 0 ∨ x = SW) ∨ x = ONE := by rcases hx with e | e | e <;> simp [e]
  rcases h0 with e | e
  · rw [taken_0 h e]; exact h
  · rw [e, taken_1 h]
    constructor
    · intro v hv
      rcases List.mem_cons.1 (List.mem_of_mem_take hv) with k | k
      · exact .inl k
      · exact h.1 v k
    · refine Nat.le_trans ((List.take_sublist _ _).count_le _) ?_
      rw [List.count_cons, if_neg (by decide)]
      exact h.2
theorem allT_CR : ∀ (l : List Nat) {p : List Nat}, CR p → (∀ x ∈ l, x = 0 ∨ x = SW ∨ x = ONE) → CR (allT p l)
  | [], p, h, _ => h
  | x :: l, p, h, hl => by
    show CR (allT (takenM p 1 x) l)
    exact allT_CR l (taken_CR h (hl x List.mem_cons_self)) fun y hy => hl y (List.mem_cons_of_mem _ hy)
theorem tailF_CR {p : List Nat} (h : CR p) : ∀ (m n : Nat), p.length ≤ n + m → tailF p n = if ONE ∈ p.drop n then ONE else 0
  | 0, n, hm => by rw [tailF_end (by omega), List.drop_of_length_le (by omega), if_neg List.not_mem_nil]
  | m + 1, n, hm => by
    obtain ⟨_, _, a1, a2, a3, a4, a5⟩ := fl_facts
    rcases Nat.lt_or_ge n p.length with q | q
    · have ih := tailF_CR h m (n + 1) (by omega)
      have e : p.drop n = p.getD n 0 :: p.drop (n + 1) := by
        rw [List.drop_eq_getElem_cons q, List.getD_eq_getElem?_getD, List.getElem?_eq_getElem q]; rfl
      have hc : (p.drop n).count ONE ≤ 1 := Nat.le_trans ((List.drop_sublist _ _).count_le _) h.2
      rw [tailF_step q, ih, e]
      rw [e, List.count_cons] at hc
      rcases h.at n with z | z
      · rw [z]
        by_cases k : ONE ∈ p.drop (n + 1)
        · rw [if_pos k, if_pos (List.mem_cons_of_mem _ k)]; exact a2
        · rw [if_neg k, if_neg (by rw [List.mem_cons]; rintro (w | w); · exact absurd w (by decide)
                                   · exact k w)]; exact a1
      · rw [z] at hc ⊢
        rw [if_pos (by decide)] at hc
        have k : ONE ∉ p.drop (n + 1) := fun k => by
          have := List.count_pos_iff.2 k; omega
        rw [if_neg k, if_pos List.mem_cons_self]; exact a3
    · rw [tailF_end q, List.drop_of_length_le q, if_neg List.not_mem_nil]
theorem odds_crisp {l : List Nat} {k : Int} (hU : ∀ x ∈ l, U x) (h : l.all crB = true) : oddsP l k = 0 ∨ oddsP l k = ONE := by
  unfold oddsP tailM
  rw [List.all_eq_true] at h
  rw [tailF_CR (allT_CR l (CR.beg _) fun x hx => crB_cases (hU x hx) (h x hx)) _ _ (Nat.le_add_left _ _)]
  split
  · exact .inr rfl
  · exact .inl rfl
theorem odds_NN {l : List Nat} {k : Int} (hU : ∀ x ∈ l, U x) : NN (oddsP l k) := tailF_nn (allT_un l (begP_un _) hU) _ _ (Nat.le_add_left _ _)
def selW (ws : List Bool) (s : Nat) : Bool := ws.getD s false
def PLm (ws : List Bool) (i : Nat) : List Pr := ((List.range i).filter (selW ws)).map fun s : Nat => (((s : Nat) : Int), ((2 * s + 1 : Nat) : Int))
def FLm (ws : List Bool) (fl : List Nat) (i : Nat) : List Nat := ((List.range i).filter (selW ws)).map fun s : Nat => fl.getD s 0
theorem PLm_yes {ws : List Bool} {i : Nat} (h : selW ws i = true) : PLm ws i ++ [(((i : Nat) : Int), ((2 * i + 1 : Nat) : Int))] = PLm ws (i + 1) := by
  unfold PLm; rw [List.range_succ, List.filter_append, List.filter_cons_of_pos h, List.map_append]; rfl
theorem PLm_no {ws : List Bool} {i : Nat} (h : selW ws i = false) : PLm ws i = PLm ws (i + 1) := by
  unfold PLm; rw [List.range_succ, List.filter_append, List.filter_cons_of_neg (by rw [h]; decide)]; simp
theorem FLm_yes {ws : List Bool} {fl : List Nat} {i x : Nat} (hx : fl[i]? = some x) (h : selW ws i = true) : FLm ws fl i ++ [x] = FLm ws fl (i + 1) := by
  unfold FLm; rw [List.range_succ, List.filter_append, List.filter_cons_of_pos h, List.map_append, List.filter_nil, List.map_cons, List.map_nil, List.getD_eq_getElem?_getD, hx]; rfl
theorem FLm_no {ws : List Bool} {fl : List Nat} {i : Nat} (h : selW ws i = false) : FLm ws fl i = FLm ws fl (i + 1) := by
  unfold FLm; rw [List.range_succ, List.filter_append, List.filter_cons_of_neg (by rw [h]; decide)]; simp
theorem PLm_len (ws : List Bool) (fl : List Nat) (i : Nat) : (PLm ws i).length = (FLm ws fl i).length := by unfold PLm FLm; rw [List.length_map, List.length_map]
theorem PLm_le (ws : List Bool) (i : Nat) : (PLm ws i).length ≤ i := by
  unfold PLm; rw [List.length_map]
  have := List.length_filter_le (selW ws) (List.range i)
  rwa [List.length_range] at this
theorem PLm_mem {ws : List Bool} {i : Nat} {p : Pr} (h : p ∈ PLm ws i) : ∃ s : Nat, s < i ∧ selW ws s = true ∧ p = (((s : Nat) : Int), ((2 * s + 1 : Nat) : Int)) := by
  unfold PLm at h
  obtain ⟨s, hs, rfl⟩ := List.mem_map.1 h
  obtain ⟨h1, h2⟩ := List.mem_filter.1 hs
  exact ⟨s, List.mem_range.1 h1, h2, rfl⟩
theorem PLm_may {ws : List Bool} {i : Nat} (hi : i ≤ 32) : mayP (PLm ws i) := ⟨by have := PLm_le ws i; omega, fun p hp => by
  obtain ⟨s, h1, _, rfl⟩ := PLm_mem hp
  unfold pOk; dsimp only; omega⟩
theorem PLm_pw (ws : List Bool) (i : Nat) : (PLm ws i).Pairwise prLt := by
  unfold PLm
  rw [List.pairwise_map]
  exact (List.Pairwise.filter _ List.pairwise_lt_range).imp fun {a b} h => .inl (by dsimp only; omega)
theorem PLm_look {ws : List Bool} {i : Nat} (hi : i ≤ 32) : lookP (PLm ws i) = PLm ws i :=
  ((lookP_perm (PLm_may (ws := ws) hi).2 (pw_nodup (PLm_pw ws i)) fun p => Iff.rfl).symm).eq_of_pairwise (fun a b _ _ q1 q2 => absurd (prLt_tr q1 q2) (prLt_irr a)) (lookP_pw _) (PLm_pw ws i)
theorem nd_count {α : Type} [DecidableEq α] {a : α} : ∀ {l : List α}, l.Nodup → l.count a ≤ 1
  | [], _ => by simp
  | x :: l, h => by
    rw [List.nodup_cons] at h
    rw [List.count_cons]
    by_cases e : x = a
    · subst e
      rw [List.count_eq_zero.2 h.1]; simp
    · rw [if_neg (by simpa using e)]
      exact nd_count h.2
theorem PLm_fst (ws : List Bool) (i : Nat) : ((PLm ws i).map Prod.fst).Nodup := by
  unfold PLm
  rw [List.map_map]
  exact List.pairwise_map.2 ((List.Pairwise.filter _ List.nodup_range).imp fun {a b} (h : a ≠ b) (e : ((a : Nat) : Int) = ((b : Nat) : Int)) => h (by omega))
theorem PLm_snd (ws : List Bool) (i : Nat) : ((PLm ws i).map Prod.snd).Nodup := by
  unfold PLm
  rw [List.map_map]
  exact List.pairwise_map.2 ((List.Pairwise.filter _ List.nodup_range).imp fun {a b} (h : a ≠ b) (e : ((2 * a + 1 : Nat) : Int) = ((2 * b + 1 : Nat) : Int)) => h (by omega))
theorem PLm_good (ws : List Bool) (i : Nat) : goodL (PLm ws i) i := ⟨fun _ => nd_count (PLm_snd ws i), fun q hq => by
  obtain ⟨s, h1, _, rfl⟩ := PLm_mem hq
  dsimp only; omega⟩
theorem PLm_cS {ws : List Bool} {i s : Nat} (hs : s < i) : cS (PLm ws i) ((s : Nat) : Int) = if selW ws s = true then 1 else 0 := by
  have h1 : cS (PLm ws i) ((s : Nat) : Int) ≤ 1 := nd_count (PLm_fst ws i)
  by_cases e : selW ws s = true
  · rw [if_pos e]
    have : 0 < cS (PLm ws i) ((s : Nat) : Int) := List.count_pos_iff.2 (List.mem_map.2 ⟨_, List.mem_map.2 ⟨s, List.mem_filter.2 ⟨List.mem_range.2 hs, e⟩, rfl⟩, rfl⟩)
    omega
  · rw [if_neg e]
    refine List.count_eq_zero.2 fun h => e ?_
    obtain ⟨p, hp, k⟩ := List.mem_map.1 h
    obtain ⟨z, _, h2, rfl⟩ := PLm_mem hp
    have : z = s := by dsimp only at k; omega
    rw [← this]; exact h2
theorem lasT_which {ws : List Bool} {fl p : List Nat} : ∀ s, s ≤ fl.length → lasT (PLm ws fl.length) p (fl.take s) = allT p (FLm ws fl s)
  | 0, _ => rfl
  | s + 1, hs => by
    have ih := lasT_which (ws := ws) (fl := fl) (p := p) s (by omega)
    have hx := getD_get (p := fl) (j := s) (by omega)
    rw [lasT_snoc hx, ih]
    unfold lasStep
    rw [PLm_cS (by omega)]
    cases e : selW ws s with
    | true =>
      rw [if_pos rfl, if_pos (by omega), ← FLm_yes hx e]
      unfold allT
      rw [List.foldl_append]; rfl
    | false =>
      rw [if_neg (by decide), FLm_no e]
theorem lastP_which {ws : List Bool} {fl : List Nat} {k : Int} : lastP (PLm ws fl.length) fl k = oddsP (FLm ws fl fl.length) k := by
  have h := lasT_which (ws := ws) (fl := fl) (p := begP (PLm ws fl.length).length) fl.length (Nat.le_refl _)
  rw [List.take_length] at h
  unfold lastP oddsP
  rw [h, PLm_len ws fl]
theorem FLm_mem {ws : List Bool} {fl : List Nat} {x : Nat} (h : x ∈ FLm ws fl fl.length) : x ∈ fl := by
  unfold FLm at h
  obtain ⟨s, hs, rfl⟩ := List.mem_map.1 h
  have := List.mem_range.1 (List.mem_filter.1 hs).1
  exact List.mem_of_getElem? (getD_get this)
theorem FLm_ok {ws : List Bool} {fl : List Nat} (h : oddsOk fl = true) : oddsOk (FLm ws fl fl.length) = true := by
  unfold oddsOk at *
  rw [List.all_eq_true] at *
  exact fun x hx => h x (FLm_mem hx)
theorem FLm_cr {ws : List Bool} {fl : List Nat} (h : fl.all crB = true) : (FLm ws fl fl.length).all crB = true := by
  rw [List.all_eq_true] at *
  exact fun x hx => h x (FLm_mem hx)
theorem cr_snoc {fl : List Nat} {i x : Nat} (h : fl[i]? = some x) : (fl.take (i + 1)).all crB = ((fl.take i).all crB && crB x) := by
  rw [List.take_add_one, h, List.all_append]
  simp
theorem selW_get {ws : List Bool} {i : Nat} (h : i < ws.length) : ws[i]? = some (selW ws i) := by
  unfold selW
  rw [List.getD_eq_getElem?_getD, List.getElem?_eq_getElem h]; rfl
theorem selW_out {ws : List Bool} {i : Nat} (h : ¬ i < ws.length) : selW ws i = false := by
  unfold selW
  rw [List.getD_eq_getElem?_getD, List.getElem?_eq_none (by omega)]; rfl
theorem fdiv_ok {x : Nat} (h : NN x) : ∃ y, floatBits .quo .f64 ONE x = some y ∧ NN y := div_NN h
theorem ord_00 : double.order 0 0 = some .eq := by decide +kernel
theorem ord_11 : double.order ONE ONE = some .eq := by decide +kernel
theorem crisp_one {l : List Nat} {k : Int} (hU : ∀ x ∈ l, U x) (h : l.all crB = true) (h0 : ¬ double.order (oddsP l k) 0 = some .eq) : double.order (oddsP l k) ONE = some .eq := by
  rcases odds_crisp (k := k) hU h with q | q
  · rw [q] at h0; exact absurd ord_00 h0
  · rw [q]; exact ord_11
end Go.HyM
/-
  What is handed in: floats. (Conditions: none; generic over the program.)
-/
set_option maxRecDepth 20000
namespace Go.HyM
open Go.SL Go.RowKit Go.Fl
section
variable {H : Type} {enc : TypeId × Value → H} {P : Program} {W : World} {base : Nat} {sp : Nat → Bool} {hd : Bool}
theorem trod_fl {t : TypeId} {n : Nat} {c : List Value} {y : DataW H × List MemPlace} (ht : P.underlying t = some (.float .f64)) (h : DataW.trod enc P W base sp hd n t c = some y) : ∃ b, c = [.float .f64 b] ∧ (Lit.float .f64 b).wf = true := by
  cases n with
  | zero => simp [DataW.trod] at h
  | succ n =>
    unfold DataW.trod at h
    rw [ht] at h
    split at h <;> simp_all
theorem el_fl {t : TypeId} (ht : P.underlying t = some (.float .f64)) : ∀ n' c y, DataW.trod enc P W base sp hd n' t c = some y → ∃ x : Nat, c = eF x ∧ x < 2 ^ 64 := fun n' c y h => by
  obtain ⟨b, rfl, hw⟩ := trod_fl ht h
  exact ⟨b, rfl, of_decide_eq_true hw⟩
end
end Go.HyM
