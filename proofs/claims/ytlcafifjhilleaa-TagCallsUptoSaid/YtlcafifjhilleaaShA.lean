/-
  Contracts of functions that the claim reaches, or the logic and the plain laws that they rest on, or the row over them. (Conditions: none beyond the statement.)
-/
import Derived.Test.YtlcafifjhilleaaLibA
import Derived.Test.YtlcafifjhilleaaLibB
set_option linter.all false
/-
  What the program's digest computes, and what the document's does, in plain words. (Conditions: none; no program in sight.)
-/
set_option maxRecDepth 20000
namespace Go.ShM
open Go.SL
abbrev B8 := BitVec 8
abbrev B32 := BitVec 32
/-- to the left by k, round (a negative k: to the right) -/
def rotM (x : B32) (k : Int) : B32 := (x <<< (BitVec.ofInt 64 k &&& 31#64).toNat) ||| (x >>> (32#64 - (BitVec.ofInt 64 k &&& 31#64)).toNat)
def z64 : List B32 := List.replicate 64 0#32
/-- one place of the schedule -/
def schS (bs : List B8) (i : Nat) (ws : List B32) : List B32 :=
  if i < 16 then ws.set i (((((bs.getD (4 * i) 0#8).setWidth 32 <<< 24) ||| ((bs.getD (4 * i + 1) 0#8).setWidth 32 <<< 16)) ||| ((bs.getD (4 * i + 2) 0#8).setWidth 32 <<< 8)) ||| (bs.getD (4 * i + 3) 0#8).setWidth 32)
  else ws.set i ((((((rotM (ws.getD (i - 2) 0#32) (-17)) ^^^ (rotM (ws.getD (i - 2) 0#32) (-19))) ^^^ ((ws.getD (i - 2) 0#32) >>> 10)) + ws.getD (i - 7) 0#32) + (((rotM (ws.getD (i - 15) 0#32) (-7)) ^^^ (rotM (ws.getD (i - 15) 0#32) (-18))) ^^^ ((ws.getD (i - 15) 0#32) >>> 3))) + ws.getD (i - 16) 0#32)
theorem schS_len (bs : List B8) (i : Nat) (ws : List B32) : (schS bs i ws).length = ws.length := by unfold schS; split <;> simp
def schI (bs : List B8) (i : Nat) : List B32 := it (schS bs) i z64
theorem schI_len (bs : List B8) (i : Nat) : (schI bs i).length = 64 := by unfold schI; rw [it_len (schS_len bs)]; simp [z64]
theorem schI_lo {bs : List B8} {i : Nat} (h : i < 16) : schI bs (i + 1) = (schI bs i).set i (((((bs.getD (4 * i) 0#8).setWidth 32 <<< 24) ||| ((bs.getD (4 * i + 1) 0#8).setWidth 32 <<< 16)) ||| ((bs.getD (4 * i + 2) 0#8).setWidth 32 <<< 8)) ||| (bs.getD (4 * i + 3) 0#8).setWidth 32) := by
  show schS bs i (schI bs i) = _
  rw [schS, if_pos h]
theorem schI_hi {bs : List B8} {i : Nat} (h : ¬ i < 16) : schI bs (i + 1) = (schI bs i).set i ((((((rotM ((schI bs i).getD (i - 2) 0#32) (-17)) ^^^ (rotM ((schI bs i).getD (i - 2) 0#32) (-19))) ^^^ (((schI bs i).getD (i - 2) 0#32) >>> 10)) + (schI bs i).getD (i - 7) 0#32) + (((rotM ((schI bs i).getD (i - 15) 0#32) (-7)) ^^^ (rotM ((schI bs i).getD (i - 15) 0#32) (-18))) ^^^ (((schI bs i).getD (i - 15) 0#32) >>> 3))) + (schI bs i).getD (i - 16) 0#32) := by
  show schS bs i (schI bs i) = _
  rw [schS, if_neg h]
def schM (bs : List B8) : List B32 := schI bs 64
theorem schM_len (bs : List B8) : (schM bs).length = 64 := schI_len _ _
def uM (x : List B32) (w : B32) : B32 := ((x.getD 7 0#32 + ((rotM (x.getD 4 0#32) (-6) ^^^ rotM (x.getD 4 0#32) (-11)) ^^^ rotM (x.getD 4 0#32) (-25))) + ((x.getD 4 0#32 &&& x.getD 5 0#32) ^^^ (~~~ (x.getD 4 0#32) &&& x.getD 6 0#32))) + w
def vM (x : List B32) : B32 := ((rotM (x.getD 0 0#32) (-2) ^^^ rotM (x.getD 0 0#32) (-13)) ^^^ rotM (x.getD 0 0#32) (-22)) + (((x.getD 0 0#32 &&& x.getD 1 0#32) ^^^ (x.getD 0 0#32 &&& x.getD 2 0#32)) ^^^ (x.getD 1 0#32 &&& x.getD 2 0#32))
/-- one round -/
def roundM (x : List B32) (w : B32) : List B32 := [uM x w + vM x, x.getD 0 0#32, x.getD 1 0#32, x.getD 2 0#32, x.getD 3 0#32 + uM x w, x.getD 4 0#32, x.getD 5 0#32, x.getD 6 0#32]
def kM : List B32 := [1116352408#32, 1899447441#32, 3049323471#32, 3921009573#32, 961987163#32, 1508970993#32, 2453635748#32, 2870763221#32, 3624381080#32, 310598401#32, 607225278#32, 1426881987#32, 1925078388#32, 2162078206#32, 2614888103#32, 3248222580#32, 3835390401#32, 4022224774#32, 264347078#32, 604807628#32, 770255983#32, 1249150122#32, 1555081692#32, 1996064986#32, 2554220882#32, 2821834349#32, 2952996808#32, 3210313671#32, 3336571891#32, 3584528711#32, 113926993#32, 338241895#32, 666307205#32, 773529912#32, 1294757372#32, 1396182291#32, 1695183700#32, 1986661051#32, 2177026350#32, 2456956037#32, 2730485921#32, 2820302411#32, 3259730800#32, 3345764771#32, 3516065817#32, 3600352804#32, 4094571909#32, 275423344#32, 430227734#32, 506948616#32, 659060556#32, 883997877#32, 958139571#32, 1322822218#32, 1537002063#32, 1747873779#32, 1955562222#32, 2024104815#32, 2227730452#32, 2361852424#32, 2428436474#32, 2756734187#32, 3204031479#32, 3329325298#32]
theorem kM_len : kM.length = 64 := rfl
def iniM : List B32 := [1779033703#32, 3144134277#32, 1013904242#32, 2773480762#32, 1359893119#32, 2600822924#32, 528734635#32, 1541459225#32]
theorem iniM_len : iniM.length = 8 := rfl
def rndI (hs ws : List B32) (i : Nat) : List B32 := it (fun t x => roundM x (kM.getD t 0#32 + ws.getD t 0#32)) i hs
theorem rndI_len {hs ws : List B32} (h : hs.length = 8) : ∀ i, (rndI hs ws i).length = 8
  | 0 => h
  | _ + 1 => rfl
theorem rndI_succ (hs ws : List B32) (i : Nat) : rndI hs ws (i + 1) = roundM (rndI hs ws i) (kM.getD i 0#32 + ws.getD i 0#32) := rfl
def addI (hs xs : List B32) (i : Nat) : List B32 := it (fun t h => h.set t (h.getD t 0#32 + xs.getD t 0#32)) i hs
theorem addI_len {hs xs : List B32} (h : hs.length = 8) (i : Nat) : (addI hs xs i).length = 8 := by unfold addI; rw [it_len (by simp)]; exact h
theorem addI_succ (hs xs : List B32) (i : Nat) : addI hs xs (i + 1) = (addI hs xs i).set i ((addI hs xs i).getD i 0#32 + xs.getD i 0#32) := rfl
/-- one block -/
def mixM (hs : List B32) (bs : List B8) : List B32 := addI hs (rndI hs (schM bs) 64) 8
theorem mixM_len {hs : List B32} {bs : List B8} (h : hs.length = 8) : (mixM hs bs).length = 8 := addI_len h _
end Go.ShM
set_option maxRecDepth 20000
namespace Go.ShM
open Go.SL
/-! ### the document's -/
def turnR (x : B32) (n : BitVec 64) : B32 := (x >>> n.toNat) ||| (x <<< (32#64 - n).toNat)
def accR (bs : List B8) (i : Nat) (k : Nat) : B32 := it (fun q a => a * 256#32 + (bs.getD (4 * i + q) 0#8).setWidth 32) k 0#32
theorem accR_4 (bs : List B8) (i : Nat) : accR bs i 4 = ((((bs.getD (4 * i) 0#8).setWidth 32 <<< 24) ||| ((bs.getD (4 * i + 1) 0#8).setWidth 32 <<< 16)) ||| ((bs.getD (4 * i + 2) 0#8).setWidth 32 <<< 8)) ||| (bs.getD (4 * i + 3) 0#8).setWidth 32 := by
  show ((((0#32 * 256#32 + (bs.getD (4 * i + 0) 0#8).setWidth 32) * 256#32 + (bs.getD (4 * i + 1) 0#8).setWidth 32) * 256#32 + (bs.getD (4 * i + 2) 0#8).setWidth 32) * 256#32 + (bs.getD (4 * i + 3) 0#8).setWidth 32) = _
  rw [Nat.add_zero]
  generalize bs.getD (4 * i) 0#8 = a
  generalize bs.getD (4 * i + 1) 0#8 = b
  generalize bs.getD (4 * i + 2) 0#8 = c
  generalize bs.getD (4 * i + 3) 0#8 = d
  apply BitVec.eq_of_toNat_eq
  have ha := a.isLt; have hb := b.isLt; have hc := c.isLt; have hd := d.isLt
  simp only [BitVec.toNat_or, BitVec.toNat_shiftLeft, BitVec.toNat_setWidth, BitVec.toNat_add, BitVec.toNat_mul, BitVec.toNat_ofNat]
  generalize a.toNat = a at *
  generalize b.toNat = b at *
  generalize c.toNat = c at *
  generalize d.toNat = d at *
  have e1 : a % 2 ^ 32 = a := Nat.mod_eq_of_lt (by omega)
  have e2 : b % 2 ^ 32 = b := Nat.mod_eq_of_lt (by omega)
  have e3 : c % 2 ^ 32 = c := Nat.mod_eq_of_lt (by omega)
  have e4 : d % 2 ^ 32 = d := Nat.mod_eq_of_lt (by omega)
  rw [e1, e2, e3, e4]
  simp only [Nat.shiftLeft_eq]
  rw [Nat.mod_eq_of_lt (show a * 2 ^ 24 < 2 ^ 32 by omega), Nat.mod_eq_of_lt (show b * 2 ^ 16 < 2 ^ 32 by omega), Nat.mod_eq_of_lt (show c * 2 ^ 8 < 2 ^ 32 by omega)]
  have o1 : a * 2 ^ 24 ||| b * 2 ^ 16 = a * 2 ^ 24 + b * 2 ^ 16 := by
    have := Nat.shiftLeft_add_eq_or_of_lt (i := 24) (show b * 2 ^ 16 < 2 ^ 24 by omega) a
    rw [Nat.shiftLeft_eq] at this; exact this.symm
  have o2 : (a * 2 ^ 24 + b * 2 ^ 16) ||| c * 2 ^ 8 = a * 2 ^ 24 + b * 2 ^ 16 + c * 2 ^ 8 := by
    have := Nat.shiftLeft_add_eq_or_of_lt (i := 16) (show c * 2 ^ 8 < 2 ^ 16 by omega) (a * 2 ^ 8 + b)
    rw [Nat.shiftLeft_eq, show (a * 2 ^ 8 + b) * 2 ^ 16 = a * 2 ^ 24 + b * 2 ^ 16 by simp only [Nat.add_mul, Nat.mul_assoc, Nat.reducePow, Nat.reduceMul]] at this; exact this.symm
  have o3 : (a * 2 ^ 24 + b * 2 ^ 16 + c * 2 ^ 8) ||| d = a * 2 ^ 24 + b * 2 ^ 16 + c * 2 ^ 8 + d := by
    have := Nat.shiftLeft_add_eq_or_of_lt (i := 8) (show d < 2 ^ 8 by omega) (a * 2 ^ 16 + b * 2 ^ 8 + c)
    rw [Nat.shiftLeft_eq, show (a * 2 ^ 16 + b * 2 ^ 8 + c) * 2 ^ 8 = a * 2 ^ 24 + b * 2 ^ 16 + c * 2 ^ 8 by simp only [Nat.add_mul, Nat.mul_assoc, Nat.reducePow, Nat.reduceMul]] at this; exact this.symm
  rw [o1, o2, o3]
  omega
theorem accR_succ (bs : List B8) (i k : Nat) : accR bs i (k + 1) = accR bs i k * 256#32 + (bs.getD (4 * i + k) 0#8).setWidth 32 := rfl
/-- what has not been set yet is nought -/
theorem schI_nought (bs : List B8) : ∀ (i j : Nat), i ≤ j → i ≤ 16 → (schI bs i).getD j 0#32 = 0#32
  | 0, j, _, _ => by
    show (List.replicate 64 0#32).getD j 0#32 = 0#32
    rw [List.getD_eq_getElem?_getD, List.getElem?_replicate]; split <;> rfl
  | i + 1, j, hj, h16 => by
    have ih := schI_nought bs i j (by omega) (by omega)
    rw [schI_lo (by omega)]
    rw [List.getD_eq_getElem?_getD] at ih ⊢
    rw [List.getElem?_set_ne (by omega)]; exact ih
def wrdI (bs : List B8) (i k : Nat) : List B32 := (schI bs i).set i (accR bs i k)
theorem wrdI_0 {bs : List B8} {i : Nat} (h : i ≤ 16) : wrdI bs i 0 = schI bs i := by
  have hn := schI_nought bs i i (Nat.le_refl _) h
  show (schI bs i).set i 0#32 = schI bs i
  have hl := schI_len bs i
  apply List.ext_getElem?
  intro j
  rw [List.getElem?_set]
  split
  · rename_i e; subst e
    split
    · rename_i hlt
      rw [List.getD_eq_getElem?_getD, List.getElem?_eq_getElem hlt] at hn
      rw [List.getElem?_eq_getElem hlt]; exact congrArg some hn.symm
    · omega
  · rfl
theorem wrdI_4 {bs : List B8} {i : Nat} (h : i < 16) : wrdI bs i 4 = schI bs (i + 1) := by rw [schI_lo h, ← accR_4]; rfl
theorem wrdI_len (bs : List B8) (i k : Nat) : (wrdI bs i k).length = 64 := by rw [wrdI, List.length_set, schI_len]
theorem wrdI_get {bs : List B8} {i k : Nat} (h : i < 16) : (wrdI bs i k).getD i 0#32 = accR bs i k := by
  have hl := schI_len bs i
  rw [wrdI, List.getD_eq_getElem?_getD, List.getElem?_set_self (by omega)]; rfl
theorem wrdI_succ {bs : List B8} {i k : Nat} (h : i < 16) : (wrdI bs i k).set i ((wrdI bs i k).getD i 0#32 * 256#32 + (bs.getD (4 * i + k) 0#8).setWidth 32) = wrdI bs i (k + 1) := by
  rw [wrdI_get h, ← accR_succ, wrdI, wrdI, List.set_set]
def uR (x : List B32) (c w : B32) : B32 := (((x.getD 7 0#32 + ((rotM (x.getD 4 0#32) (-6) ^^^ rotM (x.getD 4 0#32) (-11)) ^^^ rotM (x.getD 4 0#32) (-25))) + ((x.getD 4 0#32 &&& x.getD 5 0#32) ^^^ ((4294967295#32 ^^^ x.getD 4 0#32) &&& x.getD 6 0#32))) + c) + w
def roundR (x : List B32) (c w : B32) : List B32 := [uR x c w + vM x, x.getD 0 0#32, x.getD 1 0#32, x.getD 2 0#32, x.getD 3 0#32 + uR x c w, x.getD 4 0#32, x.getD 5 0#32, x.getD 6 0#32]
theorem uR_eq (x : List B32) (c w : B32) : uR x c w = uM x (c + w) := by
  unfold uR uM
  rw [show (4294967295#32 : B32) = BitVec.allOnes 32 from rfl, BitVec.allOnes_xor, BitVec.add_assoc]
theorem roundR_eq (x : List B32) (c w : B32) : roundR x c w = roundM x (c + w) := by unfold roundR roundM; rw [uR_eq]
end Go.ShM
namespace Go.ShM
open Go.SL
/-! ### numbers as bytes -/
abbrev B64 := BitVec 64
def w64 (i : Nat) : B64 := it (fun _ k => k >>> 8) i (~~~ BitVec.ofNat 64 0)
theorem w64_nz : ∀ i, i ≤ 8 → (w64 i ≠ 0#64 ↔ i < 8) := by
  intro i hi
  rcases (show i = 0 ∨ i = 1 ∨ i = 2 ∨ i = 3 ∨ i = 4 ∨ i = 5 ∨ i = 6 ∨ i = 7 ∨ i = 8 from by omega) with h | h | h | h | h | h | h | h | h <;> subst h <;> decide
def w32 (i : Nat) : B32 := it (fun _ k => ((k.setWidth 64) >>> 8).setWidth 32) i (~~~ BitVec.ofNat 32 0)
theorem w32_nz : ∀ i, i ≤ 4 → (w32 i ≠ 0#32 ↔ i < 4) := by
  intro i hi
  rcases (show i = 0 ∨ i = 1 ∨ i = 2 ∨ i = 3 ∨ i = 4 from by omega) with h | h | h | h | h <;> subst h <;> decide
def bigI (n : Nat) (x : B64) (i : Nat) : List B8 := it (fun i l => l.set (n - 1 - i) ((x >>> (8 * i)).setWidth 8)) i (List.replicate n 0#8)
theorem bigI_len (n : Nat) (x : B64) (i : Nat) : (bigI n x i).length = n := by unfold bigI; rw [it_len (by simp)]; simp
theorem bigI_succ (n : Nat) (x : B64) (i : Nat) : (bigI n x i).set (n - 1 - i) ((x >>> (8 * i)).setWidth 8) = bigI n x (i + 1) := rfl
def big64 (x : B64) : List B8 := bigI 8 x 8
def big32 (x : B32) : List B8 := bigI 4 (x.setWidth 64) 4
theorem big64_len (x : B64) : (big64 x).length = 8 := bigI_len _ _ _
theorem big32_len (x : B32) : (big32 x).length = 4 := bigI_len _ _ _
theorem big64_eq (x : B64) : big64 x = [(x >>> 56).setWidth 8, (x >>> 48).setWidth 8, (x >>> 40).setWidth 8, (x >>> 32).setWidth 8, (x >>> 24).setWidth 8, (x >>> 16).setWidth 8, (x >>> 8).setWidth 8, (x >>> 0).setWidth 8] := rfl
/-- how many noughts are put behind a message of n bytes -/
def padZ (n : Nat) : Nat := (119 - n % 64) % 64
def padM (n : Nat) : List B8 := (128#8 :: List.replicate (padZ n) 0#8) ++ big64 (BitVec.ofNat 64 n * 8#64)
theorem padM_len (n : Nat) : (padM n).length = padZ n + 9 := by simp [padM, big64_len]
theorem padZ_lt (n : Nat) : padZ n < 64 := by unfold padZ; omega
theorem padZ_mod (n : Nat) : (n + 1 + padZ n) % 64 = 56 := by unfold padZ; omega
theorem padZ_go {n j : Nat} (hj : j ≤ padZ n) : (n + (j + 1)) % 64 ≠ 56 ↔ j < padZ n := by unfold padZ at *; omega
end Go.ShM
namespace Go.ShM
open Go.SL
theorem padGrow (j : Nat) : (128#8 :: List.replicate j 0#8) ++ [0#8] = 128#8 :: List.replicate (j + 1) 0#8 := by rw [List.cons_append, ← List.replicate_succ']
def bigR (x : B64) (q : Nat) : List B8 := (List.range q).map fun i => (x >>> (8 * (7 - i))).setWidth 8
theorem bigR_succ (x : B64) (q : Nat) : bigR x q ++ [(x >>> (8 * (7 - q))).setWidth 8] = bigR x (q + 1) := by simp [bigR, List.range_succ]
theorem bigR_len (x : B64) (q : Nat) : (bigR x q).length = q := by simp [bigR]
theorem bigR_8 (x : B64) : bigR x 8 = big64 x := rfl
end Go.ShM
/-
  The digest of a message, in plain words: whole blocks mixed in, what is left, what is put behind. (Conditions: none; no program in sight.)
-/
set_option maxRecDepth 20000
namespace Go.ShM
open Go.SL
def blk (M : List B8) (i : Nat) : List B8 := (M.drop (64 * i)).take 64
theorem blk_len {M : List B8} {i : Nat} (h : 64 * (i + 1) ≤ M.length) : (blk M i).length = 64 := by simp [blk]; omega
/-- k blocks mixed in -/
def blkI (M : List B8) (k : Nat) : List B32 := it (fun i h => mixM h (blk M i)) k iniM
theorem blkI_len (M : List B8) : ∀ k, (blkI M k).length = 8
  | 0 => rfl
  | k + 1 => mixM_len (blkI_len M k)
theorem blkI_succ (M : List B8) (k : Nat) : mixM (blkI M k) (blk M k) = blkI M (k + 1) := rfl
theorem blk_app {M l : List B8} {i : Nat} (h : 64 * (i + 1) ≤ M.length) : blk (M ++ l) i = blk M i := by
  unfold blk
  rw [List.drop_append_of_le_length (by omega), List.take_append_of_le_length (by simp; omega)]
theorem blkI_app {M l : List B8} (k : Nat) (h : 64 * k ≤ M.length) : blkI (M ++ l) k = blkI M k := by
  induction k with
  | zero =>
    have a : blkI (M ++ l) 0 = iniM := rfl
    have b : blkI M 0 = iniM := rfl
    rw [a, b]
  | succ k ih =>
    have e1 := blkI_succ (M ++ l) k
    have e2 := blkI_succ M k
    rw [← e1, ← e2, ih (by omega), blk_app h]
/-- what a hash holds that has taken M -/
def hM (M : List B8) : List B32 := blkI M (M.length / 64)
def rM (M : List B8) : List B8 := M.drop (64 * (M.length / 64))
theorem hM_len (M : List B8) : (hM M).length = 8 := blkI_len _ _
theorem rM_len (M : List B8) : (rM M).length = M.length % 64 := by simp [rM]; omega
theorem pad_whole (M : List B8) : (M.length + (padM M.length).length) % 64 = 0 := by
  rw [padM_len]; have := padZ_mod M.length; omega
/-- taking on: less than fills the block -/
theorem hM_few {M l : List B8} (h : M.length % 64 + l.length < 64) : hM (M ++ l) = hM M ∧ rM (M ++ l) = rM M ++ l := by
  have hl : (M ++ l).length / 64 = M.length / 64 := by rw [List.length_append]; omega
  unfold hM rM
  rw [hl]
  exact ⟨blkI_app _ (by omega), List.drop_append_of_le_length (by omega)⟩
/-- what is left, filled up, is the next block -/
theorem rM_fill {M l : List B8} (h : 64 ≤ M.length % 64 + l.length) : rM M ++ l.take (64 - M.length % 64) = blk (M ++ l) (M.length / 64) := by
  unfold rM blk
  rw [List.drop_append_of_le_length (by omega), List.take_append, List.length_drop]
  congr 1
  · rw [List.take_of_length_le (by simp; omega)]
  · congr 1; omega
theorem hM_at (M l : List B8) : blkI (M ++ l) (M.length / 64) = hM M := blkI_app _ (by omega)
/-- what is left of l when c blocks are taken -/
theorem left_blk {M l : List B8} {c : Nat} (h : M.length ≤ 64 * c) (h2 : 64 * (c + 1) ≤ (M ++ l).length) : (l.drop (64 * c - M.length)).take 64 = blk (M ++ l) c := by
  unfold blk
  rw [List.drop_append, List.drop_eq_nil_of_le h, List.nil_append]
theorem left_end {M l : List B8} (h : M.length ≤ 64 * ((M ++ l).length / 64)) : l.drop (64 * ((M ++ l).length / 64) - M.length) = rM (M ++ l) := by
  unfold rM
  rw [List.drop_append, List.drop_eq_nil_of_le h, List.nil_append]
end Go.ShM
/-
  A hash in memory: a mark, eight words, what is left, how many bytes. (Conditions: none; generic over the program.)
-/
set_option maxRecDepth 20000
namespace Go.ShM
open Go.SL Go.RowKit
def hsh (hs : List B32) (r s : Value) : List Value := [.bool true, .int .u32 ((hs.getD 0 0#32).toNat : Int), .int .u32 ((hs.getD 1 0#32).toNat : Int), .int .u32 ((hs.getD 2 0#32).toNat : Int), .int .u32 ((hs.getD 3 0#32).toNat : Int), .int .u32 ((hs.getD 4 0#32).toNat : Int), .int .u32 ((hs.getD 5 0#32).toNat : Int), .int .u32 ((hs.getD 6 0#32).toNat : Int), .int .u32 ((hs.getD 7 0#32).toNat : Int), r, s]
theorem eight {hs : List B32} (h : hs.length = 8) : hs = [hs.getD 0 0#32, hs.getD 1 0#32, hs.getD 2 0#32, hs.getD 3 0#32, hs.getD 4 0#32, hs.getD 5 0#32, hs.getD 6 0#32, hs.getD 7 0#32] := by
  match hs, h with
  | [a, b, c, d, e, f, g, i], _ => rfl
theorem flat8 {hs : List B32} (h : hs.length = 8) : hs.flatMap (eU .u32) = [.int .u32 ((hs.getD 0 0#32).toNat : Int), .int .u32 ((hs.getD 1 0#32).toNat : Int), .int .u32 ((hs.getD 2 0#32).toNat : Int), .int .u32 ((hs.getD 3 0#32).toNat : Int), .int .u32 ((hs.getD 4 0#32).toNat : Int), .int .u32 ((hs.getD 5 0#32).toNat : Int), .int .u32 ((hs.getD 6 0#32).toNat : Int), .int .u32 ((hs.getD 7 0#32).toNat : Int)] := by
  match hs, h with
  | [a, b, c, d, e, f, g, i], _ => rfl
section
variable {P : Program} {n : Nat} {L : List (Nat × Value)} {A : List Asn} {d : Option Tmp} {ty : TypeId} {pos' : String} {af : Array Edge} {g : Option (Nat × Bool)} {t : TypeId} {x y : Operand}
theorem Rd_hload {b : Nat} {T : TypeId} {hs : List B32} {r s : Value} (hx : ev L x = some (.pointer (some ⟨b, 1, none⟩))) (ht : tk P t = some (some 8))
    (hA : Has A (cl b T (hsh hs r s)) := by repeat (first | with_reducible exact Has.here | with_reducible refine Has.there ?_)) (hh : hs.length = 8 := by first | with_reducible assumption | omega) : Rd P n ⟨d, .load t x, ty, pos', af, g⟩ L A (aU .u32 hs) :=
  Rd_aU (l := hs) (Rd_loadg (vs := hs.flatMap (eU .u32)) hx ht hA (by simp [hsh]) (by rw [flat8 hh]; rfl)) rfl
theorem Ac_hstore {b : Nat} {T : TypeId} {hs hs' : List B32} {r s : Value} {R : List Asn} (hx : ev L x = some (.pointer (some ⟨b, 1, none⟩))) (hy : ev L y = some (aU .u32 hs')) (ht : sz P t = some 8)
    (hE : Ext A (cl b T (hsh hs r s)) R := by repeat (first | with_reducible exact Ext.here | with_reducible apply Ext.there)) (hh : hs'.length = 8 := by first | with_reducible assumption | omega) :
    Ac P n ⟨none, .store t x y, ty, pos', af, g⟩ L A (fun _ A' => A' = cl b T (hsh hs' r s) :: R) :=
  Ac_store (ys := hsh hs' r s) hx hy ht hE (by rw [aU_cells, flat8 hh]; rfl) (by simp [hsh]) (by
    intro u hu
    rw [aU_cells] at hu
    obtain ⟨q, _, hq⟩ := List.mem_flatMap.1 (by simpa using hu)
    exact (encU .u32).one q u hq) (by rw [aU_cells, flat8 hh]; rfl)
theorem Ac_hrest {b : Nat} {T : TypeId} {hs : List B32} {r s u : Value} {R : List Asn} (hx : ev L x = some (.pointer (some ⟨b, 9, none⟩))) (hy : ev L y = some u) (ht : sz P t = some 1) (h1 : u.oneCell' = true := by rfl)
    (hE : Ext A (cl b T (hsh hs r s)) R := by repeat (first | with_reducible exact Ext.here | with_reducible apply Ext.there)) : Ac P n ⟨none, .store t x y, ty, pos', af, g⟩ L A (fun _ A' => A' = cl b T (hsh hs u s) :: R) := by
  have hc : u.cells = #[u] := by cases u <;> first | rfl | cases h1
  exact Ac_store (ys := hsh hs u s) hx hy ht hE (by rw [hc]; rfl) (by simp [hsh]) (by rw [hc]; intro q hq; simp at hq; subst hq; exact h1) (by rw [hc]; rfl)
theorem Ac_hsize {b : Nat} {T : TypeId} {hs : List B32} {r s u : Value} {R : List Asn} (hx : ev L x = some (.pointer (some ⟨b, 10, none⟩))) (hy : ev L y = some u) (ht : sz P t = some 1) (h1 : u.oneCell' = true := by rfl)
    (hE : Ext A (cl b T (hsh hs r s)) R := by repeat (first | with_reducible exact Ext.here | with_reducible apply Ext.there)) : Ac P n ⟨none, .store t x y, ty, pos', af, g⟩ L A (fun _ A' => A' = cl b T (hsh hs r u) :: R) := by
  have hc : u.cells = #[u] := by cases u <;> first | rfl | cases h1
  exact Ac_store (ys := hsh hs r u) hx hy ht hE (by rw [hc]; rfl) (by simp [hsh]) (by rw [hc]; intro q hq; simp at hq; subst hq; exact h1) (by rw [hc]; rfl)
end
end Go.ShM
/-
  Lists of bytes in a list: what stands there, and what they are one behind the other. (Conditions: none; no program in sight.)
-/
set_option maxRecDepth 20000
namespace Go.ShM
open Go.SL Go.RowKit
/-- a list of bytes that can be read: as a value, its bytes, where they lie -/
structure Pt where
  l : List B8
  ao : Option Addr
  cap : Nat
def Pt.v (p : Pt) : Value := .slice p.ao p.l.length p.cap
def fP (p : Pt) : List Value := [p.v]
theorem encP : Enc fP 1 := ⟨fun _ => rfl, fun x v hv => by simp [fP, Pt.v] at hv; subst hv; rfl⟩
/-- it can be read wherever A is owned -/
def RdP (A : List Asn) (p : Pt) : Prop := Sv A p.v 1 (eU .u8 (w := 8)) p.l p.ao p.cap
def joinP (ps : List Pt) : List B8 := ps.flatMap (·.l)
theorem joinP_take {ps : List Pt} {i : Nat} {p : Pt} (h : ps[i]? = some p) : joinP (ps.take i) ++ p.l = joinP (ps.take (i + 1)) := by
  unfold joinP
  rw [List.take_add_one, h, List.flatMap_append]; simp
theorem joinP_len {ps : List Pt} {i : Nat} {p : Pt} (h : ps[i]? = some p) : (joinP (ps.take i)).length + p.l.length = (joinP (ps.take (i + 1))).length := by rw [← joinP_take h, List.length_append]
theorem joinP_le (ps : List Pt) (i : Nat) : (joinP (ps.take i)).length ≤ (joinP ps).length := by
  have h : joinP ps = joinP (ps.take i) ++ joinP (ps.drop i) := by unfold joinP; rw [← List.flatMap_append, List.take_append_drop]
  rw [h, List.length_append]; omega
theorem joinP_all {ps : List Pt} {i : Nat} (h : ps.length ≤ i) : joinP (ps.take i) = joinP ps := by rw [List.take_of_length_le h]
theorem joinP_two (p q : Pt) : joinP [p, q] = p.l ++ q.l := by simp [joinP]
/-! ### the last blocks -/
def tlM (M : List B8) : List B8 := rM M ++ padM M.length
theorem tlM_len (M : List B8) : (tlM M).length % 64 = 0 ∧ M.length / 64 + (tlM M).length / 64 = (M.length + (padM M.length).length) / 64 ∧ (tlM M).length ≤ 136 := by
  have h1 := pad_whole M
  have h2 := padM_len M.length
  have h3 := padZ_lt M.length
  have h4 : (tlM M).length = M.length % 64 + (padM M.length).length := by unfold tlM; rw [List.length_append, rM_len]
  omega
theorem tlM_blk {M : List B8} {j : Nat} (h : 64 * j < (tlM M).length) : ((tlM M).drop (64 * j)).take 64 = blk (M ++ padM M.length) (M.length / 64 + j) := by
  unfold blk
  have e : (M ++ padM M.length).drop (64 * (M.length / 64)) = tlM M := by unfold tlM rM; rw [List.drop_append_of_le_length (by omega)]
  rw [show 64 * (M.length / 64 + j) = 64 * (M.length / 64) + 64 * j from by omega, ← List.drop_drop, e]
def putI (x : List B32) (i : Nat) : List B8 := it (fun i o => o.take (4 * i) ++ big32 (x.getD i 0#32) ++ o.drop (4 * i + 4)) i (List.replicate 32 0#8)
theorem putI_len (x : List B32) : ∀ i, i ≤ 8 → (putI x i).length = 32
  | 0, _ => by simp [putI, it]
  | i + 1, h => by
    have ih := putI_len x i (by omega)
    show ((putI x i).take (4 * i) ++ big32 (x.getD i 0#32) ++ (putI x i).drop (4 * i + 4)).length = 32
    simp [big32_len, ih]; omega
theorem putI_succ (x : List B32) (i : Nat) : (putI x i).take (4 * i) ++ big32 (x.getD i 0#32) ++ (putI x i).drop (4 * i + 4) = putI x (i + 1) := rfl
/-- the digest -/
def dgM (M : List B8) : List B8 := putI (blkI (M ++ padM M.length) ((M.length + (padM M.length).length) / 64)) 8
theorem dgM_len (M : List B8) : (dgM M).length = 32 := putI_len _ 8 (Nat.le_refl _)
theorem putI_nought : putI (List.replicate 8 0#32) 8 = List.replicate 32 0#8 := by decide
end Go.ShM
/-
  What is put behind a message, read as a number; a digest's bytes, one by one; a list copied place by place. (Conditions: none; no program in sight.)
-/
set_option maxRecDepth 20000
namespace Go.ShM
open Go.SL Go.RowKit
/-! ### copying, place by place -/
def cpy {α : Type} (z : α) (n : Nat) (s : List α) (k : Nat) : List α := s.take k ++ List.replicate (n - k) z
theorem cpy_0 {α : Type} (z : α) (n : Nat) (s : List α) : cpy z n s 0 = List.replicate n z := by simp [cpy]
theorem cpy_all {α : Type} (z : α) {n : Nat} {s : List α} (h : s.length = n) : cpy z n s n = s := by simp [cpy, ← h]
theorem cpy_len {α : Type} (z : α) {n : Nat} {s : List α} (h : s.length = n) {k : Nat} (hk : k ≤ n) : (cpy z n s k).length = n := by simp [cpy]; omega
theorem cpy_succ {α : Type} (z : α) {n : Nat} {s : List α} (h : s.length = n) {k : Nat} (hk : k < n) : (cpy z n s k).set k (s.getD k z) = cpy z n s (k + 1) := by
  unfold cpy
  have h1 : (s.take k).length = k := by simp; omega
  rw [List.set_append_right _ _ (by omega), h1, Nat.sub_self, show n - k = (n - (k + 1)) + 1 from by omega, List.replicate_succ, List.set_cons_zero]
  rw [List.getD_eq_getElem?_getD, List.getElem?_eq_getElem (by omega), List.take_succ_eq_append_getElem (by omega), List.append_assoc]
  rfl
/-! ### the number at the end -/
/-! ### a digest's bytes -/
theorem shw {x : B32} {k : Nat} : ((x.setWidth 64) >>> k).setWidth 8 = (x >>> k).setWidth 8 := by
  apply BitVec.eq_of_toNat_eq
  have h := x.isLt
  simp only [BitVec.toNat_setWidth, BitVec.toNat_ushiftRight]
  rw [Nat.mod_eq_of_lt (a := x.toNat) (by omega)]
theorem big32_eq (x : B32) : big32 x = [(x >>> 24).setWidth 8, (x >>> 16).setWidth 8, (x >>> 8).setWidth 8, (x >>> 0).setWidth 8] := by
  rw [← shw, ← shw, ← shw, ← shw]; rfl
def dgF' (x : List B32) (i : Nat) : List B8 := (List.range i).flatMap fun i => big32 (x.getD i 0#32)
theorem dgF'_succ (x : List B32) (i : Nat) : dgF' x (i + 1) = dgF' x i ++ big32 (x.getD i 0#32) := by simp [dgF', List.range_succ]
theorem dgF'_len (x : List B32) : ∀ i, (dgF' x i).length = 4 * i
  | 0 => rfl
  | i + 1 => by rw [dgF'_succ, List.length_append, dgF'_len x i, big32_len]; omega
theorem putI_at' (x : List B32) : ∀ i, i ≤ 8 → putI x i = dgF' x i ++ List.replicate (32 - 4 * i) 0#8
  | 0, _ => rfl
  | i + 1, h => by
    rw [← putI_succ, putI_at' x i (by omega), dgF'_succ]
    have hl := dgF'_len x i
    rw [List.take_left' hl, List.drop_append, hl, List.drop_eq_nil_of_le (by omega), List.nil_append, List.drop_replicate]
    congr 2; omega
theorem putI_eq {x : List B32} : putI x 8 = dgF' x 8 := by rw [putI_at' x 8 (Nat.le_refl _)]; simp
theorem putI_at {x : List B32} {i : Nat} (h : i < 32) : (putI x 8).getD i 0#8 = ((x.getD (i / 4) 0#32) >>> (24 - 8 * (i % 4))).setWidth 8 := by
  rw [putI_eq]
  rw [show dgF' x 8 = big32 (x.getD 0 0#32) ++ (big32 (x.getD 1 0#32) ++ (big32 (x.getD 2 0#32) ++ (big32 (x.getD 3 0#32) ++ (big32 (x.getD 4 0#32) ++ (big32 (x.getD 5 0#32) ++ (big32 (x.getD 6 0#32) ++ (big32 (x.getD 7 0#32) ++ []))))))) from rfl]
  simp only [big32_eq, List.cons_append, List.nil_append]
  rcases (show i = 0 ∨ i = 1 ∨ i = 2 ∨ i = 3 ∨ i = 4 ∨ i = 5 ∨ i = 6 ∨ i = 7 ∨ i = 8 ∨ i = 9 ∨ i = 10 ∨ i = 11 ∨ i = 12 ∨ i = 13 ∨ i = 14 ∨ i = 15 ∨ i = 16 ∨ i = 17 ∨ i = 18 ∨ i = 19 ∨ i = 20 ∨ i = 21 ∨ i = 22 ∨ i = 23 ∨ i = 24 ∨ i = 25 ∨ i = 26 ∨ i = 27 ∨ i = 28 ∨ i = 29 ∨ i = 30 ∨ i = 31 from by omega) with h | h | h | h | h | h | h | h | h | h | h | h | h | h | h | h | h | h | h | h | h | h | h | h | h | h | h | h | h | h | h | h <;> subst h <;> rfl
/-! ### blocks -/
theorem blk_at {M : List B8} {c k : Nat} (h : k < 64) : (blk M c).getD k 0#8 = M.getD (64 * c + k) 0#8 := by
  unfold blk
  rw [List.getD_eq_getElem?_getD, List.getElem?_take, if_pos h, List.getElem?_drop, List.getD_eq_getElem?_getD]
/-- a message with what is put behind it -/
def full (M : List B8) : List B8 := M ++ padM M.length
theorem full_len (M : List B8) : (full M).length = M.length + (padM M.length).length := List.length_append
theorem full_mod (M : List B8) : (full M).length % 64 = 0 := by rw [full_len]; exact pad_whole M
theorem dgM_eq (M : List B8) : dgM M = putI (blkI (full M) ((full M).length / 64)) 8 := by rw [full_len]; rfl
end Go.ShM
/-
  The digest in a form that the kernel can reckon: each word is brought to a number before the next step. (Conditions: none; no program in sight.)
-/
set_option maxRecDepth 20000
namespace Go.ShM
open Go.SL
end Go.ShM
/-
  What is handed in: bytes as words of eight bits; a list of lists of bytes, each of which can be read, and how many bytes they are together. (Conditions: none; generic over the program.)
-/
namespace Go.SL
open Go.RowKit Go.ChangeShapes Go.WideShapes Go.ShM
section
variable {H : Type} {enc : TypeId × Value → H} {P : Program} {W : World} {base : Nat} {sp : Nat → Bool} {hd : Bool}
theorem el_u8 {t : TypeId} (ht : P.underlying t = some (.int .u8)) : ∀ n c y, DataW.trod enc P W base sp hd n t c = some y → ∃ a : BitVec 8, c = eU .u8 a ∧ True := fun n c y h => by
  obtain ⟨i, rfl, _, hw⟩ := DataW.trod_int ht h
  refine ⟨BitVec.ofInt 8 i, ?_, trivial⟩
  have hb : 0 ≤ i ∧ i < 256 := by simp [Lit.wf, IntKind.min, IntKind.max, IntKind.signed, IntKind.bits] at hw; omega
  unfold eU
  rw [BitVec.toNat_ofInt]
  congr 2
  omega
/-- a measure that counts all parts -/
structure MeasS {H : Type} (m : DataW H → Nat) : Prop extends Meas m where
  sum : ∀ ds rs, (ds.map m).sum ≤ m (.slice ds rs)
/-- a list of bytes, as cells -/
theorem el_bytes {m : DataW H → Nat} (hm : Meas m) {t e : TypeId} (ht : P.underlying t = some (.slice e)) (he : P.underlying e = some (.int .u8)) (hz : sz P e = some 1) {n : Nat} {c : List Value} {y : DataW H × List MemPlace} (h : DataW.trod enc P W base sp hd n t c = some y) :
    ∃ p : Pt, c = fP p ∧ RdP [old W] p ∧ p.cap ≤ maxLen ∧ p.l.length ≤ m y.1 := by
  obtain ⟨v', l, ao, cap, hv, hS, hcap, hor⟩ := open_slice_cells (k := 0) ht hz h
  have hall : ∀ x ∈ l, ∃ a : BitVec 8, x = eU .u8 a ∧ True := fun x hx => by
    rcases hor with ⟨_, rfl, _⟩ | ⟨ds, rs, n', h1, h2, _, _, h3⟩
    · cases hx
    · obtain ⟨i, hi, hxe⟩ := List.getElem_of_mem hx
      obtain ⟨y', hy, _⟩ := h3 i x (by rw [List.getElem?_eq_getElem hi, hxe])
      exact el_u8 he _ _ _ hy
  obtain ⟨l', rfl, _⟩ := SL.typed hall
  have hS' := Sv.typed hS
  refine ⟨⟨l', ao, cap⟩, ?_, ?_, hcap, ?_⟩
  · rw [hv, hS'.val]; rfl
  · have := hS'.val; subst this; exact hS'
  · rcases hor with ⟨_, hn, _⟩ | ⟨ds, rs, n', h1, h2, _⟩
    · have : l' = [] := by simpa using hn
      rw [this]; simp
    · have := hm.len ds rs
      rw [h1]; simp at h2; simp; omega
theorem lists_of {m : DataW H → Nat} : ∀ (l : List (List Value)) (ds : List (DataW H)), ds.length = l.length → (∀ (i : Nat) (c : List Value), l[i]? = some c → ∃ p : Pt, c = fP p ∧ RdP [old W] p ∧ p.cap ≤ maxLen ∧ ∃ d, ds[i]? = some d ∧ p.l.length ≤ m d) →
    ∃ ps : List Pt, l = ps.map fP ∧ (∀ p ∈ ps, RdP [old W] p ∧ p.cap ≤ maxLen) ∧ (joinP ps).length ≤ (ds.map m).sum
  | [], ds, _, _ => ⟨[], rfl, fun p h => by simp at h, by simp [joinP]⟩
  | c :: l, ds, hl, h => by
    cases ds with
    | nil => simp at hl
    | cons d ds =>
      obtain ⟨p, rfl, hp, hpc, d', hd', hle⟩ := h 0 c rfl
      simp at hd'; subst hd'
      obtain ⟨ps, rfl, h1, h2⟩ := lists_of (m := m) l ds (by simpa using hl) (fun i c hc => by have := h (i + 1) c (by simpa using hc); simpa using this)
      refine ⟨p :: ps, rfl, fun q hq => by rcases List.mem_cons.1 hq with rfl | hq; exact ⟨hp, hpc⟩; exact h1 q hq, ?_⟩
      have : joinP (p :: ps) = p.l ++ joinP ps := by simp [joinP]
      rw [this, List.length_append, List.map_cons, List.sum_cons]; omega
/-- a list of lists of bytes, as cells -/
theorem el_lists {m : DataW H → Nat} (hm : MeasS m) {t e1 e : TypeId} (ht : P.underlying t = some (.slice e1)) (h1 : P.underlying e1 = some (.slice e)) (he : P.underlying e = some (.int .u8)) (hz1 : sz P e1 = some 1) (hz : sz P e = some 1) {n : Nat} {c : List Value} {y : DataW H × List MemPlace}
    (h : DataW.trod enc P W base sp hd n t c = some y) : ∃ (v : Value) (ps : List Pt) (ao : Option Addr) (cap : Nat), c = [v] ∧ Sv [old W] v 1 fP ps ao cap ∧ cap ≤ maxLen ∧ (∀ p ∈ ps, RdP [old W] p ∧ p.cap ≤ maxLen) ∧ (joinP ps).length ≤ m y.1 ∧ ps.length ≤ m y.1 := by
  obtain ⟨v', l, ao, cap, hv, hS, hcap, hor⟩ := open_slice_cells (k := 0) ht hz1 h
  rcases hor with ⟨hnil, rfl, _⟩ | ⟨ds, rs, n', h1', h2, _, _, h3⟩
  · exact ⟨v', [], ao, cap, hv, Sv.typed (f := fP) (l := []) hS, hcap, fun p h => by simp at h, by simp [joinP], by simp⟩
  · obtain ⟨ps, rfl, hp, hj⟩ := lists_of (m := m) (W := W) l ds h2 (fun i c hc => by
      obtain ⟨y', hy, hyd⟩ := h3 i c hc
      obtain ⟨p, hcp, hr, hpc, hle⟩ := el_bytes hm.toMeas h1 he hz hy
      exact ⟨p, hcp, hr, hpc, y'.1, hyd, hle⟩)
    have e1 := hm.sum ds rs
    have e2 := hm.len ds rs
    rw [h1']
    exact ⟨v', ps, ao, cap, hv, Sv.typed hS, hcap, hp, by omega, by simp at h2; omega⟩
end
end Go.SL
