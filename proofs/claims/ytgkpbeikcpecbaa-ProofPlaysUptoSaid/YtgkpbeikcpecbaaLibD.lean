/-
  Contracts of functions that the claim reaches, or the logic and the plain laws that they rest on, or the row over them. (Conditions: none beyond the statement.)
-/
import Derived.Test.YtgkpbeikcpecbaaLibC
import Derived.Test.YtgkpbeikcpecbaaLibB
set_option linter.all false
/-
  copy into a part of one's own slice, elements of any size. (Conditions: none; generic over the program.)
-/
namespace Go.SL
open Go.RowKit
end Go.SL
/-
  Trees of digests in plain words: how wide, the nodes, the root. (Conditions: none; no program in sight.)
-/
set_option maxRecDepth 20000
namespace Go.ShM
open Go.SL Go.RowKit
def Dg : Type := { l : List B8 // l.length = 32 }
instance : DecidableEq Dg := fun a b => decidable_of_iff (a.1 = b.1) ⟨Subtype.ext, fun h => by rw [h]⟩
def fD (d : Dg) : List Value := d.1.flatMap (eU .u8 (w := 8))
theorem encD : Enc fD 32 := ⟨fun d => by unfold fD; rw [flatU_len, d.2], fun d v hv => by obtain ⟨q, _, hq⟩ := List.mem_flatMap.1 hv; exact (encU .u8).one q v hq⟩
theorem Dg_len (d : Dg) : d.1.length = 32 := d.2
def zD : Dg := ⟨List.replicate 32 0#8, by simp⟩
theorem fD_agg (d : Dg) : Value.agg (fD d).toArray = aU .u8 d.1 := rfl
def nodeD (x y : Dg) : Dg := ⟨tagD 6#8 [x.1, y.1], tagD_len _ _⟩
def padD (i : Nat) : Dg := ⟨tagD 7#8 [big32 (BitVec.ofNat 32 i)], tagD_len _ _⟩
def wdM (n : Nat) : Nat := if n < 1 then 0 else if n ≤ 1 then 1 else if n ≤ 2 then 2 else if n ≤ 4 then 4 else if n ≤ 8 then 8 else if n ≤ 16 then 16 else if n ≤ 32 then 32 else if n ≤ 64 then 64 else if n ≤ 128 then 128 else if n ≤ 256 then 256 else if n ≤ 512 then 512 else 0
def wdE (n : Nat) : Nat := if n < 1 ∨ 512 < n then 110 else 0
theorem wd_at {n k : Nat} (hn : 1 ≤ n) (hk : k ≤ 9) (h : k = 0 ∨ 2 ^ (k - 1) < n) (h2 : n ≤ 2 ^ k) : 2 ^ k = wdM n := by
  unfold wdM
  rcases (show k = 0 ∨ k = 1 ∨ k = 2 ∨ k = 3 ∨ k = 4 ∨ k = 5 ∨ k = 6 ∨ k = 7 ∨ k = 8 ∨ k = 9 from by omega) with e | e | e | e | e | e | e | e | e | e <;> subst e <;> simp only [Nat.reducePow, Nat.reduceSub] at h h2 ⊢ <;> (repeat' split) <;> omega
theorem wd_ok {n : Nat} (h : 1 ≤ n) (h2 : n ≤ 512) : n ≤ wdM n ∧ wdM n < 2 * n ∧ wdM n ≤ 512 ∧ wdE n = 0 ∧ 1 ≤ wdM n := by
  have : wdE n = 0 := by unfold wdE; rw [if_neg (by omega)]
  rw [this]
  unfold wdM
  repeat' split
  all_goals omega
theorem wd_no {n : Nat} (h : n < 1 ∨ 512 < n) : wdM n = 0 ∧ wdE n = 110 := by
  constructor
  · unfold wdM
    repeat' split
    all_goals omega
  · unfold wdE; rw [if_pos h]
theorem wdE_iff {n : Nat} : wdE n = 0 ↔ 1 ≤ n ∧ n ≤ 512 := by unfold wdE; split <;> omega
def botM (ls : List Dg) (i : Nat) : List Dg := ls ++ (List.range i).map fun j => padD (ls.length + j)
theorem botM_len (ls : List Dg) (i : Nat) : (botM ls i).length = ls.length + i := by simp [botM]
def lowI (ls : List Dg) (w i : Nat) : List Dg := List.replicate (w - 1) zD ++ botM ls i ++ List.replicate (w - (ls.length + i)) zD
theorem lowI_len {ls : List Dg} {w i : Nat} (hw : 1 ≤ w) (h : ls.length + i ≤ w) : (lowI ls w i).length = 2 * w - 1 := by simp [lowI, botM_len] <;> omega
def upI (o : List Dg) (w : Nat) : Nat → List Dg
  | 0 => o
  | m + 1 => (upI o w m).set (w - 1 - m - 1) (nodeD ((upI o w m).getD (2 * (w - 1 - m) - 1) zD) ((upI o w m).getD (2 * (w - 1 - m)) zD))
theorem upI_len (o : List Dg) (w : Nat) : ∀ m, (upI o w m).length = o.length
  | 0 => rfl
  | m + 1 => by rw [upI, List.length_set, upI_len o w m]
def bldM (ls : List Dg) : List Dg := if wdE ls.length = 0 then upI (lowI ls (wdM ls.length) (wdM ls.length - ls.length)) (wdM ls.length) (wdM ls.length - 1) else []
theorem bld_no {ls : List Dg} (h : ¬ wdE ls.length = 0) : bldM ls = [] := if_neg h
theorem bld_ok {ls : List Dg} (h : wdE ls.length = 0) : bldM ls = upI (lowI ls (wdM ls.length) (wdM ls.length - ls.length)) (wdM ls.length) (wdM ls.length - 1) := if_pos h
theorem bld_len {ls : List Dg} (h : wdE ls.length = 0) : (bldM ls).length = 2 * wdM ls.length - 1 := by
  obtain ⟨h1, h2⟩ := wdE_iff.1 h
  obtain ⟨a, b, c, d, e⟩ := wd_ok h1 h2
  rw [bld_ok h, upI_len, lowI_len e (by omega)]
theorem at_of {l : List Dg} {i : Nat} (h : i < l.length) : l[i]? = some (l.getD i zD) := by rw [List.getD_eq_getElem?_getD, List.getElem?_eq_getElem h]; rfl
end Go.ShM
namespace Go.ShM
open Go.SL Go.RowKit
theorem Ac_storeD {P : Program} {n : Nat} {L : List (Nat × Value)} {A : List Asn} {ty : TypeId} {pos' : String} {af : Array Edge} {g : Option (Nat × Bool)} {t : TypeId} {x y : Operand} {gb cap off i : Nat} {T : TypeId} {l : List Dg} {R : List Asn} {bs : List B8} (d' : Dg) (hx : ev L x = some (.pointer (some ⟨gb, off, none⟩))) (hy : ev L y = some (aU .u8 bs)) (ht : sz P t = some 32)
    (hd : d'.1 = bs := by rfl) (hE : Ext A (arr (some gb) cap 32 T fD l) R := by repeat (first | with_reducible exact Ext.here | with_reducible apply Ext.there)) (hoff : off = i * 32 := by rfl) (hi : i < l.length := by omega) :
    Ac P n ⟨none, .store t x y, ty, pos', af, g⟩ L A (fun _ A' => A' = arr (some gb) cap 32 T fD (l.set i d') :: R) := by
  subst hd
  exact Ac_storeg_arr (vs := (fD d').toArray) d' hx hy ht hE hoff hi (encD.one _) (by simp)
end Go.ShM
/-
  Trees: a root over one leaf and over two, the first node at which two trees differ. (Conditions: none; no program in sight.)
-/
set_option maxRecDepth 20000
namespace Go.ShM
open Go.SL Go.RowKit
def difOk (a b : List Dg) : Prop := wdE ((a.length + 1) / 2) = 0 ∧ wdM ((a.length + 1) / 2) = (a.length + 1) / 2 ∧ a.length = 2 * ((a.length + 1) / 2) - 1 ∧ b.length = a.length
instance (a b : List Dg) : Decidable (difOk a b) := by unfold difOk; infer_instance
end Go.ShM
