/-
  Contracts of functions that the claim reaches, or the logic and the plain laws that they rest on, or the row over them. (Conditions: none beyond the statement.)
-/
import Derived.Test.YthkchjcodibaeaaLibC
import Derived.Test.YthkchjcodibaeaaLibB
set_option linter.all false
/-
  copy into a part of one's own slice, elements of any size. (Conditions: none; generic over the program.)
-/
namespace Go.SL
open Go.RowKit
theorem mul_le {a b e : Nat} (h : a ≤ b) : a * e ≤ b * e := Nat.mul_le_mul_right e h
theorem Ac_copyE {P : Program} {n : Nat} {L : List (Nat × Value)} {A : List Asn} {d : Option Tmp} {ty : TypeId} {pos' : String} {af : Array Edge} {g : Option (Nat × Bool)} {t : TypeId} {x y : Operand} {α : Type} {et : TypeId} {gb i e dl dc c : Nat} {T : TypeId} {f : α → List Value} {l s : List α} {v : Value} {ao : Option Addr} {cap : Nat} {B R : List Asn} {ts : Array TypeId} (hE1 : Enc f e) (hx : ev L x = some (.slice (some ⟨gb, i * e, none⟩) dl dc)) (hy : ev L y = some v) (ht0 : ts[0]? = some t) (ht : P.underlying t = some (.slice et)) (hz : sz P et = some e)
    (hS : Sv B v e f s ao cap := by assumption) (hB : Sub A B := by repeat (first | with_reducible exact Sub.refl | with_reducible exact Sub.nil | with_reducible refine Sub.cons (by repeat (first | with_reducible exact Ext.here | with_reducible apply Ext.there)) ?_ | with_reducible refine Sub.tail ?_))
    (hE : Ext A (arr (some gb) c e T f l) R := by repeat (first | with_reducible exact Ext.here | with_reducible apply Ext.there)) (h1 : s.length ≤ dl := by omega) (h2 : i + s.length ≤ l.length := by omega) :
    Ac P n ⟨d, .call ⟨.builtin .copy, #[x, y], ts⟩, ty, pos', af, g⟩ L A (fun r A' => r = .int .i64 ((s.length : Nat) : Int) ∧ A' = arr (some gb) c e T f (l.take i ++ s ++ l.drop (i + s.length)) :: R) :=
  Ac_run fun ac W hfr hs => by
    have hsrc := Src_sv (P := P) (hS.mono hB)
    have hl0 := hsrc.2.1 W
    have hf0 := hsrc.2.2 W hs
    have hs' := sat_perm hE hs
    unfold arr at hs'
    obtain ⟨cur, h2'⟩ := sat_ex.1 hs'
    obtain ⟨⟨hfe, hcl, hle, hm, htk⟩, h3⟩ := sat_and.1 h2'
    have l2 : (s.flatMap f).length = s.length * e := flat_len hfe s
    have m1 : i * e + s.length * e ≤ l.length * e := by rw [← Nat.add_mul]; exact mul_le h2
    have m2 : l.length * e ≤ c * e := mul_le hle
    obtain ⟨w', hr, hh, ho, hk⟩ := run_storeCells (P := P) (i := i * e) (s.flatMap f) 0 cur W (sat_pt h3) (by rw [l2]; omega) (fun u hu => by obtain ⟨q, _, hq⟩ := List.mem_flatMap.1 hu; exact hE1.one q u hq)
    have hmin : Nat.min s.length dl = s.length := Nat.min_eq_left h1
    refine ⟨_, w', _, .inl ?_, ⟨rfl, rfl⟩, ?_, hk⟩
    · simp [execOp, resolve, invoke, Go.builtin, Builtin.copy_, hfr.eval hx, hfr.eval hy, ht0, run_und ht, Sem.run_bind, hl0, run_size hz, hmin, hf0, hr, goInt]
    · unfold arr
      have e3 : (l.take i ++ s ++ l.drop (i + s.length)).length = l.length := by rw [List.length_append, List.length_append, List.length_take, List.length_drop]; omega
      have l1 : (cur.take (i * e)).length = i * e := by rw [List.length_take]; omega
      refine sat_ex.2 ⟨cur.take (i * e) ++ s.flatMap f ++ cur.drop (i * e + s.length * e), sat_and.2 ⟨⟨hfe, ?_, by rw [e3]; exact hle, hm, ?_⟩, ?_⟩⟩
      · rw [List.length_append, List.length_append, l1, l2, List.length_drop]; omega
      · have e1 : cur.take (i * e) = (l.take i).flatMap f := by
          rw [← flat_take hfe, ← htk, List.take_take, Nat.min_eq_left (by omega)]
        have e2 : (cur.take (l.length * e)).drop (i * e + s.length * e) = (l.drop (i + s.length)).flatMap f := by
          rw [htk, ← Nat.add_mul, flat_drop hfe]
        have t1 : (cur.take (i * e) ++ s.flatMap f ++ cur.drop (i * e + s.length * e)).take (l.length * e) = cur.take (i * e) ++ s.flatMap f ++ (cur.drop (i * e + s.length * e)).take (l.length * e - (i * e + s.length * e)) := by
          rw [List.take_append, List.take_of_length_le (by rw [List.length_append, l1, l2]; omega), List.length_append, l1, l2]
        rw [e3, List.flatMap_append, List.flatMap_append, ← e1, ← e2, t1, List.drop_take]
      · refine sat_upd (o := .cells cur.toArray T (0, 0)) ?_ (fun q hq x hx => by rw [ho q hq]; exact hx) h3
        rw [hh]; simp only [Nat.add_zero, l2]
end Go.SL
/-
  Trees of digests in plain words: how wide, the nodes, the root. (Conditions: none; no program in sight.)
-/
set_option maxRecDepth 20000
namespace Go.ShM
open Go.SL Go.RowKit
/-- a digest -/
def Dg : Type := { l : List B8 // l.length = 32 }
instance : DecidableEq Dg := fun a b => decidable_of_iff (a.1 = b.1) ⟨Subtype.ext, fun h => by rw [h]⟩
def fD (d : Dg) : List Value := d.1.flatMap (eU .u8 (w := 8))
theorem encD : Enc fD 32 := ⟨fun d => by unfold fD; rw [flatU_len, d.2], fun d v hv => by obtain ⟨q, _, hq⟩ := List.mem_flatMap.1 hv; exact (encU .u8).one q v hq⟩
theorem Dg_len (d : Dg) : d.1.length = 32 := d.2
def zD : Dg := ⟨List.replicate 32 0#8, by simp⟩
def nodeD (x y : Dg) : Dg := ⟨tagD 6#8 [x.1, y.1], tagD_len _ _⟩
def padD (i : Nat) : Dg := ⟨tagD 7#8 [big32 (BitVec.ofNat 32 i)], tagD_len _ _⟩
/-- how many leaves a tree has; nought where there is none -/
def wdM (n : Nat) : Nat := if n < 1 then 0 else if n ≤ 1 then 1 else if n ≤ 2 then 2 else if n ≤ 4 then 4 else if n ≤ 8 then 8 else if n ≤ 16 then 16 else if n ≤ 32 then 32 else if n ≤ 64 then 64 else if n ≤ 128 then 128 else if n ≤ 256 then 256 else if n ≤ 512 then 512 else 0
def wdE (n : Nat) : Nat := if n < 1 ∨ 512 < n then 110 else 0
theorem wd_at {n k : Nat} (hn : 1 ≤ n) (hk : k ≤ 9) (h : k = 0 ∨ 2 ^ (k - 1) < n) (h2 : n ≤ 2 ^ k) : 2 ^ k = wdM n := by
  unfold wdM
  rcases (show k = 0 ∨ k = 1 ∨ k = 2 ∨ k = 3 ∨ k = 4 ∨ k = 5 ∨ k = 6 ∨ k = 7 ∨ k = 8 ∨ k = 9 from by omega) with e | e | e | e | e | e | e | e | e | e <;> subst e <;> simp only [Nat.reducePow, Nat.reduceSub] at h h2 ⊢ <;> (repeat' split) <;> omega
theorem wd_ok {n : Nat} (h : 1 ≤ n) (h2 : n ≤ 512) : n ≤ wdM n ∧ wdM n < 2 * n ∧ wdM n ≤ 512 ∧ wdE n = 0 ∧ 1 ≤ wdM n := by
  have : wdE n = 0 := by unfold wdE; rw [if_neg (by omega)]
  rw [this]
  unfold wdM
  repeat' split
  all_goals omega
theorem wd_no {n : Nat} (h : n < 1 ∨ 512 < n) : wdM n = 0 ∧ wdE n = 110 := by
  constructor
  · unfold wdM
    repeat' split
    all_goals omega
  · unfold wdE; rw [if_pos h]
theorem wdE_iff {n : Nat} : wdE n = 0 ↔ 1 ≤ n ∧ n ≤ 512 := by unfold wdE; split <;> omega
/-- the bottom row -/
def botM (ls : List Dg) (i : Nat) : List Dg := ls ++ (List.range i).map fun j => padD (ls.length + j)
theorem botM_len (ls : List Dg) (i : Nat) : (botM ls i).length = ls.length + i := by simp [botM]
theorem botM_succ (ls : List Dg) (i : Nat) : botM ls i ++ [padD (ls.length + i)] = botM ls (i + 1) := by simp [botM, List.range_succ]
/-- the nodes while the bottom row is laid: what stands ahead, the row so far, noughts -/
def lowI (ls : List Dg) (w i : Nat) : List Dg := List.replicate (w - 1) zD ++ botM ls i ++ List.replicate (w - (ls.length + i)) zD
theorem lowI_len {ls : List Dg} {w i : Nat} (hw : 1 ≤ w) (h : ls.length + i ≤ w) : (lowI ls w i).length = 2 * w - 1 := by simp [lowI, botM_len] <;> omega
theorem lowI_set {ls : List Dg} {w i : Nat} (hw : 1 ≤ w) (h : ls.length + i < w) : (lowI ls w i).set (w - 1 + (ls.length + i)) (padD (ls.length + i)) = lowI ls w (i + 1) := by
  unfold lowI
  have hb := botM_len ls i
  rw [List.set_append_right _ _ (by simp [botM_len] <;> omega)]
  rw [show w - (ls.length + i) = (w - (ls.length + (i + 1))) + 1 from by omega, List.replicate_succ]
  rw [show w - 1 + (ls.length + i) - (List.replicate (w - 1) zD ++ botM ls i).length = 0 from by simp [botM_len]]
  rw [List.set_cons_zero, ← botM_succ]
  simp
/-- the nodes, m of those above laid -/
def upI (o : List Dg) (w : Nat) : Nat → List Dg
  | 0 => o
  | m + 1 => (upI o w m).set (w - 1 - m - 1) (nodeD ((upI o w m).getD (2 * (w - 1 - m) - 1) zD) ((upI o w m).getD (2 * (w - 1 - m)) zD))
theorem upI_len (o : List Dg) (w : Nat) : ∀ m, (upI o w m).length = o.length
  | 0 => rfl
  | m + 1 => by rw [upI, List.length_set, upI_len o w m]
/-- the nodes of the tree over leaves -/
def bldM (ls : List Dg) : List Dg := if wdE ls.length = 0 then upI (lowI ls (wdM ls.length) (wdM ls.length - ls.length)) (wdM ls.length) (wdM ls.length - 1) else []
theorem bld_no {ls : List Dg} (h : ¬ wdE ls.length = 0) : bldM ls = [] := if_neg h
theorem bld_ok {ls : List Dg} (h : wdE ls.length = 0) : bldM ls = upI (lowI ls (wdM ls.length) (wdM ls.length - ls.length)) (wdM ls.length) (wdM ls.length - 1) := if_pos h
theorem bld_len {ls : List Dg} (h : wdE ls.length = 0) : (bldM ls).length = 2 * wdM ls.length - 1 := by
  obtain ⟨h1, h2⟩ := wdE_iff.1 h
  obtain ⟨a, b, c, d, e⟩ := wd_ok h1 h2
  rw [bld_ok h, upI_len, lowI_len e (by omega)]
/-- a digest at a place -/
theorem at_of {l : List Dg} {i : Nat} (h : i < l.length) : l[i]? = some (l.getD i zD) := by rw [List.getD_eq_getElem?_getD, List.getElem?_eq_getElem h]; rfl
def rootM (ls : List Dg) : Dg := (bldM ls).getD 0 zD
theorem low_0 (ls : List Dg) {w : Nat} (hw : 1 ≤ w) (h : ls.length ≤ w) : (List.replicate (2 * w - 1) zD).take (w - 1) ++ ls ++ (List.replicate (2 * w - 1) zD).drop (w - 1 + ls.length) = lowI ls w 0 := by
  unfold lowI botM
  rw [List.take_replicate, List.drop_replicate]
  simp only [List.range_zero, List.map_nil, List.append_nil, Nat.add_zero]
  rw [Nat.min_eq_left (by omega), show 2 * w - 1 - (w - 1 + ls.length) = w - ls.length from by omega]
end Go.ShM
namespace Go.ShM
open Go.SL Go.RowKit
theorem Ac_storeD {P : Program} {n : Nat} {L : List (Nat × Value)} {A : List Asn} {ty : TypeId} {pos' : String} {af : Array Edge} {g : Option (Nat × Bool)} {t : TypeId} {x y : Operand} {gb cap off i : Nat} {T : TypeId} {l : List Dg} {R : List Asn} {bs : List B8} (d' : Dg) (hx : ev L x = some (.pointer (some ⟨gb, off, none⟩))) (hy : ev L y = some (aU .u8 bs)) (ht : sz P t = some 32)
    (hd : d'.1 = bs := by rfl) (hE : Ext A (arr (some gb) cap 32 T fD l) R := by repeat (first | with_reducible exact Ext.here | with_reducible apply Ext.there)) (hoff : off = i * 32 := by rfl) (hi : i < l.length := by omega) :
    Ac P n ⟨none, .store t x y, ty, pos', af, g⟩ L A (fun _ A' => A' = arr (some gb) cap 32 T fD (l.set i d') :: R) := by
  subst hd
  exact Ac_storeg_arr (vs := (fD d').toArray) d' hx hy ht hE hoff hi (encD.one _) (by simp)
end Go.ShM
/-
  Trees: a root over one leaf and over two, the first node at which two trees differ. (Conditions: none; no program in sight.)
-/
set_option maxRecDepth 20000
namespace Go.ShM
open Go.SL Go.RowKit
theorem root_no {ls : List Dg} (h : ¬ wdE ls.length = 0) : (rootM ls).1 = List.replicate 32 0#8 := by unfold rootM; rw [bld_no h]; rfl
theorem root1 (d : Dg) : rootM [d] = d := rfl
theorem root2 (d e : Dg) : rootM [d, e] = nodeD d e := rfl
def d9 : Dg := ⟨(List.replicate 32 0#8).set 3 9#8, by simp⟩
theorem dg_ne {l l' : List Dg} {i : Nat} (h : ¬ (l.getD i zD).1 = (l'.getD i zD).1) : ¬ l = l' := fun e => h (by rw [e])
theorem dg_eq {l l' : List Dg} {i : Nat} (h : (l.getD i zD).1 = (l'.getD i zD).1) : l.getD i zD = l'.getD i zD := Subtype.ext h
/-- the same digest over unlike ones -/
def dP (a b : List Dg) (x : Nat) : Bool := decide (a.getD (x - 1) zD = b.getD (x - 1) zD) && (decide (¬ a.getD (2 * x - 1) zD = b.getD (2 * x - 1) zD) || decide (¬ a.getD (2 * x) zD = b.getD (2 * x) zD))
def difOk (a b : List Dg) : Prop := wdE ((a.length + 1) / 2) = 0 ∧ wdM ((a.length + 1) / 2) = (a.length + 1) / 2 ∧ a.length = 2 * ((a.length + 1) / 2) - 1 ∧ b.length = a.length
instance (a b : List Dg) : Decidable (difOk a b) := by unfold difOk; infer_instance
def difF (a b : List Dg) : Option Nat := if difOk a b then (List.range' 1 ((a.length + 1) / 2 - 1)).find? (dP a b) else none
theorem dif_no {a b : List Dg} (h : ¬ difOk a b) : difF a b = none := if_neg h
theorem dif_some {a b : List Dg} (h : difOk a b) {x : Nat} (h1 : 1 ≤ x) (h2 : x < (a.length + 1) / 2) (hx : dP a b x = true) (hy : ∀ y, 1 ≤ y → y < x → dP a b y = false) : difF a b = some x := by
  unfold difF
  rw [if_pos h, List.find?_range'_eq_some]
  refine ⟨hx, by simp; omega, fun j hj hj2 => by simp [hy j hj hj2]⟩
theorem dif_none {a b : List Dg} (hy : ∀ y, 1 ≤ y → y < (a.length + 1) / 2 → dP a b y = false) : difF a b = none := by
  unfold difF
  split
  · rw [List.find?_range'_eq_none]
    intro j hj hj2
    simp [hy j hj (by omega)]
  · rfl
def difV (o : Option Nat) : Nat × Bool := match o with | some x => (x, true) | none => (0, false)
theorem dP_no1 {a b : List Dg} {x : Nat} (h : ¬ (a.getD (x - 1) zD).1 = (b.getD (x - 1) zD).1) : dP a b x = false := by
  have e : ¬ a.getD (x - 1) zD = b.getD (x - 1) zD := fun e => h (by rw [e])
  unfold dP
  simp only [e, decide_false, Bool.false_and]
theorem dP_no2 {a b : List Dg} {x : Nat} (h : (a.getD (2 * x - 1) zD).1 = (b.getD (2 * x - 1) zD).1) (h' : (a.getD (2 * x) zD).1 = (b.getD (2 * x) zD).1) : dP a b x = false := by
  have e : a.getD (2 * x - 1) zD = b.getD (2 * x - 1) zD := Subtype.ext h
  have e' : a.getD (2 * x) zD = b.getD (2 * x) zD := Subtype.ext h'
  unfold dP
  simp only [e, e', not_true_eq_false, decide_false, Bool.or_self, Bool.and_false]
theorem dP_yes1 {a b : List Dg} {x : Nat} (h : (a.getD (x - 1) zD).1 = (b.getD (x - 1) zD).1) (h' : ¬ (a.getD (2 * x - 1) zD).1 = (b.getD (2 * x - 1) zD).1) : dP a b x = true := by
  have e : a.getD (x - 1) zD = b.getD (x - 1) zD := Subtype.ext h
  have e' : ¬ a.getD (2 * x - 1) zD = b.getD (2 * x - 1) zD := fun e => h' (by rw [e])
  unfold dP
  simp only [e, e', not_false_eq_true, decide_true, Bool.true_or, Bool.and_self]
theorem dP_yes2 {a b : List Dg} {x : Nat} (h : (a.getD (x - 1) zD).1 = (b.getD (x - 1) zD).1) (h' : ¬ (a.getD (2 * x) zD).1 = (b.getD (2 * x) zD).1) : dP a b x = true := by
  have e : a.getD (x - 1) zD = b.getD (x - 1) zD := Subtype.ext h
  have e' : ¬ a.getD (2 * x) zD = b.getD (2 * x) zD := fun e => h' (by rw [e])
  unfold dP
  simp only [e, e', not_false_eq_true, decide_true, Bool.or_true, Bool.and_self]
end Go.ShM
